/- The net's For answers the places of those that go there. -/
import Derived.Test.YtmgcmgfjaimlnaaNet17
namespace Go.Proofs.Ytmgcmgfjaimlnaa
open Go.EW
attribute [local irreducible] EW.W EW.L EW.fin
set_option linter.unusedVariables false
set_option linter.unusedSimpArgs false
end Go.Proofs.Ytmgcmgfjaimlnaa
