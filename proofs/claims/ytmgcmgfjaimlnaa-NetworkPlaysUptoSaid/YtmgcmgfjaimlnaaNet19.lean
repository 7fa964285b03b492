/- How often each place was counted; plain lists, no program. -/
import Derived.Test.YtmgcmgfjaimlnaaNet18
namespace Go.Proofs.Ytmgcmgfjaimlnaa
open Go.EW
attribute [local irreducible] EW.W EW.L EW.fin
set_option linter.unusedVariables false
set_option linter.unusedSimpArgs false
end Go.Proofs.Ytmgcmgfjaimlnaa
