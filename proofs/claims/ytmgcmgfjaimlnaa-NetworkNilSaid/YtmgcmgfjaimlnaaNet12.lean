/- What Swap, Turn, Copy and Take do to lists of packets. -/
import Derived.Test.YtmgcmgfjaimlnaaNet11
namespace Go.Proofs.Ytmgcmgfjaimlnaa
open Go.EW
attribute [local irreducible] EW.W EW.L EW.fin
set_option linter.unusedVariables false
set_option linter.unusedSimpArgs false
end Go.Proofs.Ytmgcmgfjaimlnaa
