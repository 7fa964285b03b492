/- The law NetworkHeap answers true, of every list of packets and all numbers. -/
import Derived.Test.YtmgcmgfjaimlnaaNet12
namespace Go.Proofs.Ytmgcmgfjaimlnaa
open Go.EW
attribute [local irreducible] EW.W EW.L EW.fin
set_option linter.unusedVariables false
set_option linter.unusedSimpArgs false
end Go.Proofs.Ytmgcmgfjaimlnaa
