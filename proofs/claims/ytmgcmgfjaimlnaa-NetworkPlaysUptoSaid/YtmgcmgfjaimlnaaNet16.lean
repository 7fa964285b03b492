/- The law NetworkGenuine answers true, of every script and every packet. -/
import Derived.Test.YtmgcmgfjaimlnaaNet15
namespace Go.Proofs.Ytmgcmgfjaimlnaa
open Go.EW
attribute [local irreducible] EW.W EW.L EW.fin
set_option linter.unusedVariables false
set_option linter.unusedSimpArgs false
end Go.Proofs.Ytmgcmgfjaimlnaa
