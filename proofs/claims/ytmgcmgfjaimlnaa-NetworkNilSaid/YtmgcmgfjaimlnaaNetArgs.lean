/- What the network's laws are handed, as lists of packets and of numbers. -/
import Derived.Test.YtmgcmgfjaimlnaaNet9
import Derived.Test.YtmgcmgfjaimlnaaGlueAll
namespace Go.Proofs.Ytmgcmgfjaimlnaa
open Go.EW
set_option linter.unusedVariables false
end Go.Proofs.Ytmgcmgfjaimlnaa
