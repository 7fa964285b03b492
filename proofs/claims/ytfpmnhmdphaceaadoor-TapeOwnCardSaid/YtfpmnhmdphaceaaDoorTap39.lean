/- The walk of the law TapeBack ends in true, where the table of nibbles is laid. -/
import Derived.Test.YtfpmnhmdphaceaaDoorTapP13
import Derived.Test.YtfpmnhmdphaceaaDoorTap38
import Derived.Test.YtfpmnhmdphaceaaDoorTap11
namespace Go.Proofs.YtfpmnhmdphaceaaDoor
open Go.EW
attribute [local irreducible] EW.W EW.L EW.fin block8 outB shaL
set_option linter.unusedVariables false
set_option linter.unusedSimpArgs false
attribute [local irreducible] crcN crcB crcL sealL openR sealR putEv getEv runR readR fileT usedE seekR addRT chkS
end Go.Proofs.YtfpmnhmdphaceaaDoor
