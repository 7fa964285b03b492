/- The reference's tailLen and frame do what the plain functions say, of any bytes in memory. -/
import Derived.Test.YtfpmnhmdphaceaaDoorTap36
import Derived.Test.YtfpmnhmdphaceaaDoorTapKAll
namespace Go.Proofs.YtfpmnhmdphaceaaDoor
open Go.EW
attribute [local irreducible] EW.W EW.L EW.fin block8 outB shaL
set_option linter.unusedVariables false
set_option linter.unusedSimpArgs false
attribute [local irreducible] crcN crcB crcL sealL openR sealR
end Go.Proofs.YtfpmnhmdphaceaaDoor
