/- The law's places does what the plain functions posW and aheadL say, of any setup that may be and any events in memory. -/
import Derived.Test.YtfpmnhmdphaceaaDoorTapP14
import Derived.Test.YtfpmnhmdphaceaaDoorTap33
namespace Go.Proofs.YtfpmnhmdphaceaaDoor
open Go.EW
attribute [local irreducible] EW.W EW.L EW.fin block8 outB shaL
set_option linter.unusedVariables false
set_option linter.unusedSimpArgs false
attribute [local irreducible] crcN crcB crcL sealL openR sealR putEv getEv fileL chsOf
end Go.Proofs.YtfpmnhmdphaceaaDoor
