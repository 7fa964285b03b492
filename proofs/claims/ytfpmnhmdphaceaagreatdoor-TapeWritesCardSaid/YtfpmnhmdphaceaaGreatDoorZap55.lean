/- The reference's scan does what the plain function runR says, of any bytes in memory. -/
import Derived.Test.YtfpmnhmdphaceaaGreatDoorZapSAll
import Derived.Test.YtfpmnhmdphaceaaGreatDoorBaseAll
namespace Go.Proofs.YtfpmnhmdphaceaaGreatDoor
open Go.EW
attribute [local irreducible] EW.W EW.L EW.fin block8 outB shaL
set_option linter.unusedVariables false
set_option linter.unusedSimpArgs false
attribute [local irreducible] crcN crcB crcL sealL openR sealR bodyR headR tailR eventsR chunkR numberR
attribute [local irreducible] runR loopR
end Go.Proofs.YtfpmnhmdphaceaaGreatDoor
