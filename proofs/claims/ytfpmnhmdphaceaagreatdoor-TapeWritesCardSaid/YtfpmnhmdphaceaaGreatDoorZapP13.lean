/- A part of this claim: laws of the tape's functions and of plain lists; no conditions beyond those that the theorems name. -/
import Derived.Test.YtfpmnhmdphaceaaGreatDoorZapPAll
import Derived.Test.YtfpmnhmdphaceaaGreatDoorZap36
namespace Go.Proofs.YtfpmnhmdphaceaaGreatDoor
open Go.EW
set_option linter.unusedVariables false
set_option linter.unusedSimpArgs false
attribute [local irreducible] crcL shaL sealL sealR openR
/-! a whole file's index, what is sought in it -/
/-! what a tape of events keeps -/
end Go.Proofs.YtfpmnhmdphaceaaGreatDoor
