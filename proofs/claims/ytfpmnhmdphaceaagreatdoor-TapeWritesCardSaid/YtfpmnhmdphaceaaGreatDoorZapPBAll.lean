/- A part of this claim: laws of the tape's functions and of plain lists; no conditions beyond those that the theorems name. -/
import Derived.Test.YtfpmnhmdphaceaaGreatDoorZapP3
namespace Go.Proofs.YtfpmnhmdphaceaaGreatDoor
open Go.EW
set_option linter.unusedVariables false
set_option linter.unusedSimpArgs false
/-! what is written is read -/
end Go.Proofs.YtfpmnhmdphaceaaGreatDoor
namespace Go.Proofs.YtfpmnhmdphaceaaGreatDoor
open Go.EW
set_option linter.unusedVariables false
set_option linter.unusedSimpArgs false
/-- a reader that stands ahead of these bytes -/
def At (b : List UInt8) (s : Rs) (rest : List UInt8) : Prop := s.err = 0 ∧ b.drop s.at_ = rest
theorem At.step {b x rest : List UInt8} {s : Rs} (h : At b s (x ++ rest)) : At b ⟨s.at_ + x.length, 0⟩ rest :=
  ⟨rfl, by show b.drop (s.at_ + x.length) = rest; rw [← List.drop_drop, h.2, List.drop_left]⟩
end Go.Proofs.YtfpmnhmdphaceaaGreatDoor
