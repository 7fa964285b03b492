/- One form: what is read is what would be written, in plain lists. -/
import Derived.Test.YtfpmnhmdphaceaaDoorTapP4
namespace Go.Proofs.YtfpmnhmdphaceaaDoor
open Go.EW
set_option linter.unusedVariables false
set_option linter.unusedSimpArgs false
attribute [local irreducible] sealL openR sealR crcL shaL
def NumOk (e : Evt) : Prop := ∀ j, j < 6 → 0 ≤ e.num j ∧ e.num j ≤ 9223372036854775807
theorem num_all {e : Evt} (h : NumOk e) : ∀ i, -9223372036854775808 ≤ e.num i ∧ e.num i ≤ 9223372036854775807 := fun i => by
  rcases Nat.lt_or_ge i 6 with h1 | h1
  · have := h i h1; omega
  have h5 := h 5 (by decide)
  have : e.num i = e.num 5 := by
    obtain ⟨k, rfl⟩ : ∃ k, i = k + 6 := ⟨i - 6, by omega⟩
    rfl
  rw [this]; omega
theorem evt0_num (k : Int) : NumOk { evt0 with k := k } := fun j hj => by
  have h0 : (0 : Int) ≤ 9223372036854775807 := by decide
  rcases six hj with rfl | rfl | rfl | rfl | rfl | rfl <;> exact ⟨Int.le_refl _, h0⟩
theorem evt0_ok : EvOk evt0 := ⟨num_all (evt0_num 0), by decide, by decide, Nat.zero_le _, Nat.zero_le _⟩
end Go.Proofs.YtfpmnhmdphaceaaDoor
