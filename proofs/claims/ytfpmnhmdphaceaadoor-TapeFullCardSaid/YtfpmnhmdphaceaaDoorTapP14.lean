/- What is read of a file of a tape that is cut off; plain lists, no program. -/
import Derived.Test.YtfpmnhmdphaceaaDoorTap46
namespace Go.Proofs.YtfpmnhmdphaceaaDoor
open Go.EW
set_option linter.unusedVariables false
set_option linter.unusedSimpArgs false
attribute [local irreducible] crcL shaL sealL sealR openR be4 footB
/-! a file that is cut -/
theorem posW_len (s : Stp) (us : List Txt) : (posW s us).length = (chsOf us).length + 2 := by
  unfold posW; rw [List.length_append, List.length_append, lay_cnt]; simp; omega
theorem posW_q (s : Stp) (us : List Txt) {j : Nat} (hj : j ≤ (chsOf us).length) : (posW s us)[j + 1]? = some (qOf (headF s) (chsOf us) j) := by
  unfold posW
  rcases Nat.lt_or_ge j (chsOf us).length with h | h
  · rw [List.getElem?_append_left (by rw [List.length_append, lay_cnt]; simp; omega), List.getElem?_append_right (by simp)]
    simpa using lay_get s us h
  obtain rfl : j = (chsOf us).length := by omega
  rw [List.getElem?_append_right (by rw [List.length_append, lay_cnt]; simp; omega), List.length_append, lay_cnt, q_all]
  rw [show (chsOf us).length + 1 - (([0] : List Nat).length + (chsOf us).length) = 0 by show (chsOf us).length + 1 - (1 + (chsOf us).length) = 0; omega]
  rfl
end Go.Proofs.YtfpmnhmdphaceaaDoor
