/- Walks through the tape's functions. -/
import Derived.Test.YtfpmnhmdphaceaaDoorTap8
namespace Go.Proofs.YtfpmnhmdphaceaaDoor
open Go.EW
attribute [local irreducible] EW.W EW.L EW.fin block8 outB shaL
set_option linter.unusedVariables false
set_option linter.unusedSimpArgs false
/-- but for its numbers, an event is as it was made -/
def Fresh (k : Int) (e : Evt) : Prop := e.k = k ∧ e.hi = 0 ∧ e.lo = 0 ∧ e.ok = 0 ∧ e.os = 0 ∧ e.ov = ⟨#[]⟩ ∧ e.bs = []
theorem Fresh.put {k : Int} {e : Evt} (h : Fresh k e) (i : Nat) (x : Int) : Fresh k (e.put i x) := by
  unfold Evt.put
  split <;> exact h
theorem Fresh.cells {k : Int} {e : Evt} (h : Fresh k e) : e.cells none 0 = [I k, I e.nd, I e.cl, I e.ix, I e.pl, I e.ct, I e.cu, N64 0, N64 0, I 0, I 0, .string ⟨#[]⟩, .slice none 0 0] := by
  obtain ⟨h1, h2, h3, h4, h5, h6, h7⟩ := h
  unfold Evt.cells
  rw [h1, h2, h3, h4, h5, h6, h7]; rfl
theorem usesS_nil {k : Int} (h : (usesS k).length = 0) : usesN k = 0 := by
  by_cases hk : usesN k = 0
  · exact hk
  have := ((usesS_spec k).2 hk).1; omega
theorem usesS_len {k : Int} (h : ¬ (usesS k).length = 0) : ¬ usesN k = 0 ∧ (usesS k).length = 9 := by
  by_cases hk : usesN k = 0
  · rw [(usesS_spec k).1 hk] at h; exact absurd rfl h
  exact ⟨hk, ((usesS_spec k).2 hk).1⟩
theorem usesS_at {k : Int} {i : Nat} (h : ¬ usesN k = 0) (hi : i < 9) : (usesS k)[i]? = some ((usesS k).getD i 0) := by
  have h2 := ((usesS_spec k).2 h).1
  rw [List.getD_eq_getElem?_getD, List.getElem?_eq_getElem (by omega)]; rfl
theorem usesS_hit {k : Int} {i : Nat} (h : ¬ usesN k = 0) (hi : i < 9) (hc : ¬ ((((usesS k).getD i 0).toNat : Nat) : Int) = 46) : bitN (usesN k) i = true := by
  rw [← ((usesS_spec k).2 h).2 i hi]
  simp only [Bool.not_eq_true', beq_eq_false_iff_ne]; omega
theorem usesS_mis {k : Int} {i : Nat} (h : ¬ usesN k = 0) (hi : i < 9) (hc : ((((usesS k).getD i 0).toNat : Nat) : Int) = 46) : bitN (usesN k) i = false := by
  rw [← ((usesS_spec k).2 h).2 i hi]
  simp only [Bool.not_eq_false', beq_iff_eq]; omega
end Go.Proofs.YtfpmnhmdphaceaaDoor
