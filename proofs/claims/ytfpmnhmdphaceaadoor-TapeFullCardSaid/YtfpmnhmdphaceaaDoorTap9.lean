/- Walks through the tape's functions. -/
import Derived.Test.YtfpmnhmdphaceaaDoorTap8
namespace Go.Proofs.YtfpmnhmdphaceaaDoor
open Go.EW
attribute [local irreducible] EW.W EW.L EW.fin block8 outB shaL
set_option linter.unusedVariables false
set_option linter.unusedSimpArgs false
/-- but for its numbers, an event is as it was made -/
def Fresh (k : Int) (e : Evt) : Prop := e.k = k ∧ e.hi = 0 ∧ e.lo = 0 ∧ e.ok = 0 ∧ e.os = 0 ∧ e.ov = ⟨#[]⟩ ∧ e.bs = []
theorem Fresh.put {k : Int} {e : Evt} (h : Fresh k e) (i : Nat) (x : Int) : Fresh k (e.put i x) := by
  unfold Evt.put
  split <;> exact h
theorem Fresh.cells {k : Int} {e : Evt} (h : Fresh k e) : e.cells none 0 = [I k, I e.nd, I e.cl, I e.ix, I e.pl, I e.ct, I e.cu, N64 0, N64 0, I 0, I 0, .string ⟨#[]⟩, .slice none 0 0] := by
  obtain ⟨h1, h2, h3, h4, h5, h6, h7⟩ := h
  unfold Evt.cells
  rw [h1, h2, h3, h4, h5, h6, h7]; rfl
end Go.Proofs.YtfpmnhmdphaceaaDoor
