/- A part of this claim: laws of the tape's functions and of plain lists; no conditions beyond those that the theorems name. -/
import Derived.Test.YtfpmnhmdphaceaaGreatDoorZap30
import Derived.Test.YtfpmnhmdphaceaaGreatDoorZap10
namespace Go.Proofs.YtfpmnhmdphaceaaGreatDoor
open Go.EW
attribute [local irreducible] EW.W EW.L EW.fin block8 outB shaL
set_option linter.unusedVariables false
set_option linter.unusedSimpArgs false
attribute [local irreducible] crcN crcB crcL sealL openR sealR addRT chkS usedE
theorem evsV_get {l : List EvM} {i : Nat} (hi : i < l.length) (k : Nat) (hk : k < 13) : (evsV l)[i * 13 + k]? = (l[i].cells)[k]? := by
  induction l generalizing i with
  | nil => exact absurd hi (by simp)
  | cons x l ih =>
    have hx : x.cells.length = 13 := rfl
    unfold evsV at *
    rw [List.flatMap_cons]
    cases i with
    | zero => rw [List.getElem?_append_left (by omega), Nat.zero_mul, Nat.zero_add]; rfl
    | succ i =>
      rw [List.getElem?_append_right (by omega), show (i + 1) * 13 + k - x.cells.length = i * 13 + k by omega, ih (by simpa using hi)]; rfl
theorem evs_at {w : World} {a : Option Addr} {l : List EvM} {i b o : Nat} (ha : a = some ⟨b, o, none⟩) (h : Rd w a (evsV l)) (hi : i < l.length) : Cells w b (o + i * 13) l[i].cells :=
  Cells.mk fun j v hj => by
    have hjl : j < 13 := (List.getElem?_eq_some_iff.1 hj).1
    obtain ⟨b', o', h1, h2⟩ := h (i * 13 + j) v (by rw [evsV_get hi j hjl]; exact hj)
    rw [ha] at h1; cases h1
    rw [Nat.add_assoc]; exact h2
theorem evs_ex {w : World} {a : Option Addr} {l : List EvM} {i : Nat} (h : Rd w a (evsV l)) (hi : i < l.length) : ∃ b o, a = some ⟨b, o, none⟩ := by
  obtain ⟨b', o', h1, _⟩ := h (i * 13 + 0) (I l[i].e.k) (by rw [evsV_get hi 0 (by decide)]; rfl)
  exact ⟨b', o', h1⟩
def EvsIn (W : World) (F : List Seg) (l : List EvM) : Prop := ∀ x ∈ l, RdIn W F x.a (x.e.bs.map B) ∧ EvOk x.e
end Go.Proofs.YtfpmnhmdphaceaaGreatDoor
