/- What the reader of bodies answers, in plain lists. -/
import Derived.Test.YtfpmnhmdphaceaaDoorTap2
namespace Go.Proofs.YtfpmnhmdphaceaaDoor
open Go.EW
attribute [local irreducible] EW.W EW.L EW.fin block8 outB shaL
set_option linter.unusedVariables false
set_option linter.unusedSimpArgs false

/-! what is laid down is read: the plain functions -/
def numB (l : List UInt8) : Nat := l.foldl (fun v x => v * 256 + x.toNat) 0
/-- a number at a place: its value, where it ends, the error -/
def getN (b : List UInt8) (p : Nat) : Nat × Nat × Nat :=
  match b.drop p with
  | [] => (0, p, 10)
  | k :: r => if 8 < k.toNat then (0, p, 12) else if r.length < k.toNat then (0, p, 10) else if 0 < k.toNat ∧ r.headD 0 = 0 then (0, p, 12) else (numB (r.take k.toNat), p + 1 + k.toNat, 0)
/-- a reader's state: how far, the first error -/
structure Rs where
  at_ : Nat
  err : Nat
def rNum (b : List UInt8) (s : Rs) : Nat × Rs :=
  if s.err ≠ 0 then (0, s) else if (getN b s.at_).2.2 ≠ 0 then (0, ⟨s.at_, (getN b s.at_).2.2⟩) else ((getN b s.at_).1, ⟨(getN b s.at_).2.1, 0⟩)
def rInt (b : List UInt8) (most : Nat) (s : Rs) : Nat × Rs :=
  if s.err ≠ 0 then (0, s) else if (getN b s.at_).2.2 ≠ 0 then (0, ⟨s.at_, (getN b s.at_).2.2⟩) else if most < (getN b s.at_).1 then (0, ⟨s.at_, 11⟩) else ((getN b s.at_).1, ⟨(getN b s.at_).2.1, 0⟩)
def rText (b : List UInt8) (most : Nat) (s : Rs) : List UInt8 × Rs :=
  if s.err ≠ 0 then ([], s) else if (rInt b most s).2.err ≠ 0 then ([], (rInt b most s).2) else if b.length - (rInt b most s).2.at_ < (rInt b most s).1 then ([], ⟨s.at_, 10⟩) else
    ((b.drop (rInt b most s).2.at_).take (rInt b most s).1, ⟨(rInt b most s).2.at_ + (rInt b most s).1, 0⟩)
def rEnd (b : List UInt8) (s : Rs) : Nat := if s.err ≠ 0 then s.err else if s.at_ < b.length then 15 else 0
theorem numB_nil : numB [] = 0 := rfl
theorem numB_snoc (l : List UInt8) (x : UInt8) : numB (l ++ [x]) = numB l * 256 + x.toNat := by unfold numB; rw [List.foldl_append]; rfl
theorem numB_go : ∀ (l : List UInt8) (v : Nat), l.foldl (fun v x => v * 256 + x.toNat) v < (v + 1) * 256 ^ l.length
  | [], v => by simp
  | x :: l, v => by
    have h := numB_go l (v * 256 + x.toNat)
    have hx := x.toNat_lt
    rw [List.foldl_cons, List.length_cons, Nat.pow_succ]
    refine Nat.lt_of_lt_of_le h ?_
    rw [Nat.mul_comm (256 ^ l.length) 256, ← Nat.mul_assoc]
    exact Nat.mul_le_mul_right _ (by omega)
theorem numB_lt (l : List UInt8) : numB l < 256 ^ l.length := by
  have := numB_go l 0
  simpa [numB] using this
theorem numB_le8 {l : List UInt8} (h : l.length ≤ 8) : numB l < 18446744073709551616 := by
  have h1 := numB_lt l
  have h2 : 256 ^ l.length ≤ 256 ^ 8 := Nat.pow_le_pow_right (by decide) h
  have h3 : 256 ^ 8 = 18446744073709551616 := by decide
  omega
theorem getN_lt (b : List UInt8) (p : Nat) : (getN b p).1 < 18446744073709551616 := by
  unfold getN
  split
  · exact Nat.succ_pos _
  · split
    · exact Nat.succ_pos _
    · split
      · exact Nat.succ_pos _
      · split
        · exact Nat.succ_pos _
        · exact numB_le8 (by rw [List.length_take]; omega)
theorem getN_err (b : List UInt8) (p : Nat) : (getN b p).2.2 ≤ 12 := by
  unfold getN
  split
  · show 10 ≤ 12; decide
  · split
    · exact Nat.le_refl _
    · split
      · show 10 ≤ 12; decide
      · split
        · exact Nat.le_refl _
        · exact Nat.zero_le _
/-- where a number is read, it ends within -/
theorem getN_end {b : List UInt8} {p : Nat} (h : (getN b p).2.2 = 0) : p < (getN b p).2.1 ∧ (getN b p).2.1 ≤ b.length := by
  unfold getN at h ⊢
  split at h
  · cases h
  · rename_i k r hd
    have hl := congrArg List.length hd
    rw [List.length_drop, List.length_cons] at hl
    split at h
    · cases h
    · rename_i h1
      split at h
      · cases h
      · rename_i h2
        split at h
        · cases h
        · rename_i h3
          simp only [h1, h2, h3, if_false]
          omega
/-- the state of a reader that may be -/
def RsOk2 (b : List UInt8) (s : Rs) : Prop := s.at_ ≤ b.length ∧ s.err ≤ 15
theorem rNum_ok2 {b : List UInt8} {s : Rs} (h : RsOk2 b s) : RsOk2 b (rNum b s).2 := by
  unfold rNum
  split
  · exact h
  · split
    · exact ⟨h.1, Nat.le_trans (getN_err _ _) (by decide)⟩
    · rename_i h2
      exact ⟨(getN_end (by simpa using h2)).2, Nat.zero_le _⟩
theorem rInt_ok2 {b : List UInt8} {m : Nat} {s : Rs} (h : RsOk2 b s) : RsOk2 b (rInt b m s).2 := by
  unfold rInt
  split
  · exact h
  · split
    · exact ⟨h.1, Nat.le_trans (getN_err _ _) (by decide)⟩
    · split
      · exact ⟨h.1, show 11 ≤ 15 by decide⟩
      · rename_i h2 _
        exact ⟨(getN_end (by simpa using h2)).2, Nat.zero_le _⟩
theorem rInt_le {b : List UInt8} {m : Nat} {s : Rs} : (rInt b m s).1 ≤ m := by
  unfold rInt
  split
  · exact Nat.zero_le _
  · split
    · exact Nat.zero_le _
    · split
      · exact Nat.zero_le _
      · rename_i h; omega
theorem rNum_lt {b : List UInt8} {s : Rs} : (rNum b s).1 < 18446744073709551616 := by
  unfold rNum
  split
  · exact Nat.succ_pos _
  · split
    · exact Nat.succ_pos _
    · exact getN_lt _ _
theorem rText_ok2 {b : List UInt8} {m : Nat} {s : Rs} (h : RsOk2 b s) : RsOk2 b (rText b m s).2 := by
  unfold rText
  split
  · exact h
  · split
    · exact rInt_ok2 h
    · split
      · exact ⟨h.1, show 10 ≤ 15 by decide⟩
      · have := (rInt_ok2 (m := m) h).1
        exact ⟨by simp only []; omega, Nat.zero_le _⟩
theorem rText_len {b : List UInt8} {m : Nat} {s : Rs} : (rText b m s).1.length ≤ m ∧ (rText b m s).1.length ≤ b.length := by
  unfold rText
  split
  · exact ⟨Nat.zero_le _, Nat.zero_le _⟩
  · split
    · exact ⟨Nat.zero_le _, Nat.zero_le _⟩
    · split
      · exact ⟨Nat.zero_le _, Nat.zero_le _⟩
      · rw [List.length_take, List.length_drop]
        have := rInt_le (b := b) (m := m) (s := s)
        omega

end Go.Proofs.YtfpmnhmdphaceaaDoor
