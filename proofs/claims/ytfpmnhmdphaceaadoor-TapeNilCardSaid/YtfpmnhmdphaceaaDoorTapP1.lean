/- One form: what is read is what would be written, in plain lists. -/
import Derived.Test.YtfpmnhmdphaceaaDoorTapL2
namespace Go.Proofs.YtfpmnhmdphaceaaDoor
open Go.EW
set_option linter.unusedVariables false
set_option linter.unusedSimpArgs false
/-! one form: what is read is what would be written; and what is written is read -/
theorem numB_fold : ∀ (y : List UInt8) (v : Nat), y.foldl (fun v x => v * 256 + x.toNat) v = v * 256 ^ y.length + numB y
  | [], v => by simp [numB_nil]
  | a :: y, v => by
    have h1 := numB_fold y (v * 256 + a.toNat)
    have h2 := numB_fold y (0 * 256 + a.toNat)
    have h3 : numB (a :: y) = y.foldl (fun v x => v * 256 + x.toNat) (0 * 256 + a.toNat) := rfl
    rw [h3, h2, List.foldl_cons, h1, List.length_cons, Nat.pow_succ, Nat.zero_mul, Nat.zero_add, Nat.add_mul, Nat.mul_assoc, Nat.mul_comm 256 (256 ^ y.length), Nat.add_assoc]
theorem numB_app (x y : List UInt8) : numB (x ++ y) = numB x * 256 ^ y.length + numB y := by
  show (x ++ y).foldl _ 0 = _
  rw [List.foldl_append, numB_fold]; rfl
theorem pow_256 (k : Nat) : 2 ^ (8 * k) = 256 ^ k := by rw [Nat.pow_mul]
theorem numB_div {l : List UInt8} {i : Nat} (hi : i ≤ l.length) : numB l / 2 ^ (8 * (l.length - i)) = numB (l.take i) := by
  have h := numB_app (l.take i) (l.drop i)
  rw [List.take_append_drop, List.length_drop] at h
  have hlt := numB_lt (l.drop i)
  rw [List.length_drop] at hlt
  rw [pow_256, h, Nat.mul_comm, Nat.mul_add_div (Nat.pos_of_ne_zero (by intro h0; rw [h0] at hlt; omega)), Nat.div_eq_of_lt hlt, Nat.add_zero]
theorem fb_numB {l : List UInt8} : ∀ i, i ≤ l.length → fb (numB l) l.length i = l.take i
  | 0, _ => by rw [fb, List.take_zero]
  | i + 1, h => by
    rw [fb, fb_numB i (by omega), List.take_succ_eq_append_getElem (by omega)]
    congr 2
    have h1 := numB_div (l := l) (i := i + 1) h
    rw [show l.length - (i + 1) = l.length - 1 - i by omega, List.take_succ_eq_append_getElem (by omega), numB_snoc] at h1
    rw [h1]
    have hx := (l[i]'(by omega)).toNat_lt
    apply UInt8.toNat_inj.1
    rw [UInt8.toNat_ofNat']
    omega
theorem kgo_at {v k : Nat} : ∀ (f j : Nat), j ≤ k → k ≤ j + f → (∀ i, i < k → v / 2 ^ (8 * i) ≠ 0) → (v / 2 ^ (8 * k) = 0 ∨ k = j + f) → kgo v f j = k
  | 0, j, h1, h2, _, _ => by rw [kgo]; omega
  | f + 1, j, h1, h2, h3, h4 => by
    rcases Nat.lt_or_ge j k with h | h
    · rw [kgo_on (h3 j h)]
      exact kgo_at f (j + 1) h (by omega) h3 (h4.imp id (fun e => by omega))
    · obtain rfl : j = k := by omega
      rcases h4 with h4 | h4
      · exact kgo_stop h4
      · omega
theorem klen_at {v k : Nat} (hk : k ≤ 8) (h1 : ∀ i, i < k → v / 2 ^ (8 * i) ≠ 0) (h2 : v / 2 ^ (8 * k) = 0) : klen v = k := kgo_at 8 0 (Nat.zero_le _) (by omega) h1 (.inl h2)
theorem klen_numB {l : List UInt8} (hl : l.length ≤ 8) (h0 : 0 < l.length → l.headD 0 ≠ 0) : klen (numB l) = l.length := by
  refine klen_at hl (fun i hi => ?_) ?_
  · cases l with
    | nil => exact absurd hi (by simp)
    | cons x l =>
      have hx : x ≠ 0 := h0 (by simp)
      have hx1 : 1 ≤ x.toNat := by
        rcases Nat.eq_zero_or_pos x.toNat with h | h
        · exact absurd (UInt8.toNat_inj.1 (by rw [h]; rfl)) hx
        · exact h
      have h := numB_app [x] l
      rw [show numB [x] = x.toNat by simp [numB]] at h
      have hge : 2 ^ (8 * i) ≤ numB (x :: l) := by
        rw [pow_256, show x :: l = [x] ++ l from rfl, h]
        have h1 : 256 ^ i ≤ 256 ^ l.length := Nat.pow_le_pow_right (by decide) (by simp at hi; omega)
        have h2 : 1 * 256 ^ l.length ≤ x.toNat * 256 ^ l.length := Nat.mul_le_mul_right _ hx1
        omega
      have hp : 0 < 2 ^ (8 * i) := Nat.pow_pos (by decide)
      have := (Nat.le_div_iff_mul_le hp).2 (show 1 * 2 ^ (8 * i) ≤ numB (x :: l) by omega)
      omega
  · rw [pow_256]
    exact Nat.div_eq_of_lt (numB_lt l)
theorem form_numB {l : List UInt8} (hl : l.length ≤ 8) (h0 : 0 < l.length → l.headD 0 ≠ 0) : formL (numB l) = UInt8.ofNat l.length :: l := by
  unfold formL
  rw [klen_numB hl h0, fb_numB _ (Nat.le_refl _), List.take_length]
/-- a number that is read stands there as it would be written -/
theorem getN_good {b : List UInt8} {p : Nat} (h : (getN b p).2.2 = 0) : b.drop p = formL (getN b p).1 ++ b.drop (getN b p).2.1 ∧ (getN b p).2.1 = p + (formL (getN b p).1).length := by
  unfold getN at h ⊢
  split at h
  · cases h
  · rename_i k r hd
    split at h
    · cases h
    · rename_i h1
      split at h
      · cases h
      · rename_i h2
        split at h
        · cases h
        · rename_i h3
          simp only [h1, h2, h3, if_false]
          have hlt : (r.take k.toNat).length = k.toNat := by rw [List.length_take]; omega
          have hf := form_numB (l := r.take k.toNat) (by omega) (fun hp hz => h3 ⟨by omega, by
            cases r with
            | nil => simp at hp
            | cons y r =>
              cases hk : k.toNat with
              | zero => omega
              | succ n => rw [hk, List.take_succ_cons] at hz; exact hz⟩)
          rw [hf, hlt]
          have hk : UInt8.ofNat k.toNat = k := by simp
          have hr : b.drop (p + 1 + k.toNat) = r.drop k.toNat := by
            rw [← List.drop_drop, ← List.drop_drop, hd, List.drop_succ_cons, List.drop_zero]
          rw [hk, hr]
          constructor
          · rw [List.cons_append, List.take_append_drop]; exact hd
          · rw [List.length_cons, hlt]; omega
/-- a good step of a reader: the number that it answers, where it stands then -/
structure Good (b : List UInt8) (s : Rs) (bs : List UInt8) (s' : Rs) : Prop where
  e0 : s.err = 0
  e1 : s'.err = 0
  cut : b.drop s.at_ = bs ++ b.drop s'.at_
  at_ : s'.at_ = s.at_ + bs.length
theorem Good.refl {b : List UInt8} {s : Rs} (h : s.err = 0) : Good b s [] s := ⟨h, h, rfl, rfl⟩
theorem Good.trans {b x y : List UInt8} {s t u : Rs} (h : Good b s x t) (g : Good b t y u) : Good b s (x ++ y) u :=
  ⟨h.e0, g.e1, by rw [h.cut, g.cut, List.append_assoc], by rw [g.at_, h.at_, List.length_append]; omega⟩
theorem rInt_good {b : List UInt8} {m : Nat} {s : Rs} (h : (rInt b m s).2.err = 0) : Good b s (formL (rInt b m s).1) (rInt b m s).2 := by
  unfold rInt at h ⊢
  split at h
  · rename_i h1; exact absurd h h1
  · rename_i h1
    split at h
    · rename_i h2; exact absurd h h2
    · rename_i h2
      split at h
      · cases h
      · rename_i h3
        simp only [h1, h2, h3, if_false]
        have hg := getN_good (b := b) (p := s.at_) (by simpa using h2)
        exact ⟨by simpa using h1, rfl, hg.1, hg.2⟩
theorem rNum_good {b : List UInt8} {s : Rs} (h : (rNum b s).2.err = 0) : Good b s (formL (rNum b s).1) (rNum b s).2 := by
  unfold rNum at h ⊢
  split at h
  · rename_i h1; exact absurd h h1
  · rename_i h1
    split at h
    · rename_i h2; exact absurd h h2
    · rename_i h2
      simp only [h1, h2, if_false]
      have hg := getN_good (b := b) (p := s.at_) (by simpa using h2)
      exact ⟨by simpa using h1, rfl, hg.1, hg.2⟩
theorem rText_good {b : List UInt8} {m : Nat} {s : Rs} (h : (rText b m s).2.err = 0) : Good b s (formL (rText b m s).1.length ++ (rText b m s).1) (rText b m s).2 := by
  unfold rText at h ⊢
  split at h
  · rename_i h1; exact absurd h h1
  · rename_i h1
    split at h
    · rename_i h2; exact absurd h h2
    · rename_i h2
      split at h
      · cases h
      · rename_i h3
        simp only [h1, h2, h3, if_false]
        have hg := rInt_good (b := b) (m := m) (s := s) (by simpa using h2)
        have hl : ((b.drop (rInt b m s).2.at_).take (rInt b m s).1).length = (rInt b m s).1 := by rw [List.length_take, List.length_drop]; omega
        refine ⟨hg.e0, rfl, ?_, ?_⟩
        · rw [hl, hg.cut, List.append_assoc]
          congr 1
          simp only []
          rw [← List.drop_drop, List.take_append_drop]
        · simp only []
          rw [List.length_append, hl, hg.at_]; omega
theorem rEnd_good {b : List UInt8} {s : Rs} (h : rEnd b s = 0) : s.err = 0 ∧ b.drop s.at_ = [] := by
  unfold rEnd at h
  split at h
  · rename_i h1; exact absurd h h1
  · rename_i h1
    split at h
    · cases h
    · exact ⟨by simpa using h1, List.drop_eq_nil_of_le (by omega)⟩
/-- a reader that fails stays so -/
theorem rInt_err {b : List UInt8} {m : Nat} {s : Rs} (h : (rInt b m s).2.err = 0) : s.err = 0 := (rInt_good h).e0
theorem rNum_err {b : List UInt8} {s : Rs} (h : (rNum b s).2.err = 0) : s.err = 0 := (rNum_good h).e0
theorem rText_err {b : List UInt8} {m : Nat} {s : Rs} (h : (rText b m s).2.err = 0) : s.err = 0 := (rText_good h).e0
end Go.Proofs.YtfpmnhmdphaceaaDoor
