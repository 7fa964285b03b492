/- One form: what is read is what would be written, in plain lists. -/
import Derived.Test.YtfpmnhmdphaceaaDoorTapP3
namespace Go.Proofs.YtfpmnhmdphaceaaDoor
open Go.EW
set_option linter.unusedVariables false
set_option linter.unusedSimpArgs false
/-! what is written is read -/
theorem kgo_spec (v : Nat) : ∀ (f j : Nat), (∀ i, j ≤ i → i < kgo v f j → v / 2 ^ (8 * i) ≠ 0) ∧ (kgo v f j = j + f ∨ v / 2 ^ (8 * kgo v f j) = 0) ∧ j ≤ kgo v f j
  | 0, j => ⟨fun i h1 h2 => by rw [kgo] at h2; omega, .inl rfl, Nat.le_refl _⟩
  | f + 1, j => by
    by_cases h : v / 2 ^ (8 * j) = 0
    · rw [kgo_stop h]
      exact ⟨fun i h1 h2 => by omega, .inr h, Nat.le_refl _⟩
    rw [kgo_on h]
    obtain ⟨h1, h2, h3⟩ := kgo_spec v f (j + 1)
    refine ⟨fun i h4 h5 => ?_, h2.imp (fun e => by omega) id, by omega⟩
    rcases Nat.eq_or_lt_of_le h4 with rfl | h6
    · exact h
    exact h1 i h6 h5
theorem klen_spec {v : Nat} (hv : v < 18446744073709551616) : klen v ≤ 8 ∧ v < 256 ^ klen v ∧ (0 < klen v → 1 ≤ v / 2 ^ (8 * (klen v - 1))) := by
  obtain ⟨h1, h2, h3⟩ := kgo_spec v 8 0
  have h8 := kgo_le v 8 0
  refine ⟨by unfold klen; omega, ?_, fun hp => ?_⟩
  · rcases h2 with h2 | h2
    · unfold klen; rw [h2]; exact hv
    have hp : 0 < 2 ^ (8 * kgo v 8 0) := Nat.pow_pos (by decide)
    rw [← pow_256]
    exact (Nat.div_eq_zero_iff_lt hp).1 h2
  exact Nat.pos_of_ne_zero (h1 (klen v - 1) (Nat.zero_le _) (by unfold klen at hp ⊢; omega))
theorem numB_fb (v k : Nat) : ∀ i, i ≤ k → numB (fb v k i) = v / 2 ^ (8 * (k - i)) % 256 ^ i
  | 0, _ => by rw [fb, numB_nil, Nat.pow_zero, Nat.mod_one]
  | i + 1, h => by
    have e0 : 256 ^ (i + 1) = 256 * 256 ^ i := by rw [Nat.pow_succ, Nat.mul_comm]
    rw [fb, numB_snoc, numB_fb v k i (by omega), UInt8.toNat_ofNat', e0, Nat.mod_mul]
    have e1 : k - 1 - i = k - (i + 1) := by omega
    have e2 : v / 2 ^ (8 * (k - i)) = v / 2 ^ (8 * (k - (i + 1))) / 256 := by
      rw [Nat.div_div_eq_div_mul, show 8 * (k - i) = 8 * (k - (i + 1)) + 8 by omega, Nat.pow_add]
    rw [e1, e2]
    have e3 : (2 : Nat) ^ 8 = 256 := by decide
    rw [e3]; omega
theorem fb_head (v k : Nat) : ∀ i, 0 < i → (fb v k i).headD 0 = UInt8.ofNat (v / 2 ^ (8 * (k - 1)))
  | 0, h => absurd h (by decide)
  | 1, _ => rfl
  | i + 2, _ => by
    have ih := fb_head v k (i + 1) (by omega)
    rw [fb]
    cases hf : fb v k (i + 1) with
    | nil => have := fb_len v k (i + 1); rw [hf] at this; simp at this
    | cons x r => rw [hf] at ih; exact ih
theorem getN_form {b rest : List UInt8} {p v : Nat} (hv : v < 18446744073709551616) (hd : b.drop p = formL v ++ rest) : getN b p = (v, p + (formL v).length, 0) := by
  obtain ⟨h8, hlt, h1⟩ := klen_spec hv
  have hk : (UInt8.ofNat (klen v)).toNat = klen v := by rw [UInt8.toNat_ofNat']; exact Nat.mod_eq_of_lt (by omega)
  have hfl := fb_len v (klen v) (klen v)
  have htk : (fb v (klen v) (klen v) ++ rest).take (klen v) = fb v (klen v) (klen v) := List.take_left' hfl
  have hnum : numB (fb v (klen v) (klen v)) = v := by
    rw [numB_fb v _ _ (Nat.le_refl _), Nat.sub_self, Nat.mul_zero, Nat.pow_zero, Nat.div_one]
    exact Nat.mod_eq_of_lt hlt
  unfold getN
  rw [hd]
  unfold formL
  rw [List.cons_append]
  simp only [hk]
  rw [if_neg (by omega), if_neg (by rw [List.length_append, hfl]; omega), if_neg (by
    rintro ⟨hp, hz⟩
    have hh := fb_head v (klen v) (klen v) hp
    have hz2 : (fb v (klen v) (klen v)).headD 0 = 0 := by
      cases hf : fb v (klen v) (klen v) with
      | nil => rfl
      | cons x r => rw [hf] at hz; exact hz
    rw [hz2] at hh
    have h3 := h1 hp
    have h4 : v / 2 ^ (8 * (klen v - 1)) < 256 := by
      rw [Nat.div_lt_iff_lt_mul (Nat.pow_pos (by decide))]
      have : 256 * 2 ^ (8 * (klen v - 1)) = 256 ^ klen v := by
        rw [pow_256, ← Nat.pow_succ', show (klen v - 1).succ = klen v by omega]
      omega
    have h5 := congrArg UInt8.toNat hh
    rw [UInt8.toNat_ofNat', show (0 : UInt8).toNat = 0 from rfl] at h5
    omega), htk, hnum]
  rw [List.length_cons, hfl, Nat.add_assoc, Nat.add_comm 1]
theorem rInt_form {b rest : List UInt8} {m v : Nat} {s : Rs} (hs : s.err = 0) (hm : m < 18446744073709551616) (hv : v ≤ m) (hd : b.drop s.at_ = formL v ++ rest) : rInt b m s = (v, ⟨s.at_ + (formL v).length, 0⟩) := by
  unfold rInt
  rw [getN_form (by omega) hd, if_neg (by omega), if_neg (by simp), if_neg (by simp only []; omega)]
theorem rNum_form {b rest : List UInt8} {v : Nat} {s : Rs} (hs : s.err = 0) (hv : v < 18446744073709551616) (hd : b.drop s.at_ = formL v ++ rest) : rNum b s = (v, ⟨s.at_ + (formL v).length, 0⟩) := by
  unfold rNum
  rw [getN_form hv hd, if_neg (by omega), if_neg (by simp)]
theorem rText_form {b rest t : List UInt8} {m : Nat} {s : Rs} (hs : s.err = 0) (hm : m < 18446744073709551616) (ht : t.length ≤ m) (hd : b.drop s.at_ = formL t.length ++ t ++ rest) : rText b m s = (t, ⟨s.at_ + (formL t.length ++ t).length, 0⟩) := by
  rw [List.append_assoc] at hd
  have hr := rInt_form hs hm ht hd
  have hd2 : b.drop (s.at_ + (formL t.length).length) = t ++ rest := by rw [← List.drop_drop, hd, List.drop_left]
  have hl := congrArg List.length hd2
  rw [List.length_drop, List.length_append] at hl
  unfold rText
  rw [hr, if_neg (by omega), if_neg (by simp)]
  simp only []
  rw [if_neg (by omega), hd2, List.take_left, List.length_append, Nat.add_assoc]
end Go.Proofs.YtfpmnhmdphaceaaDoor
namespace Go.Proofs.YtfpmnhmdphaceaaDoor
open Go.EW
set_option linter.unusedVariables false
set_option linter.unusedSimpArgs false
/-- a reader that stands ahead of these bytes -/
def At (b : List UInt8) (s : Rs) (rest : List UInt8) : Prop := s.err = 0 ∧ b.drop s.at_ = rest
theorem At.start (b : List UInt8) : At b ⟨0, 0⟩ b := ⟨rfl, List.drop_zero⟩
theorem At.step {b x rest : List UInt8} {s : Rs} (h : At b s (x ++ rest)) : At b ⟨s.at_ + x.length, 0⟩ rest :=
  ⟨rfl, by show b.drop (s.at_ + x.length) = rest; rw [← List.drop_drop, h.2, List.drop_left]⟩
end Go.Proofs.YtfpmnhmdphaceaaDoor
