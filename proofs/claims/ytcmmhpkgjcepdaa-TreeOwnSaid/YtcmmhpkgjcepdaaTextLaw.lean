/- Print and Parse go there and back, as plain laws on lists of bytes. -/
import Derived.Test.YtcmmhpkgjcepdaaWord2
namespace Go.EW
set_option linter.unusedVariables false
/-! there and back: Print and Parse, as plain laws -/
theorem dig_hex : ∀ n, n < 16 → digitI (hexd n) = (n : Int) := by decide +kernel
theorem hex_dig0 : ∀ n, n < 256 → 0 ≤ digitI (UInt8.ofNat n) → hexd (digitI (UInt8.ofNat n)).toNat = UInt8.ofNat n := by decide +kernel
theorem hex_dig {c : UInt8} (h : 0 ≤ digitI c) : hexd (digitI c).toNat = c := by
  have := hex_dig0 c.toNat c.toNat_lt
  rw [UInt8.ofNat_toNat] at this
  exact this h
theorem pgo_good {t : List UInt8} : ∀ (k i : Nat), (∀ j, i ≤ j → j < i + k → j < t.length ∧ 0 ≤ digitI (t.getD j 0)) → pgo t k i = pgo t 0 (i + k)
  | 0, _, _ => rfl
  | k + 1, i, h => by
    have h0 := h i (Nat.le_refl _) (by omega)
    rw [show pgo t (k + 1) i = if t.length ≤ i then (List.replicate 32 0, 190, t.length) else if digitI (t.getD i 0) < 0 then (List.replicate 32 0, 190, i) else pgo t k (i + 1) from rfl, if_neg (by omega), if_neg (by omega), pgo_good k (i + 1) (fun j hj hk => h j (by omega) (by omega)), show i + 1 + k = i + (k + 1) by omega]
theorem pgo_stop {t : List UInt8} {p : Nat} (hp : p < t.length) (hd : digitI (t.getD p 0) < 0) : ∀ (k i : Nat), i ≤ p → p < i + k → (∀ j, i ≤ j → j < p → 0 ≤ digitI (t.getD j 0)) → pgo t k i = (List.replicate 32 0, 190, p)
  | 0, i, h1, h2, _ => absurd h2 (by omega)
  | k + 1, i, h1, h2, h => by
    rw [pgo, if_neg (by omega)]
    by_cases hi : i = p
    · subst hi; rw [if_pos hd]
    · rw [if_neg (by have := h i (Nat.le_refl _) (by omega); omega), pgo_stop hp hd k (i + 1) (by omega) (by omega) (fun j hj hk => h j (by omega) hk)]
theorem pgo_cases (t : List UInt8) : ∀ (k i : Nat), i + k = 64 → (∀ j, j < i → j < t.length ∧ 0 ≤ digitI (t.getD j 0)) →
    (pgo t k i = (parA t 64, 0, 0) ∧ t.length = 64 ∧ ∀ j, j < 64 → 0 ≤ digitI (t.getD j 0)) ∨ ∃ p, pgo t k i = (List.replicate 32 0, 190, p) ∧ p ≤ t.length ∧ p ≤ 64
  | 0, i, h0, h => by
    rw [pgo]
    split
    · exact .inr ⟨64, rfl, by omega, by omega⟩
    · refine .inl ⟨rfl, ?_, fun j hj => (h j (by omega)).2⟩
      have := (h 63 (by omega)).1
      omega
  | k + 1, i, h0, h => by
    rw [pgo]
    split
    · rename_i h1
      refine .inr ⟨t.length, rfl, by omega, ?_⟩
      omega
    · split
      · exact .inr ⟨i, rfl, by omega, by omega⟩
      · rename_i h1 h2
        refine pgo_cases t k (i + 1) (by omega) (fun j hj => ?_)
        by_cases hji : j = i
        · subst hji; exact ⟨by omega, by omega⟩
        · exact h j (by omega)
theorem parse_cases (t : List UInt8) : (parseL t = (parA t 64, 0, 0) ∧ t.length = 64 ∧ ∀ j, j < 64 → 0 ≤ digitI (t.getD j 0)) ∨ ∃ p, parseL t = (List.replicate 32 0, 190, p) ∧ p ≤ t.length ∧ p ≤ 64 :=
  pgo_cases t 64 0 rfl (fun j hj => absurd hj (by omega))
theorem put4_hex {d e : Nat} (hd : d < 16) (he : e < 16) : hex1 (put4 (put4 0 d) e) = [hexd d, hexd e] := by
  have h1 : (put4 (put4 0 d) e).toNat = d * 16 + e := by
    unfold put4
    rw [UInt8.toNat_ofNat', UInt8.toNat_ofNat', show (0 : UInt8).toNat = 0 from rfl]
    omega
  unfold hex1
  rw [h1, show (d * 16 + e) / 16 = d by omega, show (d * 16 + e) % 16 = e by omega]
theorem par_law {t : List UInt8} (hl : t.length = 64) (h : ∀ j, j < 64 → 0 ≤ digitI (t.getD j 0)) : ∀ i, i ≤ 32 → (parA t (2 * i)).drop i = List.replicate (32 - i) 0 ∧ hexL ((parA t (2 * i)).take i) = t.take (2 * i)
  | 0, _ => by simp [parA, hexL]
  | i + 1, hi => by
    obtain ⟨h1, h2⟩ := par_law hl h i (by omega)
    have hA := parA_len t (2 * i)
    have e0 : (parA t (2 * i)).getD i 0 = 0 := by
      have : ((parA t (2 * i)).drop i).getD 0 0 = (0 : UInt8) := by rw [h1]; cases 32 - i <;> simp [List.replicate_succ]
      simpa [List.getD] using this
    obtain ⟨d, hd⟩ : ∃ d, d = (digitI (t.getD (2 * i) 0)).toNat := ⟨_, rfl⟩
    obtain ⟨e, he⟩ : ∃ e, e = (digitI (t.getD (2 * i + 1) 0)).toNat := ⟨_, rfl⟩
    have hd0 := h (2 * i) (by omega)
    have he0 := h (2 * i + 1) (by omega)
    have hdl := digitI_lt (t.getD (2 * i) 0)
    have hel := digitI_lt (t.getD (2 * i + 1) 0)
    have hs : parA t (2 * (i + 1)) = (parA t (2 * i)).set i (put4 (put4 0 d) e) := by
      rw [show 2 * (i + 1) = 2 * i + 1 + 1 by omega, parA, parA, show (2 * i + 1) / 2 = i by omega, show (2 * i) / 2 = i by omega, e0, ← hd, ← he, List.set_set]
      have : ((parA t (2 * i)).set i (put4 0 d)).getD i 0 = put4 0 d := by
        rw [List.getD_eq_getElem?_getD, List.getElem?_set_self (by omega)]; rfl
      rw [this]
    rw [hs]
    constructor
    · rw [List.drop_set_of_lt (by omega), ← List.drop_drop (i := 1), h1, show 32 - i = (32 - (i + 1)) + 1 by omega, List.replicate_succ]; rfl
    · rw [List.take_add_one, List.getElem?_set_self (by omega), List.take_set_of_le (Nat.le_refl i)]
      unfold hexL at h2 ⊢
      rw [List.flatMap_append, h2, Option.toList_some, List.flatMap_cons, List.flatMap_nil, List.append_nil, put4_hex (by omega) (by omega), hd, he, hex_dig hd0, hex_dig he0]
      rw [show 2 * (i + 1) = 2 * i + 1 + 1 by omega, List.take_add_one, List.take_add_one, List.append_assoc, List.getElem?_eq_getElem (show 2 * i < t.length by omega), List.getElem?_eq_getElem (show 2 * i + 1 < t.length by omega)]
      simp [List.getD, hl, show 2 * i < 64 by omega, show 2 * i + 1 < 64 by omega]
theorem hex_parA {t : List UInt8} (hl : t.length = 64) (h : ∀ j, j < 64 → 0 ≤ digitI (t.getD j 0)) : hexL (parA t 64) = t := by
  have := (par_law hl h 32 (by omega)).2
  rw [show 2 * 32 = 64 from rfl, List.take_of_length_le (Nat.le_of_eq (parA_len _ _)), List.take_of_length_le (by omega)] at this
  exact this
theorem hexd_inj {a b : Nat} (ha : a < 16) (hb : b < 16) (h : hexd a = hexd b) : a = b := by
  have := dig_hex a ha
  rw [h, dig_hex b hb] at this
  omega
theorem hexL_inj : ∀ {x y : List UInt8}, hexL x = hexL y → x = y
  | [], [], _ => rfl
  | [], b :: y, h => by simp [hexL, hex1] at h
  | a :: x, [], h => by simp [hexL, hex1] at h
  | a :: x, b :: y, h => by
    simp only [hexL, List.flatMap_cons, hex1, List.cons_append, List.nil_append, List.cons.injEq] at h
    obtain ⟨h1, h2, h3⟩ := h
    have ha := a.toNat_lt
    have hb := b.toNat_lt
    have e1 := hexd_inj (by omega) (by omega) h1
    have e2 := hexd_inj (by omega) (by omega) h2
    rw [show a = b from UInt8.toNat_inj.1 (by omega), hexL_inj (x := x) (y := y) h3]
theorem hexL_digits : ∀ (h : List UInt8) (j : Nat), j < (hexL h).length → 0 ≤ digitI ((hexL h).getD j 0)
  | [], j, hj => absurd hj (by simp [hexL])
  | a :: h, j, hj => by
    have ha := a.toNat_lt
    have e : hexL (a :: h) = hexd (a.toNat / 16) :: hexd (a.toNat % 16) :: hexL h := by simp [hexL, hex1]
    rw [e] at hj ⊢
    match j, hj with
    | 0, _ => show 0 ≤ digitI (hexd (a.toNat / 16)); rw [dig_hex _ (by omega)]; omega
    | 1, _ => show 0 ≤ digitI (hexd (a.toNat % 16)); rw [dig_hex _ (by omega)]; omega
    | j + 2, hj => exact hexL_digits h j (by simpa using hj)
theorem parse_hex {h : List UInt8} (hh : h.length = 32) : parseL (hexL h) = (h, 0, 0) := by
  have hl : (hexL h).length = 64 := by rw [hexL_len]; omega
  have hd : ∀ j, j < 64 → 0 ≤ digitI ((hexL h).getD j 0) := fun j hj => hexL_digits h j (by omega)
  have : parA (hexL h) 64 = h := hexL_inj (hex_parA hl hd)
  unfold parseL
  rw [pgo_good 64 0 (fun j _ hj => ⟨by omega, hd j (by omega)⟩), pgo, if_neg (by omega), this]
theorem parse_changed {h : List UInt8} (hh : h.length = 32) {i : Nat} (hi : i < 64) {c : UInt8} (hc : digitI c < 0) : parseL ((hexL h).take i ++ [c] ++ (hexL h).drop (i + 1)) = (List.replicate 32 0, 190, i) := by
  have hl : (hexL h).length = 64 := by rw [hexL_len]; omega
  have hlt : ((hexL h).take i).length = i := by rw [List.length_take]; omega
  refine pgo_stop (by simp [hl]; omega) ?_ 64 0 (by omega) (by omega) (fun j _ hj => ?_)
  · rw [List.getD_eq_getElem?_getD, List.getElem?_append_left (by simp; omega), List.getElem?_append_right (by omega), hlt, Nat.sub_self]; exact hc
  · rw [List.getD_eq_getElem?_getD, List.getElem?_append_left (by simp; omega), List.getElem?_append_left (by omega), List.getElem?_take_of_lt hj]
    have := hexL_digits h j (by omega)
    rwa [List.getD_eq_getElem?_getD] at this
end Go.EW
