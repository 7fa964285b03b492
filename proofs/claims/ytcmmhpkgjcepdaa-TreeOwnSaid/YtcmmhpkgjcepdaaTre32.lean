/- The digests of the whole pieces at a log's end go with it, as plain laws. -/
import Derived.Test.YtcmmhpkgjcepdaaTre31
namespace Go.Proofs.Ytcmmhpkgjcepdaa
open Go.EW
set_option linter.unusedVariables false
attribute [local irreducible] headH leafH nodeH splitN pathV
/-! the digests of the whole pieces at a log's end, by height -/
def offN (n i : Nat) : Nat := n - n % 2 ^ (i + 1)
def EdgeOk (E : List (List UInt8)) (es : List Ent) : Prop := (PathOk E ∧ E.length = 64) ∧ ∀ i, i < 64 → es.length / 2 ^ i % 2 = 1 → E.getD i [] = headH ((es.drop (offN es.length i)).take (2 ^ i))
theorem split_eq {n i : Nat} (h1 : 2 ^ i < n) (h2 : n ≤ 2 ^ (i + 1)) : splitN n = 2 ^ i := by
  have hp : 0 < 2 ^ i := Nat.two_pow_pos i
  obtain ⟨s1, s2, s3⟩ := splitN_spec (n := n) (by omega)
  obtain ⟨j, hj⟩ := splitN_pow n
  rw [hj] at s1 s2 s3 ⊢
  have a1 : j < i + 1 := (Nat.pow_lt_pow_iff_right (by decide : 1 < 2)).1 (Nat.lt_of_lt_of_le s2 h2)
  have a2 : i < j + 1 := (Nat.pow_lt_pow_iff_right (by decide : 1 < 2)).1 (Nat.lt_of_lt_of_le h1 (by rw [Nat.pow_succ]; omega))
  rw [show j = i by omega]
theorem head_join {es : List Ent} {i r : Nat} (hl : es.length = 2 ^ i + r) (h1 : 1 ≤ r) (h2 : r ≤ 2 ^ i) : headH es = nodeH (headH (es.take (2 ^ i))) (headH (es.drop (2 ^ i))) := by
  have hp : 0 < 2 ^ i := Nat.two_pow_pos i
  rw [headH_two (by omega), split_eq (n := es.length) (i := i) (by omega) (by rw [Nat.pow_succ]; omega)]
theorem bit_one {n i : Nat} (h : n / 2 ^ i % 2 = 1) : n % 2 ^ (i + 1) = 2 ^ i + n % 2 ^ i := by
  rw [Nat.mod_pow_succ, h]; omega
theorem bit_zero {n i : Nat} (h : n / 2 ^ i % 2 = 0) : n % 2 ^ (i + 1) = n % 2 ^ i := by
  rw [Nat.mod_pow_succ, h]; omega
/-- going up: what has come so far -/
def UpTo (es : List Ent) (i : Nat) (begun : Bool) (h : List UInt8) : Prop := begun = decide (es.length % 2 ^ i ≠ 0) ∧ (begun = true → h = headH (es.drop (es.length - es.length % 2 ^ i)))
theorem up_zero {es : List Ent} {h : List UInt8} : UpTo es 0 false h := by
  refine ⟨?_, fun hc => absurd hc (by decide)⟩
  rw [Nat.pow_zero, Nat.mod_one]; rfl
theorem up_skip {es : List Ent} {i : Nat} {begun : Bool} {h : List UInt8} (hu : UpTo es i begun h) (hb : es.length / 2 ^ i % 2 = 0) : UpTo es (i + 1) begun h := by
  unfold UpTo at hu ⊢
  rw [bit_zero hb]; exact hu
theorem up_first {es : List Ent} {E : List (List UInt8)} {i : Nat} {h : List UInt8} (he : EdgeOk E es) (hi : i < 64) (hu : UpTo es i false h) (hb : es.length / 2 ^ i % 2 = 1) : UpTo es (i + 1) true (E.getD i []) := by
  have h0 : es.length % 2 ^ i = 0 := by
    have := hu.1
    simpa using this
  have hp : 0 < 2 ^ i := Nat.two_pow_pos i
  have h1 := bit_one hb
  have hle := Nat.mod_le es.length (2 ^ (i + 1))
  refine ⟨?_, fun _ => ?_⟩
  · rw [h1]; exact (decide_eq_true (by omega)).symm
  · rw [he.2 i hi hb]
    unfold offN
    rw [List.take_of_length_le (by rw [List.length_drop]; omega)]
theorem up_node {es : List Ent} {E : List (List UInt8)} {i : Nat} {h : List UInt8} (he : EdgeOk E es) (hi : i < 64) (hu : UpTo es i true h) (hb : es.length / 2 ^ i % 2 = 1) : UpTo es (i + 1) true (nodeH (E.getD i []) h) := by
  have h0 : es.length % 2 ^ i ≠ 0 := by
    have := hu.1
    simpa using this
  have hp : 0 < 2 ^ i := Nat.two_pow_pos i
  have h1 := bit_one hb
  have hle := Nat.mod_le es.length (2 ^ (i + 1))
  have hlt := Nat.mod_lt es.length hp
  refine ⟨?_, fun _ => ?_⟩
  · rw [h1]; exact (decide_eq_true (by omega)).symm
  · rw [he.2 i hi hb, hu.2 rfl]
    unfold offN
    rw [head_join (es := es.drop (es.length - es.length % 2 ^ (i + 1))) (i := i) (r := es.length % 2 ^ i) (by rw [List.length_drop]; omega) (by omega) (by omega), List.drop_drop]
    rw [show es.length - es.length % 2 ^ (i + 1) + 2 ^ i = es.length - es.length % 2 ^ i by omega]
theorem up_end {es : List Ent} {begun : Bool} {h : List UInt8} (hu : UpTo es 64 begun h) (h1 : 1 ≤ es.length) (hl : es.length < 2 ^ 64) : h = headH es := by
  have hm : es.length % 2 ^ 64 = es.length := Nat.mod_eq_of_lt hl
  have hb : begun = true := by rw [hu.1, hm]; exact decide_eq_true (by omega)
  have := hu.2 hb
  rw [hm, Nat.sub_self, List.drop_zero] at this
  exact this
/-- adding an entry, going up: all lower pieces are whole -/
def Carry (es : List Ent) (e : Ent) (i : Nat) (h : List UInt8) : Prop := es.length % 2 ^ i = 2 ^ i - 1 ∧ h = headH ((es ++ [e]).drop (es.length - (2 ^ i - 1)))
theorem carry_zero {es : List Ent} {e : Ent} : Carry es e 0 (leafH e) := by
  refine ⟨by rw [Nat.pow_zero, Nat.mod_one], ?_⟩
  rw [Nat.pow_zero, Nat.sub_self, Nat.sub_zero, List.drop_left' rfl, headH_one]
theorem carry_step {es : List Ent} {e : Ent} {E : List (List UInt8)} {i : Nat} {h : List UInt8} (he : EdgeOk E es) (hi : i < 64) (hc : Carry es e i h) (hb : es.length / 2 ^ i % 2 = 1) : Carry es e (i + 1) (nodeH (E.getD i []) h) := by
  have hp : 0 < 2 ^ i := Nat.two_pow_pos i
  have h1 := bit_one hb
  have hle := Nat.mod_le es.length (2 ^ (i + 1))
  have hc1 := hc.1
  have hpp : 2 ^ (i + 1) = 2 ^ i + 2 ^ i := by rw [Nat.pow_succ]; omega
  refine ⟨by omega, ?_⟩
  rw [he.2 i hi hb, hc.2]
  have hoff : offN es.length i = es.length - (2 ^ (i + 1) - 1) := by unfold offN; omega
  rw [hoff]
  rw [head_join (es := (es ++ [e]).drop (es.length - (2 ^ (i + 1) - 1))) (i := i) (r := 2 ^ i) (by rw [List.length_drop, List.length_append, List.length_singleton]; omega) (by omega) (by omega), List.drop_drop]
  rw [show es.length - (2 ^ (i + 1) - 1) + 2 ^ i = es.length - (2 ^ i - 1) by omega]
  rw [show (es ++ [e]).drop (es.length - (2 ^ (i + 1) - 1)) = es.drop (es.length - (2 ^ (i + 1) - 1)) ++ [e] from List.drop_append_of_le_length (by omega), List.take_append_of_le_length (by rw [List.length_drop]; omega)]
theorem carry_end {es : List Ent} {e : Ent} {E : List (List UInt8)} {i : Nat} {h : List UInt8} (he : EdgeOk E es) (hh : h.length = 32) (hi : i < 64) (hc : Carry es e i h) (hb : es.length / 2 ^ i % 2 = 0) : EdgeOk (E.set i h) (es ++ [e]) := by
  have hp : 0 < 2 ^ i := Nat.two_pow_pos i
  have h1 := bit_zero hb
  have hc1 := hc.1
  have hpp : 2 ^ (i + 1) = 2 ^ i + 2 ^ i := by rw [Nat.pow_succ]; omega
  have hle := Nat.mod_le es.length (2 ^ (i + 1))
  refine ⟨⟨he.1.1.set hh i, by simp [he.1.2]⟩, fun j hj hbj => ?_⟩
  rw [List.length_append, List.length_singleton] at hbj ⊢
  have hm0 : (es.length + 1) % 2 ^ i = 0 := by
    rw [Nat.add_mod, hc1]
    rcases Nat.lt_or_ge 1 (2 ^ i) with hx | hx
    · rw [Nat.mod_eq_of_lt hx, show 2 ^ i - 1 + 1 = 2 ^ i by omega, Nat.mod_self]
    · have : 2 ^ i = 1 := by omega
      rw [this, Nat.mod_one]
  have hm1 : (es.length + 1) % 2 ^ (i + 1) = 2 ^ i := by
    rw [Nat.add_mod, h1, hc1, Nat.mod_eq_of_lt (show 1 < 2 ^ (i + 1) by omega), show 2 ^ i - 1 + 1 = 2 ^ i by omega, Nat.mod_eq_of_lt (by omega)]
  rcases Nat.lt_trichotomy j i with hji | hji | hji
  · exfalso
    have hd : 2 ^ (j + 1) ∣ es.length + 1 := Nat.dvd_trans (Nat.pow_dvd_pow 2 (by omega : j + 1 ≤ i)) (Nat.dvd_of_mod_eq_zero hm0)
    have h3 := bit_one hbj
    rw [Nat.mod_eq_zero_of_dvd hd] at h3
    have := Nat.two_pow_pos j
    omega
  · subst hji
    rw [List.getD_eq_getElem?_getD, List.getElem?_set_self (by rw [he.1.2]; exact hj), Option.getD_some, hc.2]
    have hoff : offN (es.length + 1) j = es.length - (2 ^ j - 1) := by
      unfold offN
      rw [hm1]; omega
    rw [hoff, List.take_of_length_le (by rw [List.length_drop, List.length_append, List.length_singleton]; omega)]
  · have hnd : ∀ k, i + 1 ≤ k → ¬ 2 ^ k ∣ es.length + 1 := fun k hk hd => by
      have := Nat.mod_eq_zero_of_dvd (Nat.dvd_trans (Nat.pow_dvd_pow 2 hk) hd)
      omega
    have hbj2 : es.length / 2 ^ j % 2 = 1 := by
      rwa [Nat.succ_div_of_not_dvd (hnd j (by omega))] at hbj
    have h3 := bit_one hbj2
    have hlej := Nat.mod_le es.length (2 ^ (j + 1))
    have hoff : offN (es.length + 1) j = offN es.length j := by
      unfold offN
      have e1 := Nat.div_add_mod (es.length + 1) (2 ^ (j + 1))
      have e2 := Nat.div_add_mod es.length (2 ^ (j + 1))
      rw [Nat.succ_div_of_not_dvd (hnd (j + 1) (by omega))] at e1
      omega
    rw [List.getD_eq_getElem?_getD, List.getElem?_set_ne (by omega), ← List.getD_eq_getElem?_getD, he.2 j hj hbj2, hoff]
    unfold offN
    rw [List.drop_append_of_le_length (by omega), List.take_append_of_le_length (by rw [List.length_drop]; omega)]
theorem carry_stop {es : List Ent} {e : Ent} {h : List UInt8} (hc : Carry es e 64 h) (hl : es.length < 2 ^ 63) : False := by
  have hm : es.length % 2 ^ 64 = es.length := Nat.mod_eq_of_lt (by omega)
  have := hc.1
  rw [hm] at this
  omega
theorem edge_new : EdgeOk (List.replicate 64 (List.replicate 32 0)) [] := by
  refine ⟨⟨fun x hx => ?_, by simp⟩, fun i hi hb => ?_⟩
  · rw [List.eq_of_mem_replicate hx]; simp
  · simp at hb
end Go.Proofs.Ytcmmhpkgjcepdaa
