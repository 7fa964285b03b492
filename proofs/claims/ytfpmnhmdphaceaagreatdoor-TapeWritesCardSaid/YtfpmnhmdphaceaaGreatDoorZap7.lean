/- A part of this claim: laws of the tape's functions and of plain lists; no conditions beyond those that the theorems name. -/
import Derived.Test.YtfpmnhmdphaceaaGreatDoorZap6
import Derived.Test.YtfpmnhmdphaceaaGreatDoorZadAll
namespace Go.Proofs.YtfpmnhmdphaceaaGreatDoor
open Go.EW
attribute [local irreducible] EW.W EW.L EW.fin block8 outB shaL
set_option linter.unusedVariables false
set_option linter.unusedSimpArgs false
theorem fb_cons (v i : Nat) : ∀ j, fb v (i + 1) (j + 1) = UInt8.ofNat (v / 2 ^ (8 * i)) :: fb v i j
  | 0 => by simp [fb]
  | j + 1 => by
    rw [fb, fb_cons v i j, fb]
    rw [show i + 1 - 1 - (j + 1) = i - 1 - j by omega]
    rfl
theorem ofNat_mod (a : Nat) : UInt8.ofNat (a % 256) = UInt8.ofNat a := by
  apply UInt8.toNat_inj.1
  rw [UInt8.toNat_ofNat', UInt8.toNat_ofNat']
  omega
/-- a fresh literal is a row of its own -/
theorem row_lit {W w : World} {S : List Seg} {T b : Nat} {cs : List Value} (hl : cs.length = 1) (H : St W w (blk0 b cs T :: S)) : St W w (row T 1 (some ⟨b, 0, none⟩) 1 1 cs :: S) :=
  H.imp fun _ h => row_of_blk0 h (by rw [hl]) (List.take_length) (by rw [hl]) (Nat.le_refl _) (by decide)
theorem Form_ok {W w : World} {F : List Seg} (H : St W w F) {v : Nat} (hv : v < 18446744073709551616) :
    Ok Tryz.prog 35 [N64 v].toArray w (fun r w' => ∃ a c, r = .slice a (formL v).length c ∧ St W w' (row 5 1 a (formL v).length c ((formL v).map B) :: F)) := by
  refine enter (n := 20) (rs := #[.tmp 2]) Tryz.func35 rfl rfl rfl rfl ?_
  refine w_seq ?_
  refine w_region ?_
  refine l_pslice rfl rfl ?_
  refine l_nil ?_
  refine w_seq ?_
  refine w_region ?_
  refine l_pslice rfl rfl ?_
  refine l_nil ?_
  refine w_seq ?_
  refine w_block ?_
  refine w_loopG (G := Nat × Option Addr × Nat) [0, 3, 4, 5, 6, 7, 8, 9, 10, 11, 12, 13] (fun ⟨i, a3, c3⟩ => [(0, N64 (v / 2 ^ (8 * i))), (3, .slice a3 i c3)]) (fun m ⟨i, a3, c3⟩ w => (m + i = 8 ∧ kgo v (8 - i) i = klen v) ∧ St W w (row 5 1 a3 i c3 ((fb v i i).map B) :: F)) (fun _ => rfl) ?_ ?_
  · exact ⟨8, (0, none, 0), ⟨by rw [Nat.mul_zero, Nat.pow_zero, Nat.div_one]; exact rfl, rfl, trivial⟩, ⟨rfl, rfl⟩, St.newRow H⟩
  rintro m ⟨i, a3, c3⟩ ρ1 w ⟨⟨hmi, hkl⟩, H⟩
  refine w_seq ?_
  refine w_seq ?_
  refine w_region ?_
  refine l_pint rfl rfl ?_
  refine l_pbool rfl rfl ?_
  refine l_nil ?_
  refine w_cond rfl (fun c1 => ?_) (fun c1 => ?_)
  · try simp only [decide_eq_true_eq, decide_eq_false_iff_not, Bool.not_eq_true', Bool.not_eq_false', beq_iff_eq, beq_eq_false_iff_ne, bne_iff_ne, bne_eq_false_iff_eq, ne_eq, Int.not_lt, Int.not_le] at c1
    have hi8 : i < 8 := by
      rcases Nat.lt_or_ge i 8 with h | h
      · exact h
      have e8 : i = 8 := by omega
      subst e8
      rw [show v / 2 ^ (8 * 8) = 0 from Nat.div_eq_of_lt hv] at c1
      exact absurd c1 (by decide)
    refine w_skip ?_
    refine w_block ?_
    refine w_seq ?_
    refine w_region ?_
    refine l_pint rfl rfl ?_
    refine l_v rfl (q_remN (a := v / 2 ^ (8 * i)) (b := 256) rfl rfl rfl (by omega)) ?_
    refine l_v rfl (q_lowN (M := v / 2 ^ (8 * i) % 256) rfl (by kernel_rfl) in_5 rfl) ?_
    refine b_buildSlice (cs := [B (UInt8.ofNat (v / 2 ^ (8 * i) % 256))]) rfl el_50 ze_5 rfl rfl rfl H (fun b9 w H => ?_)
    rw [ofNat_mod] at H
    have H := row_lit rfl H
    refine l_pslice rfl rfl ?_
    refine b_append rfl el_50 ze_5 rfl rfl rfl H 0 rfl (ys := (fb v i i).map B) ((H.rowInv (i := 1) rfl).2.2.2.2) (by simp [fb_len]) (oneB _) ⟨by omega, by simp only [maxLen]; omega⟩ (fun a11 c11 w H => ?_)
    refine l_pslice rfl rfl ?_
    refine l_nil ?_
    refine w_region ?_
    refine l_pint rfl rfl ?_
    refine l_v rfl (q_quoN (a := v / 2 ^ (8 * i)) (b := 256) rfl rfl rfl (by omega) (Nat.lt_of_le_of_lt (Nat.div_le_self _ _) hv)) ?_
    refine l_pint rfl rfl ?_
    refine l_nil ?_
    refine ⟨by repeat' first | exact Agr.mix _ _ _ | exact Agr.refl _ _ | refine Agr.inner rfl ?_ | refine Agr.upd rfl ?_ | refine Agr.updL' rfl ?_, ?_⟩
    refine ⟨m - 1, (i + 1, a11, c11), by omega, ⟨?_, congrArg (fun x => Value.slice a11 x c11) (by omega), trivial⟩, ⟨by omega, ?_⟩, ?_⟩
    · rw [show 2 ^ (8 * (i + 1)) = 2 ^ (8 * i) * 256 by rw [Nat.mul_add, Nat.pow_add], ← Nat.div_div_eq_div_mul]
      exact rfl
    · rw [← hkl, show 8 - i = (8 - (i + 1)) + 1 by omega]; exact (kgo_on (by omega)).symm
    rw [fb_cons, List.map_cons, Nat.add_comm i 1]
    exact H.erase 1
  try simp only [decide_eq_true_eq, decide_eq_false_iff_not, Bool.not_eq_true', Bool.not_eq_false', beq_iff_eq, beq_eq_false_iff_ne, bne_iff_ne, bne_eq_false_iff_eq, ne_eq, Int.not_lt, Int.not_le] at c1
  have hz : v / 2 ^ (8 * i) = 0 := by
    obtain ⟨q, hq⟩ : ∃ q, q = v / 2 ^ (8 * i) := ⟨_, rfl⟩
    rw [← hq] at c1 ⊢
    omega
  have ei : i = klen v := by
    rw [← hkl]
    rcases Nat.lt_or_ge i 8 with h | h
    · rw [show 8 - i = (7 - i) + 1 by omega]; exact (kgo_stop hz).symm
    rw [show 8 - i = 0 by omega]; rfl
  refine w_exit ?_
  refine w_seq ?_
  refine w_region ?_
  refine l_pslice rfl rfl ?_
  refine l_v rfl (q_lenSlice rfl el_50 rfl) ?_
  refine l_v rfl (q_lowN (M := i) rfl (by kernel_rfl) in_5 rfl) ?_
  refine b_buildSlice (cs := [B (UInt8.ofNat i)]) rfl el_50 ze_5 rfl rfl rfl H (fun b17 w H => ?_)
  have H := row_lit rfl H
  refine l_pslice rfl rfl ?_
  refine b_append rfl el_50 ze_5 rfl rfl rfl H 0 rfl (ys := (fb v i i).map B) ((H.rowInv (i := 1) rfl).2.2.2.2) (by simp [fb_len]) (oneB _) ⟨by omega, by simp only [maxLen]; omega⟩ (fun a19 c19 w H => ?_)
  refine l_pslice rfl rfl ?_
  refine l_nil ?_
  refine w_ret ?_
  refine fin1 (v := .slice _ _ _) rfl ?_
  have hfl : (formL v).length = 1 + i := by unfold formL; rw [← ei, List.length_cons, fb_len]; omega
  refine ⟨a19, c19, congrArg (fun x => Value.slice a19 x c19) hfl.symm, ?_⟩
  rw [hfl, show formL v = UInt8.ofNat i :: fb v i i from by rw [ei]; rfl]
  exact H.erase 1
theorem rput_ok {W w : World} {F : List Seg} {a : Option Addr} {c n : Nat} {bs : List UInt8} (H : St W w (row 5 1 a bs.length c (bs.map B) :: F)) (hn : n ≤ 9223372036854775807) (hb : bs.length ≤ 140737488355300) :
    Ok Tryz.prog 34 [.slice a bs.length c, .int .i64 (n : Int)].toArray w (fun r w' => ∃ a' c', r = .slice a' (bs ++ formL n).length c' ∧ St W w' (row 5 1 a' (bs ++ formL n).length c' ((bs ++ formL n).map B) :: F)) := by
  refine enter (n := 10) (rs := #[.tmp 4]) Tryz.func34 rfl rfl rfl rfl ?_
  refine w_seq ?_
  refine w_region ?_
  refine l_pslice rfl rfl ?_
  refine l_nil ?_
  refine w_seq ?_
  refine w_region ?_
  refine l_pslice rfl rfl ?_
  refine l_pint rfl rfl ?_
  refine l_v rfl (q_convIntIn rfl (by kernel_rfl) in_45 rfl (by simp only [inK]; omega)) ?_
  refine b_call rfl cb_35 rfl (Form_ok H (v := n) (by omega)) (fun v w hv => ?_)
  obtain ⟨a8, c8, rfl, H⟩ := hv
  have hfl := formL_len n
  refine b_append rfl el_50 ze_5 rfl rfl rfl H 1 rfl (ys := (formL n).map B) ((H.rowInv (i := 0) rfl).2.2.2.2) (by simp) (EW.oneB _) ⟨by omega, by simp only [maxLen]; omega⟩ (fun a9 c9 w H => ?_)
  refine l_pslice rfl rfl ?_
  refine l_nil ?_
  refine w_ret ?_
  refine fin1 (v := .slice _ _ _) rfl ?_
  refine ⟨a9, c9, congrArg (fun z => Value.slice a9 z c9) (by simp), ?_⟩
  rw [List.length_append, List.map_append]
  exact H.drop1
theorem rputZ_ok {W w : World} {F : List Seg} {a : Option Addr} {c : Nat} {x : Int} {bs : List UInt8} (H : St W w (row 5 1 a bs.length c (bs.map B) :: F)) (hx : 0 ≤ x ∧ x ≤ 9223372036854775807) (hb : bs.length ≤ 140737488355300) :
    Ok Tryz.prog 34 [.slice a bs.length c, I x].toArray w (fun r w' => ∃ a' c', r = .slice a' (bs ++ formL x.toNat).length c' ∧ St W w' (row 5 1 a' (bs ++ formL x.toNat).length c' ((bs ++ formL x.toNat).map B) :: F)) := by
  have h := rput_ok (n := x.toNat) H (by omega) hb
  rw [Int.toNat_of_nonneg hx.1] at h
  exact h
def usesL : List (List UInt8) := [[], [46, 99, 46, 46, 46, 46, 46, 111, 46], [46, 99, 46, 46, 46, 46, 46, 46, 46], [46, 46, 105, 46, 46, 107, 46, 46, 46], [46, 46, 105, 46, 46, 46, 46, 46, 46], [46, 46, 105, 46, 46, 46, 46, 46, 46], [46, 46, 105, 97, 110, 46, 46, 46, 46], [110, 46, 46, 97, 46, 46, 46, 46, 98], [110, 46, 46, 46, 46, 107, 46, 46, 46], [110, 46, 46, 46, 46, 46, 46, 46, 46], [110, 46, 46, 46, 46, 107, 100, 46, 46], [46, 46, 46, 46, 110, 46, 46, 46, 46], [110, 99, 46, 46, 46, 46, 46, 111, 46]]
def usesS (k : Int) : List UInt8 := if k < 1 ∨ 13 ≤ k then [] else usesL.getD k.toNat []
theorem usesS_spec (k : Int) : (usesN k = 0 → usesS k = []) ∧ (¬ usesN k = 0 → (usesS k).length = 9 ∧ ∀ i, i < 9 → (!((usesS k).getD i 0).toNat == 46) = bitN (usesN k) i) := by
  unfold usesN usesS
  split
  · exact ⟨fun _ => rfl, fun h => absurd rfl h⟩
  rename_i h
  have h1 : k.toNat < 13 := by omega
  have hall : ∀ j, j < 13 → (usesT.getD j 0 = 0 → usesL.getD j [] = []) ∧ (¬ usesT.getD j 0 = 0 → (usesL.getD j []).length = 9 ∧ ∀ i, i < 9 → (!((usesL.getD j []).getD i 0).toNat == 46) = bitN (usesT.getD j 0) i) := by decide
  exact hall _ h1
theorem Uses_ok {w : World} (k : Int) :
    Ok Tryz.prog 32 [I k].toArray w (fun r w' => r = .string ⟨(usesS k).toArray⟩ ∧ w' = w) := by
  refine enter (n := 27) (rs := #[.tmp 2]) Tryz.func32 rfl rfl rfl rfl ?_
  refine w_seq ?_
  refine w_region ?_
  refine l_pstr rfl rfl ?_
  refine l_nil ?_
  refine w_seq ?_
  refine w_seq ?_
  refine w_region ?_
  refine l_pint rfl rfl ?_
  refine l_nil ?_
  refine w_block ?_
  refine w_seq ?_
  refine w_region ?_
  refine l_pbool rfl rfl ?_
  refine l_pbool rfl rfl ?_
  refine l_nil ?_
  refine w_cond rfl (fun c1 => ?_) (fun c1 => ?_)
  · try simp only [sH] at c1
    refine w_seq ?_
    refine w_region ?_
    refine l_pstr rfl rfl ?_
    refine l_nil ?_
    refine w_ret ?_
    refine fin1 (v := .string _) rfl ?_
    first
      | (exfalso; omega)
      | exact ⟨by rw [show k = 1 by omega] <;> rfl, rfl⟩
      | exact ⟨by rw [show k = 2 by omega] <;> rfl, rfl⟩
      | exact ⟨by rw [show k = 3 by omega] <;> rfl, rfl⟩
      | exact ⟨by rw [show k = 4 by omega] <;> rfl, rfl⟩
      | exact ⟨by rw [show k = 5 by omega] <;> rfl, rfl⟩
      | exact ⟨by rw [show k = 6 by omega] <;> rfl, rfl⟩
      | exact ⟨by rw [show k = 7 by omega] <;> rfl, rfl⟩
      | exact ⟨by rw [show k = 8 by omega] <;> rfl, rfl⟩
      | exact ⟨by rw [show k = 9 by omega] <;> rfl, rfl⟩
      | exact ⟨by rw [show k = 10 by omega] <;> rfl, rfl⟩
      | exact ⟨by rw [show k = 11 by omega] <;> rfl, rfl⟩
      | exact ⟨by rw [show k = 12 by omega] <;> rfl, rfl⟩
      | exact ⟨by rw [usesS, if_pos (by omega)] <;> rfl, rfl⟩
  try simp only [sH] at c1
  refine w_seq ?_
  refine w_region ?_
  refine l_pbool rfl rfl ?_
  refine l_pbool rfl rfl ?_
  refine l_nil ?_
  refine w_cond rfl (fun c2 => ?_) (fun c2 => ?_)
  · try simp only [sH] at c2
    refine w_seq ?_
    refine w_region ?_
    refine l_pstr rfl rfl ?_
    refine l_nil ?_
    refine w_ret ?_
    refine fin1 (v := .string _) rfl ?_
    first
      | (exfalso; omega)
      | exact ⟨by rw [show k = 1 by omega] <;> rfl, rfl⟩
      | exact ⟨by rw [show k = 2 by omega] <;> rfl, rfl⟩
      | exact ⟨by rw [show k = 3 by omega] <;> rfl, rfl⟩
      | exact ⟨by rw [show k = 4 by omega] <;> rfl, rfl⟩
      | exact ⟨by rw [show k = 5 by omega] <;> rfl, rfl⟩
      | exact ⟨by rw [show k = 6 by omega] <;> rfl, rfl⟩
      | exact ⟨by rw [show k = 7 by omega] <;> rfl, rfl⟩
      | exact ⟨by rw [show k = 8 by omega] <;> rfl, rfl⟩
      | exact ⟨by rw [show k = 9 by omega] <;> rfl, rfl⟩
      | exact ⟨by rw [show k = 10 by omega] <;> rfl, rfl⟩
      | exact ⟨by rw [show k = 11 by omega] <;> rfl, rfl⟩
      | exact ⟨by rw [show k = 12 by omega] <;> rfl, rfl⟩
      | exact ⟨by rw [usesS, if_pos (by omega)] <;> rfl, rfl⟩
  try simp only [sH] at c2
  refine w_seq ?_
  refine w_region ?_
  refine l_pbool rfl rfl ?_
  refine l_pbool rfl rfl ?_
  refine l_nil ?_
  refine w_cond rfl (fun c3 => ?_) (fun c3 => ?_)
  · try simp only [sH] at c3
    refine w_seq ?_
    refine w_region ?_
    refine l_pstr rfl rfl ?_
    refine l_nil ?_
    refine w_ret ?_
    refine fin1 (v := .string _) rfl ?_
    first
      | (exfalso; omega)
      | exact ⟨by rw [show k = 1 by omega] <;> rfl, rfl⟩
      | exact ⟨by rw [show k = 2 by omega] <;> rfl, rfl⟩
      | exact ⟨by rw [show k = 3 by omega] <;> rfl, rfl⟩
      | exact ⟨by rw [show k = 4 by omega] <;> rfl, rfl⟩
      | exact ⟨by rw [show k = 5 by omega] <;> rfl, rfl⟩
      | exact ⟨by rw [show k = 6 by omega] <;> rfl, rfl⟩
      | exact ⟨by rw [show k = 7 by omega] <;> rfl, rfl⟩
      | exact ⟨by rw [show k = 8 by omega] <;> rfl, rfl⟩
      | exact ⟨by rw [show k = 9 by omega] <;> rfl, rfl⟩
      | exact ⟨by rw [show k = 10 by omega] <;> rfl, rfl⟩
      | exact ⟨by rw [show k = 11 by omega] <;> rfl, rfl⟩
      | exact ⟨by rw [show k = 12 by omega] <;> rfl, rfl⟩
      | exact ⟨by rw [usesS, if_pos (by omega)] <;> rfl, rfl⟩
  try simp only [sH] at c3
  refine w_seq ?_
  refine w_seq ?_
  refine w_region ?_
  refine l_pbool rfl rfl ?_
  refine l_pbool rfl rfl ?_
  refine l_nil ?_
  refine w_cond rfl (fun c4 => ?_) (fun c4 => ?_)
  · try simp only [sH] at c4
    refine w_skip ?_
    refine w_cond rfl (fun c5 => ?_) (fun c5 => ?_)
    · try simp only [sH] at c5
      refine w_seq ?_
      refine w_region ?_
      refine l_pstr rfl rfl ?_
      refine l_nil ?_
      refine w_ret ?_
      refine fin1 (v := .string _) rfl ?_
      first
        | (exfalso; omega)
        | exact ⟨by rw [show k = 1 by omega] <;> rfl, rfl⟩
        | exact ⟨by rw [show k = 2 by omega] <;> rfl, rfl⟩
        | exact ⟨by rw [show k = 3 by omega] <;> rfl, rfl⟩
        | exact ⟨by rw [show k = 4 by omega] <;> rfl, rfl⟩
        | exact ⟨by rw [show k = 5 by omega] <;> rfl, rfl⟩
        | exact ⟨by rw [show k = 6 by omega] <;> rfl, rfl⟩
        | exact ⟨by rw [show k = 7 by omega] <;> rfl, rfl⟩
        | exact ⟨by rw [show k = 8 by omega] <;> rfl, rfl⟩
        | exact ⟨by rw [show k = 9 by omega] <;> rfl, rfl⟩
        | exact ⟨by rw [show k = 10 by omega] <;> rfl, rfl⟩
        | exact ⟨by rw [show k = 11 by omega] <;> rfl, rfl⟩
        | exact ⟨by rw [show k = 12 by omega] <;> rfl, rfl⟩
        | exact ⟨by rw [usesS, if_pos (by omega)] <;> rfl, rfl⟩
    try simp only [sH] at c5
    refine w_seq ?_
    refine w_region ?_
    refine l_pbool rfl rfl ?_
    refine l_pbool rfl rfl ?_
    refine l_nil ?_
    refine w_cond rfl (fun c6 => ?_) (fun c6 => ?_)
    · try simp only [sH] at c6
      refine w_seq ?_
      refine w_region ?_
      refine l_pstr rfl rfl ?_
      refine l_nil ?_
      refine w_ret ?_
      refine fin1 (v := .string _) rfl ?_
      first
        | (exfalso; omega)
        | exact ⟨by rw [show k = 1 by omega] <;> rfl, rfl⟩
        | exact ⟨by rw [show k = 2 by omega] <;> rfl, rfl⟩
        | exact ⟨by rw [show k = 3 by omega] <;> rfl, rfl⟩
        | exact ⟨by rw [show k = 4 by omega] <;> rfl, rfl⟩
        | exact ⟨by rw [show k = 5 by omega] <;> rfl, rfl⟩
        | exact ⟨by rw [show k = 6 by omega] <;> rfl, rfl⟩
        | exact ⟨by rw [show k = 7 by omega] <;> rfl, rfl⟩
        | exact ⟨by rw [show k = 8 by omega] <;> rfl, rfl⟩
        | exact ⟨by rw [show k = 9 by omega] <;> rfl, rfl⟩
        | exact ⟨by rw [show k = 10 by omega] <;> rfl, rfl⟩
        | exact ⟨by rw [show k = 11 by omega] <;> rfl, rfl⟩
        | exact ⟨by rw [show k = 12 by omega] <;> rfl, rfl⟩
        | exact ⟨by rw [usesS, if_pos (by omega)] <;> rfl, rfl⟩
    try simp only [sH] at c6
    refine w_seq ?_
    refine w_region ?_
    refine l_pbool rfl rfl ?_
    refine l_pbool rfl rfl ?_
    refine l_nil ?_
    refine w_cond rfl (fun c7 => ?_) (fun c7 => ?_)
    · try simp only [sH] at c7
      refine w_seq ?_
      refine w_region ?_
      refine l_pstr rfl rfl ?_
      refine l_nil ?_
      refine w_ret ?_
      refine fin1 (v := .string _) rfl ?_
      first
        | (exfalso; omega)
        | exact ⟨by rw [show k = 1 by omega] <;> rfl, rfl⟩
        | exact ⟨by rw [show k = 2 by omega] <;> rfl, rfl⟩
        | exact ⟨by rw [show k = 3 by omega] <;> rfl, rfl⟩
        | exact ⟨by rw [show k = 4 by omega] <;> rfl, rfl⟩
        | exact ⟨by rw [show k = 5 by omega] <;> rfl, rfl⟩
        | exact ⟨by rw [show k = 6 by omega] <;> rfl, rfl⟩
        | exact ⟨by rw [show k = 7 by omega] <;> rfl, rfl⟩
        | exact ⟨by rw [show k = 8 by omega] <;> rfl, rfl⟩
        | exact ⟨by rw [show k = 9 by omega] <;> rfl, rfl⟩
        | exact ⟨by rw [show k = 10 by omega] <;> rfl, rfl⟩
        | exact ⟨by rw [show k = 11 by omega] <;> rfl, rfl⟩
        | exact ⟨by rw [show k = 12 by omega] <;> rfl, rfl⟩
        | exact ⟨by rw [usesS, if_pos (by omega)] <;> rfl, rfl⟩
    try simp only [sH] at c7
    refine w_seq ?_
    refine w_region ?_
    refine l_pbool rfl rfl ?_
    refine l_pbool rfl rfl ?_
    refine l_nil ?_
    refine w_cond rfl (fun c8 => ?_) (fun c8 => ?_)
    · try simp only [sH] at c8
      refine w_seq ?_
      refine w_region ?_
      refine l_pstr rfl rfl ?_
      refine l_nil ?_
      refine w_ret ?_
      refine fin1 (v := .string _) rfl ?_
      first
        | (exfalso; omega)
        | exact ⟨by rw [show k = 1 by omega] <;> rfl, rfl⟩
        | exact ⟨by rw [show k = 2 by omega] <;> rfl, rfl⟩
        | exact ⟨by rw [show k = 3 by omega] <;> rfl, rfl⟩
        | exact ⟨by rw [show k = 4 by omega] <;> rfl, rfl⟩
        | exact ⟨by rw [show k = 5 by omega] <;> rfl, rfl⟩
        | exact ⟨by rw [show k = 6 by omega] <;> rfl, rfl⟩
        | exact ⟨by rw [show k = 7 by omega] <;> rfl, rfl⟩
        | exact ⟨by rw [show k = 8 by omega] <;> rfl, rfl⟩
        | exact ⟨by rw [show k = 9 by omega] <;> rfl, rfl⟩
        | exact ⟨by rw [show k = 10 by omega] <;> rfl, rfl⟩
        | exact ⟨by rw [show k = 11 by omega] <;> rfl, rfl⟩
        | exact ⟨by rw [show k = 12 by omega] <;> rfl, rfl⟩
        | exact ⟨by rw [usesS, if_pos (by omega)] <;> rfl, rfl⟩
    try simp only [sH] at c8
    refine w_seq ?_
    refine w_region ?_
    refine l_pbool rfl rfl ?_
    refine l_pbool rfl rfl ?_
    refine l_nil ?_
    refine w_cond rfl (fun c9 => ?_) (fun c9 => ?_)
    · try simp only [sH] at c9
      refine w_seq ?_
      refine w_region ?_
      refine l_pstr rfl rfl ?_
      refine l_nil ?_
      refine w_ret ?_
      refine fin1 (v := .string _) rfl ?_
      first
        | (exfalso; omega)
        | exact ⟨by rw [show k = 1 by omega] <;> rfl, rfl⟩
        | exact ⟨by rw [show k = 2 by omega] <;> rfl, rfl⟩
        | exact ⟨by rw [show k = 3 by omega] <;> rfl, rfl⟩
        | exact ⟨by rw [show k = 4 by omega] <;> rfl, rfl⟩
        | exact ⟨by rw [show k = 5 by omega] <;> rfl, rfl⟩
        | exact ⟨by rw [show k = 6 by omega] <;> rfl, rfl⟩
        | exact ⟨by rw [show k = 7 by omega] <;> rfl, rfl⟩
        | exact ⟨by rw [show k = 8 by omega] <;> rfl, rfl⟩
        | exact ⟨by rw [show k = 9 by omega] <;> rfl, rfl⟩
        | exact ⟨by rw [show k = 10 by omega] <;> rfl, rfl⟩
        | exact ⟨by rw [show k = 11 by omega] <;> rfl, rfl⟩
        | exact ⟨by rw [show k = 12 by omega] <;> rfl, rfl⟩
        | exact ⟨by rw [usesS, if_pos (by omega)] <;> rfl, rfl⟩
    try simp only [sH] at c9
    refine w_seq ?_
    refine w_region ?_
    refine l_pbool rfl rfl ?_
    refine l_pbool rfl rfl ?_
    refine l_nil ?_
    refine w_cond rfl (fun c10 => ?_) (fun c10 => ?_)
    · try simp only [sH] at c10
      refine w_seq ?_
      refine w_region ?_
      refine l_pstr rfl rfl ?_
      refine l_nil ?_
      refine w_ret ?_
      refine fin1 (v := .string _) rfl ?_
      first
        | (exfalso; omega)
        | exact ⟨by rw [show k = 1 by omega] <;> rfl, rfl⟩
        | exact ⟨by rw [show k = 2 by omega] <;> rfl, rfl⟩
        | exact ⟨by rw [show k = 3 by omega] <;> rfl, rfl⟩
        | exact ⟨by rw [show k = 4 by omega] <;> rfl, rfl⟩
        | exact ⟨by rw [show k = 5 by omega] <;> rfl, rfl⟩
        | exact ⟨by rw [show k = 6 by omega] <;> rfl, rfl⟩
        | exact ⟨by rw [show k = 7 by omega] <;> rfl, rfl⟩
        | exact ⟨by rw [show k = 8 by omega] <;> rfl, rfl⟩
        | exact ⟨by rw [show k = 9 by omega] <;> rfl, rfl⟩
        | exact ⟨by rw [show k = 10 by omega] <;> rfl, rfl⟩
        | exact ⟨by rw [show k = 11 by omega] <;> rfl, rfl⟩
        | exact ⟨by rw [show k = 12 by omega] <;> rfl, rfl⟩
        | exact ⟨by rw [usesS, if_pos (by omega)] <;> rfl, rfl⟩
    try simp only [sH] at c10
    refine w_seq ?_
    refine w_region ?_
    refine l_pbool rfl rfl ?_
    refine l_pbool rfl rfl ?_
    refine l_nil ?_
    refine w_cond rfl (fun c11 => ?_) (fun c11 => ?_)
    · try simp only [sH] at c11
      refine w_seq ?_
      refine w_region ?_
      refine l_pstr rfl rfl ?_
      refine l_nil ?_
      refine w_ret ?_
      refine fin1 (v := .string _) rfl ?_
      first
        | (exfalso; omega)
        | exact ⟨by rw [show k = 1 by omega] <;> rfl, rfl⟩
        | exact ⟨by rw [show k = 2 by omega] <;> rfl, rfl⟩
        | exact ⟨by rw [show k = 3 by omega] <;> rfl, rfl⟩
        | exact ⟨by rw [show k = 4 by omega] <;> rfl, rfl⟩
        | exact ⟨by rw [show k = 5 by omega] <;> rfl, rfl⟩
        | exact ⟨by rw [show k = 6 by omega] <;> rfl, rfl⟩
        | exact ⟨by rw [show k = 7 by omega] <;> rfl, rfl⟩
        | exact ⟨by rw [show k = 8 by omega] <;> rfl, rfl⟩
        | exact ⟨by rw [show k = 9 by omega] <;> rfl, rfl⟩
        | exact ⟨by rw [show k = 10 by omega] <;> rfl, rfl⟩
        | exact ⟨by rw [show k = 11 by omega] <;> rfl, rfl⟩
        | exact ⟨by rw [show k = 12 by omega] <;> rfl, rfl⟩
        | exact ⟨by rw [usesS, if_pos (by omega)] <;> rfl, rfl⟩
    try simp only [sH] at c11
    refine w_seq ?_
    refine w_region ?_
    refine l_pbool rfl rfl ?_
    refine l_pbool rfl rfl ?_
    refine l_nil ?_
    refine w_cond rfl (fun c12 => ?_) (fun c12 => ?_)
    · try simp only [sH] at c12
      refine w_seq ?_
      refine w_region ?_
      refine l_pstr rfl rfl ?_
      refine l_nil ?_
      refine w_ret ?_
      refine fin1 (v := .string _) rfl ?_
      first
        | (exfalso; omega)
        | exact ⟨by rw [show k = 1 by omega] <;> rfl, rfl⟩
        | exact ⟨by rw [show k = 2 by omega] <;> rfl, rfl⟩
        | exact ⟨by rw [show k = 3 by omega] <;> rfl, rfl⟩
        | exact ⟨by rw [show k = 4 by omega] <;> rfl, rfl⟩
        | exact ⟨by rw [show k = 5 by omega] <;> rfl, rfl⟩
        | exact ⟨by rw [show k = 6 by omega] <;> rfl, rfl⟩
        | exact ⟨by rw [show k = 7 by omega] <;> rfl, rfl⟩
        | exact ⟨by rw [show k = 8 by omega] <;> rfl, rfl⟩
        | exact ⟨by rw [show k = 9 by omega] <;> rfl, rfl⟩
        | exact ⟨by rw [show k = 10 by omega] <;> rfl, rfl⟩
        | exact ⟨by rw [show k = 11 by omega] <;> rfl, rfl⟩
        | exact ⟨by rw [show k = 12 by omega] <;> rfl, rfl⟩
        | exact ⟨by rw [usesS, if_pos (by omega)] <;> rfl, rfl⟩
    try simp only [sH] at c12
    refine w_skip ?_
    refine w_seq ?_
    refine w_region ?_
    refine l_pstr rfl rfl ?_
    refine l_nil ?_
    refine w_ret ?_
    refine fin1 (v := .string _) rfl ?_
    first
      | (exfalso; omega)
      | exact ⟨by rw [show k = 1 by omega] <;> rfl, rfl⟩
      | exact ⟨by rw [show k = 2 by omega] <;> rfl, rfl⟩
      | exact ⟨by rw [show k = 3 by omega] <;> rfl, rfl⟩
      | exact ⟨by rw [show k = 4 by omega] <;> rfl, rfl⟩
      | exact ⟨by rw [show k = 5 by omega] <;> rfl, rfl⟩
      | exact ⟨by rw [show k = 6 by omega] <;> rfl, rfl⟩
      | exact ⟨by rw [show k = 7 by omega] <;> rfl, rfl⟩
      | exact ⟨by rw [show k = 8 by omega] <;> rfl, rfl⟩
      | exact ⟨by rw [show k = 9 by omega] <;> rfl, rfl⟩
      | exact ⟨by rw [show k = 10 by omega] <;> rfl, rfl⟩
      | exact ⟨by rw [show k = 11 by omega] <;> rfl, rfl⟩
      | exact ⟨by rw [show k = 12 by omega] <;> rfl, rfl⟩
      | exact ⟨by rw [usesS, if_pos (by omega)] <;> rfl, rfl⟩
  try simp only [sH] at c4
  refine w_region ?_
  refine l_pbool rfl rfl ?_
  refine l_pbool rfl rfl ?_
  refine l_nil ?_
  refine w_cond rfl (fun c13 => ?_) (fun c13 => ?_)
  · try simp only [sH] at c13
    refine w_seq ?_
    refine w_region ?_
    refine l_pstr rfl rfl ?_
    refine l_nil ?_
    refine w_ret ?_
    refine fin1 (v := .string _) rfl ?_
    first
      | (exfalso; omega)
      | exact ⟨by rw [show k = 1 by omega] <;> rfl, rfl⟩
      | exact ⟨by rw [show k = 2 by omega] <;> rfl, rfl⟩
      | exact ⟨by rw [show k = 3 by omega] <;> rfl, rfl⟩
      | exact ⟨by rw [show k = 4 by omega] <;> rfl, rfl⟩
      | exact ⟨by rw [show k = 5 by omega] <;> rfl, rfl⟩
      | exact ⟨by rw [show k = 6 by omega] <;> rfl, rfl⟩
      | exact ⟨by rw [show k = 7 by omega] <;> rfl, rfl⟩
      | exact ⟨by rw [show k = 8 by omega] <;> rfl, rfl⟩
      | exact ⟨by rw [show k = 9 by omega] <;> rfl, rfl⟩
      | exact ⟨by rw [show k = 10 by omega] <;> rfl, rfl⟩
      | exact ⟨by rw [show k = 11 by omega] <;> rfl, rfl⟩
      | exact ⟨by rw [show k = 12 by omega] <;> rfl, rfl⟩
      | exact ⟨by rw [usesS, if_pos (by omega)] <;> rfl, rfl⟩
  try simp only [sH] at c13
  refine w_seq ?_
  refine w_region ?_
  refine l_pbool rfl rfl ?_
  refine l_pbool rfl rfl ?_
  refine l_nil ?_
  refine w_cond rfl (fun c14 => ?_) (fun c14 => ?_)
  · try simp only [sH] at c14
    refine w_seq ?_
    refine w_region ?_
    refine l_pstr rfl rfl ?_
    refine l_nil ?_
    refine w_ret ?_
    refine fin1 (v := .string _) rfl ?_
    first
      | (exfalso; omega)
      | exact ⟨by rw [show k = 1 by omega] <;> rfl, rfl⟩
      | exact ⟨by rw [show k = 2 by omega] <;> rfl, rfl⟩
      | exact ⟨by rw [show k = 3 by omega] <;> rfl, rfl⟩
      | exact ⟨by rw [show k = 4 by omega] <;> rfl, rfl⟩
      | exact ⟨by rw [show k = 5 by omega] <;> rfl, rfl⟩
      | exact ⟨by rw [show k = 6 by omega] <;> rfl, rfl⟩
      | exact ⟨by rw [show k = 7 by omega] <;> rfl, rfl⟩
      | exact ⟨by rw [show k = 8 by omega] <;> rfl, rfl⟩
      | exact ⟨by rw [show k = 9 by omega] <;> rfl, rfl⟩
      | exact ⟨by rw [show k = 10 by omega] <;> rfl, rfl⟩
      | exact ⟨by rw [show k = 11 by omega] <;> rfl, rfl⟩
      | exact ⟨by rw [show k = 12 by omega] <;> rfl, rfl⟩
      | exact ⟨by rw [usesS, if_pos (by omega)] <;> rfl, rfl⟩
  try simp only [sH] at c14
  refine w_seq ?_
  refine w_region ?_
  refine l_pbool rfl rfl ?_
  refine l_pbool rfl rfl ?_
  refine l_nil ?_
  refine w_cond rfl (fun c15 => ?_) (fun c15 => ?_)
  · try simp only [sH] at c15
    refine w_seq ?_
    refine w_region ?_
    refine l_pstr rfl rfl ?_
    refine l_nil ?_
    refine w_ret ?_
    refine fin1 (v := .string _) rfl ?_
    first
      | (exfalso; omega)
      | exact ⟨by rw [show k = 1 by omega] <;> rfl, rfl⟩
      | exact ⟨by rw [show k = 2 by omega] <;> rfl, rfl⟩
      | exact ⟨by rw [show k = 3 by omega] <;> rfl, rfl⟩
      | exact ⟨by rw [show k = 4 by omega] <;> rfl, rfl⟩
      | exact ⟨by rw [show k = 5 by omega] <;> rfl, rfl⟩
      | exact ⟨by rw [show k = 6 by omega] <;> rfl, rfl⟩
      | exact ⟨by rw [show k = 7 by omega] <;> rfl, rfl⟩
      | exact ⟨by rw [show k = 8 by omega] <;> rfl, rfl⟩
      | exact ⟨by rw [show k = 9 by omega] <;> rfl, rfl⟩
      | exact ⟨by rw [show k = 10 by omega] <;> rfl, rfl⟩
      | exact ⟨by rw [show k = 11 by omega] <;> rfl, rfl⟩
      | exact ⟨by rw [show k = 12 by omega] <;> rfl, rfl⟩
      | exact ⟨by rw [usesS, if_pos (by omega)] <;> rfl, rfl⟩
  try simp only [sH] at c15
  refine w_seq ?_
  refine w_region ?_
  refine l_pbool rfl rfl ?_
  refine l_pbool rfl rfl ?_
  refine l_nil ?_
  refine w_cond rfl (fun c16 => ?_) (fun c16 => ?_)
  · try simp only [sH] at c16
    refine w_seq ?_
    refine w_region ?_
    refine l_pstr rfl rfl ?_
    refine l_nil ?_
    refine w_ret ?_
    refine fin1 (v := .string _) rfl ?_
    first
      | (exfalso; omega)
      | exact ⟨by rw [show k = 1 by omega] <;> rfl, rfl⟩
      | exact ⟨by rw [show k = 2 by omega] <;> rfl, rfl⟩
      | exact ⟨by rw [show k = 3 by omega] <;> rfl, rfl⟩
      | exact ⟨by rw [show k = 4 by omega] <;> rfl, rfl⟩
      | exact ⟨by rw [show k = 5 by omega] <;> rfl, rfl⟩
      | exact ⟨by rw [show k = 6 by omega] <;> rfl, rfl⟩
      | exact ⟨by rw [show k = 7 by omega] <;> rfl, rfl⟩
      | exact ⟨by rw [show k = 8 by omega] <;> rfl, rfl⟩
      | exact ⟨by rw [show k = 9 by omega] <;> rfl, rfl⟩
      | exact ⟨by rw [show k = 10 by omega] <;> rfl, rfl⟩
      | exact ⟨by rw [show k = 11 by omega] <;> rfl, rfl⟩
      | exact ⟨by rw [show k = 12 by omega] <;> rfl, rfl⟩
      | exact ⟨by rw [usesS, if_pos (by omega)] <;> rfl, rfl⟩
  try simp only [sH] at c16
  refine w_seq ?_
  refine w_region ?_
  refine l_pbool rfl rfl ?_
  refine l_pbool rfl rfl ?_
  refine l_nil ?_
  refine w_cond rfl (fun c17 => ?_) (fun c17 => ?_)
  · try simp only [sH] at c17
    refine w_seq ?_
    refine w_region ?_
    refine l_pstr rfl rfl ?_
    refine l_nil ?_
    refine w_ret ?_
    refine fin1 (v := .string _) rfl ?_
    first
      | (exfalso; omega)
      | exact ⟨by rw [show k = 1 by omega] <;> rfl, rfl⟩
      | exact ⟨by rw [show k = 2 by omega] <;> rfl, rfl⟩
      | exact ⟨by rw [show k = 3 by omega] <;> rfl, rfl⟩
      | exact ⟨by rw [show k = 4 by omega] <;> rfl, rfl⟩
      | exact ⟨by rw [show k = 5 by omega] <;> rfl, rfl⟩
      | exact ⟨by rw [show k = 6 by omega] <;> rfl, rfl⟩
      | exact ⟨by rw [show k = 7 by omega] <;> rfl, rfl⟩
      | exact ⟨by rw [show k = 8 by omega] <;> rfl, rfl⟩
      | exact ⟨by rw [show k = 9 by omega] <;> rfl, rfl⟩
      | exact ⟨by rw [show k = 10 by omega] <;> rfl, rfl⟩
      | exact ⟨by rw [show k = 11 by omega] <;> rfl, rfl⟩
      | exact ⟨by rw [show k = 12 by omega] <;> rfl, rfl⟩
      | exact ⟨by rw [usesS, if_pos (by omega)] <;> rfl, rfl⟩
  try simp only [sH] at c17
  refine w_seq ?_
  refine w_region ?_
  refine l_pbool rfl rfl ?_
  refine l_pbool rfl rfl ?_
  refine l_nil ?_
  refine w_cond rfl (fun c18 => ?_) (fun c18 => ?_)
  · try simp only [sH] at c18
    refine w_seq ?_
    refine w_region ?_
    refine l_pstr rfl rfl ?_
    refine l_nil ?_
    refine w_ret ?_
    refine fin1 (v := .string _) rfl ?_
    first
      | (exfalso; omega)
      | exact ⟨by rw [show k = 1 by omega] <;> rfl, rfl⟩
      | exact ⟨by rw [show k = 2 by omega] <;> rfl, rfl⟩
      | exact ⟨by rw [show k = 3 by omega] <;> rfl, rfl⟩
      | exact ⟨by rw [show k = 4 by omega] <;> rfl, rfl⟩
      | exact ⟨by rw [show k = 5 by omega] <;> rfl, rfl⟩
      | exact ⟨by rw [show k = 6 by omega] <;> rfl, rfl⟩
      | exact ⟨by rw [show k = 7 by omega] <;> rfl, rfl⟩
      | exact ⟨by rw [show k = 8 by omega] <;> rfl, rfl⟩
      | exact ⟨by rw [show k = 9 by omega] <;> rfl, rfl⟩
      | exact ⟨by rw [show k = 10 by omega] <;> rfl, rfl⟩
      | exact ⟨by rw [show k = 11 by omega] <;> rfl, rfl⟩
      | exact ⟨by rw [show k = 12 by omega] <;> rfl, rfl⟩
      | exact ⟨by rw [usesS, if_pos (by omega)] <;> rfl, rfl⟩
  try simp only [sH] at c18
  refine w_seq ?_
  refine w_region ?_
  refine l_pbool rfl rfl ?_
  refine l_pbool rfl rfl ?_
  refine l_nil ?_
  refine w_cond rfl (fun c19 => ?_) (fun c19 => ?_)
  · try simp only [sH] at c19
    refine w_seq ?_
    refine w_region ?_
    refine l_pstr rfl rfl ?_
    refine l_nil ?_
    refine w_ret ?_
    refine fin1 (v := .string _) rfl ?_
    first
      | (exfalso; omega)
      | exact ⟨by rw [show k = 1 by omega] <;> rfl, rfl⟩
      | exact ⟨by rw [show k = 2 by omega] <;> rfl, rfl⟩
      | exact ⟨by rw [show k = 3 by omega] <;> rfl, rfl⟩
      | exact ⟨by rw [show k = 4 by omega] <;> rfl, rfl⟩
      | exact ⟨by rw [show k = 5 by omega] <;> rfl, rfl⟩
      | exact ⟨by rw [show k = 6 by omega] <;> rfl, rfl⟩
      | exact ⟨by rw [show k = 7 by omega] <;> rfl, rfl⟩
      | exact ⟨by rw [show k = 8 by omega] <;> rfl, rfl⟩
      | exact ⟨by rw [show k = 9 by omega] <;> rfl, rfl⟩
      | exact ⟨by rw [show k = 10 by omega] <;> rfl, rfl⟩
      | exact ⟨by rw [show k = 11 by omega] <;> rfl, rfl⟩
      | exact ⟨by rw [show k = 12 by omega] <;> rfl, rfl⟩
      | exact ⟨by rw [usesS, if_pos (by omega)] <;> rfl, rfl⟩
  try simp only [sH] at c19
  refine w_seq ?_
  refine w_region ?_
  refine l_pbool rfl rfl ?_
  refine l_pbool rfl rfl ?_
  refine l_nil ?_
  refine w_cond rfl (fun c20 => ?_) (fun c20 => ?_)
  · try simp only [sH] at c20
    refine w_seq ?_
    refine w_region ?_
    refine l_pstr rfl rfl ?_
    refine l_nil ?_
    refine w_ret ?_
    refine fin1 (v := .string _) rfl ?_
    first
      | (exfalso; omega)
      | exact ⟨by rw [show k = 1 by omega] <;> rfl, rfl⟩
      | exact ⟨by rw [show k = 2 by omega] <;> rfl, rfl⟩
      | exact ⟨by rw [show k = 3 by omega] <;> rfl, rfl⟩
      | exact ⟨by rw [show k = 4 by omega] <;> rfl, rfl⟩
      | exact ⟨by rw [show k = 5 by omega] <;> rfl, rfl⟩
      | exact ⟨by rw [show k = 6 by omega] <;> rfl, rfl⟩
      | exact ⟨by rw [show k = 7 by omega] <;> rfl, rfl⟩
      | exact ⟨by rw [show k = 8 by omega] <;> rfl, rfl⟩
      | exact ⟨by rw [show k = 9 by omega] <;> rfl, rfl⟩
      | exact ⟨by rw [show k = 10 by omega] <;> rfl, rfl⟩
      | exact ⟨by rw [show k = 11 by omega] <;> rfl, rfl⟩
      | exact ⟨by rw [show k = 12 by omega] <;> rfl, rfl⟩
      | exact ⟨by rw [usesS, if_pos (by omega)] <;> rfl, rfl⟩
  try simp only [sH] at c20
  refine w_skip ?_
  refine w_seq ?_
  refine w_region ?_
  refine l_pstr rfl rfl ?_
  refine l_nil ?_
  refine w_ret ?_
  refine fin1 (v := .string _) rfl ?_
  first
    | (exfalso; omega)
    | exact ⟨by rw [show k = 1 by omega] <;> rfl, rfl⟩
    | exact ⟨by rw [show k = 2 by omega] <;> rfl, rfl⟩
    | exact ⟨by rw [show k = 3 by omega] <;> rfl, rfl⟩
    | exact ⟨by rw [show k = 4 by omega] <;> rfl, rfl⟩
    | exact ⟨by rw [show k = 5 by omega] <;> rfl, rfl⟩
    | exact ⟨by rw [show k = 6 by omega] <;> rfl, rfl⟩
    | exact ⟨by rw [show k = 7 by omega] <;> rfl, rfl⟩
    | exact ⟨by rw [show k = 8 by omega] <;> rfl, rfl⟩
    | exact ⟨by rw [show k = 9 by omega] <;> rfl, rfl⟩
    | exact ⟨by rw [show k = 10 by omega] <;> rfl, rfl⟩
    | exact ⟨by rw [show k = 11 by omega] <;> rfl, rfl⟩
    | exact ⟨by rw [show k = 12 by omega] <;> rfl, rfl⟩
    | exact ⟨by rw [usesS, if_pos (by omega)] <;> rfl, rfl⟩
end Go.Proofs.YtfpmnhmdphaceaaGreatDoor
