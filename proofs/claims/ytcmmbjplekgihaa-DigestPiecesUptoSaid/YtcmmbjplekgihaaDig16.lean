/- The reference's filled does what its contract says. -/
import Derived.Test.YtcmmbjplekgihaaDig15
namespace Go.Proofs.Ytcmmbjplekgihaa
open Go.EW
attribute [local irreducible] EW.W EW.L EW.fin block8 outB parA pgo hexL shaL digitI
set_option linter.unusedVariables false
set_option linter.unusedSimpArgs false

theorem rdin_sub {W : World} {F : List Seg} {a : Option Addr} {bs : List UInt8} (h : RdIn W F a (bs.map B)) {l c : Nat} (j : Nat) (hc : l < c) : RdIn W F (subA a 1 l c) (((bs.drop l).take j).map B) := by
  have := h.subA (sz := 1) (l := l) (m := c) (j := j) (fun hk => absurd hk (by omega))
  rw [Nat.mul_one] at this
  simpa [List.map_drop, List.map_take] using this
theorem pad_len (n : Nat) : (n + (pad n).length) % 64 = 0 ∧ (pad n).length ≤ 128 ∧ 0 < (pad n).length := by
  simp only [pad, List.length_cons, List.length_append, List.length_replicate, lens_len]
  omega

set_option maxRecDepth 8000 in
set_option maxHeartbeats 1000000 in
theorem filled_ok {W w : World} {F : List Seg} (H : St W w F) {a : Option Addr} {n cap : Nat} {bs : List UInt8} (hr : RdIn W F a (bs.map B)) (hl : bs.length = n) (hn : n ≤ 1099511627776) :
    Ok Try.prog 26 [.slice a n cap].toArray w (fun v w' => ∃ a' c', v = .slice a' (bs ++ pad n).length c' ∧ St W w' (row 5 1 a' (bs ++ pad n).length c' ((bs ++ pad n).map B) :: F)) := by
  refine enter (n := 37) (rs := #[.tmp 2]) Try.func26 rfl rfl rfl rfl ?_
  refine w_seq ?_
  refine w_region ?_
  refine l_pslice rfl rfl ?_
  refine l_nil ?_
  refine w_seq ?_
  refine w_region ?_
  refine l_pslice rfl rfl ?_
  refine l_nil ?_
  refine w_seq ?_
  refine w_region ?_
  refine l_pslice rfl rfl ?_
  refine l_pslice rfl rfl ?_
  refine b_append rfl el_22 ze_5 rfl rfl rfl (St.newRow H) 0 rfl (ys := bs.map B) (hr.use H 0 rfl) (by simp [hl]) (oneB _) ⟨by omega, by simp only [maxLen]; omega⟩ (fun a8 c8 w H => ?_)
  refine l_pslice rfl rfl ?_
  refine l_nil ?_
  refine w_seq ?_
  refine w_region ?_
  refine l_pslice rfl rfl ?_
  refine b_buildSlice (cs := [_]) rfl el_22 ze_5 rfl rfl rfl H (fun b10 w H => ?_)
  refine b_append rfl el_22 ze_5 rfl rfl rfl H 1 rfl (Rd.mk (H.cells0 0 rfl)) rfl (fun u hu => by obtain rfl := List.mem_singleton.1 hu; rfl) ⟨by omega, by simp only [maxLen]; omega⟩ (fun a11 c11 w H => ?_)
  refine l_pslice rfl rfl ?_
  refine l_nil ?_
  refine w_seq ?_
  refine w_block ?_
  refine w_loopG (G := Nat × Option Addr × Nat × List UInt8) [3, 12, 13, 14, 15, 16, 17, 18] (fun ⟨k, a3, c3, l⟩ => [(3, .slice a3 l.length c3)]) (fun m ⟨k, a3, c3, l⟩ w => m + k = (119 - n % 64) % 64 ∧ l.length = n + 1 + k ∧ l = bs ++ 128 :: List.replicate k 0 ∧ St W w (row 5 1 a3 l.length c3 (l.map B) :: F)) (fun _ => rfl) ?_ ?_
  · refine ⟨(119 - n % 64) % 64, (0, a11, c11, bs ++ [128]), ⟨by exact congrArg (fun x => Value.slice a11 x c11) (by simp [hl]), trivial⟩, rfl, by simp [hl], rfl, ?_⟩
    have H2 : St W w (row 5 1 a11 (0 + n + 1) c11 (([] ++ bs.map B) ++ [B 128]) :: F) := H.drop1
    rw [List.nil_append, Nat.zero_add] at H2
    exact row_snoc (by omega) H2
  · rintro m ⟨k, a3, c3, l⟩ ρ1 w ⟨hmk, hll, hlk, H⟩
    refine w_seq ?_
    refine w_seq ?_
    refine w_region ?_
    refine l_pslice rfl rfl ?_
    refine l_v rfl (q_lenSlice rfl el_22 rfl) ?_
    refine l_v rfl (q_rem rfl rfl rfl (by omega)) ?_
    refine l_pbool rfl rfl ?_
    refine l_nil ?_
    refine w_cond rfl (fun c1 => ?_) (fun c1 => ?_)
    · try simp only [decide_eq_true_eq, decide_eq_false_iff_not, Bool.not_eq_true', Bool.not_eq_false', beq_iff_eq, beq_eq_false_iff_ne, bne_iff_ne, bne_eq_false_iff_eq, ne_eq, Int.not_lt, Int.not_le] at c1
      rw [rem64] at c1
      refine w_skip ?_
      refine w_block ?_
      refine w_region ?_
      refine l_pslice rfl rfl ?_
      refine b_buildSlice (cs := [_]) rfl el_22 ze_5 rfl rfl rfl H (fun b17 w H => ?_)
      refine b_append rfl el_22 ze_5 rfl rfl rfl H 1 rfl (Rd.mk (H.cells0 0 rfl)) rfl (fun u hu => by obtain rfl := List.mem_singleton.1 hu; rfl) ⟨by omega, by simp only [maxLen]; omega⟩ (fun a18 c18 w H => ?_)
      refine l_pslice rfl rfl ?_
      refine l_nil ?_
      refine ⟨by repeat' first | exact Agr.mix _ _ _ | exact Agr.refl _ _ | refine Agr.inner rfl ?_ | refine Agr.upd rfl ?_ | refine Agr.updL' rfl ?_, ?_⟩
      refine ⟨m - 1, (k + 1, a18, c18, l ++ [0]), by omega, ⟨by exact congrArg (fun x => Value.slice a18 x c18) (by simp), trivial⟩, by omega, by simp; omega, by rw [hlk, List.replicate_succ']; simp, ?_⟩
      exact row_snoc rfl (show St W w (row 5 1 a18 (l.length + 1) c18 (l.map B ++ [B 0]) :: F) from H.drop1)
    · try simp only [decide_eq_true_eq, decide_eq_false_iff_not, Bool.not_eq_true', Bool.not_eq_false', beq_iff_eq, beq_eq_false_iff_ne, bne_iff_ne, bne_eq_false_iff_eq, ne_eq, Int.not_lt, Int.not_le] at c1
      rw [rem64] at c1
      obtain rfl : k = (119 - n % 64) % 64 := by omega
      refine w_exit ?_
      refine w_seq ?_
      refine w_region ?_
      refine l_pslice rfl rfl ?_
      refine l_v rfl (q_lenSlice rfl el_22 rfl) ?_
      refine l_v rfl (q_convIntIn rfl (by kernel_rfl) in_81 rfl (by simp only [inK]; omega)) ?_
      first | refine l_v rfl (q_mul rfl rfl rfl (by simp only [inK]; omega)) ?_ | refine l_pint rfl rfl ?_
      refine l_pint rfl rfl ?_
      refine l_nil ?_
      refine w_seq ?_
      refine w_seq ?_
      refine w_region ?_
      refine l_pint rfl rfl ?_
      refine l_nil ?_
      refine w_block ?_
      refine w_loopG (G := Nat × Option Addr × Nat × List UInt8) [3, 5, 23, 24, 25, 26, 27, 28, 29, 30, 31, 32, 33, 34, 35] (fun ⟨i, ap, cp, lp⟩ => [(5, .int .i64 (7 - (i : Nat) : Int)), (3, .slice ap lp.length cp)]) (fun m ⟨i, ap, cp, lp⟩ w => m + i = 8 ∧ lp = bs ++ 128 :: (List.replicate ((119 - n % 64) % 64) 0 ++ lens n i) ∧ St W w (row 5 1 ap lp.length cp (lp.map B) :: F)) (fun _ => rfl) ?_ ?_
      · exact ⟨8, (0, a3, c3, l), ⟨rfl, rfl, trivial⟩, rfl, by rw [hlk, lens, List.append_nil], H⟩
      · rintro m ⟨i, ap, cp, lp⟩ ρ1 w ⟨hmi, hli, H⟩
        have hll : lp.length = n + 1 + ((119 - n % 64) % 64 + i) := by rw [hli]; simp [lens_len, hl]; omega
        refine w_seq ?_
        refine w_seq ?_
        refine w_region ?_
        refine l_pint rfl rfl ?_
        refine l_pbool rfl rfl ?_
        refine l_nil ?_
        refine w_cond rfl (fun c2 => ?_) (fun c2 => ?_)
        · try simp only [decide_eq_true_eq, decide_eq_false_iff_not, Bool.not_eq_true', Bool.not_eq_false', beq_iff_eq, beq_eq_false_iff_ne, bne_iff_ne, bne_eq_false_iff_eq, ne_eq, Int.not_lt, Int.not_le] at c2
          refine w_skip ?_
          refine w_seq ?_
          refine w_block ?_
          refine w_region ?_
          refine l_pslice rfl rfl ?_
          refine l_pint rfl rfl ?_
          refine l_pint rfl rfl ?_
          first | refine l_v rfl (q_mul rfl rfl rfl (by simp only [inK]; omega)) ?_ | refine l_pint rfl rfl ?_
          refine l_v rfl (q_convIntIn rfl (by kernel_rfl) in_64 rfl (by simp only [inK]; omega)) ?_
          refine l_v rfl (q_pure (u64_shr (8 * n) (56 - 8 * i) rfl (by omega) rfl (by omega) (by omega))) ?_
          refine l_v rfl (q_lowN (M := 8 * n / 2 ^ (56 - 8 * i)) rfl (by kernel_rfl) in_5 rfl) ?_
          refine b_buildSlice (cs := [B (lenB n i)]) rfl el_22 ze_5 rfl rfl rfl H (fun b34 w H => ?_)
          refine b_append rfl el_22 ze_5 rfl rfl rfl H 1 rfl (Rd.mk (H.cells0 0 rfl)) rfl (fun u hu => by obtain rfl := List.mem_singleton.1 hu; rfl) ⟨by omega, by simp only [maxLen]; omega⟩ (fun a35 c35 w H => ?_)
          refine l_pslice rfl rfl ?_
          refine l_nil ?_
          refine w_region ?_
          refine l_pint rfl rfl ?_
          first | refine l_v rfl (q_sub rfl rfl rfl (by simp only [inK]; omega)) ?_ | refine l_pint rfl rfl ?_
          refine l_pint rfl rfl ?_
          refine l_nil ?_
          refine ⟨by repeat' first | exact Agr.mix _ _ _ | exact Agr.refl _ _ | refine Agr.inner rfl ?_ | refine Agr.upd rfl ?_ | refine Agr.updL' rfl ?_, ?_⟩
          refine ⟨m - 1, (i + 1, a35, c35, lp ++ [lenB n i]), by omega, ⟨congrArg (Value.int .i64) (by omega), by exact congrArg (fun x => Value.slice a35 x c35) (by simp), trivial⟩, by omega, by rw [hli, lens]; simp, ?_⟩
          exact row_snoc rfl (show St W w (row 5 1 a35 (lp.length + 1) c35 (lp.map B ++ [B (lenB n i)]) :: F) from H.drop1)
        · try simp only [decide_eq_true_eq, decide_eq_false_iff_not, Bool.not_eq_true', Bool.not_eq_false', beq_iff_eq, beq_eq_false_iff_ne, bne_iff_ne, bne_eq_false_iff_eq, ne_eq, Int.not_lt, Int.not_le] at c2
          obtain rfl : i = 8 := by omega
          refine w_exit ?_
          refine w_seq ?_
          refine w_region ?_
          refine l_pslice rfl rfl ?_
          refine l_pslice rfl rfl ?_
          refine l_nil ?_
          refine w_ret ?_
          refine fin1 (v := .slice _ _ _) rfl ?_
          refine ⟨ap, cp, ?_, ?_⟩
          · rw [hli]; rfl
          · have e : lp = bs ++ pad n := hli
            rw [e] at H
            exact H

end Go.Proofs.Ytcmmbjplekgihaa
