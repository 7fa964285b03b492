/- The digest's Parse, and the reference's, do what their contracts say. -/
import Derived.Test.YtcmmbjplekgihaaDig8
namespace Go.Proofs.Ytcmmbjplekgihaa
open Go.EW
attribute [local irreducible] EW.W EW.L EW.fin block8 outB parA pgo hexL shaL digitI
set_option linter.unusedVariables false
set_option linter.unusedSimpArgs false

theorem pgo_end {t : List UInt8} {i : Nat} (hi : i < 64) (h : t.length ≤ i) : pgo t (64 - i) i = (List.replicate 32 0, 190, t.length) := by
  obtain ⟨k, hk⟩ : ∃ k, 64 - i = k + 1 := ⟨63 - i, by omega⟩
  rw [hk, pgo, if_pos h]
theorem pgo_bad {t : List UInt8} {i : Nat} (hi : i < 64) (h : i < t.length) (hd : digitI (t.getD i 0) < 0) : pgo t (64 - i) i = (List.replicate 32 0, 190, i) := by
  obtain ⟨k, hk⟩ : ∃ k, 64 - i = k + 1 := ⟨63 - i, by omega⟩
  rw [hk, pgo, if_neg (by omega), if_pos hd]
theorem pgo_next {t : List UInt8} {i : Nat} (hi : i < 64) (h : i < t.length) (hd : ¬ digitI (t.getD i 0) < 0) : pgo t (64 - (i + 1)) (i + 1) = pgo t (64 - i) i := by
  obtain ⟨k, hk⟩ : ∃ k, 64 - i = k + 1 := ⟨63 - i, by omega⟩
  rw [hk, pgo, if_neg (by omega), if_neg hd, show 64 - (i + 1) = k by omega]
theorem par_put {t : List UInt8} {i : Nat} {d : UInt8} (hd : d = put4 ((parA t i).getD (i / 2) 0) (digitI (t.getD i 0)).toNat) : putL ((parA t i).map B) (0 + (i / 2) * 1) [B d] = (parA t (i + 1)).map B := by
  subst hd
  rw [Nat.mul_one, Nat.zero_add, parA, List.map_set]
  rfl
theorem str_at {s : ByteArray} {j : Nat} (h : j < s.size) : s.data.toList[((j : Nat) : Int).toNat]? = some (s.data.toList.getD j 0) := by
  have h' : j < s.data.toList.length := by simpa using h
  rw [Int.toNat_natCast, List.getElem?_eq_getElem h', List.getD_eq_getElem?_getD, List.getElem?_eq_getElem h']; rfl
theorem dig_nat {c : UInt8} (h : ¬ digitI c < 0) : digitI c = ((digitI c).toNat : Int) := by omega
theorem parA_zero (t : List UInt8) : (parA t 0).map B = z32 := by unfold parA; rfl
theorem size_len (s : ByteArray) : s.size = s.data.toList.length := by simp

set_option maxRecDepth 8000 in
set_option maxHeartbeats 1000000 in
theorem Parse_ok {W w : World} {F : List Seg} (H : St W w F) (s : ByteArray) :
    Ok Try.prog 21 [.string s].toArray w (fun v w' => v = .tuple #[.agg ((parseL s.data.toList).1.map B).toArray, .int .i64 (parseL s.data.toList).2.1, .int .i64 (((parseL s.data.toList).2.2 : Nat) : Int)] ∧ St W w' F) := by
  have hsl := size_len s
  refine enter (n := 43) (rs := #[.cell 2 32, .tmp 3, .tmp 4]) Try.func21 rfl rfl rfl rfl ?_
  refine w_seq ?_
  refine w_region ?_
  refine b_alloc rfl ze_32 rfl H (fun b2 w H => ?_)
  refine l_pint rfl rfl ?_
  refine l_pint rfl rfl ?_
  refine l_nil ?_
  refine w_seq ?_
  refine w_region ?_
  refine b_alloc rfl ze_32 rfl H (fun b5 w H => ?_)
  refine l_nil ?_
  refine w_seq ?_
  refine w_seq ?_
  refine w_region ?_
  refine l_pint rfl rfl ?_
  refine l_nil ?_
  refine w_block ?_
  refine w_loopG (G := Nat) [3, 4, 6, 7, 8, 9, 10, 11, 12, 13, 14, 15, 16, 17, 18, 19, 20, 21, 22, 23, 24, 25, 26, 27, 28, 29, 30, 31, 32, 33, 34, 35, 36, 37] (fun i => [(8, .int .i64 ((i : Nat) : Int))]) (fun m i w => m + i = 64 ∧ pgo s.data.toList (64 - i) i = parseL s.data.toList ∧ St W w (blk b5 ((parA s.data.toList i).map B) 32 :: blk b2 z32 32 :: F)) (fun _ => rfl) ?_ ?_
  · refine ⟨64, 0, ⟨rfl, trivial⟩, rfl, rfl, ?_⟩
    rw [parA_zero]
    exact H
  · rintro m i ρ1 w ⟨hmi, hpi, H⟩
    refine w_seq ?_
    refine w_region ?_
    refine l_pbool rfl rfl ?_
    refine l_nil ?_
    refine w_seq ?_
    refine w_cond rfl (fun c1 => ?_) (fun c1 => ?_)
    · try simp only [decide_eq_true_eq, decide_eq_false_iff_not, Bool.not_eq_true', Bool.not_eq_false', beq_iff_eq, beq_eq_false_iff_ne, bne_iff_ne, bne_eq_false_iff_eq, ne_eq, Int.not_lt, Int.not_le] at c1
      have hi64 : i < 64 := by omega
      refine w_skip ?_
      refine w_seq ?_
      refine w_block ?_
      refine w_seq ?_
      refine w_region ?_
      refine l_pint rfl rfl ?_
      refine l_pint rfl rfl ?_
      refine l_nil ?_
      refine w_seq ?_
      refine w_seq ?_
      refine w_region ?_
      refine l_pint rfl rfl ?_
      refine l_pstr rfl rfl ?_
      refine l_v rfl (q_lenStr rfl st_9 rfl) ?_
      refine l_pbool rfl rfl ?_
      refine l_nil ?_
      refine w_cond rfl (fun c2 => ?_) (fun c2 => ?_)
      · try simp only [decide_eq_true_eq, decide_eq_false_iff_not, Bool.not_eq_true', Bool.not_eq_false', beq_iff_eq, beq_eq_false_iff_ne, bne_iff_ne, bne_eq_false_iff_eq, ne_eq, Int.not_lt, Int.not_le] at c2
        refine w_seq ?_
        refine w_region ?_
        refine l_v rfl (q_buildArr rfl ar_32 ze_32 (by kernel_rfl : fillL _ _ _ = some z32)) ?_
        refine l_pstr rfl rfl ?_
        refine l_v rfl (q_lenStr rfl st_9 rfl) ?_
        refine b_store (vs := z32) (cs' := z32) rfl sz_32 rfl rfl rfl rfl rfl H 1 rfl rfl rfl (fun w H => ?_)
        refine l_pint rfl rfl ?_
        refine l_pint rfl rfl ?_
        refine l_nil ?_
        refine w_ret ?_
        refine finc3 (vs := z32) rfl ag_32 (rfl) (H.cells 1 rfl) rfl rfl ?_
        refine ⟨?_, (H.erase 1).erase 0⟩
        rw [← hpi, pgo_end hi64 (by omega)]; rfl
      · try simp only [decide_eq_true_eq, decide_eq_false_iff_not, Bool.not_eq_true', Bool.not_eq_false', beq_iff_eq, beq_eq_false_iff_ne, bne_iff_ne, bne_eq_false_iff_eq, ne_eq, Int.not_lt, Int.not_le] at c2
        refine w_skip ?_
        refine w_seq ?_
        refine w_region ?_
        refine l_pstr rfl rfl ?_
        refine l_pint rfl rfl ?_
        refine l_v rfl (q_indexStr rfl st_9 rfl rfl ⟨by omega, str_at (by omega)⟩) ?_
        refine b_call rfl cb_38 rfl (digit_ok (s.data.toList.getD i 0)) (fun v w hv => ?_)
        obtain ⟨rfl, rfl⟩ := hv
        refine l_pint rfl rfl ?_
        refine l_nil ?_
        refine w_seq ?_
        refine w_seq ?_
        refine w_region ?_
        refine l_pint rfl rfl ?_
        refine l_pbool rfl rfl ?_
        refine l_nil ?_
        refine w_cond rfl (fun c3 => ?_) (fun c3 => ?_)
        · try simp only [decide_eq_true_eq, decide_eq_false_iff_not, Bool.not_eq_true', Bool.not_eq_false', beq_iff_eq, beq_eq_false_iff_ne, bne_iff_ne, bne_eq_false_iff_eq, ne_eq, Int.not_lt, Int.not_le] at c3
          refine w_seq ?_
          refine w_region ?_
          refine l_v rfl (q_buildArr rfl ar_32 ze_32 (by kernel_rfl : fillL _ _ _ = some z32)) ?_
          refine l_pint rfl rfl ?_
          refine b_store (vs := z32) (cs' := z32) rfl sz_32 rfl rfl rfl rfl rfl H 1 rfl rfl rfl (fun w H => ?_)
          refine l_pint rfl rfl ?_
          refine l_pint rfl rfl ?_
          refine l_nil ?_
          refine w_ret ?_
          refine finc3 (vs := z32) rfl ag_32 (rfl) (H.cells 1 rfl) rfl rfl ?_
          refine ⟨?_, (H.erase 1).erase 0⟩
          rw [← hpi, pgo_bad hi64 (by omega) (by omega)]; rfl
        · try simp only [decide_eq_true_eq, decide_eq_false_iff_not, Bool.not_eq_true', Bool.not_eq_false', beq_iff_eq, beq_eq_false_iff_ne, bne_iff_ne, bne_eq_false_iff_eq, ne_eq, Int.not_lt, Int.not_le] at c3
          have hdn := dig_nat (c := s.data.toList.getD i 0) (by omega)
          refine w_skip ?_
          refine w_region ?_
          refine l_pint rfl rfl ?_
          refine l_v rfl (q_quo (k := .i64) (a := ((i : Nat) : Int)) rfl rfl rfl (by omega) (by rw [show (2 : Int) = ((2 : Nat) : Int) from rfl, tdivN]; simp only [inK]; omega)) ?_
          refine l_pint rfl rfl ?_
          refine l_v rfl (q_quo (k := .i64) (a := ((i : Nat) : Int)) rfl rfl rfl (by omega) (by rw [show (2 : Int) = ((2 : Nat) : Int) from rfl, tdivN]; simp only [inK]; omega)) ?_
          refine l_v rfl (q_indexArrE (i / 2) rfl ar_32 rfl rfl (tdivN i 2) (by omega)) ?_
          refine l_v rfl (q_load1 rfl c1_5 rfl (arr_cellB (H.cells 0 rfl) (by rw [parA_len]; omega))) ?_
          refine l_v rfl (q_pure (v_shl (n := 4) rfl rfl (by first | decide | omega))) ?_
          refine l_pint rfl rfl ?_
          refine l_v rfl (q_lowN (M := (digitI (s.data.toList.getD i 0)).toNat) rfl (by kernel_rfl) in_5 (congrArg (Value.int .i64) hdn)) ?_
          refine l_v rfl (q_pure (v_or rfl rfl)) ?_
          refine l_v rfl (q_indexArrE (i / 2) rfl ar_32 rfl rfl (tdivN i 2) (by omega)) ?_
          refine b_store (vs := [B ((parA s.data.toList i).getD (i / 2) 0 <<< UInt8.ofNat 4 ||| UInt8.ofNat (digitI (s.data.toList.getD i 0)).toNat)]) (cs' := (parA s.data.toList (i + 1)).map B) rfl sz_5 rfl rfl rfl rfl rfl H 0 rfl (by simp [parA_len, Nat.ble_eq]; omega) (par_put (put_or _ (by have := digitI_lt (s.data.toList.getD i 0); omega))) (fun w H => ?_)
          refine l_nil ?_
          refine w_region ?_
          first | refine l_v rfl (q_add rfl rfl rfl (by simp only [inK]; omega)) ?_ | refine l_pint rfl rfl ?_
          refine l_pint rfl rfl ?_
          refine l_nil ?_
          refine ⟨by repeat' first | exact Agr.mix _ _ _ | exact Agr.refl _ _ | refine Agr.inner rfl ?_ | refine Agr.upd rfl ?_ | refine Agr.updL' rfl ?_, ?_⟩
          exact ⟨m - 1, i + 1, by omega, ⟨by exact congrArg (Value.int IntKind.i64) (Int.natCast_succ i).symm, trivial⟩, by omega, (pgo_next (by omega) (by omega) (by omega)).trans hpi, H⟩
    · try simp only [decide_eq_true_eq, decide_eq_false_iff_not, Bool.not_eq_true', Bool.not_eq_false', beq_iff_eq, beq_eq_false_iff_ne, bne_iff_ne, bne_eq_false_iff_eq, ne_eq, Int.not_lt, Int.not_le] at c1
      obtain rfl : i = 64 := by omega
      refine w_exit ?_
      refine w_seq ?_
      refine w_seq ?_
      refine w_region ?_
      refine l_pstr rfl rfl ?_
      refine l_v rfl (q_lenStr rfl st_9 rfl) ?_
      refine l_pbool rfl rfl ?_
      refine l_nil ?_
      refine w_cond rfl (fun c4 => ?_) (fun c4 => ?_)
      · try simp only [decide_eq_true_eq, decide_eq_false_iff_not, Bool.not_eq_true', Bool.not_eq_false', beq_iff_eq, beq_eq_false_iff_ne, bne_iff_ne, bne_eq_false_iff_eq, ne_eq, Int.not_lt, Int.not_le] at c4
        refine w_seq ?_
        refine w_region ?_
        refine l_v rfl (q_buildArr rfl ar_32 ze_32 (by kernel_rfl : fillL _ _ _ = some z32)) ?_
        refine b_store (vs := z32) (cs' := z32) rfl sz_32 rfl rfl rfl rfl rfl H 1 rfl rfl rfl (fun w H => ?_)
        refine l_pint rfl rfl ?_
        refine l_pint rfl rfl ?_
        refine l_nil ?_
        refine w_ret ?_
        refine finc3 (vs := z32) rfl ag_32 (rfl) (H.cells 1 rfl) rfl rfl ?_
        refine ⟨?_, (H.erase 1).erase 0⟩
        rw [← hpi, Nat.sub_self, pgo, if_pos (by omega)]; rfl
      · try simp only [decide_eq_true_eq, decide_eq_false_iff_not, Bool.not_eq_true', Bool.not_eq_false', beq_iff_eq, beq_eq_false_iff_ne, bne_iff_ne, bne_eq_false_iff_eq, ne_eq, Int.not_lt, Int.not_le] at c4
        refine w_skip ?_
        refine w_seq ?_
        refine w_region ?_
        refine l_v rfl (q_loadN (vs := (parA s.data.toList 64).map B) rfl ag_32 rfl (by simp [parA_len]) (H.cells 0 rfl)) ?_
        refine b_store (vs := (parA s.data.toList 64).map B) rfl sz_32 rfl rfl rfl (by simp [parA_len]) (all1 _) H 1 rfl (by simp [parA_len, z32]) (putL_all (by simp [parA_len, z32])) (fun w H => ?_)
        refine l_pint rfl rfl ?_
        refine l_pint rfl rfl ?_
        refine l_nil ?_
        refine w_ret ?_
        refine finc3 (vs := (parA s.data.toList 64).map B) rfl ag_32 (by simp [parA_len]) (H.cells 1 rfl) rfl rfl ?_
        refine ⟨?_, (H.erase 1).erase 0⟩
        rw [← hpi, Nat.sub_self, pgo, if_neg (by omega)]; rfl

set_option maxRecDepth 8000 in
set_option maxHeartbeats 1000000 in
theorem rParse_ok {W w : World} {F : List Seg} (H : St W w F) (s : ByteArray) :
    Ok Try.prog 22 [.string s].toArray w (fun v w' => v = .tuple #[.agg ((parseL s.data.toList).1.map B).toArray, .int .i64 (parseL s.data.toList).2.1, .int .i64 (((parseL s.data.toList).2.2 : Nat) : Int)] ∧ St W w' F) := by
  have hsl := size_len s
  refine enter (n := 43) (rs := #[.cell 2 32, .tmp 3, .tmp 4]) Try.func22 rfl rfl rfl rfl ?_
  refine w_seq ?_
  refine w_region ?_
  refine b_alloc rfl ze_32 rfl H (fun b2 w H => ?_)
  refine l_pint rfl rfl ?_
  refine l_pint rfl rfl ?_
  refine l_nil ?_
  refine w_seq ?_
  refine w_region ?_
  refine b_alloc rfl ze_32 rfl H (fun b5 w H => ?_)
  refine l_nil ?_
  refine w_seq ?_
  refine w_seq ?_
  refine w_region ?_
  refine l_pint rfl rfl ?_
  refine l_nil ?_
  refine w_block ?_
  refine w_loopG (G := Nat) [3, 4, 6, 7, 8, 9, 10, 11, 12, 13, 14, 15, 16, 17, 18, 19, 20, 21, 22, 23, 24, 25, 26, 27, 28, 29, 30, 31, 32, 33, 34, 35, 36, 37] (fun i => [(6, .int .i64 ((i : Nat) : Int))]) (fun m i w => m + i = 64 ∧ i ≤ s.size ∧ pgo s.data.toList (64 - i) i = parseL s.data.toList ∧ St W w (blk b5 ((parA s.data.toList i).map B) 32 :: blk b2 z32 32 :: F)) (fun _ => rfl) ?_ ?_
  · refine ⟨64, 0, ⟨rfl, trivial⟩, rfl, by omega, rfl, ?_⟩
    rw [parA_zero]
    exact H
  · rintro m i ρ1 w ⟨hmi, his, hpi, H⟩
    refine w_seq ?_
    refine w_seq ?_
    refine w_region ?_
    refine l_pint rfl rfl ?_
    refine l_pbool rfl rfl ?_
    refine l_nil ?_
    refine w_cond rfl (fun c1 => ?_) (fun c1 => ?_)
    · try simp only [decide_eq_true_eq, decide_eq_false_iff_not, Bool.not_eq_true', Bool.not_eq_false', beq_iff_eq, beq_eq_false_iff_ne, bne_iff_ne, bne_eq_false_iff_eq, ne_eq, Int.not_lt, Int.not_le] at c1
      have hi64 : i < 64 := by omega
      refine w_skip ?_
      refine w_seq ?_
      refine w_block ?_
      refine w_seq ?_
      refine w_seq ?_
      refine w_region ?_
      refine l_pint rfl rfl ?_
      refine l_pstr rfl rfl ?_
      refine l_v rfl (q_lenStr rfl st_9 rfl) ?_
      refine l_pbool rfl rfl ?_
      refine l_pbool rfl rfl ?_
      refine l_split 15 rfl (fun h15 => ?_) (fun h15 => ?_)
      · try simp only [decide_eq_true_eq, decide_eq_false_iff_not, Bool.not_eq_true', Bool.not_eq_false', beq_iff_eq, beq_eq_false_iff_ne, bne_iff_ne, bne_eq_false_iff_eq, ne_eq, Int.not_lt, Int.not_le] at h15
        refine l_no rfl ?_
        refine l_no rfl ?_
        refine l_no rfl ?_
        refine l_no rfl ?_
        refine l_no rfl ?_
        refine l_pickT (v := .bool _) rfl rfl rfl ?_
        refine l_nil ?_
        refine w_cond_t rfl ?_
        refine w_seq ?_
        refine w_region ?_
        refine l_v rfl (q_buildArr rfl ar_32 ze_32 (by kernel_rfl : fillL _ _ _ = some z32)) ?_
        refine l_pint rfl rfl ?_
        refine b_store (vs := z32) (cs' := z32) rfl sz_32 rfl rfl rfl rfl rfl H 1 rfl rfl rfl (fun w H => ?_)
        refine l_pint rfl rfl ?_
        refine l_pint rfl rfl ?_
        refine l_nil ?_
        refine w_ret ?_
        refine finc3 (vs := z32) rfl ag_32 (rfl) (H.cells 1 rfl) rfl rfl ?_
        refine ⟨?_, (H.erase 1).erase 0⟩
        rw [← hpi, pgo_end hi64 (by omega), show s.data.toList.length = i by omega]; rfl
      · try simp only [decide_eq_true_eq, decide_eq_false_iff_not, Bool.not_eq_true', Bool.not_eq_false', beq_iff_eq, beq_eq_false_iff_ne, bne_iff_ne, bne_eq_false_iff_eq, ne_eq, Int.not_lt, Int.not_le] at h15
        refine l_pstr rfl rfl ?_
        refine l_pint rfl rfl ?_
        refine l_v rfl (q_indexStr rfl st_9 rfl rfl ⟨by omega, str_at (by omega)⟩) ?_
        refine b_call rfl cb_39 rfl (rdigit_ok (s.data.toList.getD i 0)) (fun v w hv => ?_)
        obtain ⟨rfl, rfl⟩ := hv
        refine l_pbool rfl rfl ?_
        refine l_pickF (v := .bool _) rfl rfl rfl ?_
        refine l_nil ?_
        refine w_cond rfl (fun c2 => ?_) (fun c2 => ?_)
        · try simp only [decide_eq_true_eq, decide_eq_false_iff_not, Bool.not_eq_true', Bool.not_eq_false', beq_iff_eq, beq_eq_false_iff_ne, bne_iff_ne, bne_eq_false_iff_eq, ne_eq, Int.not_lt, Int.not_le] at c2
          refine w_seq ?_
          refine w_region ?_
          refine l_v rfl (q_buildArr rfl ar_32 ze_32 (by kernel_rfl : fillL _ _ _ = some z32)) ?_
          refine l_pint rfl rfl ?_
          refine b_store (vs := z32) (cs' := z32) rfl sz_32 rfl rfl rfl rfl rfl H 1 rfl rfl rfl (fun w H => ?_)
          refine l_pint rfl rfl ?_
          refine l_pint rfl rfl ?_
          refine l_nil ?_
          refine w_ret ?_
          refine finc3 (vs := z32) rfl ag_32 (rfl) (H.cells 1 rfl) rfl rfl ?_
          refine ⟨?_, (H.erase 1).erase 0⟩
          rw [← hpi, pgo_bad hi64 (by omega) (by omega)]; rfl
        · try simp only [decide_eq_true_eq, decide_eq_false_iff_not, Bool.not_eq_true', Bool.not_eq_false', beq_iff_eq, beq_eq_false_iff_ne, bne_iff_ne, bne_eq_false_iff_eq, ne_eq, Int.not_lt, Int.not_le] at c2
          have hdn := dig_nat (c := s.data.toList.getD i 0) (by omega)
          refine w_skip ?_
          refine w_drawT [14] [5] [(0, 0), (1, 0), (2, 0), (3, 0), (4, 0), (5, 1), (6, 0), (7, 0), (8, 0), (9, 0), (10, 2), (11, 0), (12, 0), (13, 0), (14, 2)] mixed (by kernel_rfl) (fun _ _ _ h => fin_panic h) H (fun H => ?_)
          refine r_pint rfl rfl rfl ?_
          refine r_w rfl rfl (fun w => q_quo (k := .i64) (a := ((i : Nat) : Int)) rfl rfl rfl (by omega) (by rw [show (2 : Int) = ((2 : Nat) : Int) from rfl, tdivN]; simp only [inK]; omega)) ?_
          refine r_pint rfl rfl rfl ?_
          refine r_w rfl rfl (fun w => q_quo (k := .i64) (a := ((i : Nat) : Int)) rfl rfl rfl (by omega) (by rw [show (2 : Int) = ((2 : Nat) : Int) from rfl, tdivN]; simp only [inK]; omega)) ?_
          refine r_w rfl rfl (fun w => q_indexArrE (i / 2) rfl ar_32 rfl rfl (tdivN i 2) (by omega)) ?_
          refine r_v rfl rfl (fun w hS => q_load1 rfl c1_5 rfl (arr_cellB (hS.cells 0 rfl) (by rw [parA_len]; omega))) ?_
          refine r_w rfl rfl (fun w => q_pure (v_mul (d := 16) rfl rfl)) ?_
          refine r_pstr rfl rfl rfl ?_
          refine r_pint rfl rfl rfl ?_
          refine r_w rfl rfl (fun w => q_indexStr rfl st_9 rfl rfl ⟨by omega, str_at (by omega)⟩) ?_
          refine r_do rfl ?_
          refine b_call rfl cb_39 rfl (rdigit_ok (s.data.toList.getD i 0)) (fun v w hv => ?_)
          obtain ⟨rfl, rfl⟩ := hv
          refine l_nil ⟨fun _ _ => H, ?_⟩
          refine r_w rfl rfl (fun w => q_lowN (M := (digitI (s.data.toList.getD i 0)).toNat) rfl (by kernel_rfl) in_5 (congrArg (Value.int .i64) hdn)) ?_
          refine r_w rfl rfl (fun w => q_pure (v_add rfl rfl)) ?_
          refine r_w rfl rfl (fun w => q_indexArrE (i / 2) rfl ar_32 rfl rfl (tdivN i 2) (by omega)) ?_
          refine r_do rfl ?_
          refine b_store (vs := [B ((parA s.data.toList i).getD (i / 2) 0 * 16 + UInt8.ofNat (digitI (s.data.toList.getD i 0)).toNat)]) (cs' := (parA s.data.toList (i + 1)).map B) rfl sz_5 rfl rfl rfl rfl rfl H 0 rfl (by simp [parA_len, Nat.ble_eq]; omega) (par_put (put_mul _ (by have := digitI_lt (s.data.toList.getD i 0); omega))) (fun w H => ?_)
          refine l_nil ⟨(fun h => nomatch h), ?_⟩
          refine r_nil ?_
          refine w_region ?_
          refine l_pint rfl rfl ?_
          first | refine l_v rfl (q_add rfl rfl rfl (by simp only [inK]; omega)) ?_ | refine l_pint rfl rfl ?_
          refine l_pint rfl rfl ?_
          refine l_nil ?_
          refine ⟨by repeat' first | exact Agr.mix _ _ _ | exact Agr.refl _ _ | refine Agr.inner rfl ?_ | refine Agr.upd rfl ?_ | refine Agr.updL' rfl ?_, ?_⟩
          exact ⟨m - 1, i + 1, by omega, ⟨by exact congrArg (Value.int IntKind.i64) (Int.natCast_succ i).symm, trivial⟩, by omega, by omega, (pgo_next (by omega) (by omega) (by omega)).trans hpi, H⟩
    · try simp only [decide_eq_true_eq, decide_eq_false_iff_not, Bool.not_eq_true', Bool.not_eq_false', beq_iff_eq, beq_eq_false_iff_ne, bne_iff_ne, bne_eq_false_iff_eq, ne_eq, Int.not_lt, Int.not_le] at c1
      obtain rfl : i = 64 := by omega
      refine w_exit ?_
      refine w_seq ?_
      refine w_seq ?_
      refine w_region ?_
      refine l_pstr rfl rfl ?_
      refine l_v rfl (q_lenStr rfl st_9 rfl) ?_
      refine l_pbool rfl rfl ?_
      refine l_nil ?_
      refine w_cond rfl (fun c3 => ?_) (fun c3 => ?_)
      · try simp only [decide_eq_true_eq, decide_eq_false_iff_not, Bool.not_eq_true', Bool.not_eq_false', beq_iff_eq, beq_eq_false_iff_ne, bne_iff_ne, bne_eq_false_iff_eq, ne_eq, Int.not_lt, Int.not_le] at c3
        refine w_seq ?_
        refine w_region ?_
        refine l_v rfl (q_buildArr rfl ar_32 ze_32 (by kernel_rfl : fillL _ _ _ = some z32)) ?_
        refine b_store (vs := z32) (cs' := z32) rfl sz_32 rfl rfl rfl rfl rfl H 1 rfl rfl rfl (fun w H => ?_)
        refine l_pint rfl rfl ?_
        refine l_pint rfl rfl ?_
        refine l_nil ?_
        refine w_ret ?_
        refine finc3 (vs := z32) rfl ag_32 (rfl) (H.cells 1 rfl) rfl rfl ?_
        refine ⟨?_, (H.erase 1).erase 0⟩
        rw [← hpi, Nat.sub_self, pgo, if_pos (by omega)]; rfl
      · try simp only [decide_eq_true_eq, decide_eq_false_iff_not, Bool.not_eq_true', Bool.not_eq_false', beq_iff_eq, beq_eq_false_iff_ne, bne_iff_ne, bne_eq_false_iff_eq, ne_eq, Int.not_lt, Int.not_le] at c3
        refine w_skip ?_
        refine w_seq ?_
        refine w_region ?_
        refine l_v rfl (q_loadN (vs := (parA s.data.toList 64).map B) rfl ag_32 rfl (by simp [parA_len]) (H.cells 0 rfl)) ?_
        refine b_store (vs := (parA s.data.toList 64).map B) rfl sz_32 rfl rfl rfl (by simp [parA_len]) (all1 _) H 1 rfl (by simp [parA_len, z32]) (putL_all (by simp [parA_len, z32])) (fun w H => ?_)
        refine l_pint rfl rfl ?_
        refine l_pint rfl rfl ?_
        refine l_nil ?_
        refine w_ret ?_
        refine finc3 (vs := (parA s.data.toList 64).map B) rfl ag_32 (by simp [parA_len]) (H.cells 1 rfl) rfl rfl ?_
        refine ⟨?_, (H.erase 1).erase 0⟩
        rw [← hpi, Nat.sub_self, pgo, if_neg (by omega)]; rfl

end Go.Proofs.Ytcmmbjplekgihaa
