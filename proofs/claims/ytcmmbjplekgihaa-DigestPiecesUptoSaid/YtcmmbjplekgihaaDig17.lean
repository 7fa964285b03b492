/- The reference's Sum and Join do what their contracts say. -/
import Derived.Test.YtcmmbjplekgihaaDig16
namespace Go.Proofs.Ytcmmbjplekgihaa
open Go.EW
attribute [local irreducible] EW.W EW.L EW.fin block8 outB parA pgo hexL shaL digitI
set_option linter.unusedVariables false
set_option linter.unusedSimpArgs false

theorem sha_blocks {bs : List UInt8} {n k : Nat} (hl : bs.length = n) (hk : 64 * k = (bs ++ pad n).length) : shaL bs = outB (blocks begin8 (bs ++ pad n) k) 32 := by
  subst hl
  unfold shaL loopW
  rw [← hk, show 64 * k / 64 = k by omega]
theorem outB_byte {s : S8} {i : Nat} {u : UInt8} (hu : u = (s.list.getD (i / 4) 0 >>> UInt32.ofNat (24 - 8 * (i % 4))).toUInt8) : putL ((outB s i).map B) (0 + i * 1) [B u] = (outB s (i + 1)).map B := by
  subst hu
  rw [Nat.mul_one, Nat.zero_add, outB, List.map_set]
  unfold byteAt
  rfl
theorem outB_zero (s : S8) : (outB s 0).map B = z32 := by unfold outB; rfl

set_option maxRecDepth 8000 in
set_option maxHeartbeats 1000000 in
theorem rSum_ok {W w : World} {F : List Seg} (H : St W w F) {a : Option Addr} {n cap : Nat} {bs : List UInt8} (hr : RdIn W F a (bs.map B)) (hl : bs.length = n) (hn : n ≤ 1099511627776) :
    Ok Try.prog 10 [.slice a n cap].toArray w (fun v w' => v = .agg ((shaL bs).map B).toArray ∧ St W w' F) := by
  have hpl := pad_len n
  have hfl : (bs ++ pad n).length = n + (pad n).length := by rw [List.length_append, hl]
  refine enter (n := 46) (rs := #[.cell 2 32]) Try.func10 rfl rfl rfl rfl ?_
  refine w_seq ?_
  refine w_region ?_
  refine b_alloc rfl ze_32 rfl H (fun b2 w H => ?_)
  refine l_nil ?_
  refine w_seq ?_
  refine w_region ?_
  refine b_buildSlice (cs := begin8.list.map U) rfl el_61 ze_45 rfl rfl rfl H (fun b9 w H => ?_)
  refine l_pslice rfl rfl ?_
  refine l_nil ?_
  refine w_seq ?_
  refine w_region ?_
  refine l_pslice rfl rfl ?_
  refine b_call rfl cb_26 rfl (filled_ok H (hr.up 2 rfl) hl hn) (fun v w hv => ?_)
  obtain ⟨fa, fc, rfl, H⟩ := hv
  refine l_pslice rfl rfl ?_
  refine l_nil ?_
  refine w_seq ?_
  refine w_region ?_
  refine b_call rfl cb_27 rfl (Table_ok H) (fun v w hv => ?_)
  obtain ⟨ta, tc, rfl, H⟩ := hv
  refine l_pslice rfl rfl ?_
  refine l_nil ?_
  refine w_seq ?_
  refine w_seq ?_
  refine w_region ?_
  refine l_pint rfl rfl ?_
  refine l_nil ?_
  refine w_block ?_
  refine w_loopG (G := Nat × Nat) [3, 6, 13, 14, 15, 16, 17, 18, 19, 20, 21, 22, 23, 24, 25, 26] (fun ⟨k, b3⟩ => [(6, .int .i64 ((64 * k : Nat) : Int)), (3, .slice (some ⟨b3, 0, none⟩) 8 8)]) (fun m ⟨k, b3⟩ w => m + k = (bs ++ pad n).length / 64 ∧ St W w (blk0 b3 ((blocks begin8 (bs ++ pad n) k).list.map U) 45 :: row 45 1 ta 64 tc (keysL.map U) :: row 5 1 fa (bs ++ pad n).length fc ((bs ++ pad n).map B) :: blk b2 z32 32 :: F)) (fun _ => rfl) ?_ ?_
  · exact ⟨(bs ++ pad n).length / 64, (0, b9), ⟨rfl, rfl, trivial⟩, rfl, H.pick [2, 0, 1] (pre := [_, _, _]) rfl rfl⟩
  · rintro m ⟨k, b3⟩ ρ1 w ⟨hmk, H⟩
    refine w_seq ?_
    refine w_seq ?_
    refine w_region ?_
    refine l_pint rfl rfl ?_
    refine l_pslice rfl rfl ?_
    refine l_v rfl (q_lenSlice rfl el_22 rfl) ?_
    refine l_pbool rfl rfl ?_
    refine l_nil ?_
    refine w_cond rfl (fun c1 => ?_) (fun c1 => ?_)
    · try simp only [decide_eq_true_eq, decide_eq_false_iff_not, Bool.not_eq_true', Bool.not_eq_false', beq_iff_eq, beq_eq_false_iff_ne, bne_iff_ne, bne_eq_false_iff_eq, ne_eq, Int.not_lt, Int.not_le] at c1
      have hrow := (H.rowInv (i := 2) rfl).2.1
      refine w_skip ?_
      refine w_seq ?_
      refine w_block ?_
      refine w_region ?_
      refine l_pslice rfl rfl ?_
      refine l_pslice rfl rfl ?_
      refine l_pint rfl rfl ?_
      refine l_pint rfl rfl ?_
      first | refine l_v rfl (q_add rfl rfl rfl (by simp only [inK]; omega)) ?_ | refine l_pint rfl rfl ?_
      refine l_v rfl (q_slice (l := 64 * k) (h := 64 * k + 64) rfl el_22 rfl Bnd.none (Bnd.nat (j := 64 * k + 64) (by omega)) (Bnd.nat (j := 64 * k) (by omega)) (by simp)) ?_
      refine l_pslice rfl rfl ?_
      refine b_call rfl cb_28 rfl (rblock_ok H (blocks begin8 (bs ++ pad n) k) (RdIn.blk0 0 rfl) (n := 64 * k + 64 - 64 * k) (rdin_sub (RdIn.row 2 rfl) 64 (by omega)) (by rw [List.length_take, List.length_drop]; omega) (by omega) (RdIn.row 1 rfl)) (fun v w hv => ?_)
      obtain ⟨bn, rfl, H⟩ := hv
      refine l_pslice rfl rfl ?_
      refine l_nil ?_
      refine w_region ?_
      refine l_pint rfl rfl ?_
      first | refine l_v rfl (q_add rfl rfl rfl (by simp only [inK]; omega)) ?_ | refine l_pint rfl rfl ?_
      refine l_pint rfl rfl ?_
      refine l_nil ?_
      refine ⟨by repeat' first | exact Agr.mix _ _ _ | exact Agr.refl _ _ | refine Agr.inner rfl ?_ | refine Agr.upd rfl ?_ | refine Agr.updL' rfl ?_, ?_⟩
      exact ⟨m - 1, (k + 1, bn), by omega, ⟨congrArg (Value.int .i64) (by omega), rfl, trivial⟩, by omega, H.erase 1⟩
    · try simp only [decide_eq_true_eq, decide_eq_false_iff_not, Bool.not_eq_true', Bool.not_eq_false', beq_iff_eq, beq_eq_false_iff_ne, bne_iff_ne, bne_eq_false_iff_eq, ne_eq, Int.not_lt, Int.not_le] at c1
      have hk64 : 64 * k = (bs ++ pad n).length := by omega
      refine w_exit ?_
      refine w_seq ?_
      refine w_region ?_
      refine b_alloc rfl ze_32 rfl H (fun b7 w H => ?_)
      refine l_nil ?_
      refine w_seq ?_
      refine w_seq ?_
      refine w_region ?_
      refine l_pint rfl rfl ?_
      refine l_nil ?_
      refine w_block ?_
      refine w_loopG (G := Nat) [8, 27, 28, 29, 30, 31, 32, 33, 34, 35, 36, 37, 38, 39, 40, 41, 42, 43, 44] (fun i => [(8, .int .i64 ((i : Nat) : Int))]) (fun m i w => m + i = 32 ∧ St W w (blk b7 ((outB (blocks begin8 (bs ++ pad n) k) i).map B) 32 :: blk0 b3 ((blocks begin8 (bs ++ pad n) k).list.map U) 45 :: row 45 1 ta 64 tc (keysL.map U) :: row 5 1 fa (bs ++ pad n).length fc ((bs ++ pad n).map B) :: blk b2 z32 32 :: F)) (fun _ => rfl) ?_ ?_
      · refine ⟨32, 0, ⟨rfl, trivial⟩, rfl, ?_⟩
        rw [outB_zero]
        exact H
      · rintro m i ρ1 w ⟨hmi, H⟩
        refine w_seq ?_
        refine w_seq ?_
        refine w_region ?_
        refine l_pint rfl rfl ?_
        refine l_pbool rfl rfl ?_
        refine l_nil ?_
        refine w_cond rfl (fun c2 => ?_) (fun c2 => ?_)
        · try simp only [decide_eq_true_eq, decide_eq_false_iff_not, Bool.not_eq_true', Bool.not_eq_false', beq_iff_eq, beq_eq_false_iff_ne, bne_iff_ne, bne_eq_false_iff_eq, ne_eq, Int.not_lt, Int.not_le] at c2
          refine w_skip ?_
          refine w_seq ?_
          refine w_block ?_
          refine w_region ?_
          refine l_pint rfl rfl ?_
          refine l_pslice rfl rfl ?_
          refine l_pint rfl rfl ?_
          refine l_v rfl (q_quo (k := .i64) (a := ((i : Nat) : Int)) (b := 4) rfl rfl rfl (by omega) (by rw [show (4 : Int) = ((4 : Nat) : Int) from rfl, tdivN]; simp only [inK]; omega)) ?_
          refine l_v rfl (q_indexSliceE (i / 4) rfl el_61 rfl rfl rfl (tdivN i 4) (by omega)) ?_
          refine l_v rfl (q_load1 rfl c1_45 rfl (arr_cell (H.cells0 1 rfl) (by show i / 4 < 8; omega))) ?_
          refine l_pint rfl rfl ?_
          refine l_v rfl (q_rem rfl rfl rfl (by omega)) ?_
          refine l_v rfl (q_mul rfl rfl rfl (by rw [show (4 : Int) = ((4 : Nat) : Int) from rfl, tmodN]; simp only [inK]; omega)) ?_
          refine l_v rfl (q_sub rfl rfl rfl (by rw [show (4 : Int) = ((4 : Nat) : Int) from rfl, tmodN]; simp only [inK]; omega)) ?_
          refine l_v rfl (q_convIntIn rfl (by kernel_rfl) in_64 rfl (by rw [show (4 : Int) = ((4 : Nat) : Int) from rfl, tmodN]; simp only [inK]; omega)) ?_
          refine l_v rfl (q_pure (u_shr (n := 24 - 8 * (i % 4)) rfl (congrArg (Value.int .u64) (by rw [show (4 : Int) = ((4 : Nat) : Int) from rfl, tmodN]; omega)) (by omega))) ?_
          refine l_v rfl (q_lowB rfl rfl in_5 rfl) ?_
          refine l_v rfl (q_indexArrE i rfl ar_32 rfl rfl rfl (by omega)) ?_
          refine b_store (vs := [B ((blocks begin8 (bs ++ pad n) k).list.getD (i / 4) 0 >>> UInt32.ofNat (24 - 8 * (i % 4))).toUInt8]) (cs' := (outB (blocks begin8 (bs ++ pad n) k) (i + 1)).map B) rfl sz_5 rfl rfl rfl rfl rfl H 0 rfl (by simp [outB_len, Nat.ble_eq, -Nat.reduceMul]; omega) (outB_byte rfl) (fun w H => ?_)
          refine l_nil ?_
          refine w_region ?_
          refine l_pint rfl rfl ?_
          first | refine l_v rfl (q_add rfl rfl rfl (by simp only [inK]; omega)) ?_ | refine l_pint rfl rfl ?_
          refine l_pint rfl rfl ?_
          refine l_nil ?_
          refine ⟨by repeat' first | exact Agr.mix _ _ _ | exact Agr.refl _ _ | refine Agr.inner rfl ?_ | refine Agr.upd rfl ?_ | refine Agr.updL' rfl ?_, ?_⟩
          exact ⟨m - 1, i + 1, by omega, ⟨by exact congrArg (Value.int IntKind.i64) (Int.natCast_succ i).symm, trivial⟩, by omega, H⟩
        · try simp only [decide_eq_true_eq, decide_eq_false_iff_not, Bool.not_eq_true', Bool.not_eq_false', beq_iff_eq, beq_eq_false_iff_ne, bne_iff_ne, bne_eq_false_iff_eq, ne_eq, Int.not_lt, Int.not_le] at c2
          obtain rfl : i = 32 := by omega
          refine w_exit ?_
          refine w_seq ?_
          refine w_region ?_
          refine l_v rfl (q_loadN (vs := (outB (blocks begin8 (bs ++ pad n) k) 32).map B) rfl ag_32 rfl (by simp [outB_len]) (H.cells 0 rfl)) ?_
          refine b_store (vs := (outB (blocks begin8 (bs ++ pad n) k) 32).map B) rfl sz_32 rfl rfl rfl (by simp [outB_len]) (all1 _) H 4 rfl (by simp [outB_len, z32]) (putL_all (by simp [outB_len, z32])) (fun w H => ?_)
          refine l_nil ?_
          refine w_ret ?_
          refine finc rfl ag_32 (by simp [outB_len]) (H.cells 4 rfl) ?_
          refine ⟨by rw [sha_blocks hl hk64], H.erase 4 |>.erase 3 |>.erase 2 |>.erase 1 |>.erase 0⟩

theorem rJoin_ok {W w : World} {F : List Seg} (H : St W w F) {a : Option Addr} {n cap : Nat} {ps : List Part} (hr : RdIn W F a (ps.map pv)) (hn : n = ps.length) (hp : ∀ p ∈ ps, RdIn W F p.1 (p.2.2.map B)) (ht : (joinL ps).length ≤ 1099511627776) (hps : ps.length ≤ 140737488355328) :
    Ok Try.prog 12 [.slice a n cap].toArray w (fun v w' => v = .agg ((shaL (joinL ps)).map B).toArray ∧ St W w' F) := by
  refine enter (n := 19) (rs := #[.cell 2 32]) Try.func12 rfl rfl rfl rfl ?_
  refine w_seq ?_
  refine w_region ?_
  refine b_alloc rfl ze_32 rfl H (fun b2 w H => ?_)
  refine l_nil ?_
  refine w_seq ?_
  refine w_region ?_
  refine l_pslice rfl rfl ?_
  refine l_nil ?_
  refine w_seq ?_
  refine w_seq ?_
  refine w_region ?_
  refine l_pint rfl rfl ?_
  refine l_nil ?_
  refine w_block ?_
  refine w_loopG (G := Nat × Option Addr × Nat) [3, 4, 5, 6, 7, 8, 9, 10, 11, 12, 13, 14, 15, 16] (fun ⟨i, a3, c3⟩ => [(4, .int .i64 ((i : Nat) : Int)), (3, .slice a3 (joinL (ps.take i)).length c3)]) (fun m ⟨i, a3, c3⟩ w => m + i = ps.length ∧ St W w (row 5 1 a3 (joinL (ps.take i)).length c3 ((joinL (ps.take i)).map B) :: blk b2 z32 32 :: F)) (fun _ => rfl) ?_ ?_
  · refine ⟨ps.length, (0, none, 0), ⟨rfl, by rw [List.take_zero]; exact rfl, trivial⟩, by omega, ?_⟩
    rw [List.take_zero]
    exact St.newRow H
  · rintro m ⟨i, a3, c3⟩ ρ1 w ⟨hmi, H⟩
    refine w_seq ?_
    refine w_seq ?_
    refine w_region ?_
    refine l_pint rfl rfl ?_
    refine l_pslice rfl rfl ?_
    refine l_v rfl (q_lenSlice rfl el_23 rfl) ?_
    refine l_pbool rfl rfl ?_
    refine l_nil ?_
    refine w_cond rfl (fun c1 => ?_) (fun c1 => ?_)
    · try simp only [decide_eq_true_eq, decide_eq_false_iff_not, Bool.not_eq_true', Bool.not_eq_false', beq_iff_eq, beq_eq_false_iff_ne, bne_iff_ne, bne_eq_false_iff_eq, ne_eq, Int.not_lt, Int.not_le] at c1
      have hi' : i < ps.length := by omega
      have hjl := joinL_le ps i
      have hjl2 := joinL_le ps (i + 1)
      rw [joinL_snoc hi', List.length_append] at hjl2
      obtain ⟨b0, o0, ha0, hc0⟩ := rd_cell (x := pv ps[i]) (hr.use H 2 rfl) (by rw [List.getElem?_map, List.getElem?_eq_getElem hi']; rfl)
      refine w_skip ?_
      refine w_seq ?_
      refine w_block ?_
      refine w_region ?_
      refine l_pslice rfl rfl ?_
      refine l_pslice rfl rfl ?_
      refine l_pint rfl rfl ?_
      refine l_v rfl (q_indexSliceE i rfl el_23 rfl ha0 rfl rfl (by omega)) ?_
      refine l_v rfl (q_load1 rfl c1_22 rfl hc0) ?_
      refine b_append rfl el_22 ze_5 rfl rfl rfl H 0 rfl (ys := ps[i].2.2.map B) ((hp ps[i] (List.getElem_mem hi')).use H 2 rfl) (by simp) (oneB _) ⟨by omega, by simp only [maxLen]; omega⟩ (fun a16 c16 w H => ?_)
      refine l_pslice rfl rfl ?_
      refine l_nil ?_
      refine w_region ?_
      refine l_pint rfl rfl ?_
      first | refine l_v rfl (q_add rfl rfl rfl (by simp only [inK]; omega)) ?_ | refine l_pint rfl rfl ?_
      refine l_pint rfl rfl ?_
      refine l_nil ?_
      refine ⟨by repeat' first | exact Agr.mix _ _ _ | exact Agr.refl _ _ | refine Agr.inner rfl ?_ | refine Agr.upd rfl ?_ | refine Agr.updL' rfl ?_, ?_⟩
      refine ⟨m - 1, (i + 1, a16, c16), by omega, ⟨by exact congrArg (Value.int IntKind.i64) (Int.natCast_succ i).symm, by exact congrArg (fun x => Value.slice a16 x c16) (by rw [joinL_snoc hi', List.length_append]), trivial⟩, by omega, ?_⟩
      rw [joinL_snoc hi', List.length_append, List.map_append]
      exact H
    · try simp only [decide_eq_true_eq, decide_eq_false_iff_not, Bool.not_eq_true', Bool.not_eq_false', beq_iff_eq, beq_eq_false_iff_ne, bne_iff_ne, bne_eq_false_iff_eq, ne_eq, Int.not_lt, Int.not_le] at c1
      obtain rfl : i = ps.length := by omega
      refine w_exit ?_
      refine w_seq ?_
      refine w_region ?_
      refine l_pslice rfl rfl ?_
      refine b_call rfl cb_10 rfl (rSum_ok H (bs := joinL (ps.take ps.length)) (RdIn.row 0 rfl) rfl (by rw [List.take_length]; omega)) (fun v w hv => ?_)
      obtain ⟨rfl, H⟩ := hv
      refine b_store (vs := (shaL (joinL (ps.take ps.length))).map B) rfl sz_32 rfl rfl rfl (by simp [shaL_len]) (all1 _) H 1 rfl (by simp [shaL_len, z32]) (putL_all (by simp [shaL_len, z32])) (fun w H => ?_)
      refine l_nil ?_
      refine w_ret ?_
      refine finc rfl ag_32 (by simp [shaL_len]) (H.cells 1 rfl) ?_
      exact ⟨by rw [List.take_length], (H.erase 1).erase 0⟩

end Go.Proofs.Ytcmmbjplekgihaa
