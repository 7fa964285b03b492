/- The digest's block does what its contract says. -/
import Derived.Test.YtcmmbjplekgihaaDig2
namespace Go.Proofs.Ytcmmbjplekgihaa
open Go.EW
attribute [local irreducible] EW.W EW.L EW.fin
set_option linter.unusedVariables false
set_option linter.unusedSimpArgs false

def S8.list (s : S8) : List UInt32 := [s.a, s.b, s.c, s.d, s.e, s.f, s.g, s.h]
def z8 : List Value := [.int .u32 0, .int .u32 0, .int .u32 0, .int .u32 0, .int .u32 0, .int .u32 0, .int .u32 0, .int .u32 0]
def addL (s t : S8) : Nat → List UInt32
  | 0 => s.list
  | i + 1 => (addL s t i).set i ((addL s t i).getD i 0 + t.list.getD i 0)
theorem addL_len (s t : S8) : ∀ i, (addL s t i).length = 8
  | 0 => rfl
  | i + 1 => by simp [addL, addL_len s t i]
theorem addL_8 (s t : S8) : addL s t 8 = (s.add t).list := rfl
theorem zeros64 : ((List.replicate 64 (0 : UInt32)).map U) = List.replicate 64 (.int .u32 0) := by simp [U]

set_option maxRecDepth 20000 in
set_option maxHeartbeats 2000000 in
theorem block_ok {W w : World} {F : List Seg} (H : St W w F) (s : S8) {a : Option Addr} {n cap : Nat} {bs : List UInt8} (hr : RdIn W F a (bs.map B)) (hl : bs.length = n) (hn : 64 ≤ n) {kb : Nat} (hk : RdIn W F (some ⟨kb, 0, none⟩) (keysL.map U)) :
    Ok Try.prog 37 [.agg s.cells.toArray, .slice a n cap, .pointer (some ⟨kb, 0, none⟩)].toArray w (fun v w' => v = .agg (block8 s bs).cells.toArray ∧ St W w' F) := by
  obtain ⟨b0, o0, ha⟩ := byte_addr (j := 0) (hr.use H 0 rfl) (by omega)
  obtain ⟨ws, hws⟩ : ∃ ws, ws = sch2 bs 48 := ⟨_, rfl⟩
  have hwl : ws.length = 64 := by rw [hws, sch2_len]
  obtain ⟨r8, hr8⟩ : ∃ r, r = rnds ws s 64 := ⟨_, rfl⟩
  have hb8 : block8 s bs = s.add r8 := by rw [hr8, hws]; rfl
  refine enter (n := 197) (rs := #[.cell 6 47]) Try.func37 rfl rfl rfl rfl ?_
  refine w_seq ?_
  refine w_region ?_
  refine b_box rfl rfl rfl H (fun b3 w H => ?_)
  refine b_alloc rfl ze_47 rfl H (fun b6 w H => ?_)
  refine l_nil ?_
  refine w_seq ?_
  refine w_region ?_
  refine b_alloc rfl ze_82 rfl H (fun b7 w H => ?_)
  refine l_nil ?_
  refine w_seq ?_
  refine w_seq ?_
  refine w_region ?_
  refine l_pint rfl rfl ?_
  refine l_nil ?_
  refine w_block ?_
  refine w_loopG (G := Nat) [8, 19, 20, 21, 22, 23, 24, 25, 26, 27, 28, 29, 30, 31, 32, 33, 34, 35, 36, 37, 38, 39, 40, 41, 42, 43, 44, 45, 46, 47, 48, 49, 50, 51, 52, 53, 54, 55, 56, 57] (fun i => [(19, .int .i64 ((i : Nat) : Int))]) (fun m i w => m + i = 16 ∧ St W w (blk b7 ((sch1 bs i).map U) 82 :: blk b6 z8 47 :: blk b3 s.cells 47 :: F)) (fun _ => rfl) ?_ ?_
  · refine ⟨16, 0, ⟨rfl, trivial⟩, rfl, ?_⟩
    rw [sch1, zeros64]; exact H
  · rintro m i ρ1 w ⟨hi, H⟩
    refine w_seq ?_
    refine w_region ?_
    refine l_pbool rfl rfl ?_
    refine l_nil ?_
    refine w_seq ?_
    refine w_cond rfl (fun c1 => ?_) (fun c1 => ?_)
    · try simp only [decide_eq_true_eq, decide_eq_false_iff_not, Bool.not_eq_true', Bool.not_eq_false', beq_iff_eq, beq_eq_false_iff_ne, bne_iff_ne, bne_eq_false_iff_eq, ne_eq, Int.not_lt, Int.not_le] at c1
      refine w_skip ?_
      refine w_seq ?_
      refine w_block ?_
      refine w_seq ?_
      refine w_region ?_
      refine l_pint rfl rfl ?_
      refine l_pint rfl rfl ?_
      refine l_nil ?_
      refine w_drawT [35] [5, 13, 22, 31] [(0, 0), (1, 0), (2, 0), (3, 0), (4, 0), (5, 1), (6, 0), (7, 0), (8, 0), (9, 0), (10, 0), (11, 0), (12, 0), (13, 1), (14, 0), (15, 0), (16, 0), (17, 0), (18, 0), (19, 0), (20, 0), (21, 0), (22, 1), (23, 0), (24, 0), (25, 0), (26, 0), (27, 0), (28, 0), (29, 0), (30, 0), (31, 1), (32, 0), (33, 0), (34, 0), (35, 2)] mixed (by kernel_rfl) (fun _ _ _ h => fin_panic h) H (fun H => ?_)
      refine r_pint rfl rfl rfl ?_
      refine r_pslice rfl rfl rfl ?_
      refine r_pint rfl rfl rfl ?_
      first | refine r_w rfl rfl (fun w => q_mul rfl rfl rfl (by simp only [inK]; omega)) ?_ | refine r_pint rfl rfl rfl ?_
      refine r_w rfl rfl (fun w => q_indexSliceE (4 * i) rfl el_22 rfl ha rfl (by omega) (by omega)) ?_
      refine r_v rfl rfl (fun w hS => q_load1 rfl c1_5 rfl (byte_cell ha (hr.use hS 3 rfl) (by omega))) ?_
      refine r_w rfl rfl (fun w => q_byteU rfl rfl in_45 rfl) ?_
      refine r_w rfl rfl (fun w => q_pure (u_shl (n := 24) rfl rfl (by first | decide | omega))) ?_
      refine r_pslice rfl rfl rfl ?_
      refine r_pint rfl rfl rfl ?_
      first | refine r_w rfl rfl (fun w => q_mul rfl rfl rfl (by simp only [inK]; omega)) ?_ | refine r_pint rfl rfl rfl ?_
      first | refine r_w rfl rfl (fun w => q_add rfl rfl rfl (by simp only [inK]; omega)) ?_ | refine r_pint rfl rfl rfl ?_
      refine r_w rfl rfl (fun w => q_indexSliceE (4 * i + 1) rfl el_22 rfl ha rfl (by omega) (by omega)) ?_
      refine r_v rfl rfl (fun w hS => q_load1 rfl c1_5 rfl (byte_cell ha (hr.use hS 3 rfl) (by omega))) ?_
      refine r_w rfl rfl (fun w => q_byteU rfl rfl in_45 rfl) ?_
      refine r_w rfl rfl (fun w => q_pure (u_shl (n := 16) rfl rfl (by first | decide | omega))) ?_
      refine r_w rfl rfl (fun w => q_pure (u_or rfl rfl)) ?_
      refine r_pslice rfl rfl rfl ?_
      refine r_pint rfl rfl rfl ?_
      first | refine r_w rfl rfl (fun w => q_mul rfl rfl rfl (by simp only [inK]; omega)) ?_ | refine r_pint rfl rfl rfl ?_
      first | refine r_w rfl rfl (fun w => q_add rfl rfl rfl (by simp only [inK]; omega)) ?_ | refine r_pint rfl rfl rfl ?_
      refine r_w rfl rfl (fun w => q_indexSliceE (4 * i + 2) rfl el_22 rfl ha rfl (by omega) (by omega)) ?_
      refine r_v rfl rfl (fun w hS => q_load1 rfl c1_5 rfl (byte_cell ha (hr.use hS 3 rfl) (by omega))) ?_
      refine r_w rfl rfl (fun w => q_byteU rfl rfl in_45 rfl) ?_
      refine r_w rfl rfl (fun w => q_pure (u_shl (n := 8) rfl rfl (by first | decide | omega))) ?_
      refine r_w rfl rfl (fun w => q_pure (u_or rfl rfl)) ?_
      refine r_pslice rfl rfl rfl ?_
      refine r_pint rfl rfl rfl ?_
      first | refine r_w rfl rfl (fun w => q_mul rfl rfl rfl (by simp only [inK]; omega)) ?_ | refine r_pint rfl rfl rfl ?_
      first | refine r_w rfl rfl (fun w => q_add rfl rfl rfl (by simp only [inK]; omega)) ?_ | refine r_pint rfl rfl rfl ?_
      refine r_w rfl rfl (fun w => q_indexSliceE (4 * i + 3) rfl el_22 rfl ha rfl (by omega) (by omega)) ?_
      refine r_v rfl rfl (fun w hS => q_load1 rfl c1_5 rfl (byte_cell ha (hr.use hS 3 rfl) (by omega))) ?_
      refine r_w rfl rfl (fun w => q_byteU rfl rfl in_45 rfl) ?_
      refine r_w rfl rfl (fun w => q_pure (u_or rfl rfl)) ?_
      refine r_w rfl rfl (fun w => q_indexArrE i rfl ar_82 rfl rfl rfl (by omega)) ?_
      refine r_do rfl ?_
      first | refine b_store (vs := [U _]) rfl sz_45 rfl rfl rfl rfl rfl H 0 rfl (Nat.ble_eq_true_of_le (by simp only [List.length_map, sch1_len, sch2_len, addL_len, List.length_cons, List.length_nil]; omega)) putL_U (fun w H => ?_) | refine b_store (vs := [U _]) rfl sz_45 rfl rfl rfl rfl rfl H 3 rfl (Nat.ble_eq_true_of_le (by simp only [List.length_map, sch1_len, sch2_len, addL_len, List.length_cons, List.length_nil]; omega)) putL_U (fun w H => ?_)
      refine l_nil ⟨(fun h => nomatch h), ?_⟩
      refine r_nil ?_
      refine w_region ?_
      first | refine l_v rfl (q_add rfl rfl rfl (by simp only [inK]; omega)) ?_ | refine l_pint rfl rfl ?_
      refine l_pint rfl rfl ?_
      refine l_nil ?_
      refine ⟨by repeat' first | exact Agr.mix _ _ _ | exact Agr.refl _ _ | refine Agr.inner rfl ?_ | refine Agr.upd rfl ?_ | refine Agr.updL' rfl ?_, ?_⟩
      exact ⟨m - 1, i + 1, by omega, ⟨by exact congrArg (Value.int IntKind.i64) (Int.natCast_succ i).symm, trivial⟩, by omega, H⟩
    · try simp only [decide_eq_true_eq, decide_eq_false_iff_not, Bool.not_eq_true', Bool.not_eq_false', beq_iff_eq, beq_eq_false_iff_ne, bne_iff_ne, bne_eq_false_iff_eq, ne_eq, Int.not_lt, Int.not_le] at c1
      refine w_exit ?_
      refine w_seq ?_
      refine w_seq ?_
      refine w_region ?_
      refine l_pint rfl rfl ?_
      refine l_nil ?_
      refine w_block ?_
      refine w_loopG (G := Nat) [9, 10, 11, 58, 59, 60, 61, 62, 63, 64, 65, 66, 67, 68, 69, 70, 71, 72, 73, 74, 75, 76, 77, 78, 79, 80, 81, 82, 83, 84, 85, 86, 87, 88, 89, 90, 91, 92, 93, 94, 95, 96, 97, 98] (fun i => [(9, .int .i64 ((16 + i : Nat) : Int))]) (fun m i w => m + i = 48 ∧ St W w (blk b7 ((sch2 bs i).map U) 82 :: blk b6 z8 47 :: blk b3 s.cells 47 :: F)) (fun _ => rfl) ?_ ?_
      · obtain rfl : i = 16 := by omega
        exact ⟨48, 0, ⟨rfl, trivial⟩, rfl, H⟩
      · rintro m i ρ1 w ⟨hi, H⟩
        refine w_seq ?_
        refine w_seq ?_
        refine w_region ?_
        refine l_pint rfl rfl ?_
        refine l_pbool rfl rfl ?_
        refine l_nil ?_
        refine w_cond rfl (fun c2 => ?_) (fun c2 => ?_)
        · try simp only [decide_eq_true_eq, decide_eq_false_iff_not, Bool.not_eq_true', Bool.not_eq_false', beq_iff_eq, beq_eq_false_iff_ne, bne_iff_ne, bne_eq_false_iff_eq, ne_eq, Int.not_lt, Int.not_le] at c2
          refine w_skip ?_
          refine w_seq ?_
          refine w_block ?_
          refine w_seq ?_
          refine w_drawT [] [3, 7] [(0, 0), (1, 0), (2, 0), (3, 1), (4, 0), (5, 0), (6, 0), (7, 1), (8, 0), (9, 0)] mixed (by kernel_rfl) (fun _ _ _ h => fin_panic h) H (fun H => ?_)
          refine r_pint rfl rfl rfl ?_
          first | refine r_w rfl rfl (fun w => q_sub rfl rfl rfl (by simp only [inK]; omega)) ?_ | refine r_pint rfl rfl rfl ?_
          refine r_w rfl rfl (fun w => q_indexArrE (i + 1) rfl ar_82 rfl rfl (by omega) (by omega)) ?_
          refine r_v rfl rfl (fun w hS => q_load1 rfl c1_45 rfl (arr_cell (hS.cells 0 rfl) (by rw [sch2_len]; omega))) ?_
          refine r_pint rfl rfl rfl ?_
          first | refine r_w rfl rfl (fun w => q_sub rfl rfl rfl (by simp only [inK]; omega)) ?_ | refine r_pint rfl rfl rfl ?_
          refine r_w rfl rfl (fun w => q_indexArrE (i + 14) rfl ar_82 rfl rfl (by omega) (by omega)) ?_
          refine r_v rfl rfl (fun w hS => q_load1 rfl c1_45 rfl (arr_cell (hS.cells 0 rfl) (by rw [sch2_len]; omega))) ?_
          first | refine r_p (v := U _) rfl rfl rfl ?_ | refine r_pint rfl rfl rfl ?_
          first | refine r_p (v := U _) rfl rfl rfl ?_ | refine r_pint rfl rfl rfl ?_
          refine r_nil ?_
          refine w_drawT [29] [4, 17] [(0, 0), (1, 0), (2, 0), (3, 0), (4, 1), (5, 0), (7, 0), (10, 0), (11, 0), (14, 0), (15, 0), (16, 0), (17, 1), (19, 0), (21, 0), (24, 0), (25, 0), (6, 2), (8, 2), (9, 0), (12, 0), (13, 0), (18, 0), (20, 2), (22, 2), (23, 0), (26, 0), (27, 0), (28, 0), (29, 2)] mixed (by kernel_rfl) (fun _ _ _ h => fin_panic h) H (fun H => ?_)
          refine r_pint rfl rfl rfl ?_
          refine r_pint rfl rfl rfl ?_
          first | refine r_w rfl rfl (fun w => q_sub rfl rfl rfl (by simp only [inK]; omega)) ?_ | refine r_pint rfl rfl rfl ?_
          refine r_w rfl rfl (fun w => q_indexArrE (i) rfl ar_82 rfl rfl (by omega) (by omega)) ?_
          refine r_v rfl rfl (fun w hS => q_load1 rfl c1_45 rfl (arr_cell (hS.cells 0 rfl) (by rw [sch2_len]; omega))) ?_
          first | refine r_p (v := U _) rfl rfl rfl ?_ | refine r_pint rfl rfl rfl ?_
          first | refine r_p (v := U _) rfl rfl rfl ?_ | refine r_pint rfl rfl rfl ?_
          first | refine r_p (v := U _) rfl rfl rfl ?_ | refine r_pint rfl rfl rfl ?_
          refine r_w rfl rfl (fun w => q_pure (u_shr (n := 3) rfl rfl (by first | decide | omega))) ?_
          refine r_pint rfl rfl rfl ?_
          first | refine r_w rfl rfl (fun w => q_sub rfl rfl rfl (by simp only [inK]; omega)) ?_ | refine r_pint rfl rfl rfl ?_
          refine r_w rfl rfl (fun w => q_indexArrE (i + 9) rfl ar_82 rfl rfl (by omega) (by omega)) ?_
          refine r_v rfl rfl (fun w hS => q_load1 rfl c1_45 rfl (arr_cell (hS.cells 0 rfl) (by rw [sch2_len]; omega))) ?_
          first | refine r_p (v := U _) rfl rfl rfl ?_ | refine r_pint rfl rfl rfl ?_
          first | refine r_p (v := U _) rfl rfl rfl ?_ | refine r_pint rfl rfl rfl ?_
          first | refine r_p (v := U _) rfl rfl rfl ?_ | refine r_pint rfl rfl rfl ?_
          refine r_w rfl rfl (fun w => q_pure (u_shr (n := 10) rfl rfl (by first | decide | omega))) ?_
          refine r_do rfl ?_
          refine b_call rfl cb_47 rfl (ror_ok H _ (n := 7) (by omega)) (fun v w hv => ?_)
          obtain ⟨rfl, H⟩ := hv
          refine l_nil ⟨fun _ _ => H, ?_⟩
          refine r_do rfl ?_
          refine b_call rfl cb_47 rfl (ror_ok H _ (n := 18) (by omega)) (fun v w hv => ?_)
          obtain ⟨rfl, H⟩ := hv
          refine l_nil ⟨fun _ _ => H, ?_⟩
          refine r_w rfl rfl (fun w => q_pure (u_xor rfl rfl)) ?_
          refine r_w rfl rfl (fun w => q_pure (u_xor rfl rfl)) ?_
          refine r_w rfl rfl (fun w => q_pure (u_add rfl rfl)) ?_
          refine r_w rfl rfl (fun w => q_pure (u_add rfl rfl)) ?_
          refine r_do rfl ?_
          refine b_call rfl cb_47 rfl (ror_ok H _ (n := 17) (by omega)) (fun v w hv => ?_)
          obtain ⟨rfl, H⟩ := hv
          refine l_nil ⟨fun _ _ => H, ?_⟩
          refine r_do rfl ?_
          refine b_call rfl cb_47 rfl (ror_ok H _ (n := 19) (by omega)) (fun v w hv => ?_)
          obtain ⟨rfl, H⟩ := hv
          refine l_nil ⟨fun _ _ => H, ?_⟩
          refine r_w rfl rfl (fun w => q_pure (u_xor rfl rfl)) ?_
          refine r_w rfl rfl (fun w => q_pure (u_xor rfl rfl)) ?_
          refine r_w rfl rfl (fun w => q_pure (u_add rfl rfl)) ?_
          refine r_w rfl rfl (fun w => q_indexArrE (16 + i) rfl ar_82 rfl rfl rfl (by omega)) ?_
          refine r_do rfl ?_
          first | refine b_store (vs := [U _]) rfl sz_45 rfl rfl rfl rfl rfl H 0 rfl (Nat.ble_eq_true_of_le (by simp only [List.length_map, sch1_len, sch2_len, addL_len, List.length_cons, List.length_nil]; omega)) putL_U (fun w H => ?_) | refine b_store (vs := [U _]) rfl sz_45 rfl rfl rfl rfl rfl H 3 rfl (Nat.ble_eq_true_of_le (by simp only [List.length_map, sch1_len, sch2_len, addL_len, List.length_cons, List.length_nil]; omega)) putL_U (fun w H => ?_)
          refine l_nil ⟨(fun h => nomatch h), ?_⟩
          refine r_nil ?_
          refine w_region ?_
          refine l_pint rfl rfl ?_
          first | refine l_v rfl (q_add rfl rfl rfl (by simp only [inK]; omega)) ?_ | refine l_pint rfl rfl ?_
          refine l_pint rfl rfl ?_
          refine l_nil ?_
          refine ⟨by repeat' first | exact Agr.mix _ _ _ | exact Agr.refl _ _ | refine Agr.inner rfl ?_ | refine Agr.upd rfl ?_ | refine Agr.updL' rfl ?_, ?_⟩
          exact ⟨m - 1, i + 1, by omega, ⟨by exact congrArg (Value.int IntKind.i64) (by omega), trivial⟩, by omega, H⟩
        · try simp only [decide_eq_true_eq, decide_eq_false_iff_not, Bool.not_eq_true', Bool.not_eq_false', beq_iff_eq, beq_eq_false_iff_ne, bne_iff_ne, bne_eq_false_iff_eq, ne_eq, Int.not_lt, Int.not_le] at c2
          refine w_exit ?_
          refine w_seq ?_
          refine w_region ?_
          refine l_v rfl (q_loadN (vs := [_, _, _, _, _, _, _, _]) rfl ag_47 rfl rfl (by first | exact H.cells 0 rfl | exact H.cells 1 rfl | exact H.cells 2 rfl | exact H.cells 3 rfl | exact H.cells 4 rfl)) ?_
          refine b_alloc rfl ze_47 rfl H (fun b12 w H => ?_)
          first | refine b_store (cs' := [_, _, _, _, _, _, _, _]) rfl sz_47 rfl rfl rfl rfl rfl H 0 rfl rfl rfl (fun w H => ?_) | refine b_store (cs' := [_, _, _, _, _, _, _, _]) rfl sz_47 rfl rfl rfl rfl rfl H 1 rfl rfl rfl (fun w H => ?_) | refine b_store (cs' := [_, _, _, _, _, _, _, _]) rfl sz_47 rfl rfl rfl rfl rfl H 2 rfl rfl rfl (fun w H => ?_) | refine b_store (cs' := [_, _, _, _, _, _, _, _]) rfl sz_47 rfl rfl rfl rfl rfl H 3 rfl rfl rfl (fun w H => ?_) | refine b_store (cs' := [_, _, _, _, _, _, _, _]) rfl sz_47 rfl rfl rfl rfl rfl H 4 rfl rfl rfl (fun w H => ?_)
          refine l_nil ?_
          refine w_seq ?_
          refine w_seq ?_
          refine w_region ?_
          refine l_pint rfl rfl ?_
          refine l_nil ?_
          refine w_block ?_
          refine w_loopG (G := Nat) [13, 14, 15, 16, 17, 100, 101, 102, 103, 104, 105, 106, 107, 108, 109, 110, 111, 112, 113, 114, 115, 116, 117, 118, 119, 120, 121, 122, 123, 124, 125, 126, 127, 128, 129, 130, 131, 132, 133, 134, 135, 136, 137, 138, 139, 140, 141, 142, 143, 144, 145, 146, 147, 148, 149, 150, 151, 152, 153, 154, 155, 156, 157, 158, 159, 160, 161, 162, 163, 164, 165, 166, 167, 168, 169, 170, 171, 172, 173, 174, 175, 176, 177, 178, 179, 180, 181, 182, 183] (fun i => [(100, .int .i64 ((i : Nat) : Int))]) (fun m i w => m + i = 64 ∧ St W w (blk b12 (rnds ws s i).cells 47 :: blk b7 (ws.map U) 82 :: blk b6 z8 47 :: blk b3 s.cells 47 :: F)) (fun _ => rfl) ?_ ?_
          · obtain rfl : i = 48 := by omega
            rw [← hws] at H
            exact ⟨64, 0, ⟨rfl, trivial⟩, rfl, H⟩
          · rintro m i ρ1 w ⟨hi, H⟩
            refine w_seq ?_
            refine w_region ?_
            refine l_pbool rfl rfl ?_
            refine l_nil ?_
            refine w_seq ?_
            refine w_cond rfl (fun c3 => ?_) (fun c3 => ?_)
            · try simp only [decide_eq_true_eq, decide_eq_false_iff_not, Bool.not_eq_true', Bool.not_eq_false', beq_iff_eq, beq_eq_false_iff_ne, bne_iff_ne, bne_eq_false_iff_eq, ne_eq, Int.not_lt, Int.not_le] at c3
              refine w_skip ?_
              refine w_seq ?_
              refine w_block ?_
              refine w_seq ?_
              refine w_region ?_
              refine l_pint rfl rfl ?_
              refine l_pint rfl rfl ?_
              refine l_nil ?_
              refine w_seq ?_
              refine w_drawT [] [1, 3] [(0, 0), (1, 1), (2, 0), (3, 1), (4, 0), (5, 0)] mixed (by kernel_rfl) (fun _ _ _ h => fin_panic h) H (fun H => ?_)
              first | refine r_w rfl rfl (fun w => q_indexArrN rfl ar_47 rfl rfl (by omega)) ?_ | refine r_w rfl rfl (fun w => q_indexArr rfl ar_47 rfl rfl ⟨by omega, by omega⟩) ?_
              refine r_v rfl rfl (fun w hS => q_load1 rfl c1_45 rfl (by first | exact hS.cell 0 rfl rfl | exact hS.cell 1 rfl rfl | exact hS.cell 2 rfl rfl | exact hS.cell 3 rfl rfl | exact hS.cell 4 rfl rfl)) ?_
              first | refine r_w rfl rfl (fun w => q_indexArrN rfl ar_47 rfl rfl (by omega)) ?_ | refine r_w rfl rfl (fun w => q_indexArr rfl ar_47 rfl rfl ⟨by omega, by omega⟩) ?_
              refine r_v rfl rfl (fun w hS => q_load1 rfl c1_45 rfl (by first | exact hS.cell 0 rfl rfl | exact hS.cell 1 rfl rfl | exact hS.cell 2 rfl rfl | exact hS.cell 3 rfl rfl | exact hS.cell 4 rfl rfl)) ?_
              first | refine r_p (v := U _) rfl rfl rfl ?_ | refine r_pint rfl rfl rfl ?_
              first | refine r_p (v := U _) rfl rfl rfl ?_ | refine r_pint rfl rfl rfl ?_
              refine r_nil ?_
              refine w_seq ?_
              refine w_drawT [] [1, 13, 18, 26, 30] [(0, 0), (1, 1), (2, 0), (4, 0), (7, 0), (11, 0), (12, 0), (13, 1), (14, 0), (15, 0), (16, 0), (17, 0), (18, 1), (19, 0), (20, 0), (22, 0), (23, 0), (24, 0), (25, 0), (26, 1), (28, 0), (29, 0), (30, 1), (3, 2), (5, 2), (6, 0), (8, 2), (9, 0), (10, 0), (21, 0), (27, 0), (31, 0), (32, 0)] mixed (by kernel_rfl) (fun _ _ _ h => fin_panic h) H (fun H => ?_)
              first | refine r_w rfl rfl (fun w => q_indexArrN rfl ar_47 rfl rfl (by omega)) ?_ | refine r_w rfl rfl (fun w => q_indexArr rfl ar_47 rfl rfl ⟨by omega, by omega⟩) ?_
              refine r_v rfl rfl (fun w hS => q_load1 rfl c1_45 rfl (by first | exact hS.cell 0 rfl rfl | exact hS.cell 1 rfl rfl | exact hS.cell 2 rfl rfl | exact hS.cell 3 rfl rfl | exact hS.cell 4 rfl rfl)) ?_
              first | refine r_p (v := U _) rfl rfl rfl ?_ | refine r_pint rfl rfl rfl ?_
              first | refine r_p (v := U _) rfl rfl rfl ?_ | refine r_pint rfl rfl rfl ?_
              first | refine r_p (v := U _) rfl rfl rfl ?_ | refine r_pint rfl rfl rfl ?_
              first | refine r_p (v := U _) rfl rfl rfl ?_ | refine r_pint rfl rfl rfl ?_
              first | refine r_w rfl rfl (fun w => q_indexArrN rfl ar_47 rfl rfl (by omega)) ?_ | refine r_w rfl rfl (fun w => q_indexArr rfl ar_47 rfl rfl ⟨by omega, by omega⟩) ?_
              refine r_v rfl rfl (fun w hS => q_load1 rfl c1_45 rfl (by first | exact hS.cell 0 rfl rfl | exact hS.cell 1 rfl rfl | exact hS.cell 2 rfl rfl | exact hS.cell 3 rfl rfl | exact hS.cell 4 rfl rfl)) ?_
              refine r_w rfl rfl (fun w => q_pure (u_and rfl rfl)) ?_
              first | refine r_p (v := U _) rfl rfl rfl ?_ | refine r_pint rfl rfl rfl ?_
              refine r_w rfl rfl (fun w => q_pure (u_not rfl)) ?_
              first | refine r_w rfl rfl (fun w => q_indexArrN rfl ar_47 rfl rfl (by omega)) ?_ | refine r_w rfl rfl (fun w => q_indexArr rfl ar_47 rfl rfl ⟨by omega, by omega⟩) ?_
              refine r_v rfl rfl (fun w hS => q_load1 rfl c1_45 rfl (by first | exact hS.cell 0 rfl rfl | exact hS.cell 1 rfl rfl | exact hS.cell 2 rfl rfl | exact hS.cell 3 rfl rfl | exact hS.cell 4 rfl rfl)) ?_
              refine r_w rfl rfl (fun w => q_pure (u_and rfl rfl)) ?_
              refine r_w rfl rfl (fun w => q_pure (u_xor rfl rfl)) ?_
              refine r_pptr rfl rfl rfl ?_
              refine r_pint rfl rfl rfl ?_
              refine r_pptr rfl rfl rfl ?_
              refine r_w rfl rfl (fun w => q_indexArrE (i) rfl ar_82 rfl rfl (by omega) (by omega)) ?_
              refine r_v rfl rfl (fun w hS => q_load1 rfl c1_45 rfl (arr_cell (hk.use hS 4 rfl).cells (by show i < 64; omega))) ?_
              refine r_pint rfl rfl rfl ?_
              refine r_w rfl rfl (fun w => q_indexArrE (i) rfl ar_82 rfl rfl (by omega) (by omega)) ?_
              refine r_v rfl rfl (fun w hS => q_load1 rfl c1_45 rfl (arr_cell (hS.cells 1 rfl) (by omega))) ?_
              refine r_do rfl ?_
              refine b_call rfl cb_47 rfl (ror_ok H _ (n := 6) (by omega)) (fun v w hv => ?_)
              obtain ⟨rfl, H⟩ := hv
              refine l_nil ⟨fun _ _ => H, ?_⟩
              refine r_do rfl ?_
              refine b_call rfl cb_47 rfl (ror_ok H _ (n := 11) (by omega)) (fun v w hv => ?_)
              obtain ⟨rfl, H⟩ := hv
              refine l_nil ⟨fun _ _ => H, ?_⟩
              refine r_w rfl rfl (fun w => q_pure (u_xor rfl rfl)) ?_
              refine r_do rfl ?_
              refine b_call rfl cb_47 rfl (ror_ok H _ (n := 25) (by omega)) (fun v w hv => ?_)
              obtain ⟨rfl, H⟩ := hv
              refine l_nil ⟨fun _ _ => H, ?_⟩
              refine r_w rfl rfl (fun w => q_pure (u_xor rfl rfl)) ?_
              refine r_w rfl rfl (fun w => q_pure (u_add rfl rfl)) ?_
              refine r_w rfl rfl (fun w => q_pure (u_add rfl rfl)) ?_
              refine r_w rfl rfl (fun w => q_pure (u_add rfl rfl)) ?_
              refine r_w rfl rfl (fun w => q_pure (u_add rfl rfl)) ?_
              first | refine r_p (v := U _) rfl rfl rfl ?_ | refine r_pint rfl rfl rfl ?_
              refine r_nil ?_
              refine w_seq ?_
              refine w_drawT [] [10, 14, 18, 20] [(0, 0), (2, 0), (5, 0), (8, 0), (9, 0), (10, 1), (11, 0), (12, 0), (13, 0), (14, 1), (15, 0), (16, 0), (17, 0), (18, 1), (19, 0), (20, 1), (21, 0), (22, 0), (1, 2), (3, 2), (4, 0), (6, 2), (7, 0), (23, 0), (24, 0)] mixed (by kernel_rfl) (fun _ _ _ h => fin_panic h) H (fun H => ?_)
              first | refine r_p (v := U _) rfl rfl rfl ?_ | refine r_pint rfl rfl rfl ?_
              first | refine r_p (v := U _) rfl rfl rfl ?_ | refine r_pint rfl rfl rfl ?_
              first | refine r_p (v := U _) rfl rfl rfl ?_ | refine r_pint rfl rfl rfl ?_
              first | refine r_p (v := U _) rfl rfl rfl ?_ | refine r_pint rfl rfl rfl ?_
              first | refine r_w rfl rfl (fun w => q_indexArrN rfl ar_47 rfl rfl (by omega)) ?_ | refine r_w rfl rfl (fun w => q_indexArr rfl ar_47 rfl rfl ⟨by omega, by omega⟩) ?_
              refine r_v rfl rfl (fun w hS => q_load1 rfl c1_45 rfl (by first | exact hS.cell 0 rfl rfl | exact hS.cell 1 rfl rfl | exact hS.cell 2 rfl rfl | exact hS.cell 3 rfl rfl | exact hS.cell 4 rfl rfl)) ?_
              refine r_w rfl rfl (fun w => q_pure (u_and rfl rfl)) ?_
              first | refine r_p (v := U _) rfl rfl rfl ?_ | refine r_pint rfl rfl rfl ?_
              first | refine r_w rfl rfl (fun w => q_indexArrN rfl ar_47 rfl rfl (by omega)) ?_ | refine r_w rfl rfl (fun w => q_indexArr rfl ar_47 rfl rfl ⟨by omega, by omega⟩) ?_
              refine r_v rfl rfl (fun w hS => q_load1 rfl c1_45 rfl (by first | exact hS.cell 0 rfl rfl | exact hS.cell 1 rfl rfl | exact hS.cell 2 rfl rfl | exact hS.cell 3 rfl rfl | exact hS.cell 4 rfl rfl)) ?_
              refine r_w rfl rfl (fun w => q_pure (u_and rfl rfl)) ?_
              refine r_w rfl rfl (fun w => q_pure (u_xor rfl rfl)) ?_
              first | refine r_w rfl rfl (fun w => q_indexArrN rfl ar_47 rfl rfl (by omega)) ?_ | refine r_w rfl rfl (fun w => q_indexArr rfl ar_47 rfl rfl ⟨by omega, by omega⟩) ?_
              refine r_v rfl rfl (fun w hS => q_load1 rfl c1_45 rfl (by first | exact hS.cell 0 rfl rfl | exact hS.cell 1 rfl rfl | exact hS.cell 2 rfl rfl | exact hS.cell 3 rfl rfl | exact hS.cell 4 rfl rfl)) ?_
              first | refine r_w rfl rfl (fun w => q_indexArrN rfl ar_47 rfl rfl (by omega)) ?_ | refine r_w rfl rfl (fun w => q_indexArr rfl ar_47 rfl rfl ⟨by omega, by omega⟩) ?_
              refine r_v rfl rfl (fun w hS => q_load1 rfl c1_45 rfl (by first | exact hS.cell 0 rfl rfl | exact hS.cell 1 rfl rfl | exact hS.cell 2 rfl rfl | exact hS.cell 3 rfl rfl | exact hS.cell 4 rfl rfl)) ?_
              refine r_w rfl rfl (fun w => q_pure (u_and rfl rfl)) ?_
              refine r_w rfl rfl (fun w => q_pure (u_xor rfl rfl)) ?_
              refine r_do rfl ?_
              refine b_call rfl cb_47 rfl (ror_ok H _ (n := 2) (by omega)) (fun v w hv => ?_)
              obtain ⟨rfl, H⟩ := hv
              refine l_nil ⟨fun _ _ => H, ?_⟩
              refine r_do rfl ?_
              refine b_call rfl cb_47 rfl (ror_ok H _ (n := 13) (by omega)) (fun v w hv => ?_)
              obtain ⟨rfl, H⟩ := hv
              refine l_nil ⟨fun _ _ => H, ?_⟩
              refine r_w rfl rfl (fun w => q_pure (u_xor rfl rfl)) ?_
              refine r_do rfl ?_
              refine b_call rfl cb_47 rfl (ror_ok H _ (n := 22) (by omega)) (fun v w hv => ?_)
              obtain ⟨rfl, H⟩ := hv
              refine l_nil ⟨fun _ _ => H, ?_⟩
              refine r_w rfl rfl (fun w => q_pure (u_xor rfl rfl)) ?_
              refine r_w rfl rfl (fun w => q_pure (u_add rfl rfl)) ?_
              first | refine r_p (v := U _) rfl rfl rfl ?_ | refine r_pint rfl rfl rfl ?_
              refine r_nil ?_
              refine w_region ?_
              first | refine l_p (v := U _) rfl rfl ?_ | refine l_pint rfl rfl ?_
              first | refine l_p (v := U _) rfl rfl ?_ | refine l_pint rfl rfl ?_
              refine l_v rfl (q_pure (u_add rfl rfl)) ?_
              first | refine l_v rfl (q_indexArrN rfl ar_47 rfl rfl (by omega)) ?_ | refine l_v rfl (q_indexArr rfl ar_47 rfl rfl ⟨by omega, by omega⟩) ?_
              refine l_v rfl (q_load1 rfl c1_45 rfl (by first | exact H.cell 0 rfl rfl | exact H.cell 1 rfl rfl | exact H.cell 2 rfl rfl | exact H.cell 3 rfl rfl | exact H.cell 4 rfl rfl)) ?_
              first | refine l_v rfl (q_indexArrN rfl ar_47 rfl rfl (by omega)) ?_ | refine l_v rfl (q_indexArr rfl ar_47 rfl rfl ⟨by omega, by omega⟩) ?_
              refine l_v rfl (q_load1 rfl c1_45 rfl (by first | exact H.cell 0 rfl rfl | exact H.cell 1 rfl rfl | exact H.cell 2 rfl rfl | exact H.cell 3 rfl rfl | exact H.cell 4 rfl rfl)) ?_
              first | refine l_v rfl (q_indexArrN rfl ar_47 rfl rfl (by omega)) ?_ | refine l_v rfl (q_indexArr rfl ar_47 rfl rfl ⟨by omega, by omega⟩) ?_
              refine l_v rfl (q_load1 rfl c1_45 rfl (by first | exact H.cell 0 rfl rfl | exact H.cell 1 rfl rfl | exact H.cell 2 rfl rfl | exact H.cell 3 rfl rfl | exact H.cell 4 rfl rfl)) ?_
              first | refine l_v rfl (q_indexArrN rfl ar_47 rfl rfl (by omega)) ?_ | refine l_v rfl (q_indexArr rfl ar_47 rfl rfl ⟨by omega, by omega⟩) ?_
              refine l_v rfl (q_load1 rfl c1_45 rfl (by first | exact H.cell 0 rfl rfl | exact H.cell 1 rfl rfl | exact H.cell 2 rfl rfl | exact H.cell 3 rfl rfl | exact H.cell 4 rfl rfl)) ?_
              first | refine l_p (v := U _) rfl rfl ?_ | refine l_pint rfl rfl ?_
              refine l_v rfl (q_pure (u_add rfl rfl)) ?_
              first | refine l_v rfl (q_indexArrN rfl ar_47 rfl rfl (by omega)) ?_ | refine l_v rfl (q_indexArr rfl ar_47 rfl rfl ⟨by omega, by omega⟩) ?_
              refine l_v rfl (q_load1 rfl c1_45 rfl (by first | exact H.cell 0 rfl rfl | exact H.cell 1 rfl rfl | exact H.cell 2 rfl rfl | exact H.cell 3 rfl rfl | exact H.cell 4 rfl rfl)) ?_
              first | refine l_v rfl (q_indexArrN rfl ar_47 rfl rfl (by omega)) ?_ | refine l_v rfl (q_indexArr rfl ar_47 rfl rfl ⟨by omega, by omega⟩) ?_
              refine l_v rfl (q_load1 rfl c1_45 rfl (by first | exact H.cell 0 rfl rfl | exact H.cell 1 rfl rfl | exact H.cell 2 rfl rfl | exact H.cell 3 rfl rfl | exact H.cell 4 rfl rfl)) ?_
              first | refine l_v rfl (q_indexArrN rfl ar_47 rfl rfl (by omega)) ?_ | refine l_v rfl (q_indexArr rfl ar_47 rfl rfl ⟨by omega, by omega⟩) ?_
              refine l_v rfl (q_load1 rfl c1_45 rfl (by first | exact H.cell 0 rfl rfl | exact H.cell 1 rfl rfl | exact H.cell 2 rfl rfl | exact H.cell 3 rfl rfl | exact H.cell 4 rfl rfl)) ?_
              refine l_v rfl (q_buildArr (cs := [U _, U _, U _, U _, U _, U _, U _, U _]) rfl ar_47 ze_47 rfl) ?_
              first | refine b_store (cs' := [_, _, _, _, _, _, _, _]) rfl sz_47 rfl rfl rfl rfl rfl H 0 rfl rfl rfl (fun w H => ?_) | refine b_store (cs' := [_, _, _, _, _, _, _, _]) rfl sz_47 rfl rfl rfl rfl rfl H 1 rfl rfl rfl (fun w H => ?_) | refine b_store (cs' := [_, _, _, _, _, _, _, _]) rfl sz_47 rfl rfl rfl rfl rfl H 2 rfl rfl rfl (fun w H => ?_) | refine b_store (cs' := [_, _, _, _, _, _, _, _]) rfl sz_47 rfl rfl rfl rfl rfl H 3 rfl rfl rfl (fun w H => ?_) | refine b_store (cs' := [_, _, _, _, _, _, _, _]) rfl sz_47 rfl rfl rfl rfl rfl H 4 rfl rfl rfl (fun w H => ?_)
              refine l_nil ?_
              refine w_region ?_
              first | refine l_v rfl (q_add rfl rfl rfl (by simp only [inK]; omega)) ?_ | refine l_pint rfl rfl ?_
              refine l_pint rfl rfl ?_
              refine l_nil ?_
              refine ⟨by repeat' first | exact Agr.mix _ _ _ | exact Agr.refl _ _ | refine Agr.inner rfl ?_ | refine Agr.upd rfl ?_ | refine Agr.updL' rfl ?_, ?_⟩
              exact ⟨m - 1, i + 1, by omega, ⟨by exact congrArg (Value.int IntKind.i64) (Int.natCast_succ i).symm, trivial⟩, by omega, H⟩
            · try simp only [decide_eq_true_eq, decide_eq_false_iff_not, Bool.not_eq_true', Bool.not_eq_false', beq_iff_eq, beq_eq_false_iff_ne, bne_iff_ne, bne_eq_false_iff_eq, ne_eq, Int.not_lt, Int.not_le] at c3
              refine w_exit ?_
              refine w_seq ?_
              refine w_seq ?_
              refine w_region ?_
              refine l_pint rfl rfl ?_
              refine l_nil ?_
              refine w_block ?_
              refine w_loopG (G := Nat) [18, 184, 185, 186, 187, 188, 189, 190, 191, 192, 193, 194, 195] (fun i => [(184, .int .i64 ((i : Nat) : Int))]) (fun m i w => m + i = 8 ∧ St W w (blk b12 (r8.list.map U) 47 :: blk b7 (ws.map U) 82 :: blk b6 z8 47 :: blk b3 ((addL s r8 i).map U) 47 :: F)) (fun _ => rfl) ?_ ?_
              · obtain rfl : i = 64 := by omega
                rw [← hr8] at H
                exact ⟨8, 0, ⟨rfl, trivial⟩, rfl, H⟩
              · rintro m i ρ1 w ⟨hi, H⟩
                refine w_seq ?_
                refine w_region ?_
                refine l_pbool rfl rfl ?_
                refine l_nil ?_
                refine w_seq ?_
                refine w_cond rfl (fun c4 => ?_) (fun c4 => ?_)
                · try simp only [decide_eq_true_eq, decide_eq_false_iff_not, Bool.not_eq_true', Bool.not_eq_false', beq_iff_eq, beq_eq_false_iff_ne, bne_iff_ne, bne_eq_false_iff_eq, ne_eq, Int.not_lt, Int.not_le] at c4
                  refine w_skip ?_
                  refine w_seq ?_
                  refine w_block ?_
                  refine w_seq ?_
                  refine w_region ?_
                  refine l_pint rfl rfl ?_
                  refine l_pint rfl rfl ?_
                  refine l_nil ?_
                  refine w_drawT [8] [2, 5] [(0, 0), (1, 0), (2, 1), (3, 0), (4, 0), (5, 1), (6, 0), (7, 0), (8, 2)] mixed (by kernel_rfl) (fun _ _ _ h => fin_panic h) H (fun H => ?_)
                  refine r_pint rfl rfl rfl ?_
                  refine r_w rfl rfl (fun w => q_indexArrE i rfl ar_47 rfl rfl rfl (by omega)) ?_
                  refine r_v rfl rfl (fun w hS => q_load1 rfl c1_45 rfl (arr_cell (hS.cells 3 rfl) (by rw [addL_len]; omega))) ?_
                  refine r_pint rfl rfl rfl ?_
                  refine r_w rfl rfl (fun w => q_indexArrE i rfl ar_47 rfl rfl rfl (by omega)) ?_
                  refine r_v rfl rfl (fun w hS => q_load1 rfl c1_45 rfl (arr_cell (hS.cells 0 rfl) (by show i < 8; omega))) ?_
                  refine r_w rfl rfl (fun w => q_pure (u_add rfl rfl)) ?_
                  refine r_w rfl rfl (fun w => q_indexArrE i rfl ar_47 rfl rfl rfl (by omega)) ?_
                  refine r_do rfl ?_
                  first | refine b_store (vs := [U _]) rfl sz_45 rfl rfl rfl rfl rfl H 0 rfl (Nat.ble_eq_true_of_le (by simp only [List.length_map, sch1_len, sch2_len, addL_len, List.length_cons, List.length_nil]; omega)) putL_U (fun w H => ?_) | refine b_store (vs := [U _]) rfl sz_45 rfl rfl rfl rfl rfl H 3 rfl (Nat.ble_eq_true_of_le (by simp only [List.length_map, sch1_len, sch2_len, addL_len, List.length_cons, List.length_nil]; omega)) putL_U (fun w H => ?_)
                  refine l_nil ⟨(fun h => nomatch h), ?_⟩
                  refine r_nil ?_
                  refine w_region ?_
                  first | refine l_v rfl (q_add rfl rfl rfl (by simp only [inK]; omega)) ?_ | refine l_pint rfl rfl ?_
                  refine l_pint rfl rfl ?_
                  refine l_nil ?_
                  refine ⟨by repeat' first | exact Agr.mix _ _ _ | exact Agr.refl _ _ | refine Agr.inner rfl ?_ | refine Agr.upd rfl ?_ | refine Agr.updL' rfl ?_, ?_⟩
                  exact ⟨m - 1, i + 1, by omega, ⟨by exact congrArg (Value.int IntKind.i64) (Int.natCast_succ i).symm, trivial⟩, by omega, H⟩
                · try simp only [decide_eq_true_eq, decide_eq_false_iff_not, Bool.not_eq_true', Bool.not_eq_false', beq_iff_eq, beq_eq_false_iff_ne, bne_iff_ne, bne_eq_false_iff_eq, ne_eq, Int.not_lt, Int.not_le] at c4
                  obtain rfl : i = 8 := by omega
                  rw [addL_8] at H
                  refine w_exit ?_
                  refine w_seq ?_
                  refine w_region ?_
                  refine l_v rfl (q_loadN (vs := [_, _, _, _, _, _, _, _]) rfl ag_47 rfl rfl (by first | exact H.cells 0 rfl | exact H.cells 1 rfl | exact H.cells 2 rfl | exact H.cells 3 rfl | exact H.cells 4 rfl)) ?_
                  first | refine b_store (cs' := [_, _, _, _, _, _, _, _]) rfl sz_47 rfl rfl rfl rfl rfl H 0 rfl rfl rfl (fun w H => ?_) | refine b_store (cs' := [_, _, _, _, _, _, _, _]) rfl sz_47 rfl rfl rfl rfl rfl H 1 rfl rfl rfl (fun w H => ?_) | refine b_store (cs' := [_, _, _, _, _, _, _, _]) rfl sz_47 rfl rfl rfl rfl rfl H 2 rfl rfl rfl (fun w H => ?_) | refine b_store (cs' := [_, _, _, _, _, _, _, _]) rfl sz_47 rfl rfl rfl rfl rfl H 3 rfl rfl rfl (fun w H => ?_) | refine b_store (cs' := [_, _, _, _, _, _, _, _]) rfl sz_47 rfl rfl rfl rfl rfl H 4 rfl rfl rfl (fun w H => ?_)
                  refine l_nil ?_
                  refine w_ret ?_
                  refine finc rfl ag_47 rfl (by first | exact H.cells 0 rfl | exact H.cells 1 rfl | exact H.cells 2 rfl | exact H.cells 3 rfl | exact H.cells 4 rfl) ?_
                  refine ⟨by rw [hb8]; rfl, (((H.erase 0).erase 0).erase 0).erase 0⟩

end Go.Proofs.Ytcmmbjplekgihaa
