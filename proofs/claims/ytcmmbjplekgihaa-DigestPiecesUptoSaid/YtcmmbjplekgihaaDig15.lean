/- The reference's block does what its contract says. -/
import Derived.Test.YtcmmbjplekgihaaDig14
namespace Go.Proofs.Ytcmmbjplekgihaa
open Go.EW
attribute [local irreducible] EW.W EW.L EW.fin block8 outB parA pgo hexL shaL digitI
set_option linter.unusedVariables false
set_option linter.unusedSimpArgs false

def cpL (s : S8) : Nat → List UInt32
  | 0 => List.replicate 8 0
  | i + 1 => (cpL s i).set i (s.list.getD i 0)
theorem cpL_len (s : S8) : ∀ i, (cpL s i).length = 8
  | 0 => by simp [cpL]
  | i + 1 => by simp [cpL, cpL_len s i]
theorem cpL_8 (s : S8) : cpL s 8 = s.list := rfl
def addR (s t : S8) : Nat → List UInt32
  | 0 => t.list
  | i + 1 => (addR s t i).set i ((addR s t i).getD i 0 + s.list.getD i 0)
theorem addR_len (s t : S8) : ∀ i, (addR s t i).length = 8
  | 0 => rfl
  | i + 1 => by simp [addR, addR_len s t i]
theorem addR_8 (s t : S8) : addR s t 8 = (s.add t).list := by
  show [t.a + s.a, t.b + s.b, t.c + s.c, t.d + s.d, t.e + s.e, t.f + s.f, t.g + s.g, t.h + s.h] = [s.a + t.a, s.b + t.b, s.c + t.c, s.d + t.d, s.e + t.e, s.f + t.f, s.g + t.g, s.h + t.h]
  rw [UInt32.add_comm t.a, UInt32.add_comm t.b, UInt32.add_comm t.c, UInt32.add_comm t.d, UInt32.add_comm t.e, UInt32.add_comm t.f, UInt32.add_comm t.g, UInt32.add_comm t.h]
theorem rows64 : (List.replicate 64 (0 : UInt32)).map U = repL 64 [.int .u32 0] := by rw [repL_one, zeros64]
theorem rows8 : (List.replicate 8 (0 : UInt32)).map U = repL 8 [.int .u32 0] := by rw [repL_one]; simp [U]
theorem rd_U {w : World} {a : Option Addr} {l : List UInt32} {b o j : Nat} (ha : a = some ⟨b, o, none⟩) (h : Rd w a (l.map U)) (hj : j < l.length) : w.cell? ⟨b, o + j * 1, none⟩ = some (U (l.getD j 0)) := rd_at ha h (get_U hj)
theorem ad_U {w : World} {a : Option Addr} {l : List UInt32} (h : Rd w a (l.map U)) (hj : 0 < l.length) : ∃ b o, a = some ⟨b, o, none⟩ := by
  obtain ⟨b, o, ha, _⟩ := h 0 _ (get_U hj)
  exact ⟨b, o, ha⟩

set_option maxRecDepth 20000 in
set_option maxHeartbeats 2000000 in
theorem rblock_ok {W w : World} {F : List Seg} (H : St W w F) (s : S8) {sa : Option Addr} {sc : Nat} (hs : RdIn W F sa (s.list.map U)) {a : Option Addr} {n cap : Nat} {bs : List UInt8} (hr : RdIn W F a (bs.map B)) (hl : bs.length = n) (hn : 64 ≤ n) {ka : Option Addr} {kc : Nat} (hk : RdIn W F ka (keysL.map U)) :
    Ok Try.prog 28 [.slice sa 8 sc, .slice a n cap, .slice ka 64 kc].toArray w (fun v w' => ∃ b, v = .slice (some ⟨b, 0, none⟩) 8 8 ∧ St W w' (blk0 b ((block8 s bs).list.map U) 45 :: F)) := by
  obtain ⟨b0, o0, ha⟩ := byte_addr (j := 0) (hr.use H 0 rfl) (by omega)
  obtain ⟨bk, ok, hka⟩ := ad_U (hk.use H 0 rfl) (by decide)
  obtain ⟨bS, oS, hsa⟩ := ad_U (hs.use H 0 rfl) (by show 0 < 8; omega)
  obtain ⟨ws, hws⟩ : ∃ ws, ws = sch2 bs 48 := ⟨_, rfl⟩
  have hwl : ws.length = 64 := by rw [hws, sch2_len]
  obtain ⟨r8, hr8⟩ : ∃ r, r = rnds ws s 64 := ⟨_, rfl⟩
  have hb8 : block8 s bs = s.add r8 := by rw [hr8, hws]; unfold block8; rfl
  refine enter (n := 232) (rs := #[.tmp 6]) Try.func28 rfl rfl rfl rfl ?_
  refine w_seq ?_
  refine w_region ?_
  refine l_pslice rfl rfl ?_
  refine l_nil ?_
  refine w_seq ?_
  refine w_region ?_
  refine b_make (m := 64) rfl el_61 ze_45 rfl rfl rfl ⟨by decide, by decide⟩ H (fun b20 w H => ?_)
  refine l_pslice rfl rfl ?_
  refine l_nil ?_
  refine w_seq ?_
  refine w_seq ?_
  refine w_region ?_
  refine l_pint rfl rfl ?_
  refine l_nil ?_
  refine w_block ?_
  refine w_loopG (G := Nat) [8, 21, 22, 23, 24, 25, 26, 27, 28, 29, 30, 31, 32, 33, 34, 35, 36, 37, 38, 39, 40, 41, 42, 43, 44, 45, 46, 47, 48, 49, 50, 51, 52, 53, 54, 55, 56, 57, 58, 59, 60] (fun i => [(8, .int .i64 ((i : Nat) : Int))]) (fun m i w => m + i = 16 ∧ St W w (blk0 b20 ((sch1 bs i).map U) 45 :: F)) (fun _ => rfl) ?_ ?_
  · refine ⟨16, 0, ⟨rfl, trivial⟩, rfl, ?_⟩
    rw [sch1, rows64]; exact H
  · rintro m i ρ1 w ⟨hi, H⟩
    refine w_seq ?_
    refine w_seq ?_
    refine w_region ?_
    refine l_pint rfl rfl ?_
    refine l_pbool rfl rfl ?_
    refine l_nil ?_
    refine w_cond rfl (fun c1 => ?_) (fun c1 => ?_)
    · try simp only [decide_eq_true_eq, decide_eq_false_iff_not, Bool.not_eq_true', Bool.not_eq_false', beq_iff_eq, beq_eq_false_iff_ne, bne_iff_ne, bne_eq_false_iff_eq, ne_eq, Int.not_lt, Int.not_le] at c1
      refine w_skip ?_
      refine w_seq ?_
      refine w_block ?_
      refine w_drawT [36] [6, 14, 23, 32] [(0, 0), (1, 0), (2, 0), (3, 0), (4, 0), (5, 0), (6, 1), (7, 0), (8, 0), (9, 0), (10, 0), (11, 0), (12, 0), (13, 0), (14, 1), (15, 0), (16, 0), (17, 0), (18, 0), (19, 0), (20, 0), (21, 0), (22, 0), (23, 1), (24, 0), (25, 0), (26, 0), (27, 0), (28, 0), (29, 0), (30, 0), (31, 0), (32, 1), (33, 0), (34, 0), (35, 0), (36, 2)] mixed (by kernel_rfl) (fun _ _ _ h => fin_panic h) H (fun H => ?_)
      refine r_pslice rfl rfl rfl ?_
      refine r_pint rfl rfl rfl ?_
      refine r_pslice rfl rfl rfl ?_
      refine r_pint rfl rfl rfl ?_
      first | refine r_w rfl rfl (fun w => q_mul rfl rfl rfl (by simp only [inK]; omega)) ?_ | refine r_pint rfl rfl rfl ?_
      refine r_w rfl rfl (fun w => q_indexSliceE (4 * i) rfl el_22 rfl ha rfl (by omega) (by omega)) ?_
      refine r_v rfl rfl (fun w hS => q_load1 rfl c1_5 rfl (byte_cell ha (hr.use hS 1 rfl) (by omega))) ?_
      refine r_w rfl rfl (fun w => q_byteU rfl rfl in_45 rfl) ?_
      refine r_w rfl rfl (fun w => q_pure (u_shl (n := 24) rfl rfl (by first | decide | omega))) ?_
      refine r_pslice rfl rfl rfl ?_
      refine r_pint rfl rfl rfl ?_
      first | refine r_w rfl rfl (fun w => q_mul rfl rfl rfl (by simp only [inK]; omega)) ?_ | refine r_pint rfl rfl rfl ?_
      first | refine r_w rfl rfl (fun w => q_add rfl rfl rfl (by simp only [inK]; omega)) ?_ | refine r_pint rfl rfl rfl ?_
      refine r_w rfl rfl (fun w => q_indexSliceE (4 * i + 1) rfl el_22 rfl ha rfl (by omega) (by omega)) ?_
      refine r_v rfl rfl (fun w hS => q_load1 rfl c1_5 rfl (byte_cell ha (hr.use hS 1 rfl) (by omega))) ?_
      refine r_w rfl rfl (fun w => q_byteU rfl rfl in_45 rfl) ?_
      refine r_w rfl rfl (fun w => q_pure (u_shl (n := 16) rfl rfl (by first | decide | omega))) ?_
      refine r_w rfl rfl (fun w => q_pure (u_or rfl rfl)) ?_
      refine r_pslice rfl rfl rfl ?_
      refine r_pint rfl rfl rfl ?_
      first | refine r_w rfl rfl (fun w => q_mul rfl rfl rfl (by simp only [inK]; omega)) ?_ | refine r_pint rfl rfl rfl ?_
      first | refine r_w rfl rfl (fun w => q_add rfl rfl rfl (by simp only [inK]; omega)) ?_ | refine r_pint rfl rfl rfl ?_
      refine r_w rfl rfl (fun w => q_indexSliceE (4 * i + 2) rfl el_22 rfl ha rfl (by omega) (by omega)) ?_
      refine r_v rfl rfl (fun w hS => q_load1 rfl c1_5 rfl (byte_cell ha (hr.use hS 1 rfl) (by omega))) ?_
      refine r_w rfl rfl (fun w => q_byteU rfl rfl in_45 rfl) ?_
      refine r_w rfl rfl (fun w => q_pure (u_shl (n := 8) rfl rfl (by first | decide | omega))) ?_
      refine r_w rfl rfl (fun w => q_pure (u_or rfl rfl)) ?_
      refine r_pslice rfl rfl rfl ?_
      refine r_pint rfl rfl rfl ?_
      first | refine r_w rfl rfl (fun w => q_mul rfl rfl rfl (by simp only [inK]; omega)) ?_ | refine r_pint rfl rfl rfl ?_
      first | refine r_w rfl rfl (fun w => q_add rfl rfl rfl (by simp only [inK]; omega)) ?_ | refine r_pint rfl rfl rfl ?_
      refine r_w rfl rfl (fun w => q_indexSliceE (4 * i + 3) rfl el_22 rfl ha rfl (by omega) (by omega)) ?_
      refine r_v rfl rfl (fun w hS => q_load1 rfl c1_5 rfl (byte_cell ha (hr.use hS 1 rfl) (by omega))) ?_
      refine r_w rfl rfl (fun w => q_byteU rfl rfl in_45 rfl) ?_
      refine r_w rfl rfl (fun w => q_pure (u_or rfl rfl)) ?_
      refine r_w rfl rfl (fun w => q_indexSliceE (i) rfl el_61 rfl rfl rfl (by omega) (by omega)) ?_
      refine r_do rfl ?_
      refine b_store0 (vs := [U _]) rfl sz_45 rfl rfl rfl rfl rfl H 0 rfl (by simp only [List.length_map, sch1_len, sch2_len, addR_len, cpL_len, List.length_cons, List.length_nil]; omega) (fun w H => ?_)
      rw [putL_U] at H
      refine l_nil ⟨(fun h => nomatch h), ?_⟩
      refine r_nil ?_
      refine w_region ?_
      refine l_pint rfl rfl ?_
      first | refine l_v rfl (q_add rfl rfl rfl (by simp only [inK]; omega)) ?_ | refine l_pint rfl rfl ?_
      refine l_pint rfl rfl ?_
      refine l_nil ?_
      refine ⟨by repeat' first | exact Agr.mix _ _ _ | exact Agr.refl _ _ | refine Agr.inner rfl ?_ | refine Agr.upd rfl ?_ | refine Agr.updL' rfl ?_, ?_⟩
      exact ⟨m - 1, i + 1, by omega, ⟨by exact congrArg (Value.int IntKind.i64) (Int.natCast_succ i).symm, trivial⟩, by omega, H⟩
    · try simp only [decide_eq_true_eq, decide_eq_false_iff_not, Bool.not_eq_true', Bool.not_eq_false', beq_iff_eq, beq_eq_false_iff_ne, bne_iff_ne, bne_eq_false_iff_eq, ne_eq, Int.not_lt, Int.not_le] at c1
      refine w_exit ?_
      refine w_seq ?_
      refine w_seq ?_
      refine w_region ?_
      refine l_pint rfl rfl ?_
      refine l_nil ?_
      refine w_block ?_
      refine w_loopG (G := Nat) [9, 10, 11, 61, 62, 63, 64, 65, 66, 67, 68, 69, 70, 71, 72, 73, 74, 75, 76, 77, 78, 79, 80, 81, 82, 83, 84, 85, 86, 87, 88, 89, 90, 91, 92, 93, 94, 95, 96, 97, 98, 99, 100, 101, 102, 103, 104, 105, 106] (fun i => [(9, .int .i64 ((16 + i : Nat) : Int))]) (fun m i w => m + i = 48 ∧ St W w (blk0 b20 ((sch2 bs i).map U) 45 :: F)) (fun _ => rfl) ?_ ?_
      · have e : i = 16 := by omega
        subst e
        exact ⟨48, 0, ⟨rfl, trivial⟩, rfl, H⟩
      · rintro m i ρ1 w ⟨hi, H⟩
        refine w_seq ?_
        refine w_seq ?_
        refine w_region ?_
        refine l_pint rfl rfl ?_
        refine l_pbool rfl rfl ?_
        refine l_nil ?_
        refine w_cond rfl (fun c2 => ?_) (fun c2 => ?_)
        · try simp only [decide_eq_true_eq, decide_eq_false_iff_not, Bool.not_eq_true', Bool.not_eq_false', beq_iff_eq, beq_eq_false_iff_ne, bne_iff_ne, bne_eq_false_iff_eq, ne_eq, Int.not_lt, Int.not_le] at c2
          refine w_skip ?_
          refine w_seq ?_
          refine w_block ?_
          refine w_seq ?_
          refine w_region ?_
          refine l_pslice rfl rfl ?_
          refine l_pint rfl rfl ?_
          first | refine l_v rfl (q_sub rfl rfl rfl (by simp only [inK]; omega)) ?_ | refine l_pint rfl rfl ?_
          refine l_v rfl (q_indexSliceE (i + 1) rfl el_61 rfl rfl rfl (by omega) (by omega)) ?_
          refine l_v rfl (q_load1 rfl c1_45 rfl (arr_cell (H.cells0 0 rfl) (by rw [sch2_len]; omega))) ?_
          first | refine l_p (v := U _) rfl rfl ?_ | refine l_pint rfl rfl ?_
          refine l_nil ?_
          refine w_seq ?_
          refine w_region ?_
          refine l_pslice rfl rfl ?_
          refine l_pint rfl rfl ?_
          first | refine l_v rfl (q_sub rfl rfl rfl (by simp only [inK]; omega)) ?_ | refine l_pint rfl rfl ?_
          refine l_v rfl (q_indexSliceE (i + 14) rfl el_61 rfl rfl rfl (by omega) (by omega)) ?_
          refine l_v rfl (q_load1 rfl c1_45 rfl (arr_cell (H.cells0 0 rfl) (by rw [sch2_len]; omega))) ?_
          first | refine l_p (v := U _) rfl rfl ?_ | refine l_pint rfl rfl ?_
          refine l_nil ?_
          refine w_drawT [32] [6, 20] [(0, 0), (1, 0), (2, 0), (3, 0), (4, 0), (5, 0), (6, 1), (7, 0), (9, 0), (12, 0), (13, 0), (16, 0), (17, 0), (18, 0), (19, 0), (20, 1), (22, 0), (24, 0), (27, 0), (28, 0), (8, 2), (10, 2), (11, 0), (14, 0), (15, 0), (21, 0), (23, 2), (25, 2), (26, 0), (29, 0), (30, 0), (31, 0), (32, 2)] mixed (by kernel_rfl) (fun _ _ _ h => fin_panic h) H (fun H => ?_)
          refine r_pslice rfl rfl rfl ?_
          refine r_pint rfl rfl rfl ?_
          refine r_pslice rfl rfl rfl ?_
          refine r_pint rfl rfl rfl ?_
          first | refine r_w rfl rfl (fun w => q_sub rfl rfl rfl (by simp only [inK]; omega)) ?_ | refine r_pint rfl rfl rfl ?_
          refine r_w rfl rfl (fun w => q_indexSliceE (i) rfl el_61 rfl rfl rfl (by omega) (by omega)) ?_
          refine r_v rfl rfl (fun w hS => q_load1 rfl c1_45 rfl (arr_cell (hS.cells0 0 rfl) (by rw [sch2_len]; omega))) ?_
          first | refine r_p (v := U _) rfl rfl rfl ?_ | refine r_pint rfl rfl rfl ?_
          first | refine r_p (v := U _) rfl rfl rfl ?_ | refine r_pint rfl rfl rfl ?_
          first | refine r_p (v := U _) rfl rfl rfl ?_ | refine r_pint rfl rfl rfl ?_
          refine r_w rfl rfl (fun w => q_pure (u_shr (n := 3) rfl rfl (by first | decide | omega))) ?_
          refine r_pslice rfl rfl rfl ?_
          refine r_pint rfl rfl rfl ?_
          first | refine r_w rfl rfl (fun w => q_sub rfl rfl rfl (by simp only [inK]; omega)) ?_ | refine r_pint rfl rfl rfl ?_
          refine r_w rfl rfl (fun w => q_indexSliceE (i + 9) rfl el_61 rfl rfl rfl (by omega) (by omega)) ?_
          refine r_v rfl rfl (fun w hS => q_load1 rfl c1_45 rfl (arr_cell (hS.cells0 0 rfl) (by rw [sch2_len]; omega))) ?_
          first | refine r_p (v := U _) rfl rfl rfl ?_ | refine r_pint rfl rfl rfl ?_
          first | refine r_p (v := U _) rfl rfl rfl ?_ | refine r_pint rfl rfl rfl ?_
          first | refine r_p (v := U _) rfl rfl rfl ?_ | refine r_pint rfl rfl rfl ?_
          refine r_w rfl rfl (fun w => q_pure (u_shr (n := 10) rfl rfl (by first | decide | omega))) ?_
          refine r_do rfl ?_
          refine b_call rfl cb_42 rfl (ror2_ok _ (n := 7) (by omega)) (fun v w hv => ?_)
          obtain ⟨rfl, rfl⟩ := hv
          refine l_nil ⟨fun _ _ => (by first | exact H | exact H.drop1 | exact H.drop1.drop1 | exact H.drop1.drop1.drop1), ?_⟩
          refine r_do rfl ?_
          refine b_call rfl cb_42 rfl (ror2_ok _ (n := 18) (by omega)) (fun v w hv => ?_)
          obtain ⟨rfl, rfl⟩ := hv
          refine l_nil ⟨fun _ _ => (by first | exact H | exact H.drop1 | exact H.drop1.drop1 | exact H.drop1.drop1.drop1), ?_⟩
          refine r_w rfl rfl (fun w => q_pure (u_xor rfl rfl)) ?_
          refine r_w rfl rfl (fun w => q_pure (u_xor rfl rfl)) ?_
          refine r_w rfl rfl (fun w => q_pure (u_add rfl rfl)) ?_
          refine r_w rfl rfl (fun w => q_pure (u_add rfl rfl)) ?_
          refine r_do rfl ?_
          refine b_call rfl cb_42 rfl (ror2_ok _ (n := 17) (by omega)) (fun v w hv => ?_)
          obtain ⟨rfl, rfl⟩ := hv
          refine l_nil ⟨fun _ _ => (by first | exact H | exact H.drop1 | exact H.drop1.drop1 | exact H.drop1.drop1.drop1), ?_⟩
          refine r_do rfl ?_
          refine b_call rfl cb_42 rfl (ror2_ok _ (n := 19) (by omega)) (fun v w hv => ?_)
          obtain ⟨rfl, rfl⟩ := hv
          refine l_nil ⟨fun _ _ => (by first | exact H | exact H.drop1 | exact H.drop1.drop1 | exact H.drop1.drop1.drop1), ?_⟩
          refine r_w rfl rfl (fun w => q_pure (u_xor rfl rfl)) ?_
          refine r_w rfl rfl (fun w => q_pure (u_xor rfl rfl)) ?_
          refine r_w rfl rfl (fun w => q_pure (u_add rfl rfl)) ?_
          refine r_w rfl rfl (fun w => q_indexSliceE (16 + i) rfl el_61 rfl rfl rfl (by omega) (by omega)) ?_
          refine r_do rfl ?_
          refine b_store0 (vs := [U _]) rfl sz_45 rfl rfl rfl rfl rfl H 0 rfl (by simp only [List.length_map, sch1_len, sch2_len, addR_len, cpL_len, List.length_cons, List.length_nil]; omega) (fun w H => ?_)
          rw [putL_U] at H
          refine l_nil ⟨(fun h => nomatch h), ?_⟩
          refine r_nil ?_
          refine w_region ?_
          refine l_pint rfl rfl ?_
          first | refine l_v rfl (q_add rfl rfl rfl (by simp only [inK]; omega)) ?_ | refine l_pint rfl rfl ?_
          refine l_pint rfl rfl ?_
          refine l_nil ?_
          refine ⟨by repeat' first | exact Agr.mix _ _ _ | exact Agr.refl _ _ | refine Agr.inner rfl ?_ | refine Agr.upd rfl ?_ | refine Agr.updL' rfl ?_, ?_⟩
          exact ⟨m - 1, i + 1, by omega, ⟨by exact congrArg (Value.int IntKind.i64) (by omega), trivial⟩, by omega, H⟩
        · try simp only [decide_eq_true_eq, decide_eq_false_iff_not, Bool.not_eq_true', Bool.not_eq_false', beq_iff_eq, beq_eq_false_iff_ne, bne_iff_ne, bne_eq_false_iff_eq, ne_eq, Int.not_lt, Int.not_le] at c2
          have e : i = 48 := by omega
          subst e
          rw [← hws] at H
          refine w_exit ?_
          refine w_seq ?_
          refine w_region ?_
          refine b_make (m := 8) rfl el_61 ze_45 rfl rfl rfl ⟨by decide, by decide⟩ H (fun b107 w H => ?_)
          refine l_pslice rfl rfl ?_
          refine l_nil ?_
          refine w_seq ?_
          refine w_seq ?_
          refine w_region ?_
          refine l_pint rfl rfl ?_
          refine l_nil ?_
          refine w_block ?_
          refine w_loopG (G := Nat) [13, 108, 109, 110, 111, 112, 113, 114, 115, 116, 117, 118] (fun i => [(13, .int .i64 ((i : Nat) : Int))]) (fun m i w => m + i = 8 ∧ St W w (blk0 b107 ((cpL s i).map U) 45 :: blk0 b20 (ws.map U) 45 :: F)) (fun _ => rfl) ?_ ?_
          · refine ⟨8, 0, ⟨rfl, trivial⟩, rfl, ?_⟩
            rw [cpL, rows8]; exact H
          · rintro m i ρ1 w ⟨hi, H⟩
            refine w_seq ?_
            refine w_seq ?_
            refine w_region ?_
            refine l_pint rfl rfl ?_
            refine l_pbool rfl rfl ?_
            refine l_nil ?_
            refine w_cond rfl (fun c3 => ?_) (fun c3 => ?_)
            · try simp only [decide_eq_true_eq, decide_eq_false_iff_not, Bool.not_eq_true', Bool.not_eq_false', beq_iff_eq, beq_eq_false_iff_ne, bne_iff_ne, bne_eq_false_iff_eq, ne_eq, Int.not_lt, Int.not_le] at c3
              refine w_skip ?_
              refine w_seq ?_
              refine w_block ?_
              refine w_region ?_
              refine l_pslice rfl rfl ?_
              refine l_pint rfl rfl ?_
              refine l_pslice rfl rfl ?_
              refine l_pint rfl rfl ?_
              refine l_v rfl (q_indexSliceE (i) rfl el_61 rfl hsa rfl (by omega) (by omega)) ?_
              refine l_v rfl (q_load1 rfl c1_45 rfl (rd_U hsa (hs.use H 2 rfl) (by show i < 8; omega))) ?_
              refine l_v rfl (q_indexSliceE (i) rfl el_61 rfl rfl rfl (by omega) (by omega)) ?_
              refine b_store0 (vs := [U _]) rfl sz_45 rfl rfl rfl rfl rfl H 0 rfl (by simp only [List.length_map, sch1_len, sch2_len, addR_len, cpL_len, List.length_cons, List.length_nil]; omega) (fun w H => ?_)
              rw [putL_U] at H
              refine l_nil ?_
              refine w_region ?_
              refine l_pint rfl rfl ?_
              first | refine l_v rfl (q_add rfl rfl rfl (by simp only [inK]; omega)) ?_ | refine l_pint rfl rfl ?_
              refine l_pint rfl rfl ?_
              refine l_nil ?_
              refine ⟨by repeat' first | exact Agr.mix _ _ _ | exact Agr.refl _ _ | refine Agr.inner rfl ?_ | refine Agr.upd rfl ?_ | refine Agr.updL' rfl ?_, ?_⟩
              exact ⟨m - 1, i + 1, by omega, ⟨by exact congrArg (Value.int IntKind.i64) (Int.natCast_succ i).symm, trivial⟩, by omega, H⟩
            · try simp only [decide_eq_true_eq, decide_eq_false_iff_not, Bool.not_eq_true', Bool.not_eq_false', beq_iff_eq, beq_eq_false_iff_ne, bne_iff_ne, bne_eq_false_iff_eq, ne_eq, Int.not_lt, Int.not_le] at c3
              refine w_exit ?_
              refine w_seq ?_
              refine w_seq ?_
              refine w_region ?_
              refine l_pint rfl rfl ?_
              refine l_nil ?_
              refine w_block ?_
              refine w_loopG (G := Nat × Nat) [12, 14, 15, 16, 17, 18, 119, 120, 121, 122, 123, 124, 125, 126, 127, 128, 129, 130, 131, 132, 133, 134, 135, 136, 137, 138, 139, 140, 141, 142, 143, 144, 145, 146, 147, 148, 149, 150, 151, 152, 153, 154, 155, 156, 157, 158, 159, 160, 161, 162, 163, 164, 165, 166, 167, 168, 169, 170, 171, 172, 173, 174, 175, 176, 177, 178, 179, 180, 181, 182, 183, 184, 185, 186, 187, 188, 189, 190, 191, 192, 193, 194, 195, 196, 197, 198, 199, 200, 201, 202, 203, 204, 205, 206, 207, 208, 209, 210, 211, 212, 213, 214] (fun ⟨i, bv⟩ => [(14, .int .i64 ((i : Nat) : Int)), (12, .slice (some ⟨bv, 0, none⟩) 8 8)]) (fun m ⟨i, bv⟩ w => m + i = 64 ∧ St W w (blk0 bv ((rnds ws s i).list.map U) 45 :: blk0 b20 (ws.map U) 45 :: F)) (fun _ => rfl) ?_ ?_
              · have e : i = 8 := by omega
                subst e
                rw [cpL_8] at H
                exact ⟨64, (0, b107), ⟨rfl, rfl, trivial⟩, rfl, H⟩
              · rintro m ⟨i, bv⟩ ρ1 w ⟨hi, H⟩
                refine w_seq ?_
                refine w_seq ?_
                refine w_region ?_
                refine l_pint rfl rfl ?_
                refine l_pbool rfl rfl ?_
                refine l_nil ?_
                refine w_cond rfl (fun c4 => ?_) (fun c4 => ?_)
                · try simp only [decide_eq_true_eq, decide_eq_false_iff_not, Bool.not_eq_true', Bool.not_eq_false', beq_iff_eq, beq_eq_false_iff_ne, bne_iff_ne, bne_eq_false_iff_eq, ne_eq, Int.not_lt, Int.not_le] at c4
                  refine w_skip ?_
                  refine w_seq ?_
                  refine w_block ?_
                  refine w_seq ?_
                  refine w_region ?_
                  refine l_pslice rfl rfl ?_
                  refine l_v rfl (q_indexSliceE (4) rfl el_61 rfl rfl rfl (by omega) (by omega)) ?_
                  refine l_v rfl (q_load1 rfl c1_45 rfl (arr_cell (H.cells0 0 rfl) (by show 4 < 8; omega))) ?_
                  first | refine l_p (v := U _) rfl rfl ?_ | refine l_pint rfl rfl ?_
                  refine l_nil ?_
                  refine w_seq ?_
                  refine w_region ?_
                  refine l_pslice rfl rfl ?_
                  refine l_v rfl (q_indexSliceE (0) rfl el_61 rfl rfl rfl (by omega) (by omega)) ?_
                  refine l_v rfl (q_load1 rfl c1_45 rfl (arr_cell (H.cells0 0 rfl) (by show 0 < 8; omega))) ?_
                  first | refine l_p (v := U _) rfl rfl ?_ | refine l_pint rfl rfl ?_
                  refine l_nil ?_
                  refine w_seq ?_
                  refine w_drawT [] [2, 15, 21, 28, 33] [(0, 0), (1, 0), (2, 1), (3, 0), (5, 0), (8, 0), (12, 0), (13, 0), (14, 0), (15, 1), (16, 0), (17, 0), (18, 0), (19, 0), (20, 0), (21, 1), (22, 0), (23, 0), (25, 0), (26, 0), (27, 0), (28, 1), (30, 0), (31, 0), (32, 0), (33, 1), (4, 2), (6, 2), (7, 0), (9, 2), (10, 0), (11, 0), (24, 0), (29, 0), (34, 0), (35, 0)] mixed (by kernel_rfl) (fun _ _ _ h => fin_panic h) H (fun H => ?_)
                  refine r_pslice rfl rfl rfl ?_
                  refine r_w rfl rfl (fun w => q_indexSliceE (7) rfl el_61 rfl rfl rfl (by omega) (by omega)) ?_
                  refine r_v rfl rfl (fun w hS => q_load1 rfl c1_45 rfl (arr_cell (hS.cells0 0 rfl) (by show 7 < 8; omega))) ?_
                  first | refine r_p (v := U _) rfl rfl rfl ?_ | refine r_pint rfl rfl rfl ?_
                  first | refine r_p (v := U _) rfl rfl rfl ?_ | refine r_pint rfl rfl rfl ?_
                  first | refine r_p (v := U _) rfl rfl rfl ?_ | refine r_pint rfl rfl rfl ?_
                  first | refine r_p (v := U _) rfl rfl rfl ?_ | refine r_pint rfl rfl rfl ?_
                  refine r_pslice rfl rfl rfl ?_
                  refine r_w rfl rfl (fun w => q_indexSliceE (5) rfl el_61 rfl rfl rfl (by omega) (by omega)) ?_
                  refine r_v rfl rfl (fun w hS => q_load1 rfl c1_45 rfl (arr_cell (hS.cells0 0 rfl) (by show 5 < 8; omega))) ?_
                  refine r_w rfl rfl (fun w => q_pure (u_and rfl rfl)) ?_
                  first | refine r_p (v := U _) rfl rfl rfl ?_ | refine r_pint rfl rfl rfl ?_
                  refine r_w rfl rfl (fun w => q_pure (u_not rfl)) ?_
                  refine r_pslice rfl rfl rfl ?_
                  refine r_w rfl rfl (fun w => q_indexSliceE (6) rfl el_61 rfl rfl rfl (by omega) (by omega)) ?_
                  refine r_v rfl rfl (fun w hS => q_load1 rfl c1_45 rfl (arr_cell (hS.cells0 0 rfl) (by show 6 < 8; omega))) ?_
                  refine r_w rfl rfl (fun w => q_pure (u_and rfl rfl)) ?_
                  refine r_w rfl rfl (fun w => q_pure (u_xor rfl rfl)) ?_
                  refine r_pslice rfl rfl rfl ?_
                  refine r_pint rfl rfl rfl ?_
                  refine r_w rfl rfl (fun w => q_indexSliceE (i) rfl el_61 rfl hka rfl (by omega) (by omega)) ?_
                  refine r_v rfl rfl (fun w hS => q_load1 rfl c1_45 rfl (rd_U hka (hk.use hS 2 rfl) (by show i < 64; omega))) ?_
                  refine r_pslice rfl rfl rfl ?_
                  refine r_pint rfl rfl rfl ?_
                  refine r_w rfl rfl (fun w => q_indexSliceE (i) rfl el_61 rfl rfl rfl (by omega) (by omega)) ?_
                  refine r_v rfl rfl (fun w hS => q_load1 rfl c1_45 rfl (arr_cell (hS.cells0 1 rfl) (by omega))) ?_
                  refine r_do rfl ?_
                  refine b_call rfl cb_42 rfl (ror2_ok _ (n := 6) (by omega)) (fun v w hv => ?_)
                  obtain ⟨rfl, rfl⟩ := hv
                  refine l_nil ⟨fun _ _ => (by first | exact H | exact H.drop1 | exact H.drop1.drop1 | exact H.drop1.drop1.drop1), ?_⟩
                  refine r_do rfl ?_
                  refine b_call rfl cb_42 rfl (ror2_ok _ (n := 11) (by omega)) (fun v w hv => ?_)
                  obtain ⟨rfl, rfl⟩ := hv
                  refine l_nil ⟨fun _ _ => (by first | exact H | exact H.drop1 | exact H.drop1.drop1 | exact H.drop1.drop1.drop1), ?_⟩
                  refine r_w rfl rfl (fun w => q_pure (u_xor rfl rfl)) ?_
                  refine r_do rfl ?_
                  refine b_call rfl cb_42 rfl (ror2_ok _ (n := 25) (by omega)) (fun v w hv => ?_)
                  obtain ⟨rfl, rfl⟩ := hv
                  refine l_nil ⟨fun _ _ => (by first | exact H | exact H.drop1 | exact H.drop1.drop1 | exact H.drop1.drop1.drop1), ?_⟩
                  refine r_w rfl rfl (fun w => q_pure (u_xor rfl rfl)) ?_
                  refine r_w rfl rfl (fun w => q_pure (u_add rfl rfl)) ?_
                  refine r_w rfl rfl (fun w => q_pure (u_add rfl rfl)) ?_
                  refine r_w rfl rfl (fun w => q_pure (u_add rfl rfl)) ?_
                  refine r_w rfl rfl (fun w => q_pure (u_add rfl rfl)) ?_
                  first | refine r_p (v := U _) rfl rfl rfl ?_ | refine r_pint rfl rfl rfl ?_
                  refine r_nil ?_
                  refine w_seq ?_
                  refine w_drawT [] [11, 16, 21, 24] [(0, 0), (2, 0), (5, 0), (8, 0), (9, 0), (10, 0), (11, 1), (12, 0), (13, 0), (14, 0), (15, 0), (16, 1), (17, 0), (18, 0), (19, 0), (20, 0), (21, 1), (22, 0), (23, 0), (24, 1), (25, 0), (26, 0), (1, 2), (3, 2), (4, 0), (6, 2), (7, 0), (27, 0), (28, 0)] mixed (by kernel_rfl) (fun _ _ _ h => fin_panic h) H (fun H => ?_)
                  first | refine r_p (v := U _) rfl rfl rfl ?_ | refine r_pint rfl rfl rfl ?_
                  first | refine r_p (v := U _) rfl rfl rfl ?_ | refine r_pint rfl rfl rfl ?_
                  first | refine r_p (v := U _) rfl rfl rfl ?_ | refine r_pint rfl rfl rfl ?_
                  first | refine r_p (v := U _) rfl rfl rfl ?_ | refine r_pint rfl rfl rfl ?_
                  refine r_pslice rfl rfl rfl ?_
                  refine r_w rfl rfl (fun w => q_indexSliceE (1) rfl el_61 rfl rfl rfl (by omega) (by omega)) ?_
                  refine r_v rfl rfl (fun w hS => q_load1 rfl c1_45 rfl (arr_cell (hS.cells0 0 rfl) (by show 1 < 8; omega))) ?_
                  refine r_w rfl rfl (fun w => q_pure (u_and rfl rfl)) ?_
                  first | refine r_p (v := U _) rfl rfl rfl ?_ | refine r_pint rfl rfl rfl ?_
                  refine r_pslice rfl rfl rfl ?_
                  refine r_w rfl rfl (fun w => q_indexSliceE (2) rfl el_61 rfl rfl rfl (by omega) (by omega)) ?_
                  refine r_v rfl rfl (fun w hS => q_load1 rfl c1_45 rfl (arr_cell (hS.cells0 0 rfl) (by show 2 < 8; omega))) ?_
                  refine r_w rfl rfl (fun w => q_pure (u_and rfl rfl)) ?_
                  refine r_w rfl rfl (fun w => q_pure (u_xor rfl rfl)) ?_
                  refine r_pslice rfl rfl rfl ?_
                  refine r_w rfl rfl (fun w => q_indexSliceE (1) rfl el_61 rfl rfl rfl (by omega) (by omega)) ?_
                  refine r_v rfl rfl (fun w hS => q_load1 rfl c1_45 rfl (arr_cell (hS.cells0 0 rfl) (by show 1 < 8; omega))) ?_
                  refine r_pslice rfl rfl rfl ?_
                  refine r_w rfl rfl (fun w => q_indexSliceE (2) rfl el_61 rfl rfl rfl (by omega) (by omega)) ?_
                  refine r_v rfl rfl (fun w hS => q_load1 rfl c1_45 rfl (arr_cell (hS.cells0 0 rfl) (by show 2 < 8; omega))) ?_
                  refine r_w rfl rfl (fun w => q_pure (u_and rfl rfl)) ?_
                  refine r_w rfl rfl (fun w => q_pure (u_xor rfl rfl)) ?_
                  refine r_do rfl ?_
                  refine b_call rfl cb_42 rfl (ror2_ok _ (n := 2) (by omega)) (fun v w hv => ?_)
                  obtain ⟨rfl, rfl⟩ := hv
                  refine l_nil ⟨fun _ _ => (by first | exact H | exact H.drop1 | exact H.drop1.drop1 | exact H.drop1.drop1.drop1), ?_⟩
                  refine r_do rfl ?_
                  refine b_call rfl cb_42 rfl (ror2_ok _ (n := 13) (by omega)) (fun v w hv => ?_)
                  obtain ⟨rfl, rfl⟩ := hv
                  refine l_nil ⟨fun _ _ => (by first | exact H | exact H.drop1 | exact H.drop1.drop1 | exact H.drop1.drop1.drop1), ?_⟩
                  refine r_w rfl rfl (fun w => q_pure (u_xor rfl rfl)) ?_
                  refine r_do rfl ?_
                  refine b_call rfl cb_42 rfl (ror2_ok _ (n := 22) (by omega)) (fun v w hv => ?_)
                  obtain ⟨rfl, rfl⟩ := hv
                  refine l_nil ⟨fun _ _ => (by first | exact H | exact H.drop1 | exact H.drop1.drop1 | exact H.drop1.drop1.drop1), ?_⟩
                  refine r_w rfl rfl (fun w => q_pure (u_xor rfl rfl)) ?_
                  refine r_w rfl rfl (fun w => q_pure (u_add rfl rfl)) ?_
                  first | refine r_p (v := U _) rfl rfl rfl ?_ | refine r_pint rfl rfl rfl ?_
                  refine r_nil ?_
                  refine w_drawT [22] [6, 9, 12, 18, 21] [(0, 0), (1, 0), (2, 0), (3, 0), (4, 0), (5, 0), (6, 1), (7, 0), (8, 0), (9, 1), (10, 0), (11, 0), (12, 1), (13, 0), (14, 0), (15, 0), (16, 0), (17, 0), (18, 1), (19, 0), (20, 0), (21, 1), (22, 2), (23, 0)] mixed (by kernel_rfl) (fun _ _ _ h => fin_panic h) H (fun H => ?_)
                  first | refine r_p (v := U _) rfl rfl rfl ?_ | refine r_pint rfl rfl rfl ?_
                  first | refine r_p (v := U _) rfl rfl rfl ?_ | refine r_pint rfl rfl rfl ?_
                  refine r_w rfl rfl (fun w => q_pure (u_add rfl rfl)) ?_
                  first | refine r_p (v := U _) rfl rfl rfl ?_ | refine r_pint rfl rfl rfl ?_
                  refine r_pslice rfl rfl rfl ?_
                  refine r_w rfl rfl (fun w => q_indexSliceE (1) rfl el_61 rfl rfl rfl (by omega) (by omega)) ?_
                  refine r_v rfl rfl (fun w hS => q_load1 rfl c1_45 rfl (arr_cell (hS.cells0 0 rfl) (by show 1 < 8; omega))) ?_
                  refine r_pslice rfl rfl rfl ?_
                  refine r_w rfl rfl (fun w => q_indexSliceE (2) rfl el_61 rfl rfl rfl (by omega) (by omega)) ?_
                  refine r_v rfl rfl (fun w hS => q_load1 rfl c1_45 rfl (arr_cell (hS.cells0 0 rfl) (by show 2 < 8; omega))) ?_
                  refine r_pslice rfl rfl rfl ?_
                  refine r_w rfl rfl (fun w => q_indexSliceE (3) rfl el_61 rfl rfl rfl (by omega) (by omega)) ?_
                  refine r_v rfl rfl (fun w hS => q_load1 rfl c1_45 rfl (arr_cell (hS.cells0 0 rfl) (by show 3 < 8; omega))) ?_
                  first | refine r_p (v := U _) rfl rfl rfl ?_ | refine r_pint rfl rfl rfl ?_
                  refine r_w rfl rfl (fun w => q_pure (u_add rfl rfl)) ?_
                  first | refine r_p (v := U _) rfl rfl rfl ?_ | refine r_pint rfl rfl rfl ?_
                  refine r_pslice rfl rfl rfl ?_
                  refine r_w rfl rfl (fun w => q_indexSliceE (5) rfl el_61 rfl rfl rfl (by omega) (by omega)) ?_
                  refine r_v rfl rfl (fun w hS => q_load1 rfl c1_45 rfl (arr_cell (hS.cells0 0 rfl) (by show 5 < 8; omega))) ?_
                  refine r_pslice rfl rfl rfl ?_
                  refine r_w rfl rfl (fun w => q_indexSliceE (6) rfl el_61 rfl rfl rfl (by omega) (by omega)) ?_
                  refine r_v rfl rfl (fun w hS => q_load1 rfl c1_45 rfl (arr_cell (hS.cells0 0 rfl) (by show 6 < 8; omega))) ?_
                  refine r_do rfl ?_
                  refine b_buildSlice (cs := [U _, U _, U _, U _, U _, U _, U _, U _]) rfl el_61 ze_45 rfl rfl rfl H (fun b214 w H => ?_)
                  refine l_nil ⟨(fun h => nomatch h), ?_⟩
                  refine r_pslice rfl rfl rfl ?_
                  refine r_nil ?_
                  refine w_region ?_
                  refine l_pint rfl rfl ?_
                  first | refine l_v rfl (q_add rfl rfl rfl (by simp only [inK]; omega)) ?_ | refine l_pint rfl rfl ?_
                  refine l_pint rfl rfl ?_
                  refine l_nil ?_
                  refine ⟨by repeat' first | exact Agr.mix _ _ _ | exact Agr.refl _ _ | refine Agr.inner rfl ?_ | refine Agr.upd rfl ?_ | refine Agr.updL' rfl ?_, ?_⟩
                  exact ⟨m - 1, (i + 1, b214), by omega, ⟨by exact congrArg (Value.int IntKind.i64) (Int.natCast_succ i).symm, rfl, trivial⟩, by omega, H.erase 1⟩
                · try simp only [decide_eq_true_eq, decide_eq_false_iff_not, Bool.not_eq_true', Bool.not_eq_false', beq_iff_eq, beq_eq_false_iff_ne, bne_iff_ne, bne_eq_false_iff_eq, ne_eq, Int.not_lt, Int.not_le] at c4
                  refine w_exit ?_
                  refine w_seq ?_
                  refine w_seq ?_
                  refine w_region ?_
                  refine l_pint rfl rfl ?_
                  refine l_nil ?_
                  refine w_block ?_
                  refine w_loopG (G := Nat) [19, 215, 216, 217, 218, 219, 220, 221, 222, 223, 224, 225, 226, 227, 228, 229, 230] (fun i => [(19, .int .i64 ((i : Nat) : Int))]) (fun m i w => m + i = 8 ∧ St W w (blk0 bv ((addR s r8 i).map U) 45 :: blk0 b20 (ws.map U) 45 :: F)) (fun _ => rfl) ?_ ?_
                  · have e : i = 64 := by omega
                    subst e
                    rw [← hr8] at H
                    exact ⟨8, 0, ⟨rfl, trivial⟩, rfl, H⟩
                  · rintro m i ρ1 w ⟨hi, H⟩
                    refine w_seq ?_
                    refine w_seq ?_
                    refine w_region ?_
                    refine l_pint rfl rfl ?_
                    refine l_pbool rfl rfl ?_
                    refine l_nil ?_
                    refine w_cond rfl (fun c5 => ?_) (fun c5 => ?_)
                    · try simp only [decide_eq_true_eq, decide_eq_false_iff_not, Bool.not_eq_true', Bool.not_eq_false', beq_iff_eq, beq_eq_false_iff_ne, bne_iff_ne, bne_eq_false_iff_eq, ne_eq, Int.not_lt, Int.not_le] at c5
                      refine w_skip ?_
                      refine w_seq ?_
                      refine w_block ?_
                      refine w_drawT [12] [5, 9] [(0, 0), (1, 0), (2, 0), (3, 0), (4, 0), (5, 1), (6, 0), (7, 0), (8, 0), (9, 1), (10, 0), (11, 0), (12, 2)] mixed (by kernel_rfl) (fun _ _ _ h => fin_panic h) H (fun H => ?_)
                      refine r_pslice rfl rfl rfl ?_
                      refine r_pint rfl rfl rfl ?_
                      refine r_pslice rfl rfl rfl ?_
                      refine r_pint rfl rfl rfl ?_
                      refine r_w rfl rfl (fun w => q_indexSliceE (i) rfl el_61 rfl rfl rfl (by omega) (by omega)) ?_
                      refine r_v rfl rfl (fun w hS => q_load1 rfl c1_45 rfl (arr_cell (hS.cells0 0 rfl) (by rw [addR_len]; omega))) ?_
                      refine r_pslice rfl rfl rfl ?_
                      refine r_pint rfl rfl rfl ?_
                      refine r_w rfl rfl (fun w => q_indexSliceE (i) rfl el_61 rfl hsa rfl (by omega) (by omega)) ?_
                      refine r_v rfl rfl (fun w hS => q_load1 rfl c1_45 rfl (rd_U hsa (hs.use hS 2 rfl) (by show i < 8; omega))) ?_
                      refine r_w rfl rfl (fun w => q_pure (u_add rfl rfl)) ?_
                      refine r_w rfl rfl (fun w => q_indexSliceE (i) rfl el_61 rfl rfl rfl (by omega) (by omega)) ?_
                      refine r_do rfl ?_
                      refine b_store0 (vs := [U _]) rfl sz_45 rfl rfl rfl rfl rfl H 0 rfl (by simp only [List.length_map, sch1_len, sch2_len, addR_len, cpL_len, List.length_cons, List.length_nil]; omega) (fun w H => ?_)
                      rw [putL_U] at H
                      refine l_nil ⟨(fun h => nomatch h), ?_⟩
                      refine r_nil ?_
                      refine w_region ?_
                      refine l_pint rfl rfl ?_
                      first | refine l_v rfl (q_add rfl rfl rfl (by simp only [inK]; omega)) ?_ | refine l_pint rfl rfl ?_
                      refine l_pint rfl rfl ?_
                      refine l_nil ?_
                      refine ⟨by repeat' first | exact Agr.mix _ _ _ | exact Agr.refl _ _ | refine Agr.inner rfl ?_ | refine Agr.upd rfl ?_ | refine Agr.updL' rfl ?_, ?_⟩
                      exact ⟨m - 1, i + 1, by omega, ⟨by exact congrArg (Value.int IntKind.i64) (Int.natCast_succ i).symm, trivial⟩, by omega, H⟩
                    · try simp only [decide_eq_true_eq, decide_eq_false_iff_not, Bool.not_eq_true', Bool.not_eq_false', beq_iff_eq, beq_eq_false_iff_ne, bne_iff_ne, bne_eq_false_iff_eq, ne_eq, Int.not_lt, Int.not_le] at c5
                      have e : i = 8 := by omega
                      subst e
                      rw [addR_8, ← hb8] at H
                      refine w_exit ?_
                      refine w_seq ?_
                      refine w_region ?_
                      refine l_pslice rfl rfl ?_
                      refine l_pslice rfl rfl ?_
                      refine l_nil ?_
                      refine w_ret ?_
                      refine fin1 (v := .slice _ _ _) rfl ?_
                      exact ⟨bv, rfl, H.erase 1⟩

end Go.Proofs.Ytcmmbjplekgihaa
