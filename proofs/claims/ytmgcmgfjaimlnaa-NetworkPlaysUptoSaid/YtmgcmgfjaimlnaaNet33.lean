/- The law NetworkPlays on a valid net; for scripts of at most 1048576 calls. -/
import Derived.Test.YtmgcmgfjaimlnaaNet32
namespace Go.Proofs.Ytmgcmgfjaimlnaa
open Go.EW
attribute [local irreducible] EW.W EW.L EW.fin
set_option linter.unusedVariables false
set_option linter.unusedSimpArgs false
def zop (kind k : Int) : OpS := ⟨kind, k, 0, 0, ⟨0, 0, none, 0, 0, []⟩, false⟩
def NVal (nodes clients : Int) : Prop := 1 ≤ nodes ∧ nodes ≤ 7 ∧ 0 ≤ clients ∧ clients ≤ 16
set_option maxRecDepth 8000 in
set_option maxHeartbeats 2000000 in
theorem plays_yes {W w : World} {F : List Seg} (H : St W w F) (nodes clients : Int) (hval : NVal nodes clients) {oa : Option Addr} {oc : Nat} {os : List OpS} (hro : RdIn W [] oa (opsL os)) (hgo : OpGood W os) (hon : os.length ≤ 1048576) :
    Ok Try.prog 8 [.int .i64 nodes, .int .i64 clients, .bool false, .slice oa os.length oc].toArray w (fun v w' => v = .bool true ∧ ∃ S, St W w' S) := by
  refine enter (n := 144) (rs := #[.tmp 8]) Try.func8 rfl rfl rfl rfl ?_
  refine w_seq ?_
  refine w_region ?_
  refine l_pbool rfl rfl ?_
  refine l_nil ?_
  refine w_seq ?_
  refine w_region ?_
  refine l_pint rfl rfl ?_
  refine l_pint rfl rfl ?_
  refine b_call rfl cb_34 rfl (New_ok H nodes clients) (fun v w hv => ?_)
  obtain ⟨_, b, pm, cm, rfl, H⟩ := hv.resolve_left (fun h => h.1 hval)
  refine l_ptup rfl rfl ?_
  refine l_pptr rfl rfl ?_
  refine l_pint rfl rfl ?_
  refine l_pptr rfl rfl ?_
  refine l_pint rfl rfl ?_
  refine l_nil ?_
  refine w_seq ?_
  refine w_region ?_
  refine l_pint rfl rfl ?_
  refine l_pint rfl rfl ?_
  refine b_call rfl cb_35 rfl (rNew_ok H nodes clients) (fun v w hv => ?_)
  obtain ⟨x, y, rfl, hv⟩ := hv
  obtain ⟨_, rfl, b', rfl, H⟩ := hv.resolve_left (fun h => h.1 hval)
  have H := St.pick [5, 6, 7, 8, 9, 10, 11, 0, 1, 2, 3, 4] (pre := [_, _, _, _, _, _, _, _, _, _, _, _]) rfl H rfl
  refine l_ptup rfl rfl ?_
  refine l_pptr rfl rfl ?_
  refine l_pint rfl rfl ?_
  refine l_pptr rfl rfl ?_
  refine l_pint rfl rfl ?_
  refine l_nil ?_
  refine w_seq ?_
  refine w_seq ?_
  refine w_region ?_
  refine l_pint rfl rfl ?_
  refine l_pint rfl rfl ?_
  refine l_pbool rfl rfl ?_
  refine l_pbool rfl rfl ?_
  refine l_split 39 rfl (fun h39 => absurd h39 (by simp)) (fun h39 => ?_)
  try simp only [sH] at h39
  refine l_pptr rfl rfl ?_
  refine l_v rfl (q_eqlNilF rfl pt_24 rfl rfl) ?_
  refine l_pptr rfl rfl ?_
  refine l_v rfl (q_eqlNilF rfl pt_61 rfl rfl) ?_
  refine l_v rfl (q_neqBool rfl bo_4 rfl rfl) ?_
  refine l_pickF (v := .bool _) rfl rfl rfl ?_
  refine l_nil ?_
  refine w_cond rfl (fun c1 => ?_) (fun c1 => ?_)
  · try simp only [sH] at c1
    exact absurd c1 (by simp)
  try simp only [sH] at c1
  refine w_skip ?_
  refine w_seq ?_
  refine w_seq ?_
  refine w_region ?_
  refine l_pbool rfl rfl ?_
  refine l_nil ?_
  refine w_cond_f rfl ?_
  refine w_skip ?_
  refine w_seq ?_
  refine w_seq ?_
  refine w_region ?_
  refine l_pptr rfl rfl ?_
  refine l_v rfl (q_eqlNilF rfl pt_61 rfl rfl) ?_
  refine l_pbool rfl rfl ?_
  refine l_no rfl ?_
  refine l_no rfl ?_
  refine l_pickF (v := .bool _) rfl rfl rfl ?_
  refine l_nil ?_
  refine w_cond_f rfl ?_
  refine w_skip ?_
  refine w_seq ?_
  refine w_region ?_
  refine b_alloc (cs := bookC [] none 0 [] none 0) rfl ze_75 rfl H (fun b13 w H => ?_)
  have H := bk_new H
  refine l_nil ?_
  refine w_seq ?_
  refine w_seq ?_
  refine w_region ?_
  refine l_pint rfl rfl ?_
  refine l_nil ?_
  refine w_block ?_
  refine w_loopG (G := Nat × NetS × RS) [8, 14, 54, 55, 56, 57, 58, 59, 60, 61, 62, 63, 64, 65, 66, 67] (fun ⟨i, st, r⟩ => [(14, I64 ((i : Nat) : Int))]) (fun m ⟨i, st, r⟩ w => m + i = os.length ∧ Pl st r i ∧ St W w (netL b st (rfL b' r (bkX b13 (i * i + i) :: F)))) (fun _ => rfl) ?_ ?_
  · exact ⟨os.length, (0, _, _), ⟨rfl, trivial⟩, rfl, Pl.new (by have := hval; unfold NVal at this; omega) pm cm, St.pick [1, 2, 3, 4, 5, 6, 7, 8, 9, 10, 11, 12, 0] (pre := [_, _, _, _, _, _, _, _, _, _, _, _, _]) rfl H rfl⟩
  rintro m ⟨i, st, r⟩ ρ1 w ⟨hmi, hP, H⟩
  refine w_seq ?_
  refine w_seq ?_
  refine w_region ?_
  refine l_pint rfl rfl ?_
  refine l_pslice rfl rfl ?_
  refine l_v rfl (q_lenSlice rfl el_39 rfl) ?_
  refine l_pbool rfl rfl ?_
  refine l_nil ?_
  refine w_cond rfl (fun c2 => ?_) (fun c2 => ?_)
  · try simp only [sH] at c2
    obtain ⟨o, ho⟩ : ∃ o, os[i]? = some o := ⟨_, List.getElem?_eq_getElem (by omega)⟩
    obtain ⟨b0, o0, hoa, hoc⟩ := op_cells ((RdIn.ro hro).use H 0 rfl) ho
    have hop := hgo o (List.mem_of_getElem? ho)
    have hii : i * i ≤ 1048576 * 1048576 := Nat.mul_le_mul (by omega) (by omega)
    refine w_skip ?_
    refine w_seq ?_
    refine w_block ?_
    refine w_seq ?_
    refine w_region ?_
    refine l_pptr rfl rfl ?_
    refine l_pptr rfl rfl ?_
    refine l_pslice rfl rfl ?_
    refine l_pint rfl rfl ?_
    refine l_v rfl (q_indexSliceA rfl el_39 rfl hoa rfl (by omega)) ?_
    refine l_v rfl (q_loadN (vs := o.cells) rfl ag_41 rfl rfl hoc) ?_
    refine b_call rfl cb_36 rfl (does_ok H hP (by omega) (by omega) (RdIn.ro hop.1) hop.2.1 hop.2.2) (fun v w hv => ?_)
    obtain ⟨rfl, st1, r1, M, hP1, _, hM, H⟩ := hv
    refine l_pbool rfl rfl ?_
    refine l_nil ?_
    refine w_cond rfl (fun c3 => ?_) (fun c3 => ?_)
    · try simp only [sH] at c3
      exact absurd c3 (by simp)
    try simp only [sH] at c3
    refine w_skip ?_
    refine w_region ?_
    refine l_pint rfl rfl ?_
    first | refine l_v rfl (q_add rfl rfl rfl (by simp only [inK]; omega)) ?_ | refine l_pint rfl rfl ?_
    refine l_pint rfl rfl ?_
    refine l_nil ?_
    refine ⟨by repeat' first | exact aM | exact aR | refine aI rfl ?_ | refine aU rfl ?_ | refine aL rfl ?_, ?_⟩
    refine ⟨m - 1, (i + 1, st1, r1), by omega, ⟨by exact congrArg (Value.int IntKind.i64) (Int.natCast_succ i).symm, trivial⟩, by omega, hP1, nets_mono H ?_⟩
    have e : (i + 1) * (i + 1) = i * i + i + i + 1 := by simp [Nat.add_mul, Nat.mul_add]; omega
    omega
  try simp only [sH] at c2
  obtain rfl : i = os.length := by omega
  have hii : os.length * os.length ≤ 1048576 * 1048576 := Nat.mul_le_mul hon hon
  have hpl := hP.pl
  have hrl := hP.rl
  refine w_exit ?_
  refine w_seq ?_
  refine w_seq ?_
  refine w_region ?_
  refine l_pptr rfl rfl ?_
  refine l_pptr rfl rfl ?_
  refine l_v rfl (q_build (cs := (zop 13 0).cells) rfl sp_41 rfl) ?_
  refine b_call rfl cb_36 rfl (does_ok (o := zop 13 0) H hP (by omega) (by omega) RdIn.nil rfl (Nat.zero_le _)) (fun v w hv => ?_)
  obtain ⟨rfl, st1, r1, M1, _, hs, hM1, H⟩ := hv
  obtain ⟨e1, e2⟩ := hs (by decide)
  rw [e1, e2] at H
  refine l_pbool rfl rfl ?_
  refine l_pbool rfl rfl ?_
  refine l_split 73 rfl (fun h73 => absurd h73 (by simp)) (fun h73 => ?_)
  try simp only [sH] at h73
  refine l_pptr rfl rfl ?_
  refine l_pptr rfl rfl ?_
  refine l_v rfl (q_build (cs := (zop 10 0).cells) rfl sp_41 rfl) ?_
  refine b_call rfl cb_36 rfl (does_ok (o := zop 10 0) H hP (by omega) (by omega) RdIn.nil rfl (Nat.zero_le _)) (fun v w hv => ?_)
  obtain ⟨rfl, st1, r1, M2, _, hs, hM2, H⟩ := hv
  obtain ⟨e1, e2⟩ := hs (by decide)
  rw [e1, e2] at H
  refine l_pbool rfl rfl ?_
  refine l_pickF (v := .bool _) rfl rfl rfl ?_
  refine l_pbool rfl rfl ?_
  refine l_split 80 rfl (fun h80 => absurd h80 (by simp)) (fun h80 => ?_)
  try simp only [sH] at h80
  refine l_pptr rfl rfl ?_
  refine l_pptr rfl rfl ?_
  refine b_call rfl cb_37 rfl (each_ok H hP.fit hP.pool (by omega) (by omega)) (fun v w hv => ?_)
  obtain ⟨rfl, H⟩ := hv
  obtain ⟨N, hN, H⟩ : ∃ N, N ≤ 1200000000000 ∧ St W w (netL b st (rfL b' r (bkX b13 N :: F))) := ⟨_, by omega, H⟩
  refine l_pbool rfl rfl ?_
  refine l_pickF (v := .bool _) rfl rfl rfl ?_
  refine l_nil ?_
  refine w_cond rfl (fun c4 => ?_) (fun c4 => ?_)
  · try simp only [sH] at c4
    exact absurd c4 (by simp)
  try simp only [sH] at c4
  refine w_skip ?_
  refine w_seq ?_
  refine w_seq ?_
  refine w_region ?_
  refine l_pint rfl rfl ?_
  refine l_nil ?_
  refine w_block ?_
  refine w_loopG (G := Nat) [8, 15, 86, 87, 88, 89, 90, 91, 92, 93, 94, 95, 96, 97] (fun j => [(15, I64 ((j : Nat) : Int))]) (fun m j w => m + j = st.record.length ∧ St W w (netL b st (rfL b' r (bkX b13 (N + j) :: F)))) (fun _ => rfl) ?_ ?_
  · exact ⟨st.record.length, 0, ⟨rfl, trivial⟩, rfl, H⟩
  rintro m j ρ1 w ⟨hmj, H⟩
  refine w_seq ?_
  refine w_seq ?_
  refine w_region ?_
  refine l_pint rfl rfl ?_
  refine l_pptr rfl rfl ?_
  refine b_call rfl cb_38 rfl (qSent_ok (b' := b') (r := r) (st := st) (St.pick [7, 8, 9, 10, 11, 0, 1, 2, 3, 4, 5, 6, 12] (pre := [_, _, _, _, _, _, _, _, _, _, _, _, _]) rfl H rfl) hP) (fun v w hv => ?_)
  obtain ⟨rfl, H⟩ := hv
  have H := St.pick [5, 6, 7, 8, 9, 10, 11, 0, 1, 2, 3, 4, 12] (pre := [_, _, _, _, _, _, _, _, _, _, _, _, _]) rfl H rfl
  refine l_pbool rfl rfl ?_
  refine l_nil ?_
  refine w_cond rfl (fun c5 => ?_) (fun c5 => ?_)
  · try simp only [sH] at c5
    refine w_skip ?_
    refine w_seq ?_
    refine w_block ?_
    refine w_seq ?_
    refine w_region ?_
    refine l_pptr rfl rfl ?_
    refine l_pptr rfl rfl ?_
    refine l_pint rfl rfl ?_
    refine l_v rfl (q_build (cs := (zop 11 (j : Int)).cells) rfl sp_41 rfl) ?_
    refine b_call rfl cb_36 rfl (does_ok (o := zop 11 (j : Int)) H hP (by omega) (by omega) RdIn.nil rfl (Nat.zero_le _)) (fun v w hv => ?_)
    obtain ⟨rfl, st1, r1, M3, _, hs, hM3, H⟩ := hv
    obtain ⟨e1, e2⟩ := hs (show (10 : Int) ≤ 11 by decide)
    rw [e1, e2] at H
    have hM4 := hM3.2 (show (10 : Int) ≤ 11 by decide) (show (11 : Int) ≤ 13 by decide)
    have H := nets_mono (M := N + (j + 1)) H (by omega)
    refine l_pbool rfl rfl ?_
    refine l_nil ?_
    refine w_cond rfl (fun c6 => ?_) (fun c6 => ?_)
    · try simp only [sH] at c6
      exact absurd c6 (by simp)
    try simp only [sH] at c6
    refine w_skip ?_
    refine w_region ?_
    refine l_pint rfl rfl ?_
    first | refine l_v rfl (q_add rfl rfl rfl (by simp only [inK]; omega)) ?_ | refine l_pint rfl rfl ?_
    refine l_pint rfl rfl ?_
    refine l_nil ?_
    refine ⟨by repeat' first | exact aM | exact aR | refine aI rfl ?_ | refine aU rfl ?_ | refine aL rfl ?_, ?_⟩
    exact ⟨m - 1, j + 1, by omega, ⟨by exact congrArg (Value.int IntKind.i64) (Int.natCast_succ j).symm, trivial⟩, by omega, H⟩
  try simp only [sH] at c5
  refine w_exit ?_
  refine w_seq ?_
  refine w_seq ?_
  refine w_region ?_
  refine b_call rfl cb_39 rfl (bkApart_ok (St.pick [12, 0, 1, 2, 3, 4, 5, 6, 7, 8, 9, 10, 11] (pre := [_, _, _, _, _, _, _, _, _, _, _, _, _]) rfl H rfl) (by omega)) (fun v w hv => ?_)
  obtain ⟨rfl, H⟩ := hv
  refine l_pbool rfl rfl ?_
  refine l_nil ?_
  refine w_cond rfl (fun c7 => ?_) (fun c7 => ?_)
  · try simp only [sH] at c7
    exact absurd c7 (by simp)
  try simp only [sH] at c7
  refine w_skip ?_
  refine w_seq ?_
  refine w_seq ?_
  refine w_region ?_
  refine l_pint rfl rfl ?_
  refine l_nil ?_
  refine w_block ?_
  refine w_loopG (G := Nat) [8, 16, 17, 18, 19, 20, 100, 101, 102, 103, 104, 105, 106, 107, 108, 109, 110, 111, 112, 113, 114, 115, 116, 117, 118, 119, 120, 121, 122, 123, 124, 125, 126] (fun k => [(16, I64 ((k : Nat) : Int))]) (fun m k w => m + k = st.pool.length ∧ St W w (netL b st (rfL b' r F))) (fun _ => rfl) ?_ ?_
  · exact ⟨st.pool.length, 0, ⟨rfl, trivial⟩, rfl, H⟩
  rintro m k ρ1 w ⟨hmk, H⟩
  refine w_seq ?_
  refine w_seq ?_
  refine w_region ?_
  refine l_pint rfl rfl ?_
  refine l_pptr rfl rfl ?_
  refine b_call rfl cb_40 rfl (qLen_ok (b' := b') (r := r) (st := st) (St.pick [7, 8, 9, 10, 11, 0, 1, 2, 3, 4, 5, 6] (pre := [_, _, _, _, _, _, _, _, _, _, _, _]) rfl H rfl) hP) (fun v w hv => ?_)
  obtain ⟨rfl, H⟩ := hv
  have H := St.pick [5, 6, 7, 8, 9, 10, 11, 0, 1, 2, 3, 4] (pre := [_, _, _, _, _, _, _, _, _, _, _, _]) rfl H rfl
  refine l_pbool rfl rfl ?_
  refine l_nil ?_
  refine w_cond rfl (fun c8 => ?_) (fun c8 => ?_)
  · try simp only [sH] at c8
    refine w_skip ?_
    refine w_seq ?_
    refine w_block ?_
    refine w_seq ?_
    refine w_region ?_
    refine l_pptr rfl rfl ?_
    refine l_pint rfl rfl ?_
    refine b_call rfl cb_27 rfl (At_ok H hP.fit (k : Int)) (fun v w hv => ?_)
    obtain ⟨q, e, rfl, hat, H⟩ := hv
    have hql := own_len H
    refine l_ptup rfl rfl ?_
    refine l_pagg rfl rfl ?_
    refine l_pint rfl rfl ?_
    refine b_alloc rfl ze_31 rfl H (fun b17 w H => ?_)
    refine b_store (cs' := q.cells) rfl sz_31 rfl rfl rfl rfl rfl H 0 rfl rfl (putL_all rfl) (fun w H => ?_)
    refine l_pint rfl rfl ?_
    refine l_nil ?_
    refine w_seq ?_
    refine w_region ?_
    refine l_pptr rfl rfl ?_
    refine l_pint rfl rfl ?_
    refine b_call rfl cb_41 rfl (qAt_ok (b' := b') (r := r) (St.pick [9, 10, 11, 12, 13, 0, 1, 2, 3, 4, 5, 6, 7, 8] (pre := [_, _, _, _, _, _, _, _, _, _, _, _, _, _]) rfl H rfl) hP hat) (fun v w hv => ?_)
    obtain ⟨q', rfl, hsm, hql', H⟩ := hv
    refine l_ptup rfl rfl ?_
    refine l_pagg rfl rfl ?_
    refine l_pint rfl rfl ?_
    refine b_alloc rfl ze_31 rfl H (fun b19 w H => ?_)
    refine b_store (cs' := q'.cells) rfl sz_31 rfl rfl rfl rfl rfl H 0 rfl rfl (putL_all rfl) (fun w H => ?_)
    refine l_pint rfl rfl ?_
    refine l_nil ?_
    refine w_seq ?_
    refine w_region ?_
    refine l_pint rfl rfl ?_
    refine l_pint rfl rfl ?_
    refine l_pbool rfl rfl ?_
    refine l_pbool rfl rfl ?_
    refine l_split 121 rfl (fun h121 => absurd h121 (by simp)) (fun h121 => ?_)
    try simp only [sH] at h121
    refine l_v rfl (q_loadN (vs := [_, _, _]) rfl ag_31 rfl rfl (by first | exact H.cells 0 rfl | exact H.cells 1 rfl | exact H.cells 2 rfl | exact H.cells 3 rfl | exact H.cells 4 rfl | exact H.cells 5 rfl | exact H.cells 6 rfl | exact H.cells 7 rfl | exact H.cells 8 rfl | exact H.cells 9 rfl | exact H.cells 10 rfl | exact H.cells 11 rfl | exact H.cells 12 rfl | exact H.cells 13 rfl)) ?_
    refine l_v rfl (q_loadN (vs := [_, _, _]) rfl ag_31 rfl rfl (by first | exact H.cells 0 rfl | exact H.cells 1 rfl | exact H.cells 2 rfl | exact H.cells 3 rfl | exact H.cells 4 rfl | exact H.cells 5 rfl | exact H.cells 6 rfl | exact H.cells 7 rfl | exact H.cells 8 rfl | exact H.cells 9 rfl | exact H.cells 10 rfl | exact H.cells 11 rfl | exact H.cells 12 rfl | exact H.cells 13 rfl)) ?_
    refine b_call rfl cb_15 rfl (Same_ok H (p := q) (q := q') (RdIn.row 8 rfl) hql (RdIn.row 1 rfl) hql') (fun v w hv => ?_)
    obtain ⟨rfl, H⟩ := hv
    rw [hsm]
    refine l_pbool rfl rfl ?_
    refine l_pickF (v := .bool _) rfl rfl rfl ?_
    refine l_nil ?_
    refine w_cond rfl (fun c9 => ?_) (fun c9 => ?_)
    · try simp only [sH] at c9
      exact absurd c9 (by simp)
    try simp only [sH] at c9
    refine w_skip ?_
    refine w_region ?_
    refine l_pint rfl rfl ?_
    first | refine l_v rfl (q_add rfl rfl rfl (by simp only [inK]; omega)) ?_ | refine l_pint rfl rfl ?_
    refine l_pint rfl rfl ?_
    refine l_nil ?_
    refine ⟨by repeat' first | exact aM | exact aR | refine aI rfl ?_ | refine aU rfl ?_ | refine aL rfl ?_, ?_⟩
    exact ⟨m - 1, k + 1, by omega, ⟨by exact congrArg (Value.int IntKind.i64) (Int.natCast_succ k).symm, trivial⟩, by omega, St.pick [9, 10, 11, 12, 13, 14, 15, 2, 3, 4, 5, 6] (pre := [_, _, _, _, _, _, _, _, _, _, _, _, _, _, _, _]) rfl H rfl⟩
  try simp only [sH] at c8
  refine w_exit ?_
  refine w_seq ?_
  refine w_seq ?_
  refine w_region ?_
  refine l_pint rfl rfl ?_
  refine l_nil ?_
  refine w_block ?_
  refine w_loopG (G := Nat) [8, 21, 22, 23, 127, 128, 129, 130, 131, 132, 133, 134, 135, 136, 137, 138, 139, 140, 141, 142] (fun u => [(21, I64 ((u : Nat) : Int))]) (fun m u w => m + u = st.record.length ∧ St W w (netL b st (rfL b' r F))) (fun _ => rfl) ?_ ?_
  · exact ⟨st.record.length, 0, ⟨rfl, trivial⟩, rfl, H⟩
  rintro m u ρ1 w ⟨hmu, H⟩
  refine w_seq ?_
  refine w_seq ?_
  refine w_region ?_
  refine l_pint rfl rfl ?_
  refine l_pptr rfl rfl ?_
  refine b_call rfl cb_38 rfl (qSent_ok (b' := b') (r := r) (st := st) (St.pick [7, 8, 9, 10, 11, 0, 1, 2, 3, 4, 5, 6] (pre := [_, _, _, _, _, _, _, _, _, _, _, _]) rfl H rfl) hP) (fun v w hv => ?_)
  obtain ⟨rfl, H⟩ := hv
  have H := St.pick [5, 6, 7, 8, 9, 10, 11, 0, 1, 2, 3, 4] (pre := [_, _, _, _, _, _, _, _, _, _, _, _]) rfl H rfl
  refine l_pbool rfl rfl ?_
  refine l_nil ?_
  refine w_cond rfl (fun c10 => ?_) (fun c10 => ?_)
  · try simp only [sH] at c10
    have hlc := con_len hP.rc
    refine w_skip ?_
    refine w_seq ?_
    refine w_block ?_
    refine w_seq ?_
    refine w_region ?_
    refine l_pptr rfl rfl ?_
    refine l_pint rfl rfl ?_
    refine b_call rfl cb_42 rfl (rRecord_ok (b := b') (st := r) (St.pick [7, 8, 9, 10, 11, 0, 1, 2, 3, 4, 5, 6] (pre := [_, _, _, _, _, _, _, _, _, _, _, _]) rfl H rfl) hP.rfit (u : Int)) (fun v w hv => ?_)
    obtain ⟨q, e, rfl, hat, H⟩ := hv
    have hql := own_len H
    have hcm : (kget (0, q.to, q.bs) st.came).getD 0 > 0 := by
      rcases hat with ⟨h, _⟩ | ⟨p, _, _, hp, _, hc, _⟩
      · exact absurd ⟨by omega, by omega⟩ h
      simp only [Pk.con, Prod.mk.injEq] at hc
      exact (hP.came q.to q.bs).2 ⟨p, List.mem_of_getElem? hp, hc.2.1.symm, hc.2.2.symm⟩
    refine l_ptup rfl rfl ?_
    refine l_pagg rfl rfl ?_
    refine l_pint rfl rfl ?_
    refine b_alloc rfl ze_31 rfl H (fun b22 w H => ?_)
    refine b_store (cs' := q.cells) rfl sz_31 rfl rfl rfl rfl rfl H 0 rfl rfl (putL_all rfl) (fun w H => ?_)
    refine l_pint rfl rfl ?_
    refine l_nil ?_
    refine w_seq ?_
    refine w_region ?_
    refine l_pptr rfl rfl ?_
    refine l_v rfl (q_loadN (vs := [_, _, _]) rfl ag_31 rfl rfl (by first | exact H.cells 0 rfl | exact H.cells 1 rfl | exact H.cells 2 rfl | exact H.cells 3 rfl | exact H.cells 4 rfl | exact H.cells 5 rfl | exact H.cells 6 rfl | exact H.cells 7 rfl | exact H.cells 8 rfl | exact H.cells 9 rfl | exact H.cells 10 rfl | exact H.cells 11 rfl | exact H.cells 12 rfl | exact H.cells 13 rfl)) ?_
    refine b_call rfl cb_30 rfl (Genuine_ok (b := b) (st := st) (St.pick [7, 8, 9, 10, 11, 12, 13, 0, 1, 2, 3, 4, 5, 6] (pre := [_, _, _, _, _, _, _, _, _, _, _, _, _, _]) rfl H rfl) q.fr q.to (RdIn.row 1 rfl) hql) (fun v w hv => ?_)
    obtain ⟨rfl, H⟩ := hv
    rw [decide_eq_true hcm]
    refine l_pbool rfl rfl ?_
    refine l_nil ?_
    refine w_cond rfl (fun c11 => ?_) (fun c11 => ?_)
    · try simp only [sH] at c11
      exact absurd c11 (by simp)
    try simp only [sH] at c11
    refine w_skip ?_
    refine w_region ?_
    refine l_pint rfl rfl ?_
    first | refine l_v rfl (q_add rfl rfl rfl (by simp only [inK]; omega)) ?_ | refine l_pint rfl rfl ?_
    refine l_pint rfl rfl ?_
    refine l_nil ?_
    refine ⟨by repeat' first | exact aM | exact aR | refine aI rfl ?_ | refine aU rfl ?_ | refine aL rfl ?_, ?_⟩
    exact ⟨m - 1, u + 1, by omega, ⟨by exact congrArg (Value.int IntKind.i64) (Int.natCast_succ u).symm, trivial⟩, by omega, St.pick [0, 1, 2, 3, 4, 5, 6, 9, 10, 11, 12, 13] (pre := [_, _, _, _, _, _, _, _, _, _, _, _, _, _]) rfl H rfl⟩
  try simp only [sH] at c10
  refine w_exit ?_
  refine w_seq ?_
  refine w_region ?_
  refine b_call rfl cb_11 rfl (works_ok H) (fun v w hv => ?_)
  obtain ⟨rfl, H⟩ := hv
  refine l_pbool rfl rfl ?_
  refine l_nil ?_
  refine w_ret ?_
  refine fin1 (v := .bool _) rfl ?_
  exact ⟨rfl, _, H⟩
end Go.Proofs.Ytmgcmgfjaimlnaa
