/- each: a net's pool told by its iterator is the reference's, and the nil case; for pools that leave room. -/
import Derived.Test.YtmgcmgfjaimlnaaNet27
namespace Go.Proofs.Ytmgcmgfjaimlnaa
open Go.EW
attribute [local irreducible] EW.W EW.L EW.fin
set_option linter.unusedVariables false
set_option linter.unusedSimpArgs false
theorem each_ok {W w : World} {F : List Seg} {b b' bk N : Nat} {st : NetS} {r : RS} (H : St W w (netL b st (rfL b' r (bkX bk N :: F)))) (hfit : st.fit) (hc : st.pool.map Pk.con = r.pool.map Pk.con) (hroom : st.pool.length * 40 ≤ 140737488351232) (hN : N + st.pool.length ≤ 2000000000000) :
    Ok Try.prog 37 [.pointer (some ⟨b, 0, none⟩), .pointer (some ⟨b', 0, none⟩), .pointer (some ⟨bk, 0, none⟩)].toArray w (fun v w' => v = .bool true ∧ St W w' (netL b st (rfL b' r (bkX bk (N + st.pool.length) :: F)))) := by
  refine enter (n := 52) (rs := #[.cell 6 4]) Try.func37 rfl rfl rfl rfl ?_
  refine w_seq ?_
  refine w_region ?_
  refine b_box (cs := [.pointer (some ⟨b', 0, none⟩)]) rfl rfl rfl H (fun b4 w H => ?_)
  refine b_box (cs := [.pointer (some ⟨bk, 0, none⟩)]) rfl rfl rfl H (fun b5 w H => ?_)
  refine b_alloc rfl ze_4 rfl H (fun b6 w H => ?_)
  refine l_nil ?_
  refine w_seq ?_
  refine w_region ?_
  refine l_pptr rfl rfl ?_
  refine b_call rfl cb_33 rfl (Each_ok (F := blk b6 [.bool false] 4 :: blk b5 [.pointer (some ⟨bk, 0, none⟩)] 77 :: blk b4 [.pointer (some ⟨b', 0, none⟩)] 61 :: rfL b' r (bkX bk N :: F)) (b := b) (st := st) (St.pick [3, 4, 5, 6, 7, 8, 9, 0, 1, 2] (pre := [_, _, _, _, _, _, _, _, _, _]) rfl H rfl) hfit (by omega)) (fun v w hv => ?_)
  obtain ⟨b3, a', c', l', rfl, hcon, hq, H⟩ := hv
  have hll : l'.length = st.pool.length := by rw [← List.length_map (f := Pk.con), hcon, List.length_map]
  have hlr : r.pool.length = st.pool.length := by rw [← List.length_map (f := Pk.con), ← hc, List.length_map]
  have hln : ∀ (k : Nat) (p : Pk), l'[k]? = some p → p.bs.length = p.n := fun k p hp => (pk_len H 2 rfl hp).1
  refine l_pfn rfl rfl ?_
  refine l_nil ?_
  refine w_seq ?_
  refine w_seq ?_
  refine w_region ?_
  refine l_pfn rfl rfl ?_
  refine l_v rfl (q_eqlFuncF rfl (by kernel_rfl) rfl rfl) ?_
  refine l_nil ?_
  refine w_cond_f rfl ?_
  refine w_skip ?_
  refine w_seq ?_
  refine w_region ?_
  refine b_alloc rfl ze_3 rfl H (fun b8 w H => ?_)
  refine b_store (cs' := [I64 ((0 : Nat) : Int)]) rfl sz_3 rfl rfl rfl rfl rfl H 0 rfl rfl rfl (fun w H => ?_)
  refine l_nil ?_
  refine w_seq ?_
  refine w_seq ?_
  refine w_region ?_
  refine l_pfn rfl rfl ?_
  refine l_nil ?_
  refine w_block ?_
  refine w_iter (Each_iter (F := netL b st F) (b3 := b3) (a := a') (c := c') hq (by omega)) (fun k => blk b4 [.pointer (some ⟨b', 0, none⟩)] 61 :: blk b5 [.pointer (some ⟨bk, 0, none⟩)] 77 :: blk b6 [.bool false] 4 :: blk b8 [I64 ((k : Nat) : Int)] 3 :: bkX bk (N + k) :: rfL b' r []) (fun c k => [pr False]) rfl (by kernel_rfl) (fun _ _ => rfl) (St.pick [13, 12, 11, 0, 19, 14, 15, 16, 17, 18, 1, 2, 3, 4, 5, 6, 7, 8, 9, 10] (pre := [_, _, _, _, _, _, _, _, _, _, _, _, _, _, _, _, _, _, _, _]) rfl H rfl) (fun lp D fn i x F' w hx H => ?_) (fun D w H => ?_) (fun D c k w H => ?_)
  · obtain ⟨p, hp, hcq, hql⟩ := hx
    generalize x = q at *
    have hil : i < l'.length := (List.getElem?_eq_some_iff.1 hp).1
    obtain ⟨rp, hrp⟩ : ∃ rp, r.pool[i]? = some rp := ⟨_, List.getElem?_eq_getElem (by omega)⟩
    have hcw : rp.con = q.con := (con_get (hc.symm.trans hcon.symm) hrp hp).trans hcq.symm
    have hqn : q.n ≤ 1000000000 := by
      have h1 := hq p (List.mem_of_getElem? hp)
      have h2 := hln i p hp
      have h3 := con_bs hcq
      rw [h3] at hql; omega
    refine w_seq ?_
    refine w_region ?_
    refine l_pint rfl rfl ?_
    refine l_nil ?_
    refine w_region ?_
    refine b_alloc rfl ze_31 rfl H (fun b10 w H => ?_)
    refine b_store (cs' := q.cells) rfl sz_31 rfl rfl rfl rfl rfl H 0 rfl rfl (putL_all rfl) (fun w H => ?_)
    refine l_nil ?_
    refine ⟨_, St.pick [1, 0, 2, 3, 4, 5, 6, 7, 8, 9, 10, 11, 12] (pre := [_, _, _, _, _, _, _, _, _, _, _, _, _]) rfl H rfl, fun w H => ?_⟩
    obtain ⟨b0, o0, hpa, hws⟩ := pk_cells ((RdIn.row (W := W) 9 rfl).use H 0 rfl) hrp
    refine w_block ?_
    refine w_seq ?_
    refine w_seq ?_
    refine w_drawT [18] [0, 1, 6, 10, 11, 14, 15, 17] [(0, 1), (1, 1), (2, 2), (3, 0), (4, 0), (5, 0), (6, 1), (7, 0), (8, 0), (9, 0), (10, 1), (11, 1), (12, 0), (13, 0), (14, 1), (15, 1), (16, 0), (17, 1), (18, 2), (19, 0), (20, 0)] mixed (by kernel_rfl) (fun _ _ _ h => h) H (fun H => ?_)
    refine r_v rfl rfl (fun w hS => q_load1 rfl c1_3 rfl (by first | exact hS.cell 0 rfl rfl | exact hS.cell 1 rfl rfl | exact hS.cell 2 rfl rfl | exact hS.cell 3 rfl rfl | exact hS.cell 4 rfl rfl | exact hS.cell 5 rfl rfl | exact hS.cell 6 rfl rfl | exact hS.cell 7 rfl rfl | exact hS.cell 8 rfl rfl | exact hS.cell 9 rfl rfl | exact hS.cell 10 rfl rfl | exact hS.cell 11 rfl rfl | exact hS.cell 12 rfl rfl | exact hS.cell 13 rfl rfl | exact hS.cell 14 rfl rfl | exact hS.cell 15 rfl rfl | exact hS.cell 16 rfl rfl | exact hS.cell 17 rfl rfl | exact hS.cell 18 rfl rfl | exact hS.cell 19 rfl rfl | exact hS.cell 20 rfl rfl | exact hS.cell 21 rfl rfl)) ?_
    refine r_v rfl rfl (fun w hS => q_load1 rfl c1_61 rfl (by first | exact hS.cell 0 rfl rfl | exact hS.cell 1 rfl rfl | exact hS.cell 2 rfl rfl | exact hS.cell 3 rfl rfl | exact hS.cell 4 rfl rfl | exact hS.cell 5 rfl rfl | exact hS.cell 6 rfl rfl | exact hS.cell 7 rfl rfl | exact hS.cell 8 rfl rfl | exact hS.cell 9 rfl rfl | exact hS.cell 10 rfl rfl | exact hS.cell 11 rfl rfl | exact hS.cell 12 rfl rfl | exact hS.cell 13 rfl rfl | exact hS.cell 14 rfl rfl | exact hS.cell 15 rfl rfl | exact hS.cell 16 rfl rfl | exact hS.cell 17 rfl rfl | exact hS.cell 18 rfl rfl | exact hS.cell 19 rfl rfl | exact hS.cell 20 rfl rfl | exact hS.cell 21 rfl rfl)) ?_
    refine r_do rfl ?_
    refine b_call rfl cb_40 rfl (rLen_ok (b := b') (st := r) (St.pick [8, 9, 10, 11, 12, 0, 1, 2, 3, 4, 5, 6, 7] (pre := [_, _, _, _, _, _, _, _, _, _, _, _, _]) rfl H rfl)) (fun v w hv => ?_)
    obtain ⟨rfl, H⟩ := hv
    have H := St.pick [5, 6, 7, 8, 9, 10, 11, 12, 0, 1, 2, 3, 4] (pre := [_, _, _, _, _, _, _, _, _, _, _, _, _]) rfl H rfl
    refine l_nil ⟨fun _ _ => (by first | exact H | exact H.drop1 | exact H.drop1.drop1 | exact H.drop1.drop1.drop1), ?_⟩
    refine r_pbool rfl rfl rfl ?_
    refine r_pbool rfl rfl rfl ?_
    refine r_split 25 rfl (fun h25 => absurd h25 (by simp; omega)) (fun h25 => ?_)
    try simp only [sH] at h25
    refine r_pint rfl rfl rfl ?_
    refine r_v rfl rfl (fun w hS => q_load1 rfl c1_3 rfl (by first | exact hS.cell 0 rfl rfl | exact hS.cell 1 rfl rfl | exact hS.cell 2 rfl rfl | exact hS.cell 3 rfl rfl | exact hS.cell 4 rfl rfl | exact hS.cell 5 rfl rfl | exact hS.cell 6 rfl rfl | exact hS.cell 7 rfl rfl | exact hS.cell 8 rfl rfl | exact hS.cell 9 rfl rfl | exact hS.cell 10 rfl rfl | exact hS.cell 11 rfl rfl | exact hS.cell 12 rfl rfl | exact hS.cell 13 rfl rfl | exact hS.cell 14 rfl rfl | exact hS.cell 15 rfl rfl | exact hS.cell 16 rfl rfl | exact hS.cell 17 rfl rfl | exact hS.cell 18 rfl rfl | exact hS.cell 19 rfl rfl | exact hS.cell 20 rfl rfl | exact hS.cell 21 rfl rfl)) ?_
    refine r_pbool rfl rfl rfl ?_
    refine r_pickF (v := .bool _) rfl rfl rfl rfl ?_
    refine r_pbool rfl rfl rfl ?_
    refine r_split 30 rfl (fun h30 => absurd h30 (by simp)) (fun h30 => ?_)
    try simp only [sH] at h30
    refine r_v rfl rfl (fun w hS => q_loadN (vs := q.cells) rfl ag_31 rfl rfl (hS.cells 1 rfl)) ?_
    refine r_v rfl rfl (fun w hS => q_load1 rfl c1_61 rfl (by first | exact hS.cell 0 rfl rfl | exact hS.cell 1 rfl rfl | exact hS.cell 2 rfl rfl | exact hS.cell 3 rfl rfl | exact hS.cell 4 rfl rfl | exact hS.cell 5 rfl rfl | exact hS.cell 6 rfl rfl | exact hS.cell 7 rfl rfl | exact hS.cell 8 rfl rfl | exact hS.cell 9 rfl rfl | exact hS.cell 10 rfl rfl | exact hS.cell 11 rfl rfl | exact hS.cell 12 rfl rfl | exact hS.cell 13 rfl rfl | exact hS.cell 14 rfl rfl | exact hS.cell 15 rfl rfl | exact hS.cell 16 rfl rfl | exact hS.cell 17 rfl rfl | exact hS.cell 18 rfl rfl | exact hS.cell 19 rfl rfl | exact hS.cell 20 rfl rfl | exact hS.cell 21 rfl rfl)) ?_
    refine r_pptr rfl rfl rfl ?_
    refine r_w rfl rfl (fun w => q_fieldAddr rfl fo97_2 rfl) ?_
    refine r_v rfl rfl (fun w hS => q_load1 rfl c1_22 rfl (by first | exact hS.cell 0 rfl rfl | exact hS.cell 1 rfl rfl | exact hS.cell 2 rfl rfl | exact hS.cell 3 rfl rfl | exact hS.cell 4 rfl rfl | exact hS.cell 5 rfl rfl | exact hS.cell 6 rfl rfl | exact hS.cell 7 rfl rfl | exact hS.cell 8 rfl rfl | exact hS.cell 9 rfl rfl | exact hS.cell 10 rfl rfl | exact hS.cell 11 rfl rfl | exact hS.cell 12 rfl rfl | exact hS.cell 13 rfl rfl | exact hS.cell 14 rfl rfl | exact hS.cell 15 rfl rfl | exact hS.cell 16 rfl rfl | exact hS.cell 17 rfl rfl | exact hS.cell 18 rfl rfl | exact hS.cell 19 rfl rfl | exact hS.cell 20 rfl rfl | exact hS.cell 21 rfl rfl)) ?_
    refine r_v rfl rfl (fun w hS => q_load1 rfl c1_3 rfl (by first | exact hS.cell 0 rfl rfl | exact hS.cell 1 rfl rfl | exact hS.cell 2 rfl rfl | exact hS.cell 3 rfl rfl | exact hS.cell 4 rfl rfl | exact hS.cell 5 rfl rfl | exact hS.cell 6 rfl rfl | exact hS.cell 7 rfl rfl | exact hS.cell 8 rfl rfl | exact hS.cell 9 rfl rfl | exact hS.cell 10 rfl rfl | exact hS.cell 11 rfl rfl | exact hS.cell 12 rfl rfl | exact hS.cell 13 rfl rfl | exact hS.cell 14 rfl rfl | exact hS.cell 15 rfl rfl | exact hS.cell 16 rfl rfl | exact hS.cell 17 rfl rfl | exact hS.cell 18 rfl rfl | exact hS.cell 19 rfl rfl | exact hS.cell 20 rfl rfl | exact hS.cell 21 rfl rfl)) ?_
    refine r_w rfl rfl (fun w => q_indexSliceA rfl el_22 rfl hpa rfl (by omega)) ?_
    refine r_v rfl rfl (fun w hS => q_loadN (vs := rp.cells) rfl ag_31 rfl rfl (pk_cellsA hpa ((RdIn.row (W := W) 9 rfl).use hS 0 rfl) hrp)) ?_
    refine r_do rfl ?_
    refine b_call rfl cb_15 rfl (Same_ok H (p := q) (q := rp) (RdIn.row 2 rfl) hql (pk_own 10 rfl hrp) (pk_len H 10 rfl hrp).1) (fun v w hv => ?_)
    obtain ⟨rfl, H⟩ := hv
    rw [con_same (p := q) (q := rp) hcw]
    refine l_nil ⟨(fun h => nomatch h), ?_⟩
    refine r_pbool rfl rfl rfl ?_
    refine r_pickF (v := .bool _) rfl rfl rfl rfl ?_
    refine r_nil ?_
    refine w_cond rfl (fun c1 => ?_) (fun c1 => ?_)
    · try simp only [sH] at c1
      exact absurd c1 (by simp)
    try simp only [sH] at c1
    refine w_skip ?_
    refine w_seq ?_
    refine w_region ?_
    refine l_v rfl (q_load1 rfl c1_77 rfl (by first | exact H.cell 0 rfl rfl | exact H.cell 1 rfl rfl | exact H.cell 2 rfl rfl | exact H.cell 3 rfl rfl | exact H.cell 4 rfl rfl | exact H.cell 5 rfl rfl | exact H.cell 6 rfl rfl | exact H.cell 7 rfl rfl | exact H.cell 8 rfl rfl | exact H.cell 9 rfl rfl | exact H.cell 10 rfl rfl | exact H.cell 11 rfl rfl | exact H.cell 12 rfl rfl | exact H.cell 13 rfl rfl | exact H.cell 14 rfl rfl | exact H.cell 15 rfl rfl | exact H.cell 16 rfl rfl | exact H.cell 17 rfl rfl | exact H.cell 18 rfl rfl | exact H.cell 19 rfl rfl | exact H.cell 20 rfl rfl | exact H.cell 21 rfl rfl)) ?_
    refine l_v rfl (q_fieldAddr rfl fo31_2 rfl) ?_
    refine l_v rfl (q_load1 rfl c1_29 rfl (by first | exact H.cell 0 rfl rfl | exact H.cell 1 rfl rfl | exact H.cell 2 rfl rfl | exact H.cell 3 rfl rfl | exact H.cell 4 rfl rfl | exact H.cell 5 rfl rfl | exact H.cell 6 rfl rfl | exact H.cell 7 rfl rfl | exact H.cell 8 rfl rfl | exact H.cell 9 rfl rfl | exact H.cell 10 rfl rfl | exact H.cell 11 rfl rfl | exact H.cell 12 rfl rfl | exact H.cell 13 rfl rfl | exact H.cell 14 rfl rfl | exact H.cell 15 rfl rfl | exact H.cell 16 rfl rfl | exact H.cell 17 rfl rfl | exact H.cell 18 rfl rfl | exact H.cell 19 rfl rfl | exact H.cell 20 rfl rfl | exact H.cell 21 rfl rfl)) ?_
    refine b_call rfl cb_69 rfl (bkBytes_ok (St.pick [2, 7, 0, 1, 3, 4, 5, 6, 8, 9, 10, 11, 12] (pre := [_, _, _, _, _, _, _, _, _, _, _, _, _]) rfl H rfl) hql hqn (by omega)) (fun v w hv => ?_)
    have H := hv
    refine l_nil ?_
    refine w_region ?_
    refine l_v rfl (q_load1 rfl c1_3 rfl (by first | exact H.cell 0 rfl rfl | exact H.cell 1 rfl rfl | exact H.cell 2 rfl rfl | exact H.cell 3 rfl rfl | exact H.cell 4 rfl rfl | exact H.cell 5 rfl rfl | exact H.cell 6 rfl rfl | exact H.cell 7 rfl rfl | exact H.cell 8 rfl rfl | exact H.cell 9 rfl rfl | exact H.cell 10 rfl rfl | exact H.cell 11 rfl rfl | exact H.cell 12 rfl rfl | exact H.cell 13 rfl rfl | exact H.cell 14 rfl rfl | exact H.cell 15 rfl rfl | exact H.cell 16 rfl rfl | exact H.cell 17 rfl rfl | exact H.cell 18 rfl rfl | exact H.cell 19 rfl rfl | exact H.cell 20 rfl rfl | exact H.cell 21 rfl rfl)) ?_
    first | refine l_v rfl (q_add rfl rfl rfl (by simp only [inK]; omega)) ?_ | refine l_pint rfl rfl ?_
    refine b_store (cs' := [I64 ((i + 1 : Nat) : Int)]) rfl sz_3 rfl rfl rfl rfl rfl H 6 rfl rfl (by exact congrArg (fun x => [Value.int .i64 x]) (Int.natCast_succ i).symm) (fun w H => ?_)
    refine l_nil ?_
    exact St.pick [1, 3, 4, 5, 6, 0, 7, 8, 9, 10, 11] (pre := [_, _, _, _, _, _, _, _, _, _, _, _]) rfl H rfl
  · refine w_seq ?_
    refine w_drawT [4] [0, 1] [(0, 1), (1, 1), (2, 2), (3, 0), (4, 2)] mixed (by kernel_rfl) (fun _ _ _ h => fin_panic h) H (fun H => ?_)
    refine r_v rfl rfl (fun w hS => q_load1 rfl c1_3 rfl (by first | exact hS.cell 0 rfl rfl | exact hS.cell 1 rfl rfl | exact hS.cell 2 rfl rfl | exact hS.cell 3 rfl rfl | exact hS.cell 4 rfl rfl | exact hS.cell 5 rfl rfl | exact hS.cell 6 rfl rfl | exact hS.cell 7 rfl rfl | exact hS.cell 8 rfl rfl | exact hS.cell 9 rfl rfl | exact hS.cell 10 rfl rfl | exact hS.cell 11 rfl rfl | exact hS.cell 12 rfl rfl | exact hS.cell 13 rfl rfl | exact hS.cell 14 rfl rfl | exact hS.cell 15 rfl rfl | exact hS.cell 16 rfl rfl | exact hS.cell 17 rfl rfl | exact hS.cell 18 rfl rfl | exact hS.cell 19 rfl rfl | exact hS.cell 20 rfl rfl | exact hS.cell 21 rfl rfl)) ?_
    refine r_v rfl rfl (fun w hS => q_load1 rfl c1_61 rfl (by first | exact hS.cell 0 rfl rfl | exact hS.cell 1 rfl rfl | exact hS.cell 2 rfl rfl | exact hS.cell 3 rfl rfl | exact hS.cell 4 rfl rfl | exact hS.cell 5 rfl rfl | exact hS.cell 6 rfl rfl | exact hS.cell 7 rfl rfl | exact hS.cell 8 rfl rfl | exact hS.cell 9 rfl rfl | exact hS.cell 10 rfl rfl | exact hS.cell 11 rfl rfl | exact hS.cell 12 rfl rfl | exact hS.cell 13 rfl rfl | exact hS.cell 14 rfl rfl | exact hS.cell 15 rfl rfl | exact hS.cell 16 rfl rfl | exact hS.cell 17 rfl rfl | exact hS.cell 18 rfl rfl | exact hS.cell 19 rfl rfl | exact hS.cell 20 rfl rfl | exact hS.cell 21 rfl rfl)) ?_
    refine r_do rfl ?_
    refine b_call rfl cb_40 rfl (rLen_ok (b := b') (st := r) (St.pick [6, 7, 8, 9, 10, 0, 1, 2, 3, 4, 5, 11, 12, 13, 14, 15, 16, 17, 18, 19, 20] (pre := [_, _, _, _, _, _, _, _, _, _, _, _, _, _, _, _, _, _, _, _, _]) rfl H rfl)) (fun v w hv => ?_)
    obtain ⟨rfl, H⟩ := hv
    have H := St.pick [5, 6, 7, 8, 9, 10, 0, 1, 2, 3, 4, 11, 12, 13, 14, 15, 16, 17, 18, 19, 20] (pre := [_, _, _, _, _, _, _, _, _, _, _, _, _, _, _, _, _, _, _, _, _]) rfl H rfl
    refine l_nil ⟨fun _ _ => (by first | exact H | exact H.drop1 | exact H.drop1.drop1 | exact H.drop1.drop1.drop1), ?_⟩
    refine r_pbool rfl rfl rfl ?_
    refine r_do rfl ?_
    refine b_store (cs' := [.bool true]) rfl sz_4 rfl rfl rfl rfl rfl H 3 rfl rfl (by show [Value.bool (((l'.length : Nat) : Int) == (r.pool.length : Int))] = _; rw [hll, hlr]; simp) (fun w H => ?_)
    refine l_nil ⟨(fun h => nomatch h), ?_⟩
    refine r_nil ?_
    refine w_ret ?_
    refine fin_mark rfl H (fun w H => ?_)
    refine finc1 rfl c1_4 (by first | exact H.cell 0 rfl rfl | exact H.cell 1 rfl rfl | exact H.cell 2 rfl rfl | exact H.cell 3 rfl rfl | exact H.cell 4 rfl rfl | exact H.cell 5 rfl rfl | exact H.cell 6 rfl rfl | exact H.cell 7 rfl rfl | exact H.cell 8 rfl rfl | exact H.cell 9 rfl rfl | exact H.cell 10 rfl rfl | exact H.cell 11 rfl rfl | exact H.cell 12 rfl rfl | exact H.cell 13 rfl rfl | exact H.cell 14 rfl rfl | exact H.cell 15 rfl rfl | exact H.cell 16 rfl rfl | exact H.cell 17 rfl rfl | exact H.cell 18 rfl rfl | exact H.cell 19 rfl rfl | exact H.cell 20 rfl rfl | exact H.cell 21 rfl rfl) ?_
    rw [hll] at H
    exact ⟨rfl, St.pick [13, 14, 15, 16, 17, 18, 19, 5, 6, 7, 8, 9, 4] (pre := [_, _, _, _, _, _, _, _, _, _, _, _, _, _, _, _, _, _, _, _]) rfl H rfl⟩
  exact absurd (St.pr.1 (St.pick [1, 0] (pre := [_, _]) rfl H rfl)).1 id
theorem each_nil {W w : World} {F : List Seg} {bk : Nat} (H : St W w F) :
    Ok Try.prog 37 [.pointer none, .pointer none, .pointer (some ⟨bk, 0, none⟩)].toArray w (fun v w' => v = .bool true ∧ St W w' F) := by
  refine enter (n := 52) (rs := #[.cell 6 4]) Try.func37 rfl rfl rfl rfl ?_
  refine w_seq ?_
  refine w_region ?_
  refine b_box (cs := [.pointer none]) rfl rfl rfl H (fun b4 w H => ?_)
  refine b_box (cs := [.pointer (some ⟨bk, 0, none⟩)]) rfl rfl rfl H (fun b5 w H => ?_)
  refine b_alloc rfl ze_4 rfl H (fun b6 w H => ?_)
  refine l_nil ?_
  refine w_seq ?_
  refine w_region ?_
  refine l_pptr rfl rfl ?_
  refine b_call rfl cb_33 rfl (Each_nil H) (fun v w hv => ?_)
  obtain ⟨bm, rfl, H⟩ := hv
  refine l_pfn rfl rfl ?_
  refine l_nil ?_
  refine w_seq ?_
  refine w_seq ?_
  refine w_region ?_
  refine l_pfn rfl rfl ?_
  refine l_v rfl (q_eqlFuncF rfl (by kernel_rfl) rfl rfl) ?_
  refine l_nil ?_
  refine w_cond_f rfl ?_
  refine w_skip ?_
  refine w_seq ?_
  refine w_region ?_
  refine b_alloc rfl ze_3 rfl H (fun b8 w H => ?_)
  refine b_store (cs' := [I64 0]) rfl sz_3 rfl rfl rfl rfl rfl H 0 rfl rfl rfl (fun w H => ?_)
  refine l_nil ?_
  refine w_seq ?_
  refine w_seq ?_
  refine w_region ?_
  refine l_pfn rfl rfl ?_
  refine l_nil ?_
  refine w_block ?_
  refine w_iter (All1_iter (F := blk b6 [.bool false] 4 :: blk b5 [.pointer (some ⟨bk, 0, none⟩)] 77 :: blk b4 [.pointer none] 61 :: F) (bm := bm)) (fun k => [blk b8 [I64 0] 3]) (fun c k => [pr False]) rfl (by kernel_rfl) (fun _ _ => rfl) (H) (fun lp D fn i x F' w hx H => ?_) (fun D w H => ?_) (fun D c k w H => ?_)
  · exact hx.elim
  · refine w_seq ?_
    refine w_drawT [4] [0, 1] [(0, 1), (1, 1), (2, 2), (3, 0), (4, 2)] mixed (by kernel_rfl) (fun _ _ _ h => fin_panic h) H (fun H => ?_)
    refine r_v rfl rfl (fun w hS => q_load1 rfl c1_3 rfl (by first | exact hS.cell 0 rfl rfl | exact hS.cell 1 rfl rfl | exact hS.cell 2 rfl rfl | exact hS.cell 3 rfl rfl | exact hS.cell 4 rfl rfl | exact hS.cell 5 rfl rfl)) ?_
    refine r_v rfl rfl (fun w hS => q_load1 rfl c1_61 rfl (by first | exact hS.cell 0 rfl rfl | exact hS.cell 1 rfl rfl | exact hS.cell 2 rfl rfl | exact hS.cell 3 rfl rfl | exact hS.cell 4 rfl rfl | exact hS.cell 5 rfl rfl)) ?_
    refine r_do rfl ?_
    refine b_call rfl cb_40 rfl (rLen_nil H) (fun v w hv => ?_)
    obtain ⟨rfl, H⟩ := hv
    refine l_nil ⟨fun _ _ => (by first | exact H | exact H.drop1 | exact H.drop1.drop1 | exact H.drop1.drop1.drop1), ?_⟩
    refine r_pbool rfl rfl rfl ?_
    refine r_do rfl ?_
    refine b_store (cs' := [.bool true]) rfl sz_4 rfl rfl rfl rfl rfl H 3 rfl rfl rfl (fun w H => ?_)
    refine l_nil ⟨(fun h => nomatch h), ?_⟩
    refine r_nil ?_
    refine w_ret ?_
    refine fin_mark rfl H (fun w H => ?_)
    refine finc1 rfl c1_4 (by first | exact H.cell 0 rfl rfl | exact H.cell 1 rfl rfl | exact H.cell 2 rfl rfl | exact H.cell 3 rfl rfl | exact H.cell 4 rfl rfl | exact H.cell 5 rfl rfl) ?_
    exact ⟨rfl, H.drop1.drop1.drop1.drop1.drop1⟩
  exact absurd (St.pr.1 (St.pick [1, 0] (pre := [_, _]) rfl H rfl)).1 id
end Go.Proofs.Ytmgcmgfjaimlnaa
