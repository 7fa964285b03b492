/- The walk of the law NetworkFor ends in true, of any packets in memory. -/
import Derived.Test.YtmgcmgfjaimlnaaNet19
import Derived.Test.YtmgcmgfjaimlnaaBaseAll
namespace Go.Proofs.Ytmgcmgfjaimlnaa
open Go.EW
attribute [local irreducible] EW.W EW.L EW.fin
set_option linter.unusedVariables false
set_option linter.unusedSimpArgs false
theorem Each_iter {W : World} {F : List Seg} {b3 : Nat} {a : Option Addr} {c : Nat} {l : List Pk} (hn : ∀ q ∈ l, q.n ≤ 32768) (hl : l.length ≤ 140737488351232) :
    Iter Try.prog W 53 [.pointer (some ⟨b3, 0, none⟩)] (fun i (q : Pk) => [I64 (i : Int), pkv q]) (fun _ q => [q.own]) (fun i q => ∃ p, l[i]? = some p ∧ q.con = p.con ∧ q.bs.length = q.n) l.length (eachL b3 a c l F) :=
  fun lp C X w H hY => Each1_ok hn hl H (fun i p q F' w h1 h2 h3 H => hY i q F' w ⟨p, h1, h2, h3⟩ (St.pick [1, 0] (pre := [_, _]) rfl H rfl))
theorem fnv {to : Int} {l : List Pk} {m j : Nat} (h : j < (forN to l m).length) : ((forN to l m).map fun i : Nat => I64 (i : Int))[j]? = some (I64 (((forN to l m)[j] : Nat) : Int)) := by
  rw [List.getElem?_map, List.getElem?_eq_getElem h]; rfl
theorem ws_to {l l' : List Pk} (h : l'.map Pk.con = l.map Pk.con) {k : Nat} {q : Pk} {to : Int} (hq : l'[k]? = some q) (ht : l[k]?.map Pk.to = some to) : q.to = to := by
  have h1 : (l'.map Pk.con)[k]? = (l.map Pk.con)[k]? := by rw [h]
  rw [List.getElem?_map, List.getElem?_map, hq] at h1
  cases hl : l[k]? with
  | none => rw [hl] at h1; cases h1
  | some p =>
    rw [hl] at h1 ht
    have h2 : q.con = p.con := Option.some.inj h1
    have h3 : p.to = to := Option.some.inj ht
    rw [← h3]; exact congrArg (fun c => c.2.1) h2
set_option maxRecDepth 8000 in
set_option maxHeartbeats 2000000 in
theorem NetworkFor_ok {W w : World} {F : List Seg} (H : St W w F) {a : Option Addr} {n cap : Nat} {l : List Pk} (hr : RdIn W F a (pks l)) (hln : l.length = n) (hg : Good W F l) (hn : n * 40 ≤ 140737488351232) (stop : Int) :
    Ok Try.prog 7 [.slice a n cap, I64 stop].toArray w (fun v w' => v = .bool true ∧ ∃ S, St W w' S) := by
  subst hln
  refine enter (n := 183) (rs := #[.cell 4 4]) Try.func7 rfl rfl rfl rfl ?_
  refine w_seq ?_
  refine w_region ?_
  refine b_box (cs := [I64 stop]) rfl rfl rfl H (fun b3 w H => ?_)
  refine b_alloc rfl ze_4 rfl H (fun b4 w H => ?_)
  refine l_nil ?_
  refine w_seq ?_
  refine w_region ?_
  refine l_pslice rfl rfl ?_
  refine b_call rfl cb_10 rfl (filled_ok H (hr.up 2 rfl) rfl (hg.up 2 rfl) hn) (fun v w hv => ?_)
  obtain ⟨b, st, rfl, hok, hpl, H⟩ := hv
  have hfit := hok.fit
  refine l_pptr rfl rfl ?_
  refine l_nil ?_
  refine w_seq ?_
  refine w_seq ?_
  refine w_region ?_
  refine l_pptr rfl rfl ?_
  refine l_v rfl (q_eqlNilF rfl pt_24 rfl rfl) ?_
  refine l_pbool rfl rfl ?_
  refine b_call rfl cb_11 rfl (works_ok H) (fun v w hv => ?_)
  obtain ⟨rfl, H⟩ := hv
  refine l_pbool rfl rfl ?_
  refine l_pickF (v := .bool _) rfl rfl rfl ?_
  refine l_nil ?_
  refine w_cond rfl (fun c1 => ?_) (fun c1 => ?_)
  · try simp only [sH] at c1
    exact absurd c1 (by simp)
  try simp only [sH] at c1
  refine w_skip ?_
  refine w_seq ?_
  refine w_region ?_
  refine l_pptr rfl rfl ?_
  refine b_call rfl cb_12 rfl (pool_ok H hfit (by omega)) (fun v w hv => ?_)
  obtain ⟨wa, wc, ws, rfl, hwc, H⟩ := hv
  have hwl : ws.length = st.pool.length := by rw [← List.length_map (f := Pk.con), hwc, List.length_map]
  refine b_alloc rfl ze_22 rfl H (fun b6 w H => ?_)
  refine b_store (cs' := [.slice wa st.pool.length wc]) rfl sz_22 rfl rfl rfl rfl rfl H 0 rfl rfl rfl (fun w H => ?_)
  refine l_nil ?_
  refine w_seq ?_
  refine w_region ?_
  refine l_pslice rfl rfl ?_
  refine l_v rfl (q_lenSlice rfl el_22 rfl) ?_
  refine b_make (m := l.length) rfl el_23 ze_3 rfl rfl rfl ⟨by omega, by simp only [maxLen]; omega⟩ H (fun b30 w H => ?_)
  have H1 : St W w (row 3 1 (some ⟨b30, 0, none⟩) l.length l.length (repL l.length [I64 0]) :: _) := H.imp fun c h => row_of_blk0 h (by rw [length_repL]; rfl) List.take_length (by rw [length_repL]; rfl) (Nat.le_refl _) (by simp only [maxLen]; omega)
  rw [← hpl, ← cntV_start (l := st.pool) (fun p hp => by have := (hok.pool p hp).2; unfold adr at this; omega)] at H1
  have H := St.pick [2, 3, 4, 5, 6, 7, 8, 0, 1, 9, 10, 11, 12] (pre := [_, _, _, _, _, _, _, _, _, _, _, _, _]) rfl H1 rfl
  refine l_pslice rfl rfl ?_
  refine l_nil ?_
  refine w_seq ?_
  refine w_seq ?_
  refine w_region ?_
  refine l_pint rfl rfl ?_
  refine l_nil ?_
  refine w_block ?_
  refine w_loopG (G := Nat) [8, 9, 10, 31, 32, 33, 34, 35, 36, 37, 38, 39, 40, 41, 42, 43, 44, 45, 46, 47, 48, 49, 50, 51, 52, 53, 54, 55, 56, 57, 58, 59, 60, 61, 62, 63, 64, 65, 66, 67, 68, 69, 70, 71, 72, 73, 74, 75, 76, 77, 78, 79, 80, 81, 82, 83, 84, 85, 86, 87, 88, 89, 90, 91, 92, 93, 94] (fun t => [(8, I64 ((t : Int) - 1))]) (fun m t w => m + t = 11 ∧ St W w (netL b st (row 3 1 (some ⟨b30, 0, none⟩) st.pool.length st.pool.length (cntV st.pool ((t : Int) - 1) []) :: blk b6 [.slice wa st.pool.length wc] 22 :: row 31 3 wa st.pool.length wc (pks ws) :: Segs (ws.map Pk.own) :: blk b4 [.bool false] 4 :: blk b3 [I64 stop] 3 :: F))) (fun _ => rfl) ?_ ?_
  · exact ⟨11, 0, ⟨rfl, trivial⟩, rfl, H⟩
  rintro m t ρ1 w ⟨hmt, H⟩
  refine w_seq ?_
  refine w_seq ?_
  refine w_region ?_
  refine l_pint rfl rfl ?_
  refine l_pbool rfl rfl ?_
  refine l_nil ?_
  refine w_cond rfl (fun c2 => ?_) (fun c2 => ?_)
  · try simp only [sH] at c2
    have ht : t ≤ 10 := by omega
    refine w_skip ?_
    refine w_seq ?_
    refine w_block ?_
    refine w_seq ?_
    refine w_region ?_
    refine l_pptr rfl rfl ?_
    refine l_pint rfl rfl ?_
    refine b_call rfl cb_32 rfl (For_ok H hfit (by omega) ((t : Int) - 1)) (fun v w hv => ?_)
    obtain ⟨fa, fc, rfl, H⟩ := hv
    refine l_pslice rfl rfl ?_
    refine l_nil ?_
    refine w_seq ?_
    refine w_region ?_
    refine l_pint rfl rfl ?_
    refine l_nil ?_
    refine w_block ?_
    refine w_loopG (G := Nat) [10, 38, 39, 40, 41, 42, 43, 44, 45, 46, 47, 48, 49, 50, 51, 52, 53, 54, 55, 56, 57, 58, 59, 60, 61, 62, 63, 64, 65, 66, 67, 68, 69, 70, 71, 72, 73, 74, 75, 76, 77, 78, 79, 80, 81, 82, 83, 84, 85, 86, 87, 88, 89, 90, 91, 92, 93, 94] (fun j => [(10, I64 (j : Int))]) (fun m j w => m + j = (forN ((t : Int) - 1) st.pool st.pool.length).length ∧ St W w (row 3 1 fa (forN ((t : Int) - 1) st.pool st.pool.length).length fc ((forN ((t : Int) - 1) st.pool st.pool.length).map fun i : Nat => I64 (i : Int)) :: netL b st (row 3 1 (some ⟨b30, 0, none⟩) st.pool.length st.pool.length (cntV st.pool ((t : Int) - 1) ((forN ((t : Int) - 1) st.pool st.pool.length).take j)) :: blk b6 [.slice wa st.pool.length wc] 22 :: row 31 3 wa st.pool.length wc (pks ws) :: Segs (ws.map Pk.own) :: blk b4 [.bool false] 4 :: blk b3 [I64 stop] 3 :: F))) (fun _ => rfl) ?_ ?_
    · exact ⟨_, 0, ⟨rfl, trivial⟩, Nat.add_zero _, H⟩
    rintro m j ρ1 w ⟨hmj, H⟩
    refine w_seq ?_
    refine w_seq ?_
    refine w_region ?_
    refine l_pint rfl rfl ?_
    refine l_pslice rfl rfl ?_
    refine l_v rfl (q_lenSlice rfl el_23 rfl) ?_
    refine l_pbool rfl rfl ?_
    refine l_nil ?_
    refine w_cond rfl (fun c3 => ?_) (fun c3 => ?_)
    · try simp only [sH] at c3
      have hfl := forN_len ((t : Int) - 1) st.pool st.pool.length
      have hjl : j < (forN ((t : Int) - 1) st.pool st.pool.length).length := by omega
      have hk := forN_mem.1 (List.getElem_mem hjl)
      obtain ⟨fb, hfa, _⟩ := row_addr H (i := 0) rfl (fnv hjl)
      obtain ⟨wp, hwp⟩ : ∃ wp, ws[(forN ((t : Int) - 1) st.pool st.pool.length)[j]]? = some wp := ⟨_, List.getElem?_eq_getElem (l := ws) (i := (forN ((t : Int) - 1) st.pool st.pool.length)[j]) (by have := hk.1; omega)⟩
      obtain ⟨b0, o0, hwa, hws⟩ := pk_cells ((RdIn.row (W := W) 10 rfl).use H 0 rfl) hwp
      have hto : wp.to = (t : Int) - 1 := ws_to hwc hwp hk.2
      have hcv : (cntV st.pool ((t : Int) - 1) ((forN ((t : Int) - 1) st.pool st.pool.length).take j))[(forN ((t : Int) - 1) st.pool st.pool.length)[j]]? = some (I64 0) := by rw [cntV_get hk.1, cntN_zero hjl]
      have hso : ∀ i (hi : i < j), (forN ((t : Int) - 1) st.pool st.pool.length)[i]'(by omega) < (forN ((t : Int) - 1) st.pool st.pool.length)[j] := fun i h => forN_lt h hjl
      refine w_skip ?_
      refine w_seq ?_
      refine w_block ?_
      refine w_seq ?_
      refine w_seq ?_
      refine w_drawT [] [3, 9, 22, 26, 31, 35, 38] [(0, 0), (1, 0), (2, 0), (3, 1), (4, 0), (5, 0), (6, 0), (7, 0), (8, 0), (9, 1), (10, 0), (11, 0), (12, 0), (13, 0), (14, 0), (15, 0), (16, 0), (17, 0), (18, 0), (19, 0), (20, 0), (21, 0), (22, 1), (23, 0), (24, 0), (25, 0), (26, 1), (27, 0), (28, 0), (29, 0), (30, 0), (31, 1), (32, 0), (33, 0), (34, 0), (35, 1), (36, 0), (37, 0), (38, 1), (39, 0), (40, 0), (41, 0)] mixed (by kernel_rfl) (fun _ _ _ h => fin_panic h) H (fun H => ?_)
      refine r_pslice rfl rfl rfl ?_
      refine r_pint rfl rfl rfl ?_
      refine r_w rfl rfl (fun w => q_indexSliceA rfl el_23 rfl hfa rfl (by omega)) ?_
      refine r_v rfl rfl (fun w hS => q_load1 rfl c1_3 rfl (row_cellN hS (i := 0) rfl hfa (fnv hjl))) ?_
      refine r_pbool rfl rfl rfl ?_
      refine r_pbool rfl rfl rfl ?_
      refine r_split 49 rfl (fun h49 => absurd h49 (by simp)) (fun h49 => ?_)
      try simp only [sH] at h49
      refine r_pslice rfl rfl rfl ?_
      refine r_pint rfl rfl rfl ?_
      refine r_w rfl rfl (fun w => q_indexSliceA rfl el_23 rfl hfa rfl (by omega)) ?_
      refine r_v rfl rfl (fun w hS => q_load1 rfl c1_3 rfl (row_cellN hS (i := 0) rfl hfa (fnv hjl))) ?_
      refine r_pslice rfl rfl rfl ?_
      refine r_w rfl rfl (fun w => q_lenSlice rfl el_22 rfl) ?_
      refine r_pbool rfl rfl rfl ?_
      refine r_pickF (v := .bool _) rfl rfl rfl rfl ?_
      refine r_pbool rfl rfl rfl ?_
      refine r_split 58 rfl (fun h58 => absurd h58 (by simp; omega)) (fun h58 => ?_)
      try simp only [sH] at h58
      refine r_pint rfl rfl rfl ?_
      refine r_pbool rfl rfl rfl ?_
      refine r_pbool rfl rfl rfl ?_
      refine r_split 61 rfl (fun h61 => ?_) (fun h61 => ?_)
      · try simp only [sH] at h61
        have hso := hso ((j : Int) - 1).toNat (by omega)
        refine r_pslice rfl rfl rfl ?_
        refine r_pint rfl rfl rfl ?_
        first | refine r_w rfl rfl (fun w => q_sub rfl rfl rfl (by simp only [inK]; omega)) ?_ | refine r_pint rfl rfl rfl ?_
        refine r_w rfl rfl (fun w => q_indexSliceA rfl el_23 rfl hfa rfl (by omega)) ?_
        refine r_v rfl rfl (fun w hS => q_load1 rfl c1_3 rfl (row_cellN hS (i := 0) rfl hfa (fnv (to := (t : Int) - 1) (l := st.pool) (m := st.pool.length) (j := ((j : Int) - 1).toNat) (by omega)))) ?_
        refine r_pslice rfl rfl rfl ?_
        refine r_pint rfl rfl rfl ?_
        refine r_w rfl rfl (fun w => q_indexSliceA rfl el_23 rfl hfa rfl (by omega)) ?_
        refine r_v rfl rfl (fun w hS => q_load1 rfl c1_3 rfl (row_cellN hS (i := 0) rfl hfa (fnv hjl))) ?_
        refine r_pbool rfl rfl rfl ?_
        refine r_pickT (v := .bool _) rfl rfl rfl rfl ?_
        refine r_pickF (v := .bool _) rfl rfl rfl rfl ?_
        refine r_pbool rfl rfl rfl ?_
        refine r_split 74 rfl (fun h74 => absurd h74 (by simp only [decide_eq_true_eq]; omega)) (fun h74 => ?_)
        try simp only [sH] at h74
        refine r_v rfl rfl (fun w hS => q_load1 rfl c1_22 rfl (by first | exact hS.cell 0 rfl rfl | exact hS.cell 1 rfl rfl | exact hS.cell 2 rfl rfl | exact hS.cell 3 rfl rfl | exact hS.cell 4 rfl rfl | exact hS.cell 5 rfl rfl | exact hS.cell 6 rfl rfl | exact hS.cell 7 rfl rfl | exact hS.cell 8 rfl rfl | exact hS.cell 9 rfl rfl | exact hS.cell 10 rfl rfl | exact hS.cell 11 rfl rfl | exact hS.cell 12 rfl rfl)) ?_
        refine r_pslice rfl rfl rfl ?_
        refine r_pint rfl rfl rfl ?_
        refine r_w rfl rfl (fun w => q_indexSliceA rfl el_23 rfl hfa rfl (by omega)) ?_
        refine r_v rfl rfl (fun w hS => q_load1 rfl c1_3 rfl (row_cellN hS (i := 0) rfl hfa (fnv hjl))) ?_
        refine r_w rfl rfl (fun w => q_indexSliceA rfl el_22 rfl hwa rfl (by omega)) ?_
        refine r_w rfl rfl (fun w => q_fieldAddr rfl fo31_1 rfl) ?_
        refine r_v rfl rfl (fun w hS => q_load1 rfl c1_3 rfl ((pk_cellsA hwa ((RdIn.row (W := W) 10 rfl).use hS 0 rfl) hwp).get 1 _ rfl)) ?_
        refine r_pint rfl rfl rfl ?_
        refine r_pbool rfl rfl rfl ?_
        refine r_pickF (v := .bool _) rfl rfl rfl rfl ?_
        refine r_nil ?_
        refine w_cond rfl (fun c4 => ?_) (fun c4 => ?_)
        · try simp only [sH] at c4
          exact absurd c4 (by simp [hto])
        try simp only [sH] at c4
        refine w_skip ?_
        refine w_region ?_
        refine l_pslice rfl rfl ?_
        refine l_pslice rfl rfl ?_
        refine l_pint rfl rfl ?_
        refine l_v rfl (q_indexSliceA rfl el_23 rfl hfa rfl (by omega)) ?_
        refine l_v rfl (q_load1 rfl c1_3 rfl (row_cellN H (i := 0) rfl hfa (fnv hjl))) ?_
        refine l_v rfl (q_indexSliceA rfl el_23 rfl rfl rfl (by omega)) ?_
        refine l_v rfl (q_load1 rfl c1_3 rfl (row_cellN H (i := 8) rfl rfl hcv)) ?_
        first | refine l_v rfl (q_add rfl rfl rfl (by simp only [inK]; omega)) ?_ | refine l_pint rfl rfl ?_
        refine l_v rfl (q_indexSliceA rfl el_23 rfl rfl rfl (by omega)) ?_
        refine b_storeRow (vs := [I64 1]) (xs' := cntV st.pool ((t : Int) - 1) ((forN ((t : Int) - 1) st.pool st.pool.length).take (j + 1))) rfl sz_3 rfl rfl rfl rfl rfl H 8 rfl rfl (by rw [cntV_len]; simp; omega) (by rw [Nat.zero_add, Nat.mul_one]; exact cntV_step hjl) (fun w H => ?_)
        refine l_nil ?_
        refine w_region ?_
        refine l_pint rfl rfl ?_
        first | refine l_v rfl (q_add rfl rfl rfl (by simp only [inK]; omega)) ?_ | refine l_pint rfl rfl ?_
        refine l_pint rfl rfl ?_
        refine l_nil ?_
        refine ⟨by repeat' first | exact aM | exact aR | refine aI rfl ?_ | refine aU rfl ?_ | refine aL rfl ?_, ?_⟩
        exact ⟨m - 1, j + 1, by omega, ⟨by exact congrArg (Value.int IntKind.i64) (Int.natCast_succ j).symm, trivial⟩, by omega, H⟩
      try simp only [sH] at h61
      refine r_no rfl rfl ?_
      refine r_no rfl rfl ?_
      refine r_no rfl rfl ?_
      refine r_no rfl rfl ?_
      refine r_no1 rfl rfl ?_
      refine r_no rfl rfl ?_
      refine r_no rfl rfl ?_
      refine r_no rfl rfl ?_
      refine r_no1 rfl rfl ?_
      refine r_no rfl rfl ?_
      refine r_pickF (v := .bool _) rfl rfl rfl rfl ?_
      refine r_pickF (v := .bool _) rfl rfl rfl rfl ?_
      refine r_pbool rfl rfl rfl ?_
      refine r_v rfl rfl (fun w hS => q_load1 rfl c1_22 rfl (by first | exact hS.cell 0 rfl rfl | exact hS.cell 1 rfl rfl | exact hS.cell 2 rfl rfl | exact hS.cell 3 rfl rfl | exact hS.cell 4 rfl rfl | exact hS.cell 5 rfl rfl | exact hS.cell 6 rfl rfl | exact hS.cell 7 rfl rfl | exact hS.cell 8 rfl rfl | exact hS.cell 9 rfl rfl | exact hS.cell 10 rfl rfl | exact hS.cell 11 rfl rfl | exact hS.cell 12 rfl rfl)) ?_
      refine r_pslice rfl rfl rfl ?_
      refine r_pint rfl rfl rfl ?_
      refine r_w rfl rfl (fun w => q_indexSliceA rfl el_23 rfl hfa rfl (by omega)) ?_
      refine r_v rfl rfl (fun w hS => q_load1 rfl c1_3 rfl (row_cellN hS (i := 0) rfl hfa (fnv hjl))) ?_
      refine r_w rfl rfl (fun w => q_indexSliceA rfl el_22 rfl hwa rfl (by omega)) ?_
      refine r_w rfl rfl (fun w => q_fieldAddr rfl fo31_1 rfl) ?_
      refine r_v rfl rfl (fun w hS => q_load1 rfl c1_3 rfl ((pk_cellsA hwa ((RdIn.row (W := W) 10 rfl).use hS 0 rfl) hwp).get 1 _ rfl)) ?_
      refine r_pint rfl rfl rfl ?_
      refine r_pbool rfl rfl rfl ?_
      refine r_pickF (v := .bool _) rfl rfl rfl rfl ?_
      refine r_nil ?_
      refine w_cond rfl (fun c5 => ?_) (fun c5 => ?_)
      · try simp only [sH] at c5
        exact absurd c5 (by simp [hto])
      try simp only [sH] at c5
      refine w_skip ?_
      refine w_region ?_
      refine l_pslice rfl rfl ?_
      refine l_pslice rfl rfl ?_
      refine l_pint rfl rfl ?_
      refine l_v rfl (q_indexSliceA rfl el_23 rfl hfa rfl (by omega)) ?_
      refine l_v rfl (q_load1 rfl c1_3 rfl (row_cellN H (i := 0) rfl hfa (fnv hjl))) ?_
      refine l_v rfl (q_indexSliceA rfl el_23 rfl rfl rfl (by omega)) ?_
      refine l_v rfl (q_load1 rfl c1_3 rfl (row_cellN H (i := 8) rfl rfl hcv)) ?_
      first | refine l_v rfl (q_add rfl rfl rfl (by simp only [inK]; omega)) ?_ | refine l_pint rfl rfl ?_
      refine l_v rfl (q_indexSliceA rfl el_23 rfl rfl rfl (by omega)) ?_
      refine b_storeRow (vs := [I64 1]) (xs' := cntV st.pool ((t : Int) - 1) ((forN ((t : Int) - 1) st.pool st.pool.length).take (j + 1))) rfl sz_3 rfl rfl rfl rfl rfl H 8 rfl rfl (by rw [cntV_len]; simp; omega) (by rw [Nat.zero_add, Nat.mul_one]; exact cntV_step hjl) (fun w H => ?_)
      refine l_nil ?_
      refine w_region ?_
      refine l_pint rfl rfl ?_
      first | refine l_v rfl (q_add rfl rfl rfl (by simp only [inK]; omega)) ?_ | refine l_pint rfl rfl ?_
      refine l_pint rfl rfl ?_
      refine l_nil ?_
      refine ⟨by repeat' first | exact aM | exact aR | refine aI rfl ?_ | refine aU rfl ?_ | refine aL rfl ?_, ?_⟩
      exact ⟨m - 1, j + 1, by omega, ⟨by exact congrArg (Value.int IntKind.i64) (Int.natCast_succ j).symm, trivial⟩, by omega, H⟩
    try simp only [sH] at c3
    have hjl : (forN ((t : Int) - 1) st.pool st.pool.length).take j = (forN ((t : Int) - 1) st.pool st.pool.length).take (forN ((t : Int) - 1) st.pool st.pool.length).length := by rw [show j = (forN ((t : Int) - 1) st.pool st.pool.length).length by omega]
    refine w_exit ?_
    refine w_region ?_
    refine l_pint rfl rfl ?_
    first | refine l_v rfl (q_add rfl rfl rfl (by simp only [inK]; omega)) ?_ | refine l_pint rfl rfl ?_
    refine l_pint rfl rfl ?_
    refine l_nil ?_
    refine ⟨by repeat' first | exact aM | exact aR | refine aI rfl ?_ | refine aU rfl ?_ | refine aL rfl ?_, ?_⟩
    exact ⟨10 - t, t + 1, by omega, ⟨by exact congrArg (Value.int IntKind.i64) (show (t : Int) - 1 + 1 = ((t + 1 : Nat) : Int) - 1 by omega), trivial⟩, by omega, by rw [hjl, cntV_next] at H; rw [show (((t + 1 : Nat) : Int) - 1) = (t : Int) - 1 + 1 by omega]; exact H.drop1⟩
  try simp only [sH] at c2
  obtain rfl : t = 11 := by omega
  have h9 : ∀ p ∈ st.pool, p.to ≤ 9 := fun p hp => by have := (hok.pool p hp).2; unfold adr at this; omega
  refine w_exit ?_
  refine w_seq ?_
  refine w_seq ?_
  refine w_region ?_
  refine l_pint rfl rfl ?_
  refine l_nil ?_
  refine w_block ?_
  refine w_loopG (G := Nat) [11, 95, 96, 97, 98, 99, 100, 101, 102, 103, 104, 105] (fun i => [(11, I64 (i : Int))]) (fun m i w => m + i = st.pool.length ∧ St W w (netL b st (row 3 1 (some ⟨b30, 0, none⟩) st.pool.length st.pool.length (cntV st.pool 10 []) :: blk b6 [.slice wa st.pool.length wc] 22 :: row 31 3 wa st.pool.length wc (pks ws) :: Segs (ws.map Pk.own) :: blk b4 [.bool false] 4 :: blk b3 [I64 stop] 3 :: F))) (fun _ => rfl) ?_ ?_
  · exact ⟨st.pool.length, 0, ⟨rfl, trivial⟩, rfl, H⟩
  rintro m i ρ1 w ⟨hmi, H⟩
  refine w_seq ?_
  refine w_seq ?_
  refine w_region ?_
  refine l_pint rfl rfl ?_
  refine l_pslice rfl rfl ?_
  refine l_v rfl (q_lenSlice rfl el_23 rfl) ?_
  refine l_pbool rfl rfl ?_
  refine l_nil ?_
  refine w_cond rfl (fun c6 => ?_) (fun c6 => ?_)
  · try simp only [sH] at c6
    refine w_skip ?_
    refine w_seq ?_
    refine w_block ?_
    refine w_seq ?_
    refine w_region ?_
    refine l_pslice rfl rfl ?_
    refine l_pint rfl rfl ?_
    refine l_v rfl (q_indexSliceA rfl el_23 rfl rfl rfl (by omega)) ?_
    refine l_v rfl (q_load1 rfl c1_3 rfl (row_cellN H (i := 7) rfl rfl (cntV_all (k := i) h9 (by omega)))) ?_
    refine l_pbool rfl rfl ?_
    refine l_nil ?_
    refine w_cond rfl (fun c7 => ?_) (fun c7 => ?_)
    · try simp only [sH] at c7
      exact absurd c7 (by simp)
    try simp only [sH] at c7
    refine w_skip ?_
    refine w_region ?_
    refine l_pint rfl rfl ?_
    first | refine l_v rfl (q_add rfl rfl rfl (by simp only [inK]; omega)) ?_ | refine l_pint rfl rfl ?_
    refine l_pint rfl rfl ?_
    refine l_nil ?_
    refine ⟨by repeat' first | exact aM | exact aR | refine aI rfl ?_ | refine aU rfl ?_ | refine aL rfl ?_, ?_⟩
    exact ⟨m - 1, i + 1, by omega, ⟨by exact congrArg (Value.int IntKind.i64) (Int.natCast_succ i).symm, trivial⟩, by omega, H⟩
  try simp only [sH] at c6
  refine w_exit ?_
  refine w_seq ?_
  refine w_region ?_
  refine l_pptr rfl rfl ?_
  refine b_call rfl cb_33 rfl (Each_ok H hfit (by omega)) (fun v w hv => ?_)
  obtain ⟨be, ea, ec, ls, rfl, hlc, hlq, H⟩ := hv
  have hll : ls.length = st.pool.length := by rw [← List.length_map (f := Pk.con), hlc, List.length_map]
  refine l_pfn rfl rfl ?_
  refine l_nil ?_
  refine w_seq ?_
  refine w_seq ?_
  refine w_region ?_
  refine l_pfn rfl rfl ?_
  refine l_v rfl (q_eqlFuncF rfl (by kernel_rfl) rfl rfl) ?_
  refine l_nil ?_
  refine w_cond rfl (fun c8 => ?_) (fun c8 => ?_)
  · try simp only [sH] at c8
    exact absurd c8 (by simp)
  try simp only [sH] at c8
  refine w_skip ?_
  refine w_seq ?_
  refine w_seq ?_
  refine w_region ?_
  refine l_pint rfl rfl ?_
  refine l_nil ?_
  refine w_block ?_
  refine w_loopG (G := Nat × NetS) [13, 113, 114, 115, 116, 117, 118, 119, 120, 121] (fun ⟨i, sT⟩ => [(13, I64 (i : Int))]) (fun m ⟨i, sT⟩ w => m + i = l.length ∧ NetOk sT l.length ∧ St W w (netL b sT (eachL be ea ec ls (row 3 1 (some ⟨b30, 0, none⟩) st.pool.length st.pool.length (cntV st.pool 10 []) :: blk b6 [.slice wa st.pool.length wc] 22 :: row 31 3 wa st.pool.length wc (pks ws) :: Segs (ws.map Pk.own) :: blk b4 [.bool false] 4 :: blk b3 [I64 stop] 3 :: F)))) (fun _ => rfl) ?_ ?_
  · exact ⟨l.length, (0, st), ⟨rfl, trivial⟩, rfl, hok, St.pick [3, 4, 5, 6, 7, 8, 9, 0, 1, 2, 10, 11, 12, 13, 14, 15] (pre := [_, _, _, _, _, _, _, _, _, _, _, _, _, _, _, _]) rfl H rfl⟩
  rintro m ⟨i, sT⟩ ρ1 w ⟨hmi, hok, H⟩
  refine w_seq ?_
  refine w_seq ?_
  refine w_region ?_
  refine l_pint rfl rfl ?_
  refine l_pslice rfl rfl ?_
  refine l_v rfl (q_lenSlice rfl el_22 rfl) ?_
  refine l_pbool rfl rfl ?_
  refine l_nil ?_
  refine w_cond rfl (fun c9 => ?_) (fun c9 => ?_)
  · try simp only [sH] at c9
    refine w_skip ?_
    refine w_seq ?_
    refine w_block ?_
    refine w_region ?_
    refine l_pptr rfl rfl ?_
    refine l_pint rfl rfl ?_
    refine b_call rfl cb_22 rfl (Turn_ok H (i : Int) 0 1) (fun v w hv => ?_)
    obtain ⟨rfl, H⟩ := hv
    refine l_nil ?_
    refine w_region ?_
    refine l_pint rfl rfl ?_
    first | refine l_v rfl (q_add rfl rfl rfl (by simp only [inK]; omega)) ?_ | refine l_pint rfl rfl ?_
    refine l_pint rfl rfl ?_
    refine l_nil ?_
    refine ⟨by repeat' first | exact aM | exact aR | refine aI rfl ?_ | refine aU rfl ?_ | refine aL rfl ?_, ?_⟩
    exact ⟨m - 1, (i + 1, turnS sT i 0 1), by omega, ⟨by exact congrArg (Value.int IntKind.i64) (Int.natCast_succ i).symm, trivial⟩, by omega, hok.turn _ _ _, H⟩
  try simp only [sH] at c9
  refine w_exit ?_
  refine w_seq ?_
  refine w_region ?_
  refine l_pptr rfl rfl ?_
  refine l_pslice rfl rfl ?_
  refine l_v rfl (q_lenSlice rfl el_22 rfl) ?_
  first | refine l_v rfl (q_sub rfl rfl rfl (by simp only [inK]; omega)) ?_ | refine l_pint rfl rfl ?_
  refine b_call rfl cb_23 rfl (Swap_ok H 0 ((l.length : Int) - 1)) (fun v w hv => ?_)
  obtain ⟨rfl, H⟩ := hv
  have hok := hok.swap 0 ((l.length : Int) - 1)
  refine l_nil ?_
  refine w_seq ?_
  refine w_region ?_
  refine l_pptr rfl rfl ?_
  refine b_call rfl cb_14 rfl (Take_ok H hok.fit 0) (fun v w hv => ?_)
  obtain ⟨tq, te, rfl, _, H⟩ := hv
  have H := H.drop1
  have hok := hok.take 0
  refine l_nil ?_
  refine w_seq ?_
  refine w_region ?_
  refine l_pptr rfl rfl ?_
  refine b_call rfl cb_24 rfl (Clear_ok H) (fun v w hv => ?_)
  obtain ⟨rfl, H⟩ := hv
  have hok4 := hok.clear
  obtain ⟨st4, e4⟩ : ∃ s, s = clearS (takeS (swapS sT 0 ((l.length : Int) - 1)) 0) := ⟨_, rfl⟩
  rw [← e4] at H hok4
  have hp4 : st4.pool = [] := by rw [e4]; rfl
  refine l_nil ?_
  refine w_seq ?_
  refine w_seq ?_
  refine w_region ?_
  refine b_alloc rfl ze_3 rfl H (fun b14 w H => ?_)
  refine b_store (cs' := [I64 ((0 : Nat) : Int)]) rfl sz_3 rfl rfl rfl rfl rfl H 0 rfl rfl rfl (fun w H => ?_)
  refine l_nil ?_
  refine w_block ?_
  refine w_loopD (G := Nat × Nat × List Nat) [14, 15, 16, 17, 131, 132, 133, 134, 135, 138, 139, 140, 141, 142, 143, 144, 145, 146, 147, 148, 149, 150, 151, 152, 153, 154, 155, 156, 157, 158, 159, 160, 161, 162, 163, 164, 165, 166, 167, 168, 169, 170, 171, 172, 173] (fun ⟨turn, b14, Ds⟩ => [(14, .pointer (some ⟨b14, 0, none⟩))]) (fun ⟨turn, b14, Ds⟩ => Ds.map mkD ++ []) (fun m ⟨turn, b14, Ds⟩ w => m + turn = 2 ∧ St W w (eachL be ea ec ls (blk b3 [I64 stop] 3 :: blk b4 [.bool false] 4 :: blk b6 [.slice wa st.pool.length wc] 22 :: row 31 3 wa st.pool.length wc (pks ws) :: Segs (ws.map Pk.own) :: blk b14 [I64 (turn : Int)] 3 :: Segs (Ds.map fun D => objb D (.deferred (some []))) :: netL b st4 F))) (fun _ => rfl) ?_ ?_
  · exact ⟨2, (0, b14, []), ⟨rfl, trivial⟩, rfl, rfl, St.pick [9, 10, 11, 17, 16, 13, 14, 15, 1, 0, 2, 3, 4, 5, 6, 7, 8] (pre := [_, _, _, _, _, _, _, _, _, _, _, _, _, _, _, _, _, _]) rfl (St.nilseg.2 H) rfl⟩
  rintro m ⟨turn, b14, Ds⟩ ρ1 w ⟨hmt, H⟩
  refine w_seq ?_
  refine w_seq ?_
  refine w_region ?_
  refine l_v rfl (q_load1 rfl c1_3 rfl (by first | exact H.cell 0 rfl rfl | exact H.cell 1 rfl rfl | exact H.cell 2 rfl rfl | exact H.cell 3 rfl rfl | exact H.cell 4 rfl rfl | exact H.cell 5 rfl rfl | exact H.cell 6 rfl rfl | exact H.cell 7 rfl rfl | exact H.cell 8 rfl rfl | exact H.cell 9 rfl rfl | exact H.cell 10 rfl rfl | exact H.cell 11 rfl rfl | exact H.cell 12 rfl rfl)) ?_
  refine l_pbool rfl rfl ?_
  refine l_nil ?_
  refine w_cond rfl (fun c10 => ?_) (fun c10 => ?_)
  · try simp only [sH] at c10
    have ht2 : turn ≤ 1 := by omega
    refine w_skip ?_
    refine w_seq ?_
    refine w_block ?_
    refine w_seq ?_
    refine w_region ?_
    refine b_alloc rfl ze_3 rfl H (fun b15 w H => ?_)
    refine b_store (cs' := [I64 ((0 : Nat) : Int)]) rfl sz_3 rfl rfl rfl rfl rfl H 0 rfl rfl rfl (fun w H => ?_)
    refine l_nil ?_
    refine w_cutD (G := Nat × Nat) [16, 17, 135, 138, 139, 140, 141, 142, 143, 144, 145, 146, 147, 148, 149, 150, 151, 152, 153, 154, 155, 156, 157, 158, 159, 160, 161, 162, 163, 164] (fun ⟨i, D⟩ => []) (fun ⟨i, D⟩ => mkD D :: (Ds.map mkD ++ [])) (fun ⟨i, D⟩ w => (turn = 0 ∨ i = ls.length) ∧ St W w (objb D (.deferred (some [])) :: ([blk b3 [I64 stop] 3, blk b4 [.bool false] 4, blk b6 [.slice wa st.pool.length wc] 22, row 31 3 wa st.pool.length wc (pks ws), Segs (ws.map Pk.own), blk b14 [I64 (turn : Int)] 3, blk b15 [I64 (i : Int)] 3] ++ eachL be ea ec ls (Segs (Ds.map fun D => objb D (.deferred (some []))) :: netL b st4 F)))) (fun _ => rfl) ?_ ?_
    · refine w_seq ?_
      refine w_region ?_
      refine l_pfn rfl rfl ?_
      refine l_nil ?_
      refine w_block ?_
      refine w_iter (Each_iter (F := Segs (Ds.map fun D => objb D (.deferred (some []))) :: netL b st4 F) (b3 := be) (a := ea) (c := ec) hlq (by omega)) (fun k => [blk b3 [I64 stop] 3, blk b4 [.bool false] 4, blk b6 [.slice wa st.pool.length wc] 22, row 31 3 wa st.pool.length wc (pks ws), Segs (ws.map Pk.own), blk b14 [I64 (turn : Int)] 3, blk b15 [I64 (k : Int)] 3]) (fun c k => pr (c = .exit 10 ∧ turn = 0) :: [blk b3 [I64 stop] 3, blk b4 [.bool false] 4, blk b6 [.slice wa st.pool.length wc] 22, row 31 3 wa st.pool.length wc (pks ws), Segs (ws.map Pk.own), blk b14 [I64 (turn : Int)] 3, blk b15 [I64 (k : Int)] 3]) rfl (by kernel_rfl) (fun _ _ => rfl) (St.pick [4, 5, 6, 7, 8, 9, 0, 1, 2, 3, 10] (pre := [_, _, _, _, _, _, _, _, _, _, _]) rfl H rfl) (fun lp D fn i x F' w hx H => ?_) (fun D w H => ?_) (fun D c k w H => ?_)
      · obtain ⟨p, hp, hcq, hql⟩ := hx
        generalize x = q at *
        have hil : i < ls.length := (List.getElem?_eq_some_iff.1 hp).1
        obtain ⟨wp, hwp⟩ : ∃ wp, ws[i]? = some wp := ⟨_, List.getElem?_eq_getElem (by omega)⟩
        have hcw : wp.con = q.con := (con_get (hwc.trans hlc.symm) hwp hp).trans hcq.symm
        refine w_seq ?_
        refine w_region ?_
        refine l_pint rfl rfl ?_
        refine l_nil ?_
        refine w_region ?_
        refine b_alloc rfl ze_31 rfl H (fun b17 w H => ?_)
        refine b_store (cs' := q.cells) rfl sz_31 rfl rfl rfl rfl rfl H 0 rfl rfl (putL_all rfl) (fun w H => ?_)
        refine l_nil ?_
        refine ⟨_, St.pick [1, 0, 2, 3, 4, 5, 6, 7, 8, 9] (pre := [_, _, _, _, _, _, _, _, _, _]) rfl H rfl, fun w H => ?_⟩
        obtain ⟨b0, o0, hwa, hws⟩ := pk_cells ((RdIn.row (W := W) 6 rfl).use H 0 rfl) hwp
        refine w_block ?_
        refine w_seq ?_
        refine w_seq ?_
        refine w_drawT [15] [0, 1, 6, 10, 11, 12, 14] [(0, 1), (1, 1), (2, 0), (3, 0), (4, 0), (5, 0), (6, 1), (7, 0), (8, 0), (9, 0), (10, 1), (11, 1), (12, 1), (13, 0), (14, 1), (15, 2), (16, 0), (17, 0)] mixed (by kernel_rfl) (fun _ _ _ h => h) H (fun H => ?_)
        refine r_v rfl rfl (fun w hS => q_load1 rfl c1_3 rfl (by first | exact hS.cell 0 rfl rfl | exact hS.cell 1 rfl rfl | exact hS.cell 2 rfl rfl | exact hS.cell 3 rfl rfl | exact hS.cell 4 rfl rfl | exact hS.cell 5 rfl rfl | exact hS.cell 6 rfl rfl | exact hS.cell 7 rfl rfl | exact hS.cell 8 rfl rfl | exact hS.cell 9 rfl rfl | exact hS.cell 10 rfl rfl | exact hS.cell 11 rfl rfl | exact hS.cell 12 rfl rfl)) ?_
        refine r_v rfl rfl (fun w hS => q_load1 rfl c1_22 rfl (by first | exact hS.cell 0 rfl rfl | exact hS.cell 1 rfl rfl | exact hS.cell 2 rfl rfl | exact hS.cell 3 rfl rfl | exact hS.cell 4 rfl rfl | exact hS.cell 5 rfl rfl | exact hS.cell 6 rfl rfl | exact hS.cell 7 rfl rfl | exact hS.cell 8 rfl rfl | exact hS.cell 9 rfl rfl | exact hS.cell 10 rfl rfl | exact hS.cell 11 rfl rfl | exact hS.cell 12 rfl rfl)) ?_
        refine r_w rfl rfl (fun w => q_lenSlice rfl el_22 rfl) ?_
        refine r_pbool rfl rfl rfl ?_
        refine r_pbool rfl rfl rfl ?_
        refine r_split 142 rfl (fun h142 => absurd h142 (by simp; omega)) (fun h142 => ?_)
        try simp only [sH] at h142
        refine r_pint rfl rfl rfl ?_
        refine r_v rfl rfl (fun w hS => q_load1 rfl c1_3 rfl (by first | exact hS.cell 0 rfl rfl | exact hS.cell 1 rfl rfl | exact hS.cell 2 rfl rfl | exact hS.cell 3 rfl rfl | exact hS.cell 4 rfl rfl | exact hS.cell 5 rfl rfl | exact hS.cell 6 rfl rfl | exact hS.cell 7 rfl rfl | exact hS.cell 8 rfl rfl | exact hS.cell 9 rfl rfl | exact hS.cell 10 rfl rfl | exact hS.cell 11 rfl rfl | exact hS.cell 12 rfl rfl)) ?_
        refine r_pbool rfl rfl rfl ?_
        refine r_pickF (v := .bool _) rfl rfl rfl rfl ?_
        refine r_pbool rfl rfl rfl ?_
        refine r_split 147 rfl (fun h147 => absurd h147 (by simp)) (fun h147 => ?_)
        try simp only [sH] at h147
        refine r_v rfl rfl (fun w hS => q_loadN (vs := q.cells) rfl ag_31 rfl rfl (hS.cells 1 rfl)) ?_
        refine r_v rfl rfl (fun w hS => q_load1 rfl c1_22 rfl (by first | exact hS.cell 0 rfl rfl | exact hS.cell 1 rfl rfl | exact hS.cell 2 rfl rfl | exact hS.cell 3 rfl rfl | exact hS.cell 4 rfl rfl | exact hS.cell 5 rfl rfl | exact hS.cell 6 rfl rfl | exact hS.cell 7 rfl rfl | exact hS.cell 8 rfl rfl | exact hS.cell 9 rfl rfl | exact hS.cell 10 rfl rfl | exact hS.cell 11 rfl rfl | exact hS.cell 12 rfl rfl)) ?_
        refine r_v rfl rfl (fun w hS => q_load1 rfl c1_3 rfl (by first | exact hS.cell 0 rfl rfl | exact hS.cell 1 rfl rfl | exact hS.cell 2 rfl rfl | exact hS.cell 3 rfl rfl | exact hS.cell 4 rfl rfl | exact hS.cell 5 rfl rfl | exact hS.cell 6 rfl rfl | exact hS.cell 7 rfl rfl | exact hS.cell 8 rfl rfl | exact hS.cell 9 rfl rfl | exact hS.cell 10 rfl rfl | exact hS.cell 11 rfl rfl | exact hS.cell 12 rfl rfl)) ?_
        refine r_w rfl rfl (fun w => q_indexSliceA rfl el_22 rfl hwa rfl (by omega)) ?_
        refine r_v rfl rfl (fun w hS => q_loadN (vs := wp.cells) rfl ag_31 rfl rfl (pk_cellsA hwa ((RdIn.row (W := W) 6 rfl).use hS 0 rfl) hwp)) ?_
        refine r_do rfl ?_
        refine b_call rfl cb_15 rfl (Same_ok H (p := q) (q := wp) (RdIn.row 2 rfl) hql (pk_own 7 rfl hwp) (pk_len H 7 rfl hwp).1) (fun v w hv => ?_)
        obtain ⟨rfl, H⟩ := hv
        rw [con_same (p := q) (q := wp) hcw]
        refine l_nil ⟨(fun h => nomatch h), ?_⟩
        refine r_pbool rfl rfl rfl ?_
        refine r_pickF (v := .bool _) rfl rfl rfl rfl ?_
        refine r_nil ?_
        refine w_cond rfl (fun c11 => ?_) (fun c11 => ?_)
        · try simp only [sH] at c11
          exact absurd c11 (by simp)
        try simp only [sH] at c11
        refine w_skip ?_
        refine w_seq ?_
        refine w_region ?_
        refine l_v rfl (q_load1 rfl c1_3 rfl (by first | exact H.cell 0 rfl rfl | exact H.cell 1 rfl rfl | exact H.cell 2 rfl rfl | exact H.cell 3 rfl rfl | exact H.cell 4 rfl rfl | exact H.cell 5 rfl rfl | exact H.cell 6 rfl rfl | exact H.cell 7 rfl rfl | exact H.cell 8 rfl rfl | exact H.cell 9 rfl rfl | exact H.cell 10 rfl rfl | exact H.cell 11 rfl rfl | exact H.cell 12 rfl rfl)) ?_
        first | refine l_v rfl (q_add rfl rfl rfl (by simp only [inK]; omega)) ?_ | refine l_pint rfl rfl ?_
        refine b_store (cs' := [I64 ((i + 1 : Nat) : Int)]) rfl sz_3 rfl rfl rfl rfl rfl H 9 rfl rfl (by exact congrArg (fun x => [Value.int .i64 x]) (Int.natCast_succ i).symm) (fun w H => ?_)
        refine l_nil ?_
        refine w_seq ?_
        refine w_region ?_
        refine l_v rfl (q_load1 rfl c1_3 rfl (by first | exact H.cell 0 rfl rfl | exact H.cell 1 rfl rfl | exact H.cell 2 rfl rfl | exact H.cell 3 rfl rfl | exact H.cell 4 rfl rfl | exact H.cell 5 rfl rfl | exact H.cell 6 rfl rfl | exact H.cell 7 rfl rfl | exact H.cell 8 rfl rfl | exact H.cell 9 rfl rfl | exact H.cell 10 rfl rfl | exact H.cell 11 rfl rfl | exact H.cell 12 rfl rfl)) ?_
        refine l_pbool rfl rfl ?_
        refine l_pbool rfl rfl ?_
        refine l_split 160 rfl (fun h160 => ?_) (fun h160 => ?_)
        · try simp only [sH] at h160
          refine l_v rfl (q_load1 rfl c1_3 rfl (by first | exact H.cell 0 rfl rfl | exact H.cell 1 rfl rfl | exact H.cell 2 rfl rfl | exact H.cell 3 rfl rfl | exact H.cell 4 rfl rfl | exact H.cell 5 rfl rfl | exact H.cell 6 rfl rfl | exact H.cell 7 rfl rfl | exact H.cell 8 rfl rfl | exact H.cell 9 rfl rfl | exact H.cell 10 rfl rfl | exact H.cell 11 rfl rfl | exact H.cell 12 rfl rfl)) ?_
          refine l_v rfl (q_load1 rfl c1_3 rfl (by first | exact H.cell 0 rfl rfl | exact H.cell 1 rfl rfl | exact H.cell 2 rfl rfl | exact H.cell 3 rfl rfl | exact H.cell 4 rfl rfl | exact H.cell 5 rfl rfl | exact H.cell 6 rfl rfl | exact H.cell 7 rfl rfl | exact H.cell 8 rfl rfl | exact H.cell 9 rfl rfl | exact H.cell 10 rfl rfl | exact H.cell 11 rfl rfl | exact H.cell 12 rfl rfl)) ?_
          refine l_pbool rfl rfl ?_
          refine l_pickT (v := .bool _) rfl rfl rfl ?_
          refine l_nil ?_
          refine w_cond rfl (fun c12 => ?_) (fun c12 => ?_)
          · try simp only [sH] at c12
            refine w_exit ?_
            exact St.pick [1, 0] (pre := [_, _]) rfl (St.pr.2 ⟨⟨rfl, by omega⟩, St.pick [0, 3, 4, 5, 6, 7, 8, 9] (pre := [_, _, _, _, _, _, _, _, _, _]) rfl H rfl⟩) rfl
          try simp only [sH] at c12
          refine w_skip ?_
          exact St.pick [0, 3, 4, 5, 6, 7, 8, 9] (pre := [_, _, _, _, _, _, _, _, _, _]) rfl H rfl
        try simp only [sH] at h160
        refine l_no rfl ?_
        refine l_no rfl ?_
        refine l_no rfl ?_
        refine l_pickF (v := .bool _) rfl rfl rfl ?_
        refine l_nil ?_
        refine w_cond_f rfl ?_
        refine w_skip ?_
        exact St.pick [0, 3, 4, 5, 6, 7, 8, 9] (pre := [_, _, _, _, _, _, _, _, _, _]) rfl H rfl
      · refine ⟨by repeat' first | exact AgrF.refl | exact AgrF.mix0 | exact AgrF.mixD | refine AgrF.inner rfl ?_ | refine AgrF.innerD rfl ?_ | refine AgrF.upd rfl ?_ | refine AgrF.updL rfl ?_ | refine AgrF.dm ?_, ?_⟩
        exact ⟨(ls.length, D), trivial, rfl, .inr rfl, H⟩
      obtain ⟨⟨rfl, h0⟩, H⟩ := St.pr.1 (St.pick [1, 0] (pre := [_, _]) rfl H rfl)
      refine w_exit ?_
      refine ⟨by repeat' first | exact AgrF.refl | exact AgrF.mix0 | exact AgrF.mixD | refine AgrF.inner rfl ?_ | refine AgrF.innerD rfl ?_ | refine AgrF.upd rfl ?_ | refine AgrF.updL rfl ?_ | refine AgrF.dm ?_, ?_⟩
      exact ⟨(k, D), trivial, rfl, .inl h0, H⟩
    rintro ⟨i, D⟩ ρ1 w ⟨hti, H⟩
    refine w_seq ?_
    refine w_region ?_
    refine l_v rfl (q_load1 rfl c1_3 rfl (by first | exact H.cell 0 rfl rfl | exact H.cell 1 rfl rfl | exact H.cell 2 rfl rfl | exact H.cell 3 rfl rfl | exact H.cell 4 rfl rfl | exact H.cell 5 rfl rfl | exact H.cell 6 rfl rfl | exact H.cell 7 rfl rfl | exact H.cell 8 rfl rfl | exact H.cell 9 rfl rfl | exact H.cell 10 rfl rfl | exact H.cell 11 rfl rfl | exact H.cell 12 rfl rfl)) ?_
    refine l_pbool rfl rfl ?_
    refine l_pbool rfl rfl ?_
    refine l_split 167 rfl (fun h167 => ?_) (fun h167 => ?_)
    · try simp only [sH] at h167
      refine l_v rfl (q_load1 rfl c1_3 rfl (by first | exact H.cell 0 rfl rfl | exact H.cell 1 rfl rfl | exact H.cell 2 rfl rfl | exact H.cell 3 rfl rfl | exact H.cell 4 rfl rfl | exact H.cell 5 rfl rfl | exact H.cell 6 rfl rfl | exact H.cell 7 rfl rfl | exact H.cell 8 rfl rfl | exact H.cell 9 rfl rfl | exact H.cell 10 rfl rfl | exact H.cell 11 rfl rfl | exact H.cell 12 rfl rfl)) ?_
      refine l_v rfl (q_load1 rfl c1_22 rfl (by first | exact H.cell 0 rfl rfl | exact H.cell 1 rfl rfl | exact H.cell 2 rfl rfl | exact H.cell 3 rfl rfl | exact H.cell 4 rfl rfl | exact H.cell 5 rfl rfl | exact H.cell 6 rfl rfl | exact H.cell 7 rfl rfl | exact H.cell 8 rfl rfl | exact H.cell 9 rfl rfl | exact H.cell 10 rfl rfl | exact H.cell 11 rfl rfl | exact H.cell 12 rfl rfl)) ?_
      refine l_v rfl (q_lenSlice rfl el_22 rfl) ?_
      refine l_pbool rfl rfl ?_
      refine l_pickT (v := .bool _) rfl rfl rfl ?_
      refine l_nil ?_
      refine w_cond rfl (fun c13 => ?_) (fun c13 => ?_)
      · try simp only [sH] at c13
        omega
      try simp only [sH] at c13
      refine w_skip ?_
      refine w_seq ?_
      refine w_seq ?_
      refine w_region ?_
      refine l_v rfl (q_load1 rfl c1_3 rfl (by first | exact H.cell 0 rfl rfl | exact H.cell 1 rfl rfl | exact H.cell 2 rfl rfl | exact H.cell 3 rfl rfl | exact H.cell 4 rfl rfl | exact H.cell 5 rfl rfl | exact H.cell 6 rfl rfl | exact H.cell 7 rfl rfl | exact H.cell 8 rfl rfl | exact H.cell 9 rfl rfl | exact H.cell 10 rfl rfl | exact H.cell 11 rfl rfl | exact H.cell 12 rfl rfl)) ?_
      refine l_nil ?_
      refine w_region ?_
      refine b_alloc rfl ze_3 rfl H (fun b14 w H => ?_)
      refine b_store (cs' := [I64 (turn : Int)]) rfl sz_3 rfl rfl rfl rfl rfl H 0 rfl rfl rfl (fun w H => ?_)
      refine l_nil ?_
      refine w_region ?_
      refine l_v rfl (q_load1 rfl c1_3 rfl (by first | exact H.cell 0 rfl rfl | exact H.cell 1 rfl rfl | exact H.cell 2 rfl rfl | exact H.cell 3 rfl rfl | exact H.cell 4 rfl rfl | exact H.cell 5 rfl rfl | exact H.cell 6 rfl rfl | exact H.cell 7 rfl rfl | exact H.cell 8 rfl rfl | exact H.cell 9 rfl rfl | exact H.cell 10 rfl rfl | exact H.cell 11 rfl rfl | exact H.cell 12 rfl rfl)) ?_
      first | refine l_v rfl (q_add rfl rfl rfl (by simp only [inK]; omega)) ?_ | refine l_pint rfl rfl ?_
      refine b_store (cs' := [I64 ((turn + 1 : Nat) : Int)]) rfl sz_3 rfl rfl rfl rfl rfl H 0 rfl rfl (by exact congrArg (fun x => [Value.int .i64 x]) (Int.natCast_succ turn).symm) (fun w H => ?_)
      refine l_nil ?_
      refine ⟨by repeat' first | exact AgrF.refl | exact AgrF.mix0 | exact AgrF.mixD | refine AgrF.inner rfl ?_ | refine AgrF.innerD rfl ?_ | refine AgrF.upd rfl ?_ | refine AgrF.updL rfl ?_ | refine AgrF.dm ?_, ?_⟩
      exact ⟨m - 1, (turn + 1, b14, D :: Ds), by omega, ⟨rfl, trivial⟩, rfl, by omega, St.pick [2, 3, 4, 5, 6, 7, 8, 9, 1, 0] (pre := [_, _, _, _, _, _, _, _, _, _]) rfl (St.consseg.2 (St.pick [1, 12, 0, 9, 10, 11, 2, 3, 4, 5, 6] (pre := [_, _, _, _, _, _, _, _, _, _, _, _, _]) rfl H rfl)) rfl⟩
    try simp only [sH] at h167
    refine l_no rfl ?_
    refine l_no rfl ?_
    refine l_no rfl ?_
    refine l_no rfl ?_
    refine l_pickF (v := .bool _) rfl rfl rfl ?_
    refine l_nil ?_
    refine w_cond_f rfl ?_
    refine w_skip ?_
    refine w_seq ?_
    refine w_seq ?_
    refine w_region ?_
    refine l_v rfl (q_load1 rfl c1_3 rfl (by first | exact H.cell 0 rfl rfl | exact H.cell 1 rfl rfl | exact H.cell 2 rfl rfl | exact H.cell 3 rfl rfl | exact H.cell 4 rfl rfl | exact H.cell 5 rfl rfl | exact H.cell 6 rfl rfl | exact H.cell 7 rfl rfl | exact H.cell 8 rfl rfl | exact H.cell 9 rfl rfl | exact H.cell 10 rfl rfl | exact H.cell 11 rfl rfl | exact H.cell 12 rfl rfl)) ?_
    refine l_nil ?_
    refine w_region ?_
    refine b_alloc rfl ze_3 rfl H (fun b14 w H => ?_)
    refine b_store (cs' := [I64 (turn : Int)]) rfl sz_3 rfl rfl rfl rfl rfl H 0 rfl rfl rfl (fun w H => ?_)
    refine l_nil ?_
    refine w_region ?_
    refine l_v rfl (q_load1 rfl c1_3 rfl (by first | exact H.cell 0 rfl rfl | exact H.cell 1 rfl rfl | exact H.cell 2 rfl rfl | exact H.cell 3 rfl rfl | exact H.cell 4 rfl rfl | exact H.cell 5 rfl rfl | exact H.cell 6 rfl rfl | exact H.cell 7 rfl rfl | exact H.cell 8 rfl rfl | exact H.cell 9 rfl rfl | exact H.cell 10 rfl rfl | exact H.cell 11 rfl rfl | exact H.cell 12 rfl rfl)) ?_
    first | refine l_v rfl (q_add rfl rfl rfl (by simp only [inK]; omega)) ?_ | refine l_pint rfl rfl ?_
    refine b_store (cs' := [I64 ((turn + 1 : Nat) : Int)]) rfl sz_3 rfl rfl rfl rfl rfl H 0 rfl rfl (by exact congrArg (fun x => [Value.int .i64 x]) (Int.natCast_succ turn).symm) (fun w H => ?_)
    refine l_nil ?_
    refine ⟨by repeat' first | exact AgrF.refl | exact AgrF.mix0 | exact AgrF.mixD | refine AgrF.inner rfl ?_ | refine AgrF.innerD rfl ?_ | refine AgrF.upd rfl ?_ | refine AgrF.updL rfl ?_ | refine AgrF.dm ?_, ?_⟩
    exact ⟨m - 1, (turn + 1, b14, D :: Ds), by omega, ⟨rfl, trivial⟩, rfl, by omega, St.pick [2, 3, 4, 5, 6, 7, 8, 9, 1, 0] (pre := [_, _, _, _, _, _, _, _, _, _]) rfl (St.consseg.2 (St.pick [1, 12, 0, 9, 10, 11, 2, 3, 4, 5, 6] (pre := [_, _, _, _, _, _, _, _, _, _, _, _, _]) rfl H rfl)) rfl⟩
  try simp only [sH] at c10
  obtain rfl : turn = 2 := by omega
  refine w_exit ?_
  refine w_seq ?_
  refine w_region ?_
  refine l_pptr rfl rfl ?_
  refine b_call rfl cb_16 rfl (Len_ok (i := 10) H rfl rfl) (fun v w hv => ?_)
  obtain ⟨rfl, rfl⟩ := hv
  have H := St.pick [10, 11, 12, 13, 14, 15, 16, 0, 1, 2, 3, 4, 5, 6, 7, 8, 9] (pre := [_, _, _, _, _, _, _, _, _, _, _, _, _, _, _, _, _]) rfl H rfl
  refine l_pbool rfl rfl ?_
  refine l_pbool rfl rfl ?_
  refine l_split 177 rfl (fun h177 => ?_) (fun h177 => absurd h177 (by simp [hp4]))
  try simp only [sH] at h177
  refine l_pptr rfl rfl ?_
  refine b_call rfl cb_32 rfl (For_ok H hok4.fit (by rw [hp4]; simp) 0) (fun v w hv => ?_)
  obtain ⟨fa, fc, rfl, H⟩ := hv
  refine l_v rfl (q_lenSlice rfl el_23 rfl) ?_
  refine l_pbool rfl rfl ?_
  refine l_pickT (v := .bool _) rfl rfl rfl ?_
  refine b_store (cs' := [.bool true]) rfl sz_4 rfl rfl rfl rfl rfl H 12 rfl rfl (show putL [Value.bool false] 0 [Value.bool (((forN 0 st4.pool st4.pool.length).length : Int) == 0)] = _ by rw [hp4]; rfl) (fun w H => ?_)
  refine l_nil ?_
  refine w_ret ?_
  refine fin_marks (Ds := Ds) (ds := []) rfl (St.pick [17, 0, 1, 2, 3, 4, 5, 6, 7, 8, 9, 10, 11, 12, 13, 14, 15, 16] (pre := [_, _, _, _, _, _, _, _, _, _, _, _, _, _, _, _, _, _]) rfl H rfl) (fun w H => ?_)
  refine finc1 rfl c1_4 (by first | exact H.cell 0 rfl rfl | exact H.cell 1 rfl rfl | exact H.cell 2 rfl rfl | exact H.cell 3 rfl rfl | exact H.cell 4 rfl rfl | exact H.cell 5 rfl rfl | exact H.cell 6 rfl rfl | exact H.cell 7 rfl rfl | exact H.cell 8 rfl rfl | exact H.cell 9 rfl rfl | exact H.cell 10 rfl rfl | exact H.cell 11 rfl rfl | exact H.cell 12 rfl rfl) ?_
  exact ⟨rfl, _, H⟩
end Go.Proofs.Ytmgcmgfjaimlnaa
