/- The walk of the law TapeBack ends in true, where the table of nibbles is laid. -/
import Derived.Test.YtfpmnhmdphaceaaDoorTapP13
import Derived.Test.YtfpmnhmdphaceaaDoorTap38
import Derived.Test.YtfpmnhmdphaceaaDoorTap11
namespace Go.Proofs.YtfpmnhmdphaceaaDoor
open Go.EW
attribute [local irreducible] EW.W EW.L EW.fin block8 outB shaL
set_option linter.unusedVariables false
set_option linter.unusedSimpArgs false
attribute [local irreducible] crcN crcB crcL sealL openR sealR putEv getEv runR readR fileT usedE seekR addRT chkS
theorem evs_slice {W : World} {S : List Seg} {la : Option Addr} {ls : List EvM} {lc j1 j2 : Nat} (h : RdIn W S la (evsV ls)) (hc : lc = j1 → j2 = 0) : RdIn W S (subA la 13 j1 lc) (evsV ((ls.drop j1).take j2)) := by
  have h2 := h.subA (sz := 13) (l := j1) (m := lc) (j := j2 * 13) (fun e => .inl (by rw [hc e]))
  rw [evsV_drop, evsV_take] at h2
  exact h2
set_option maxRecDepth 8000 in
set_option maxHeartbeats 1000000 in
theorem TapeBack_no {W w : World} {F : List Seg} (hN : NibOk W) (H : St W w F) (s : Stp) (hso : StpOk s) {a : Option Addr} {c : Nat} (hr : RdIn W F a (intsV s.cls)) {es : List EvM} {ea : Option Addr} {n ec : Nat} (hre : RdIn W F ea (evsV es)) (hl : es.length = n) (hes : EvsIn W F es) (hn : n ≤ 140737488351232) {fr cn : Int} (me : Evt) (hme : EvOk me) {ma : Option Addr} {mc : Nat} (hrm : RdIn W F ma (me.bs.map B)) (hc : chkS s ≠ 0) :
    Ok Tryd.prog 9 [.agg (s.cells a c).toArray, .slice ea n ec, I fr, I cn, .agg (me.cells ma mc).toArray].toArray w (fun r w' => r = .bool true ∧ ∃ S, St W w' S) := by
  subst hl
  refine enter (n := 181) (rs := #[.tmp 10]) Tryd.func9 rfl rfl rfl rfl ?_
  refine w_seq ?_
  refine w_region ?_
  refine b_box (cs := s.cells a c) rfl rfl rfl H (fun b5 w H => ?_)
  refine b_box (cs := me.cells ma mc) rfl rfl rfl H (fun b9 w H => ?_)
  refine l_pbool rfl rfl ?_
  refine l_nil ?_
  refine w_seq ?_
  refine w_region ?_
  refine l_v rfl (q_loadN (vs := s.cells a c) rfl ag_56 rfl rfl (H.cells 1 rfl)) ?_
  refine l_pslice rfl rfl ?_
  refine b_call rfl cb_22 rfl (made_no hN H s hso (hr.up 2 rfl) (hre.up 2 rfl) rfl (hes.up 2 rfl) (by omega) hc) (fun v w hv => ?_)
  obtain ⟨rfl, H⟩ := hv
  refine l_ptup rfl rfl ?_
  refine l_pptr rfl rfl ?_
  refine l_pslice rfl rfl ?_
  refine l_pptr rfl rfl ?_
  refine l_pslice rfl rfl ?_
  refine l_nil ?_
  refine w_seq ?_
  refine w_seq ?_
  refine w_region ?_
  refine l_pptr rfl rfl ?_
  refine l_v rfl (q_eqlNilT rfl pt_61 rfl rfl) ?_
  refine l_nil ?_
  refine w_cond_t rfl ?_
  refine w_seq ?_
  refine w_region ?_
  refine b_call rfl cb_19 rfl (works_ok hN H) (fun v w hv => ?_)
  obtain ⟨rfl, H⟩ := hv
  refine l_pbool rfl rfl ?_
  refine l_nil ?_
  refine w_ret ?_
  refine fin1 (v := .bool _) rfl ?_
  exact ⟨rfl, _, H⟩
set_option maxRecDepth 8000 in
set_option maxHeartbeats 2000000 in
theorem TapeBack_yes {W w : World} {F : List Seg} (hN : NibOk W) (H : St W w F) (s : Stp) (hso : StpOk s) {a : Option Addr} {c : Nat} (hr : RdIn W F a (intsV s.cls)) {es : List EvM} {ea : Option Addr} {n ec : Nat} (hre : RdIn W F ea (evsV es)) (hl : es.length = n) (hes : EvsIn W F es) (hn : n ≤ 140737488351232) {fr cn : Int} (me : Evt) (hme : EvOk me) {ma : Option Addr} {mc : Nat} (hrm : RdIn W F ma (me.bs.map B)) (hc : chkS s = 0) :
    Ok Tryd.prog 9 [.agg (s.cells a c).toArray, .slice ea n ec, I fr, I cn, .agg (me.cells ma mc).toArray].toArray w (fun r w' => r = .bool true ∧ ∃ S, St W w' S) := by
  subst hl
  refine enter (n := 181) (rs := #[.tmp 10]) Tryd.func9 rfl rfl rfl rfl ?_
  refine w_seq ?_
  refine w_region ?_
  refine b_box (cs := s.cells a c) rfl rfl rfl H (fun b5 w H => ?_)
  refine b_box (cs := me.cells ma mc) rfl rfl rfl H (fun b9 w H => ?_)
  refine l_pbool rfl rfl ?_
  refine l_nil ?_
  refine w_seq ?_
  refine w_region ?_
  refine l_v rfl (q_loadN (vs := s.cells a c) rfl ag_56 rfl rfl (H.cells 1 rfl)) ?_
  refine l_pslice rfl rfl ?_
  refine b_call rfl cb_22 rfl (made_ok hN H s hso (hr.up 2 rfl) (hre.up 2 rfl) rfl (hes.up 2 rfl) (by omega) hc) (fun v w hv => ?_)
  obtain ⟨tb, p, la, lc, ls, hpt, hls, rfl, H⟩ := hv
  have H := St.pick [2, 3, 4, 5, 6, 0, 1, 7, 8] (pre := [_, _, _, _, _, _, _, _, _]) rfl H rfl
  have hek : ∀ e ∈ es.map EvM.e, EvOk e := fun e he => by
    obtain ⟨x, hx, rfl⟩ := List.mem_map.1 he
    exact (hes x hx).2
  rw [made_form s (es.map EvM.e) (min es.length 300) (by omega) (by rw [List.length_map]; omega)] at hpt hls H
  have hls := hls.trans (bytes_ev hek (min es.length 300)).symm
  have ht := bytes_ok hek (min es.length 300)
  have hn1 : (bytesN (es.map EvM.e) (min es.length 300)).length ≤ 300 := by unfold bytesN; rw [List.length_map]; have := taken_len (es.map EvM.e) (min es.length 300); omega
  simp only [] at hpt H
  generalize bytesN (es.map EvM.e) (min es.length 300) = ts at *
  have hT := tok_all s ht.len (show ts.length ≤ 4096 by omega)
  obtain ⟨hfile, hTn⟩ := file_all s ts
  have hlen : ls.length = ts.length := by rw [← List.length_map (f := EvM.e), hls, List.length_map]
  have hread := read_file hc hso ht (show ts.length ≤ 4096 by omega)
  obtain ⟨y, hrun, hy1, hy2, hy3⟩ := run_file hc hso ht (show ts.length ≤ 4096 by omega)
  refine l_ptup rfl rfl ?_
  refine l_pptr rfl rfl ?_
  refine l_pslice rfl rfl ?_
  refine l_pptr rfl rfl ?_
  refine l_pslice rfl rfl ?_
  refine l_nil ?_
  refine w_seq ?_
  refine w_seq ?_
  refine w_region ?_
  refine l_pptr rfl rfl ?_
  refine l_v rfl (q_eqlNilF rfl pt_61 rfl rfl) ?_
  refine l_nil ?_
  refine w_cond_f rfl ?_
  refine w_skip ?_
  refine w_seq ?_
  refine w_seq ?_
  refine w_region ?_
  refine l_pptr rfl rfl ?_
  refine b_call rfl cb_31 rfl (TLen_ok H) (fun v w hv => ?_)
  obtain ⟨rfl, H⟩ := hv
  refine l_pslice rfl rfl ?_
  refine l_v rfl (q_lenSlice rfl el_57 rfl) ?_
  refine l_pbool rfl rfl ?_
  refine l_nil ?_
  refine w_cond rfl (fun c1 => ?_) (fun c1 => ?_)
  · try simp only [sH] at c1
    omega
  try simp only [sH] at c1
  refine w_skip ?_
  refine w_cutG (G := Unit) [10, 13, 14, 15, 16, 17, 38, 39, 40, 41, 42, 43, 44, 45, 46, 47, 48, 49, 50, 51, 52, 53, 54, 55, 56, 57, 58, 59, 60, 61, 62, 63, 64, 65, 66, 67, 68, 69, 70, 71, 72, 73, 74] (fun ⟨⟩ => []) (fun ⟨⟩ w => St W w (tapeL tb p (ts.foldl addT (newT s)) (row 30 13 la ls.length lc (evsV ls) :: Segs (ls.map EvM.seg) :: blk b9 (me.cells ma mc) 30 :: blk b5 (s.cells a c) 56 :: F))) (fun _ => rfl) ?_ ?_
  · refine w_seq ?_
    refine w_region ?_
    refine l_pint rfl rfl ?_
    refine l_nil ?_
    refine w_block ?_
    refine w_loopG (G := Nat) [10, 13, 14, 15, 16, 17, 38, 39, 40, 41, 42, 43, 44, 45, 46, 47, 48, 49, 50, 51, 52, 53, 54, 55, 56, 57, 58, 59, 60, 61, 62, 63, 64, 65, 66, 67, 68, 69, 70, 71, 72, 73, 74] (fun i => [(13, I ((i : Nat) : Int))]) (fun m i w => m + i = es.length ∧ i ≤ 300 ∧ St W w (tapeL tb p (ts.foldl addT (newT s)) (row 30 13 la ls.length lc (evsV ls) :: Segs (ls.map EvM.seg) :: blk b9 (me.cells ma mc) 30 :: blk b5 (s.cells a c) 56 :: F))) (fun _ => rfl) ?_ ?_
    · exact ⟨es.length, 0, ⟨rfl, trivial⟩, rfl, Nat.zero_le _, H⟩
    rintro m i ρ1 w ⟨hmi, hi3, H⟩
    refine w_seq ?_
    refine w_seq ?_
    refine w_region ?_
    refine l_pint rfl rfl ?_
    refine l_pslice rfl rfl ?_
    refine l_v rfl (q_lenSlice rfl el_57 rfl) ?_
    refine l_pbool rfl rfl ?_
    refine l_pbool rfl rfl ?_
    refine l_split 42 rfl (fun h42 => ?_) (fun h42 => ?_)
    · try simp only [sH] at h42
      refine l_pint rfl rfl ?_
      refine l_pbool rfl rfl ?_
      refine l_pickT (v := .bool _) rfl rfl rfl ?_
      refine l_nil ?_
      refine w_cond rfl (fun c2 => ?_) (fun c2 => ?_)
      · try simp only [sH] at c2
        have hi : i < es.length := by omega
        have hi3' : i < 300 := by omega
        obtain ⟨eb, eo, hea⟩ := evs_ex (hre.use H 9 rfl) hi
        have hei := hes _ (List.getElem_mem hi)
        refine w_skip ?_
        refine w_seq ?_
        refine w_block ?_
        refine w_seq ?_
        refine w_region ?_
        refine l_pslice rfl rfl ?_
        refine l_pint rfl rfl ?_
        refine l_v rfl (q_indexSliceE i rfl el_57 rfl hea rfl rfl hi) ?_
        refine l_v rfl (q_loadN (vs := es[i].cells) rfl ag_30 rfl rfl (evs_at hea (hre.use H 9 rfl) hi)) ?_
        refine b_call rfl cb_11 rfl (PutEvent_ok H es[i].e hei.2 (hei.1.up 9 rfl)) (fun v w hv => ?_)
        obtain ⟨pa, pc, rfl, H⟩ := hv
        refine l_ptup rfl rfl ?_
        refine l_pslice rfl rfl ?_
        refine l_pint rfl rfl ?_
        refine l_pslice rfl rfl ?_
        refine l_pint rfl rfl ?_
        refine l_nil ?_
        refine w_seq ?_
        refine w_seq ?_
        refine w_region ?_
        refine l_pint rfl rfl ?_
        refine l_pbool rfl rfl ?_
        refine l_nil ?_
        refine w_cond rfl (fun c3 => ?_) (fun c3 => ?_)
        · try simp only [sH] at c3
          refine w_exit ?_
          refine w_region ?_
          refine l_pint rfl rfl ?_
          first | refine l_v rfl (q_add rfl rfl rfl (by simp only [inK]; omega)) ?_ | refine l_pint rfl rfl ?_
          refine l_pint rfl rfl ?_
          refine l_nil ?_
          refine ⟨by repeat' first | exact aM | exact aR | refine aI rfl ?_ | refine aU rfl ?_ | refine aL rfl ?_, ?_⟩
          exact ⟨m - 1, i + 1, by omega, ⟨by exact congrArg (Value.int IntKind.i64) (Int.natCast_succ i).symm, trivial⟩, by omega, by omega, H.drop1⟩
        try simp only [sH] at c3
        refine w_skip ?_
        refine w_seq ?_
        refine w_region ?_
        refine l_pslice rfl rfl ?_
        refine b_call rfl cb_14 rfl (GetEvent_ok (bs := (putEv es[i].e).1) H (RdIn.row 0 rfl) rfl (by have := putEv_len es[i].e; omega)) (fun v w hv => ?_)
        obtain ⟨xa, xc, hr1, H⟩ := hv
        rw [getEv_put hei.2 (by omega)] at hr1 H
        subst hr1
        refine l_ptup rfl rfl ?_
        refine l_pagg rfl rfl ?_
        refine l_pint rfl rfl ?_
        refine b_alloc (cs := evt0.cells none 0) rfl ze_30 rfl H (fun b16 w H => ?_)
        refine b_store (cs' := (usedE es[i].e).cells xa xc) rfl sz_30 rfl rfl rfl rfl rfl H 0 rfl rfl (putL_all rfl) (fun w H => ?_)
        refine l_pint rfl rfl ?_
        refine l_nil ?_
        refine w_seq ?_
        refine w_drawT [9] [3, 7] [(0, 0), (1, 0), (2, 0), (3, 1), (4, 0), (5, 0), (6, 0), (7, 1), (8, 2), (9, 2), (10, 0), (11, 0)] mixed (by kernel_rfl) (fun _ _ _ h => fin_panic h) H (fun H => ?_)
        refine r_pint rfl rfl rfl ?_
        refine r_pbool rfl rfl rfl ?_
        refine r_pbool rfl rfl rfl ?_
        refine r_split 65 rfl (fun h65 => absurd h65 (by simp)) (fun h65 => ?_)
        try simp only [sH] at h65
        refine r_v rfl rfl (fun w hS => q_loadN (vs := (usedE es[i].e).cells xa xc) rfl ag_30 rfl rfl (hS.cells 0 rfl)) ?_
        refine r_pslice rfl rfl rfl ?_
        refine r_pint rfl rfl rfl ?_
        refine r_w rfl rfl (fun w => q_indexSliceE i rfl el_57 rfl hea rfl rfl hi) ?_
        refine r_v rfl rfl (fun w hS => q_loadN (vs := es[i].cells) rfl ag_30 rfl rfl (evs_at hea (hre.use hS 12 rfl) hi)) ?_
        refine r_do rfl ?_
        refine b_call rfl cb_37 rfl (Used_ok H es[i].e (hei.1.up 12 rfl) (by have := hei.2.bs; omega)) (fun v w hv => ?_)
        obtain ⟨ua, uc, rfl, H⟩ := hv
        refine l_nil ⟨fun _ _ => (by first | exact H | exact H.drop1 | exact H.drop1.drop1 | exact H.drop1.drop1.drop1), ?_⟩
        refine r_do rfl ?_
        refine b_call rfl cb_17 rfl (sameEvent_ok H (x := usedE es[i].e) (y := usedE es[i].e) (RdIn.rowF 2 rfl) (RdIn.row 0 rfl)) (fun v w hv => ?_)
        obtain ⟨bb, hbb, rfl, H⟩ := hv
        obtain rfl : bb = true := hbb.2 rfl
        refine l_nil ⟨(fun h => nomatch h), ?_⟩
        refine r_pbool rfl rfl rfl ?_
        refine r_pickF (v := .bool _) rfl rfl rfl rfl ?_
        refine r_nil ?_
        refine w_cond rfl (fun c4 => ?_) (fun c4 => ?_)
        · try simp only [sH] at c4
          exact absurd c4 (by simp)
        try simp only [sH] at c4
        refine w_skip ?_
        refine w_region ?_
        refine l_pint rfl rfl ?_
        first | refine l_v rfl (q_add rfl rfl rfl (by simp only [inK]; omega)) ?_ | refine l_pint rfl rfl ?_
        refine l_pint rfl rfl ?_
        refine l_nil ?_
        refine ⟨by repeat' first | exact aM | exact aR | refine aI rfl ?_ | refine aU rfl ?_ | refine aL rfl ?_, ?_⟩
        exact ⟨m - 1, i + 1, by omega, ⟨by exact congrArg (Value.int IntKind.i64) (Int.natCast_succ i).symm, trivial⟩, by omega, by omega, H.drop1.drop1.drop1.drop1⟩
      try simp only [sH] at c2
      refine w_exit ?_
      refine ⟨by repeat' first | exact aM | exact aR | refine aI rfl ?_ | refine aU rfl ?_ | refine aL rfl ?_, ?_⟩
      exact ⟨⟨⟩, trivial, H⟩
    try simp only [sH] at h42
    refine l_no rfl ?_
    refine l_no rfl ?_
    refine l_pickF (v := .bool _) rfl rfl rfl ?_
    refine l_nil ?_
    refine w_cond_f rfl ?_
    refine w_exit ?_
    refine ⟨by repeat' first | exact aM | exact aR | refine aI rfl ?_ | refine aU rfl ?_ | refine aL rfl ?_, ?_⟩
    exact ⟨⟨⟩, trivial, H⟩
  rintro ⟨⟩ ρ1 w H
  refine w_seq ?_
  refine w_region ?_
  refine l_pptr rfl rfl ?_
  refine b_call rfl cb_23 rfl (TBytes_ok hN H hT.ok hpt hT.pl) (fun v w hv => ?_)
  obtain ⟨fa, fc, hr2, H⟩ := hv
  rw [hfile] at hr2 H
  subst hr2
  have hfc := (H.rowInv (i := 0) rfl).2.1
  have hfl : (fileL s ts).length ≤ 140737488351232 := by rw [← hfile]; exact fileT_len hT
  refine l_pslice rfl rfl ?_
  refine l_nil ?_
  refine w_seq ?_
  refine w_region ?_
  refine l_pslice rfl rfl ?_
  refine b_call rfl cb_20 rfl (Read_ok hN H (RdIn.row 0 rfl) rfl hfc hfl) (fun v w hv => ?_)
  obtain ⟨ra, rc, ca, cc, es1, hes1, hr3, H⟩ := hv
  rw [hread] at hes1 hr3 H
  subst hr3
  have hes1 : es1.map EvM.e = ls.map EvM.e := hes1.trans hls.symm
  refine l_ptup rfl rfl ?_
  refine l_pagg rfl rfl ?_
  refine l_pslice rfl rfl ?_
  refine l_pint rfl rfl ?_
  refine l_pint rfl rfl ?_
  refine b_alloc (cs := stp0.cells none 0) rfl ze_56 rfl H (fun b19 w H => ?_)
  refine b_store (cs' := s.cells ca cc) rfl sz_56 rfl rfl rfl rfl rfl H 0 rfl rfl (putL_all rfl) (fun w H => ?_)
  refine l_pslice rfl rfl ?_
  refine l_pint rfl rfl ?_
  refine l_pint rfl rfl ?_
  refine l_nil ?_
  refine w_seq ?_
  refine w_seq ?_
  refine w_region ?_
  refine l_pint rfl rfl ?_
  refine l_pbool rfl rfl ?_
  refine l_pbool rfl rfl ?_
  refine l_split 86 rfl (fun h86 => absurd h86 (by simp)) (fun h86 => ?_)
  try simp only [sH] at h86
  refine l_pint rfl rfl ?_
  refine l_pbool rfl rfl ?_
  refine l_pickF (v := .bool _) rfl rfl rfl ?_
  refine l_pbool rfl rfl ?_
  refine l_split 90 rfl (fun h90 => absurd h90 (by simp)) (fun h90 => ?_)
  try simp only [sH] at h90
  refine l_v rfl (q_loadN (vs := s.cells ca cc) rfl ag_56 rfl rfl (H.cells 0 rfl)) ?_
  refine l_v rfl (q_loadN (vs := s.cells a c) rfl ag_56 rfl rfl (H.cells 13 rfl)) ?_
  refine b_call rfl cb_21 rfl (sameSetup_ok H (s := s) (t := s) (RdIn.row 3 rfl) (hr.up 14 rfl) (by have := (chk_inv hc).2.1; omega)) (fun v w hv => ?_)
  obtain ⟨bb, hbb, rfl, H⟩ := hv
  obtain rfl : bb = true := hbb.2 rfl
  refine l_pbool rfl rfl ?_
  refine l_pickF (v := .bool _) rfl rfl rfl ?_
  refine l_pbool rfl rfl ?_
  refine l_split 96 rfl (fun h96 => absurd h96 (by simp)) (fun h96 => ?_)
  try simp only [sH] at h96
  refine l_pslice rfl rfl ?_
  refine l_pslice rfl rfl ?_
  refine b_call rfl cb_27 rfl (sameEvents_ok H (xs := es1) (ys := ls) (RdIn.row 1 rfl) rfl (EvsR.segs 2 rfl) (RdIn.row 10 rfl) rfl (EvsR.segs 11 rfl) (by have := congrArg List.length hes1; rw [List.length_map, List.length_map] at this; omega)) (fun v w hv => ?_)
  obtain ⟨bb, hbb, rfl, H⟩ := hv
  obtain rfl : bb = true := hbb.2 hes1
  refine l_pbool rfl rfl ?_
  refine l_pickF (v := .bool _) rfl rfl rfl ?_
  refine l_nil ?_
  refine w_cond rfl (fun c5 => ?_) (fun c5 => ?_)
  · try simp only [sH] at c5
    exact absurd c5 (by simp)
  try simp only [sH] at c5
  refine w_skip ?_
  refine w_seq ?_
  refine w_region ?_
  refine l_pslice rfl rfl ?_
  refine b_call rfl cb_26 rfl (Salvage_ok hN H (RdIn.row 4 rfl) rfl hfc hfl) (fun v w hv => ?_)
  obtain ⟨sa, sc, da, dc, es2, hes2, hr4, H⟩ := hv
  rw [hrun] at hes2 hr4 H
  simp only [] at hes2 hr4 H
  rw [hy1, hy3] at hr4
  rw [hy1] at H
  rw [hy2] at hes2
  subst hr4
  have hes2 : es2.map EvM.e = ls.map EvM.e := hes2.trans hls.symm
  have H := St.pick [3, 0, 1, 2, 7, 8, 9, 10, 11, 12, 13, 14, 15, 16] (pre := [_, _, _, _, _, _, _, _, _, _, _, _, _, _, _, _, _]) rfl H rfl
  refine l_ptup rfl rfl ?_
  refine l_pagg rfl rfl ?_
  refine l_pslice rfl rfl ?_
  refine l_pint rfl rfl ?_
  refine b_store (cs' := s.cells da dc) rfl sz_56 rfl rfl rfl rfl rfl H 0 rfl rfl (putL_all rfl) (fun w H => ?_)
  refine l_pslice rfl rfl ?_
  refine l_pint rfl rfl ?_
  refine l_nil ?_
  refine w_seq ?_
  refine w_seq ?_
  refine w_region ?_
  refine l_pint rfl rfl ?_
  refine l_pslice rfl rfl ?_
  refine l_v rfl (q_lenSlice rfl el_28 rfl) ?_
  refine l_pbool rfl rfl ?_
  refine l_pbool rfl rfl ?_
  refine l_split 112 rfl (fun h112 => absurd h112 (by simp)) (fun h112 => ?_)
  try simp only [sH] at h112
  refine l_v rfl (q_loadN (vs := s.cells da dc) rfl ag_56 rfl rfl (H.cells 0 rfl)) ?_
  refine l_v rfl (q_loadN (vs := s.cells a c) rfl ag_56 rfl rfl (H.cells 13 rfl)) ?_
  refine b_call rfl cb_21 rfl (sameSetup_ok H (s := s) (t := s) (RdIn.row 3 rfl) (hr.up 14 rfl) (by have := (chk_inv hc).2.1; omega)) (fun v w hv => ?_)
  obtain ⟨bb, hbb, rfl, H⟩ := hv
  obtain rfl : bb = true := hbb.2 rfl
  refine l_pbool rfl rfl ?_
  refine l_pickF (v := .bool _) rfl rfl rfl ?_
  refine l_pbool rfl rfl ?_
  refine l_split 118 rfl (fun h118 => absurd h118 (by simp)) (fun h118 => ?_)
  try simp only [sH] at h118
  refine l_pslice rfl rfl ?_
  refine l_pslice rfl rfl ?_
  refine b_call rfl cb_27 rfl (sameEvents_ok H (xs := es2) (ys := ls) (RdIn.row 1 rfl) rfl (EvsR.segs 2 rfl) (RdIn.row 10 rfl) rfl (EvsR.segs 11 rfl) (by have := congrArg List.length hes2; rw [List.length_map, List.length_map] at this; omega)) (fun v w hv => ?_)
  obtain ⟨bb, hbb, rfl, H⟩ := hv
  obtain rfl : bb = true := hbb.2 hes2
  have H := St.pick [4, 5, 6, 7, 8, 9, 10, 11, 12, 13] (pre := [_, _, _, _, _, _, _, _, _, _, _, _, _, _]) rfl H rfl
  refine l_pbool rfl rfl ?_
  refine l_pickF (v := .bool _) rfl rfl rfl ?_
  refine l_nil ?_
  refine w_cond rfl (fun c6 => ?_) (fun c6 => ?_)
  · try simp only [sH] at c6
    exact absurd c6 (by simp)
  try simp only [sH] at c6
  refine w_skip ?_
  refine w_seq ?_
  refine w_region ?_
  refine l_pint rfl rfl ?_
  refine l_pslice rfl rfl ?_
  refine l_v rfl (q_lenSlice rfl el_57 rfl) ?_
  refine b_call rfl cb_25 rfl (within_ok H (m := ls.length) rfl (by omega)) (fun v w hv => ?_)
  obtain ⟨j1, hj1, rfl, H⟩ := hv
  refine l_pint rfl rfl ?_
  refine l_nil ?_
  refine w_seq ?_
  refine w_region ?_
  refine l_pint rfl rfl ?_
  refine l_pslice rfl rfl ?_
  refine l_v rfl (q_lenSlice rfl el_57 rfl) ?_
  refine l_pint rfl rfl ?_
  first | refine l_v rfl (q_sub rfl rfl rfl (by simp only [inK]; omega)) ?_ | refine l_pint rfl rfl ?_
  refine b_call rfl cb_25 rfl (within_ok H (m := ls.length - j1) (by omega) (by omega)) (fun v w hv => ?_)
  obtain ⟨j2, hj2, rfl, H⟩ := hv
  have hseek := seek_file (s := s) hc ht (show ts.length ≤ 4096 by omega) (show j1 + j2 ≤ ts.length by omega)
  refine l_pint rfl rfl ?_
  refine l_nil ?_
  refine w_seq ?_
  refine w_region ?_
  refine l_pslice rfl rfl ?_
  refine l_pint rfl rfl ?_
  refine l_pint rfl rfl ?_
  refine b_call rfl cb_34 rfl (Seek_ok hN H (fr := (j1 : Int)) (cn := (j2 : Int)) (RdIn.row 0 rfl) rfl hfc hfl (by omega) (by omega)) (fun v w hv => ?_)
  obtain ⟨qa, qc, es3, hes3, hr5, H⟩ := hv
  rw [hseek] at hes3 hr5
  subst hr5
  have hlc := (H.rowInv (i := 8) rfl).2.1
  have hes3 : es3.map EvM.e = ((ls.drop j1).take j2).map EvM.e := by rw [hes3, ← hls, List.map_take, List.map_drop]
  have hl3 : ((ls.drop j1).take j2).length = j2 := by rw [List.length_take, List.length_drop]; omega
  refine l_ptup rfl rfl ?_
  refine l_pslice rfl rfl ?_
  refine l_pint rfl rfl ?_
  refine l_pslice rfl rfl ?_
  refine l_pint rfl rfl ?_
  refine l_nil ?_
  refine w_seq ?_
  refine w_seq ?_
  refine w_region ?_
  refine l_pint rfl rfl ?_
  refine l_pbool rfl rfl ?_
  refine l_pbool rfl rfl ?_
  refine l_split 143 rfl (fun h143 => absurd h143 (by simp)) (fun h143 => ?_)
  try simp only [sH] at h143
  refine l_pslice rfl rfl ?_
  refine l_pslice rfl rfl ?_
  refine l_pint rfl rfl ?_
  refine l_pint rfl rfl ?_
  refine l_pint rfl rfl ?_
  first | refine l_v rfl (q_add rfl rfl rfl (by simp only [inK]; omega)) ?_ | refine l_pint rfl rfl ?_
  refine l_v rfl (q_slice (l := j1) (h := j1 + j2) (m := lc) rfl el_57 rfl Bnd.none (by have h := @Bnd.mk .i64 ((j1 : Int) + (j2 : Int)) ls.length lc ⟨by omega, by omega⟩; rwa [show ((j1 : Int) + (j2 : Int)).toNat = j1 + j2 by omega] at h) (Bnd.nat (by omega)) (by simp)) ?_
  refine b_call rfl cb_27 rfl (sameEvents_ok H (xs := es3) (ys := (ls.drop j1).take j2) (RdIn.row 0 rfl) rfl (EvsR.segs 1 rfl) (evs_slice (RdIn.row 8 rfl) (fun e => by omega)) (by rw [hl3]; omega) ((EvsR.segs 9 rfl).sub (fun x hx => List.mem_of_mem_drop (List.mem_of_mem_take hx))) (by have := congrArg List.length hes3; rw [List.length_map, List.length_map, hl3] at this; omega)) (fun v w hv => ?_)
  obtain ⟨bb, hbb, rfl, H⟩ := hv
  obtain rfl : bb = true := hbb.2 hes3
  have H := St.pick [3, 4, 5, 6, 7, 8, 9, 10, 11] (pre := [_, _, _, _, _, _, _, _, _, _, _, _]) rfl H rfl
  refine l_pbool rfl rfl ?_
  refine l_pickF (v := .bool _) rfl rfl rfl ?_
  refine l_nil ?_
  refine w_cond rfl (fun c7 => ?_) (fun c7 => ?_)
  · try simp only [sH] at c7
    exact absurd c7 (by simp)
  try simp only [sH] at c7
  refine w_skip ?_
  refine w_cutG (G := TP × Option Addr × Nat × List EvM) [12, 154, 155, 156, 157, 158, 159, 160, 161, 162] (fun ⟨q, la2, lc2, ls2⟩ => [(12, .slice la2 ls2.length lc2)]) (fun ⟨q, la2, lc2, ls2⟩ w => ∃ ts' : List Txt, TsOk ts' ∧ ts'.length ≤ 301 ∧ q.ts = (ts'.foldl addT (newT s)).texts ∧ ls2.map EvM.e = ts'.map evOf ∧ St W w (tapeL tb q (ts'.foldl addT (newT s)) (row 30 13 la2 ls2.length lc2 (evsV ls2) :: Segs (ls2.map EvM.seg) :: F))) (fun _ => rfl) ?_ ?_
  · refine w_seq ?_
    refine w_region ?_
    refine l_pptr rfl rfl ?_
    refine l_v rfl (q_loadN (vs := me.cells ma mc) rfl ag_30 rfl rfl (H.cells 7 rfl)) ?_
    refine b_call rfl cb_29 rfl (TAdd_ok hN H hT.ok hpt me hme (hrm.up 4 rfl)) (fun v w hv => ?_)
    obtain ⟨q, hqt, rfl, H⟩ := hv
    refine l_pbool rfl rfl ?_
    refine l_nil ?_
    refine w_cond rfl (fun c8 => ?_) (fun c8 => ?_)
    · try simp only [sH] at c8
      refine w_region ?_
      refine l_pslice rfl rfl ?_
      refine l_v rfl (q_loadN (vs := me.cells ma mc) rfl ag_30 rfl rfl (H.cells 7 rfl)) ?_
      refine b_call rfl cb_37 rfl (Used_ok H me (hrm.up 9 rfl) (by have := hme.bs; omega)) (fun v w hv => ?_)
      obtain ⟨ua, uc, rfl, H⟩ := hv
      refine b_buildSlice (cs := (usedE me).cells ua uc) rfl el_57 ze_30 rfl rfl (fill_evt _ _ _) H (fun b161 w H => ?_)
      refine b_append rfl el_57 ze_30 rfl rfl rfl H 7 rfl (ys := (usedE me).cells ua uc) (Rd.mk (H.cells0 0 rfl)) rfl (fun u hu => oneEv [⟨usedE me, ua, uc⟩] u (by rw [evsV_one]; exact hu)) ⟨by omega, by simp only [maxLen]; omega⟩ (fun a162 c162 w H => ?_)
      have H := H.drop1
      refine l_pslice rfl rfl ?_
      refine l_nil ?_
      refine ⟨by repeat' first | exact aM | exact aR | refine aI rfl ?_ | refine aU rfl ?_ | refine aL rfl ?_, ?_⟩
      obtain ⟨z1, z2⟩ := addRT_zero (t := (ts.foldl addT (newT s))) (e := me) (by omega)
      obtain ⟨o1, o2, o3⟩ := bytes_one hme z1
      rw [z2] at hqt H
      refine ⟨(q, a162, c162, ls ++ [⟨usedE me, ua, uc⟩]), ⟨by rw [List.length_append]; rfl, trivial⟩, ts ++ [(putEv me).1], ⟨fun t h => ?_⟩, by rw [List.length_append]; show _ + 1 ≤ _; omega, by rw [List.foldl_append]; exact hqt, by rw [List.map_append, List.map_append, hls]; show _ = _ ++ [evOf _]; rw [o3]; rfl, ?_⟩
      · rcases List.mem_append.1 h with h | h
        · exact ht.good t h
        rw [List.mem_singleton.1 h]; exact ⟨o1, o2⟩
      rw [List.foldl_append, evsV_app, evsV_one, List.map_append, List.length_append]
      exact St.pick [1, 2, 3, 4, 5, 6, 0] (pre := [_, _, _, _, _, _, _, _, _]) rfl (St.snocseg.1 (St.pick [7, 0, 1, 2, 3, 4, 5, 6, 8, 9] (pre := [_, _, _, _, _, _, _, _, _, _]) rfl H.toF rfl)) rfl
    try simp only [sH] at c8
    refine w_skip ?_
    refine ⟨by repeat' first | exact aM | exact aR | refine aI rfl ?_ | refine aU rfl ?_ | refine aL rfl ?_, ?_⟩
    have z2 := addRT_pos (t := (ts.foldl addT (newT s))) (e := me) (by omega)
    rw [z2] at hqt H
    exact ⟨(q, la, lc, ls), ⟨rfl, trivial⟩, ts, ht, by omega, hqt, hls, St.pick [0, 1, 2, 3, 4, 5, 6] (pre := [_, _, _, _, _, _, _, _, _]) rfl H rfl⟩
  rintro ⟨q, la2, lc2, ls2⟩ ρ1 w ⟨ts', ht2, hn2, hqt, hls2, H⟩
  have hT2 := tok_all s ht2.len (show ts'.length ≤ 4096 by omega)
  have hf2 := (file_all s ts').1
  refine w_seq ?_
  refine w_region ?_
  refine l_pptr rfl rfl ?_
  refine b_call rfl cb_23 rfl (TBytes_ok hN H hT2.ok hqt hT2.pl) (fun v w hv => ?_)
  obtain ⟨ga, gc, hr6, H⟩ := hv
  rw [hf2] at hr6 H
  subst hr6
  have hgc := (H.rowInv (i := 0) rfl).2.1
  have hgl : (fileL s ts').length ≤ 140737488351232 := by rw [← hf2]; exact fileT_len hT2
  refine b_call rfl cb_20 rfl (Read_ok hN H (RdIn.row 0 rfl) rfl hgc hgl) (fun v w hv => ?_)
  obtain ⟨va, vc, wa, wc, es4, hes4, hr7, H⟩ := hv
  rw [read_file hc hso ht2 (show ts'.length ≤ 4096 by omega)] at hes4 hr7 H
  subst hr7
  have hes4 : es4.map EvM.e = ls2.map EvM.e := hes4.trans hls2.symm
  refine l_ptup rfl rfl ?_
  refine l_pagg rfl rfl ?_
  refine l_pslice rfl rfl ?_
  refine l_pint rfl rfl ?_
  refine l_pint rfl rfl ?_
  refine l_pslice rfl rfl ?_
  refine l_pint rfl rfl ?_
  refine l_nil ?_
  refine w_seq ?_
  refine w_region ?_
  refine b_call rfl cb_19 rfl (works_ok hN H) (fun v w hv => ?_)
  obtain ⟨rfl, H⟩ := hv
  refine l_pbool rfl rfl ?_
  refine l_split 172 rfl (fun h172 => ?_) (fun h172 => absurd h172 (by simp))
  try simp only [sH] at h172
  refine l_pint rfl rfl ?_
  refine l_pbool rfl rfl ?_
  refine l_pickT (v := .bool _) rfl rfl rfl ?_
  refine l_pbool rfl rfl ?_
  refine l_split 176 rfl (fun h176 => ?_) (fun h176 => absurd h176 (by simp))
  try simp only [sH] at h176
  refine l_pslice rfl rfl ?_
  refine l_pslice rfl rfl ?_
  refine b_call rfl cb_27 rfl (sameEvents_ok H (xs := es4) (ys := ls2) (RdIn.row 0 rfl) rfl (EvsR.segs 1 rfl) (RdIn.row 9 rfl) rfl (EvsR.segs 10 rfl) (by have := congrArg List.length hes4; rw [List.length_map, List.length_map, ] at this; have := congrArg List.length hls2; rw [List.length_map, List.length_map] at this; omega)) (fun v w hv => ?_)
  obtain ⟨bb, hbb, rfl, H⟩ := hv
  obtain rfl : bb = true := hbb.2 hes4
  refine l_pickT (v := .bool _) rfl rfl rfl ?_
  refine l_pbool rfl rfl ?_
  refine l_nil ?_
  refine w_ret ?_
  refine fin1 (v := .bool _) rfl ?_
  exact ⟨rfl, _, H⟩
end Go.Proofs.YtfpmnhmdphaceaaDoor
