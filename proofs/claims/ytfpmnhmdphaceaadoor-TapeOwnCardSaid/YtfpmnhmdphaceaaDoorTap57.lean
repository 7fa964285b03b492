/- The walk of the law TapeOwn ends in true for a setup that may be, where the table of nibbles is laid. -/
import Derived.Test.YtfpmnhmdphaceaaDoorTap56
namespace Go.Proofs.YtfpmnhmdphaceaaDoor
open Go.EW
attribute [local irreducible] EW.W EW.L EW.fin block8 outB shaL
set_option linter.unusedVariables false
set_option linter.unusedSimpArgs false
attribute [local irreducible] crcN crcB crcL sealL openR sealR putEv getEv runR readR fileT usedE seekR indexR addRT chkS mkBy mkIn
theorem evOf_bs (t : Txt) : (evOf t).bs.length ≤ 16384 := by
  have h0 : ∀ (b : List UInt8) (u i : Nat) (st : Evt × Rs), st.1.bs = [] → (gnum b u i st).1.bs = [] := fun b u i st h => by
    unfold gnum
    split
    · unfold Evt.put; split <;> exact h
    exact h
  have h1 : ∀ (b : List UInt8) (u : Nat) (st : Evt × Rs) (i : Nat), st.1.bs = [] → (ggo b u st i).1.bs = [] := fun b u st i h => by
    induction i with
    | zero => exact h
    | succ i ih => exact h0 _ _ _ _ ih
  have h2 : ∀ (b : List UInt8) (u : Nat) (st : Evt × Rs), st.1.bs = [] → (gdr b u st).1.bs = [] := fun b u st h => by
    unfold gdr; split <;> exact h
  have h3 : ∀ (b : List UInt8) (u : Nat) (st : Evt × Rs), st.1.bs = [] → (gop b u st).1.bs = [] := fun b u st h => by
    unfold gop; split <;> exact h
  have h4 : ∀ (b : List UInt8) (u : Nat) (st : Evt × Rs), st.1.bs = [] → (gby b u st).1.bs.length ≤ 16384 := fun b u st h => by
    unfold gby
    split
    · exact (rText_len (b := b) (m := 16384) (s := st.2)).1
    rw [h]; exact Nat.zero_le _
  unfold evOf getEv
  split
  · exact Nat.zero_le _
  split
  · exact Nat.zero_le _
  split
  · exact Nat.zero_le _
  exact h4 _ _ _ (h3 _ _ _ (h2 _ _ _ (h1 _ _ _ _ rfl)))
theorem evs_bs {l : List EvM} {ts : List Txt} (h : l.map EvM.e = ts.map evOf) {i : Nat} (hi : i < l.length) : l[i].e.bs.length ≤ 16384 := by
  have hm : l[i].e ∈ ts.map evOf := by rw [← h]; exact List.mem_map.2 ⟨_, List.getElem_mem hi, rfl⟩
  obtain ⟨t, _, e⟩ := List.mem_map.1 hm
  rw [← e]; exact evOf_bs t
theorem map_len {l l' : List EvM} (h : l.map EvM.e = l'.map EvM.e) : l.length = l'.length := by rw [← List.length_map (f := EvM.e), h, List.length_map]
theorem map_at {l l' : List EvM} (h : l.map EvM.e = l'.map EvM.e) {i : Nat} (hi : i < l.length) (hi' : i < l'.length) : l[i].e = l'[i].e := by
  have h1 : (l.map EvM.e)[i]? = (l'.map EvM.e)[i]? := by rw [h]
  rw [List.getElem?_map, List.getElem?_map, List.getElem?_eq_getElem hi, List.getElem?_eq_getElem hi'] at h1
  exact Option.some.inj h1
theorem mem_dropped {l : List EvM} {i : Nat} (hi : i < l.length) : l[i] ∈ l.drop i := by
  rw [List.drop_eq_getElem_cons hi]; exact List.mem_cons_self
theorem takeSeg {W w : World} {S : List Seg} {l : List EvM} {i : Nat} (hi : i < l.length) (H : St W w (Segs ((l.drop i).map EvM.seg) :: S)) : St W w (rowF 5 1 l[i].a (l[i].e.bs.map B).length l[i].c (l[i].e.bs.map B) :: Segs ((l.drop (i + 1)).map EvM.seg) :: S) := by
  rw [List.drop_eq_getElem_cons hi, List.map_cons] at H
  have H := Segs.take 0 rfl H
  rw [evm_seg] at H
  exact H
theorem fileL_small (s : Stp) {ts : List Txt} (ht : TsOk ts) (hn : ts.length ≤ 4096) : (fileL s ts).length ≤ 400000000 := by
  obtain ⟨_, _, h⟩ := lay_small s ht.len hn
  have h2 : (footC ts.length (layT s ts).places (layT s ts).file).length ≤ 32768 := seal_le _
  unfold fileL
  rw [List.length_append, List.length_append, be4_len]; omega
theorem natsV_len (l : List Nat) : (natsV l).length = l.length := by unfold natsV; rw [List.length_map]
theorem rowLen {W w : World} {S : List Seg} {T : TypeId} {a : Option Addr} {n c : Nat} {xs : List Value} (h : xs.length = n) (H : St W w (row T 1 a n c xs :: S)) : St W w (rowF T 1 a xs.length c xs :: S) := by
  rw [h]; exact H.toF
set_option maxRecDepth 8000 in
set_option maxHeartbeats 4000000 in
theorem TapeOwn_yes {W w : World} {F : List Seg} (hN : NibOk W) (H : St W w F) (s : Stp) (hso : StpOk s) {a : Option Addr} {c : Nat} (hr : RdIn W F a (intsV s.cls)) {es us : List EvM} {ea ua : Option Addr} {n ec m uc : Nat} (hre : RdIn W F ea (evsV es)) (hl : es.length = n) (hes : EvsIn W F es) (hn : n ≤ 140737488351232) (hru : RdIn W F ua (evsV us)) (hlu : us.length = m) (hus : EvsIn W F us) (hm : m ≤ 140737488351232) (hc : chkS s = 0) :
    Ok Tryd.prog 10 [.agg (s.cells a c).toArray, .slice ea n ec, .slice ua m uc].toArray w (fun r w' => r = .bool true ∧ ∃ S, St W w' S) := by
  subst hl; subst hlu
  refine enter (n := 286) (rs := #[.tmp 6]) Tryd.func10 rfl rfl rfl rfl ?_
  refine w_seq ?_
  refine w_region ?_
  refine b_box (cs := s.cells a c) rfl rfl rfl H (fun b3 w H => ?_)
  refine l_pbool rfl rfl ?_
  refine l_nil ?_
  refine w_seq ?_
  refine w_region ?_
  refine l_v rfl (q_loadN (vs := s.cells a c) rfl ag_56 rfl rfl (H.cells 0 rfl)) ?_
  refine l_pslice rfl rfl ?_
  refine b_call rfl cb_22 rfl (made_ok hN H s hso (hr.up 1 rfl) (hre.up 1 rfl) rfl (hes.up 1 rfl) (by omega) hc) (fun v w hv => ?_)
  obtain ⟨tb, p, la, lc, ls, hpt, hls, rfl, H⟩ := hv
  have hek : ∀ e ∈ es.map EvM.e, EvOk e := fun e he => by
    obtain ⟨x, hx, rfl⟩ := List.mem_map.1 he
    exact (hes x hx).2
  rw [made_form s (es.map EvM.e) (min es.length 300) (by omega) (by rw [List.length_map]; omega)] at hpt hls H
  have hls := hls.trans (bytes_ev hek (min es.length 300)).symm
  have ht := bytes_ok hek (min es.length 300)
  have hn1 : (bytesN (es.map EvM.e) (min es.length 300)).length ≤ 300 := by unfold bytesN; rw [List.length_map]; have := taken_len (es.map EvM.e) (min es.length 300); omega
  simp only [] at hpt H
  generalize bytesN (es.map EvM.e) (min es.length 300) = ts at *
  have hT := tok_all s ht.len (show ts.length ≤ 4096 by omega)
  obtain ⟨hfile, hTn⟩ := file_all s ts
  have hlen : ls.length = ts.length := by rw [← List.length_map (f := EvM.e), hls, List.length_map]
  have H := St.pick [2, 3, 4, 5, 6, 0, 1, 7] (pre := [_, _, _, _, _, _, _, _]) rfl H rfl
  refine l_ptup rfl rfl ?_
  refine l_pptr rfl rfl ?_
  refine l_pslice rfl rfl ?_
  refine l_pptr rfl rfl ?_
  refine l_pslice rfl rfl ?_
  refine l_nil ?_
  refine w_seq ?_
  refine w_region ?_
  refine l_v rfl (q_loadN (vs := s.cells a c) rfl ag_56 rfl rfl (H.cells 7 rfl)) ?_
  refine l_pslice rfl rfl ?_
  refine b_call rfl cb_22 rfl (made_ok hN H s hso (hr.up 8 rfl) (hru.up 8 rfl) rfl (hus.up 8 rfl) (by omega) hc) (fun v w hv => ?_)
  obtain ⟨ub, p2, la2, lc2, ls2, hpt2, hls2, rfl, H⟩ := hv
  have hek2 : ∀ e ∈ us.map EvM.e, EvOk e := fun e he => by
    obtain ⟨x, hx, rfl⟩ := List.mem_map.1 he
    exact (hus x hx).2
  rw [made_form s (us.map EvM.e) (min us.length 300) (by omega) (by rw [List.length_map]; omega)] at hpt2 hls2 H
  have hls2 := hls2.trans (bytes_ev hek2 (min us.length 300)).symm
  have ht2 := bytes_ok hek2 (min us.length 300)
  have hn12 : (bytesN (us.map EvM.e) (min us.length 300)).length ≤ 300 := by unfold bytesN; rw [List.length_map]; have := taken_len (us.map EvM.e) (min us.length 300); omega
  simp only [] at hpt2 H
  generalize bytesN (us.map EvM.e) (min us.length 300) = ts2 at *
  have hT2 := tok_all s ht2.len (show ts2.length ≤ 4096 by omega)
  obtain ⟨hfile2, hTn2⟩ := file_all s ts2
  refine l_ptup rfl rfl ?_
  refine l_pptr rfl rfl ?_
  refine l_pslice rfl rfl ?_
  refine l_pptr rfl rfl ?_
  refine l_pslice rfl rfl ?_
  refine l_nil ?_
  refine w_seq ?_
  refine w_seq ?_
  refine w_region ?_
  refine l_pptr rfl rfl ?_
  refine l_v rfl (q_eqlNilF rfl pt_61 rfl rfl) ?_
  refine l_pbool rfl rfl ?_
  refine l_pptr rfl rfl ?_
  refine l_v rfl (q_eqlNilF rfl pt_61 rfl rfl) ?_
  refine l_pickF (v := .bool _) rfl rfl rfl ?_
  refine l_nil ?_
  refine w_cond_f rfl ?_
  refine w_skip ?_
  refine w_seq ?_
  refine w_region ?_
  refine b_alloc (cs := bookC [] none 0 [] none 0) rfl ze_105 rfl H (fun b11 w H => ?_)
  have H : St W w (tapeL tb p (ts.foldl addT (newT s)) (tapeL ub p2 (ts2.foldl addT (newT s)) (bookL b11 [] none 0 [] none 0 (row 30 13 la ls.length lc (evsV ls) :: Segs (ls.map EvM.seg) :: blk b3 (s.cells a c) 56 :: F)))) := St.pick [12, 13, 14, 15, 16, 7, 8, 9, 10, 11, 0, 1, 4, 2, 3, 17, 18, 19] (pre := [_, _, _, _, _, _, _, _, _, _, _, _, _, _, _, _, _, _, _, _]) rfl (St.newRow (T := 28) (sz := 1) (St.nilseg.2 (St.newRow (T := 66) (sz := 1) (St.nilseg.2 H)))) rfl
  refine l_nil ?_
  refine w_seq ?_
  refine w_region ?_
  refine l_pptr rfl rfl ?_
  refine b_call rfl cb_23 rfl (TBytes_ok hN H hT.ok hpt hT.pl) (fun v w hv => ?_)
  obtain ⟨fa, fc, hr2, H⟩ := hv
  rw [hfile] at hr2 H
  subst hr2
  have hfc := (H.rowInv (i := 0) rfl).2.1
  have hfl : (fileL s ts).length ≤ 140737488351232 := by rw [← hfile]; exact fileT_len hT
  have H := St.pick [6, 7, 8, 9, 10, 0, 1, 2, 3, 4, 5] (pre := [_, _, _, _, _, _, _, _, _, _, _]) rfl H rfl
  refine l_pslice rfl rfl ?_
  refine l_nil ?_
  refine w_seq ?_
  refine w_region ?_
  refine l_pptr rfl rfl ?_
  refine b_call rfl cb_23 rfl (TBytes_ok hN H hT2.ok hpt2 hT2.pl) (fun v w hv => ?_)
  obtain ⟨ga, gc, hr2, H⟩ := hv
  rw [hfile2] at hr2 H
  subst hr2
  have hgc := (H.rowInv (i := 0) rfl).2.1
  have hgl : (fileL s ts2).length ≤ 140737488351232 := by rw [← hfile2]; exact fileT_len hT2
  have H := St.pick [7, 8, 9, 10, 11, 6, 0] (pre := [_, _, _, _, _, _, _, _, _, _, _, _]) rfl H rfl
  refine l_pslice rfl rfl ?_
  refine l_nil ?_
  refine w_seq ?_
  refine w_region ?_
  refine l_pptr rfl rfl ?_
  refine b_call rfl cb_23 rfl (TBytes_ok hN H hT.ok hpt hT.pl) (fun v w hv => ?_)
  obtain ⟨ka, kc, hr2, H⟩ := hv
  rw [hfile] at hr2 H
  subst hr2
  refine l_pslice rfl rfl ?_
  refine l_nil ?_
  refine w_seq ?_
  refine w_seq ?_
  refine w_region ?_
  refine l_pslice rfl rfl ?_
  refine l_v rfl (q_bytesStr (bs := fileL s ts) rfl by_28 st_9 rfl ((RdIn.row (W := W) 6 rfl).use H 0 rfl) rfl) ?_
  refine l_pslice rfl rfl ?_
  refine l_v rfl (q_bytesStr (bs := fileL s ts) rfl by_28 st_9 rfl ((H.rowInv (i := 0) rfl).2.2.2.2) rfl) ?_
  refine l_v rfl (q_pure (s_neq rfl rfl)) ?_
  refine l_nil ?_
  refine w_cond rfl (fun c1 => ?_) (fun c1 => ?_)
  · try simp only [sH] at c1
    exact absurd c1 (by simp)
  try simp only [sH] at c1
  refine w_skip ?_
  refine w_seq ?_
  refine w_region ?_
  refine l_pslice rfl rfl ?_
  refine b_call rfl cb_20 rfl (Read_ok hN H (RdIn.row 6 rfl) rfl hfc hfl) (fun v w hv => ?_)
  obtain ⟨ma, mc, da, dc, ms, hms, hr3, H⟩ := hv
  rw [read_file hc hso ht (show ts.length ≤ 4096 by omega)] at hms hr3 H
  subst hr3
  have hms : ms.map EvM.e = ls.map EvM.e := hms.trans hls.symm
  refine l_ptup rfl rfl ?_
  refine l_pagg rfl rfl ?_
  refine l_pslice rfl rfl ?_
  refine l_pint rfl rfl ?_
  refine l_pint rfl rfl ?_
  refine b_alloc (cs := stp0.cells none 0) rfl ze_56 rfl H (fun b15 w H => ?_)
  refine b_store (cs' := s.cells da dc) rfl sz_56 rfl rfl rfl rfl rfl H 0 rfl rfl (putL_all rfl) (fun w H => ?_)
  have H := St.pick [1, 2, 4, 5, 6, 7, 8, 9, 10, 11, 12, 13, 14, 15, 16, 17, 18, 19] (pre := [_, _, _, _, _, _, _, _, _, _, _, _, _, _, _, _, _, _, _, _]) rfl H rfl
  refine l_pslice rfl rfl ?_
  refine l_pint rfl rfl ?_
  refine l_pint rfl rfl ?_
  refine l_nil ?_
  refine w_seq ?_
  refine w_region ?_
  refine l_pslice rfl rfl ?_
  refine b_call rfl cb_20 rfl (Read_ok hN H (RdIn.row 9 rfl) rfl hgc hgl) (fun v w hv => ?_)
  obtain ⟨na, nc, da, dc, ns, hns, hr3, H⟩ := hv
  rw [read_file hc hso ht2 (show ts2.length ≤ 4096 by omega)] at hns hr3 H
  subst hr3
  refine l_ptup rfl rfl ?_
  refine l_pagg rfl rfl ?_
  refine l_pslice rfl rfl ?_
  refine l_pint rfl rfl ?_
  refine l_pint rfl rfl ?_
  refine b_alloc (cs := stp0.cells none 0) rfl ze_56 rfl H (fun b19 w H => ?_)
  refine b_store (cs' := s.cells da dc) rfl sz_56 rfl rfl rfl rfl rfl H 0 rfl rfl (putL_all rfl) (fun w H => ?_)
  have H := St.pick [1, 2, 4, 5, 6, 7, 8, 9, 10, 11, 12, 13, 14, 15, 16, 17, 18, 19, 20, 21] (pre := [_, _, _, _, _, _, _, _, _, _, _, _, _, _, _, _, _, _, _, _, _, _]) rfl H rfl
  refine l_pslice rfl rfl ?_
  refine l_pint rfl rfl ?_
  refine l_pint rfl rfl ?_
  refine l_nil ?_
  refine w_seq ?_
  refine w_region ?_
  refine l_pslice rfl rfl ?_
  refine b_call rfl cb_26 rfl (Salvage_ok hN H (RdIn.row 10 rfl) rfl hfc hfl) (fun v w hv => ?_)
  obtain ⟨oa, oc, da, dc, os, hos, hr4, H⟩ := hv
  obtain ⟨y, hrun, hy1, hy2, hy3⟩ := run_file hc hso ht (show ts.length ≤ 4096 by omega)
  rw [hrun] at hos hr4 H
  simp only [] at hos hr4 H
  rw [hy1, hy3] at hr4
  rw [hy1] at H
  rw [hy2] at hos
  subst hr4
  have hos : os.map EvM.e = ls.map EvM.e := hos.trans hls.symm
  refine l_ptup rfl rfl ?_
  refine l_pagg rfl rfl ?_
  refine l_pslice rfl rfl ?_
  refine l_pint rfl rfl ?_
  refine b_alloc (cs := stp0.cells none 0) rfl ze_56 rfl H (fun b23 w H => ?_)
  refine b_store (cs' := s.cells da dc) rfl sz_56 rfl rfl rfl rfl rfl H 0 rfl rfl (putL_all rfl) (fun w H => ?_)
  have H := St.pick [1, 2, 4, 5, 6, 7, 8, 9, 10, 11, 12, 13, 14, 15, 16, 17, 18, 19, 20, 21, 22, 23] (pre := [_, _, _, _, _, _, _, _, _, _, _, _, _, _, _, _, _, _, _, _, _, _, _, _]) rfl H rfl
  refine l_pslice rfl rfl ?_
  refine l_pint rfl rfl ?_
  refine l_nil ?_
  refine w_seq ?_
  refine w_region ?_
  refine l_pslice rfl rfl ?_
  refine l_pslice rfl rfl ?_
  refine l_v rfl (q_lenSlice rfl el_57 rfl) ?_
  refine b_call rfl cb_34 rfl (Seek_ok hN H (fr := ((0 : Nat) : Int)) (cn := (ls.length : Int)) (RdIn.row 12 rfl) rfl hfc hfl (by omega) (by omega)) (fun v w hv => ?_)
  obtain ⟨qa, qc, qs, hqs, hr5, H⟩ := hv
  rw [seek_file (s := s) hc ht (show ts.length ≤ 4096 by omega) (show 0 + ls.length ≤ ts.length by omega)] at hqs hr5
  subst hr5
  have hqs : qs.map EvM.e = ls.map EvM.e := by rw [hqs, hls]; rw [List.drop_zero, hlen, List.take_of_length_le (by rw [List.length_map]; exact Nat.le_refl _)]
  refine l_ptup rfl rfl ?_
  refine l_pslice rfl rfl ?_
  refine l_pint rfl rfl ?_
  refine l_pslice rfl rfl ?_
  refine l_pint rfl rfl ?_
  refine l_nil ?_
  refine w_seq ?_
  refine w_region ?_
  refine l_pslice rfl rfl ?_
  refine b_call rfl cb_32 rfl (Index_ok hN H (RdIn.row 14 rfl) rfl hfc hfl) (fun v w hv => ?_)
  obtain ⟨xa, xc, hr6, H⟩ := hv
  rw [index_file hc ht (show ts.length ≤ 4096 by omega)] at hr6 H
  subst hr6
  refine l_ptup rfl rfl ?_
  refine l_pslice rfl rfl ?_
  refine l_pint rfl rfl ?_
  refine l_pslice rfl rfl ?_
  refine l_pint rfl rfl ?_
  refine l_nil ?_
  refine w_seq ?_
  refine w_region ?_
  refine l_pslice rfl rfl ?_
  refine b_call rfl cb_32 rfl (Index_ok hN H (RdIn.row 15 rfl) rfl hfc hfl) (fun v w hv => ?_)
  obtain ⟨ya, yc, hr6, H⟩ := hv
  rw [index_file hc ht (show ts.length ≤ 4096 by omega)] at hr6 H
  subst hr6
  have H := St.pick [18, 19, 20, 21, 22, 2, 3, 4, 5, 8, 9, 23, 24, 6, 7, 16, 17, 10, 1, 0, 11, 12, 13, 14, 15, 25] (pre := [_, _, _, _, _, _, _, _, _, _, _, _, _, _, _, _, _, _, _, _, _, _, _, _, _, _]) rfl H rfl
  have hmsl := map_len hms
  have hosl := map_len hos
  have hqsl := map_len hqs
  have hlsv := hls
  have hmsv := hms.trans hls
  have hosv := hos.trans hls
  have hqsv := hqs.trans hls
  have hnsv := hns
  have hnsl : ns.length = ts2.length := by rw [← List.length_map (f := EvM.e), hns, List.length_map]
  have hlok : ∀ i (hi : i < ls.length), EvOk ls[i].e := fun i hi => by
    have hm : ls[i].e ∈ ts.map evOf := by rw [← hls]; exact List.mem_map.2 ⟨_, List.getElem_mem hi, rfl⟩
    obtain ⟨t, htm, e⟩ := List.mem_map.1 hm
    rw [← e]; exact getEv_ok t
  refine l_ptup rfl rfl ?_
  refine l_pslice rfl rfl ?_
  refine l_pint rfl rfl ?_
  refine l_pslice rfl rfl ?_
  refine l_pint rfl rfl ?_
  refine l_nil ?_
  refine w_seq ?_
  refine w_seq ?_
  refine w_region ?_
  refine l_pint rfl rfl ?_
  refine l_nil ?_
  refine w_block ?_
  refine w_loopG (G := Nat × List LR × Option Addr × Nat) [6, 32, 33, 34, 118, 119, 120, 121, 122, 123, 124, 125, 126, 127, 128, 129, 130, 131, 132, 133, 134, 135, 136, 137, 138, 139, 140, 141, 142, 143, 144, 145, 146, 147, 148, 149, 150, 151, 152, 153, 154, 155, 156, 157, 158, 159, 160, 161, 162, 163, 164, 165, 166, 167, 168, 169, 170, 171, 172, 173, 174, 175, 176, 177, 178, 179, 180, 181, 182, 183, 184, 185] (fun ⟨i, rs, ra, rc⟩ => [(32, I ((i : Nat) : Int))]) (fun m ⟨i, rs, ra, rc⟩ w => m + i = ls.length ∧ rs.length ≤ 4 * i ∧ (∀ x ∈ rs, x.p.length ≤ 1000000000) ∧ St W w (bookL b11 rs ra rc [] none 0 (row 30 13 qa qs.length qc (evsV qs) :: Segs ((qs.drop i).map EvM.seg) :: row 30 13 oa os.length oc (evsV os) :: Segs ((os.drop i).map EvM.seg) :: row 30 13 ma ms.length mc (evsV ms) :: Segs ((ms.drop i).map EvM.seg) :: row 30 13 la ls.length lc (evsV ls) :: Segs (ls.map EvM.seg) :: row 30 13 na ns.length nc (evsV ns) :: Segs (ns.map EvM.seg) :: row 5 1 fa (fileL s ts).length fc ((fileL s ts).map B) :: row 5 1 ga (fileL s ts2).length gc ((fileL s ts2).map B) :: row 5 1 ka (fileL s ts).length kc ((fileL s ts).map B) :: row 3 1 xa (layT s ts).places.length xc (natsV (layT s ts).places) :: row 3 1 ya (layT s ts).places.length yc (natsV (layT s ts).places) :: tapeL tb p (ts.foldl addT (newT s)) (blk b3 (s.cells a c) 56 :: F)))) (fun _ => rfl) ?_ ?_
  · exact ⟨ls.length, (0, [], none, 0), ⟨rfl, trivial⟩, rfl, Nat.zero_le _, (fun _ h => nomatch h), H⟩
  rintro m ⟨i, rs, ra, rc⟩ ρ1 w ⟨hmi, hrs, hrp, H⟩
  refine w_seq ?_
  refine w_seq ?_
  refine w_region ?_
  refine l_pint rfl rfl ?_
  refine l_pslice rfl rfl ?_
  refine l_v rfl (q_lenSlice rfl el_57 rfl) ?_
  refine l_pbool rfl rfl ?_
  refine l_nil ?_
  refine w_cond rfl (fun c2 => ?_) (fun c2 => ?_)
  · try simp only [sH] at c2
    have hi : i < ls.length := by omega
    have hms' : i < ms.length := by omega
    have hos' : i < os.length := by omega
    have hqs' : i < qs.length := by omega
    obtain ⟨mb, mo, hma⟩ := evs_ex ((RdIn.row (W := W) 9 rfl).use H 0 rfl) hms'
    obtain ⟨lb, lo, hla⟩ := evs_ex ((RdIn.row (W := W) 11 rfl).use H 0 rfl) hi
    obtain ⟨ob, oo, hoa⟩ := evs_ex ((RdIn.row (W := W) 7 rfl).use H 0 rfl) hos'
    obtain ⟨qb, qo, hqa⟩ := evs_ex ((RdIn.row (W := W) 5 rfl).use H 0 rfl) hqs'
    refine w_skip ?_
    refine w_seq ?_
    refine w_block ?_
    refine w_seq ?_
    refine w_seq ?_
    refine w_drawT [31] [3, 7, 14, 18, 26, 30] [(0, 0), (1, 0), (2, 0), (3, 1), (4, 0), (5, 0), (6, 0), (7, 1), (8, 2), (9, 0), (10, 0), (11, 0), (12, 0), (13, 0), (14, 1), (15, 0), (16, 0), (17, 0), (18, 1), (19, 2), (20, 0), (21, 0), (22, 0), (23, 0), (24, 0), (25, 0), (26, 1), (27, 0), (28, 0), (29, 0), (30, 1), (31, 2), (32, 0), (33, 0)] mixed (by kernel_rfl) (fun _ _ _ h => fin_panic h) H (fun H => ?_)
    refine r_pslice rfl rfl rfl ?_
    refine r_pint rfl rfl rfl ?_
    refine r_w rfl rfl (fun w => q_indexSliceE i rfl el_57 rfl hma rfl rfl hms') ?_
    refine r_v rfl rfl (fun w hS => q_loadN (vs := ms[i].cells) rfl ag_30 rfl rfl (evs_at hma ((RdIn.row (W := W) 9 rfl).use hS 0 rfl) hms')) ?_
    refine r_pslice rfl rfl rfl ?_
    refine r_pint rfl rfl rfl ?_
    refine r_w rfl rfl (fun w => q_indexSliceE i rfl el_57 rfl hla rfl rfl hi) ?_
    refine r_v rfl rfl (fun w hS => q_loadN (vs := ls[i].cells) rfl ag_30 rfl rfl (evs_at hla ((RdIn.row (W := W) 11 rfl).use hS 0 rfl) hi)) ?_
    refine r_do rfl ?_
    refine b_call rfl cb_17 rfl (sameEvent_ok H (x := ms[i].e) (y := ls[i].e) ((EvsR.segs 10 rfl) _ (mem_dropped (by omega))) ((EvsR.segs 12 rfl) _ (List.getElem_mem hi))) (fun v w hv => ?_)
    obtain ⟨bb, hbb, rfl, H⟩ := hv
    obtain rfl : bb = true := hbb.2 (map_at hms (by omega) hi)
    refine l_nil ⟨fun _ _ => (by first | exact H | exact H.drop1 | exact H.drop1.drop1 | exact H.drop1.drop1.drop1), ?_⟩
    refine r_pbool rfl rfl rfl ?_
    refine r_pbool rfl rfl rfl ?_
    refine r_split 134 rfl (fun h134 => absurd h134 (by simp)) (fun h134 => ?_)
    try simp only [sH] at h134
    refine r_pslice rfl rfl rfl ?_
    refine r_pint rfl rfl rfl ?_
    refine r_w rfl rfl (fun w => q_indexSliceE i rfl el_57 rfl hoa rfl rfl hos') ?_
    refine r_v rfl rfl (fun w hS => q_loadN (vs := os[i].cells) rfl ag_30 rfl rfl (evs_at hoa ((RdIn.row (W := W) 7 rfl).use hS 0 rfl) hos')) ?_
    refine r_pslice rfl rfl rfl ?_
    refine r_pint rfl rfl rfl ?_
    refine r_w rfl rfl (fun w => q_indexSliceE i rfl el_57 rfl hla rfl rfl hi) ?_
    refine r_v rfl rfl (fun w hS => q_loadN (vs := ls[i].cells) rfl ag_30 rfl rfl (evs_at hla ((RdIn.row (W := W) 11 rfl).use hS 0 rfl) hi)) ?_
    refine r_do rfl ?_
    refine b_call rfl cb_17 rfl (sameEvent_ok H (x := os[i].e) (y := ls[i].e) ((EvsR.segs 8 rfl) _ (mem_dropped (by omega))) ((EvsR.segs 12 rfl) _ (List.getElem_mem hi))) (fun v w hv => ?_)
    obtain ⟨bb, hbb, rfl, H⟩ := hv
    obtain rfl : bb = true := hbb.2 (map_at hos (by omega) hi)
    refine l_nil ⟨fun _ _ => (by first | exact H | exact H.drop1 | exact H.drop1.drop1 | exact H.drop1.drop1.drop1), ?_⟩
    refine r_pbool rfl rfl rfl ?_
    refine r_pickF (v := .bool _) rfl rfl rfl rfl ?_
    refine r_pbool rfl rfl rfl ?_
    refine r_split 146 rfl (fun h146 => absurd h146 (by simp)) (fun h146 => ?_)
    try simp only [sH] at h146
    refine r_pslice rfl rfl rfl ?_
    refine r_pint rfl rfl rfl ?_
    refine r_w rfl rfl (fun w => q_indexSliceE i rfl el_57 rfl hqa rfl rfl hqs') ?_
    refine r_v rfl rfl (fun w hS => q_loadN (vs := qs[i].cells) rfl ag_30 rfl rfl (evs_at hqa ((RdIn.row (W := W) 5 rfl).use hS 0 rfl) hqs')) ?_
    refine r_pslice rfl rfl rfl ?_
    refine r_pint rfl rfl rfl ?_
    refine r_w rfl rfl (fun w => q_indexSliceE i rfl el_57 rfl hla rfl rfl hi) ?_
    refine r_v rfl rfl (fun w hS => q_loadN (vs := ls[i].cells) rfl ag_30 rfl rfl (evs_at hla ((RdIn.row (W := W) 11 rfl).use hS 0 rfl) hi)) ?_
    refine r_do rfl ?_
    refine b_call rfl cb_17 rfl (sameEvent_ok H (x := qs[i].e) (y := ls[i].e) ((EvsR.segs 6 rfl) _ (mem_dropped (by omega))) ((EvsR.segs 12 rfl) _ (List.getElem_mem hi))) (fun v w hv => ?_)
    obtain ⟨bb, hbb, rfl, H⟩ := hv
    obtain rfl : bb = true := hbb.2 (map_at hqs (by omega) hi)
    refine l_nil ⟨(fun h => nomatch h), ?_⟩
    refine r_pbool rfl rfl rfl ?_
    refine r_pickF (v := .bool _) rfl rfl rfl rfl ?_
    refine r_nil ?_
    refine w_cond rfl (fun c3 => ?_) (fun c3 => ?_)
    · try simp only [sH] at c3
      exact absurd c3 (by simp)
    try simp only [sH] at c3
    refine w_skip ?_
    refine w_seq ?_
    refine w_region ?_
    refine l_pslice rfl rfl ?_
    refine l_pint rfl rfl ?_
    refine l_v rfl (q_indexSliceE i rfl el_57 rfl hma rfl rfl hms') ?_
    refine l_v rfl (q_fieldAddr rfl fo30_9 rfl) ?_
    refine l_v rfl (q_load1 rfl c1_28 rfl ((evs_at hma ((RdIn.row (W := W) 9 rfl).use H 0 rfl) hms').get 12 _ rfl)) ?_
    have H := takeSeg hms' (St.pick [10, 0, 1, 2, 3, 4, 5, 6, 7, 8, 9, 11, 12, 13, 14, 15, 16, 17, 18, 19, 20, 21, 22, 23, 24, 25] (pre := [_, _, _, _, _, _, _, _, _, _, _, _, _, _, _, _, _, _, _, _, _, _, _, _, _, _]) rfl H rfl)
    have H := St.pick [0, 2, 3, 4, 5, 6, 7, 8, 9, 10, 11, 1, 12, 13, 14, 15, 16, 17, 18, 19, 20, 21, 22, 23, 24, 25, 26] (pre := [_, _, _, _, _, _, _, _, _, _, _, _, _, _, _, _, _, _, _, _, _, _, _, _, _, _, _]) rfl H rfl
    refine b_call rfl cb_38 rfl (BBytes_ok H (List.length_map _) (by omega)) (fun v w hv => ?_)
    obtain ⟨ra1, rc1, H⟩ := hv
    have hp1 := putB_ok (r := ⟨ms[i].a, ms[i].c, ms[i].e.bs.map B⟩) hrp (show (ms[i].e.bs.map B).length ≤ 1000000000 by rw [List.length_map]; have := evs_bs hmsv hms'; omega)
    have hq1 := putB_len rs ⟨ms[i].a, ms[i].c, ms[i].e.bs.map B⟩
    generalize hr1 : putB rs ⟨ms[i].a, ms[i].c, ms[i].e.bs.map B⟩ = r1 at *
    refine l_nil ?_
    refine w_seq ?_
    refine w_region ?_
    refine l_pslice rfl rfl ?_
    refine l_pint rfl rfl ?_
    refine l_v rfl (q_indexSliceE i rfl el_57 rfl hoa rfl rfl hos') ?_
    refine l_v rfl (q_fieldAddr rfl fo30_9 rfl) ?_
    refine l_v rfl (q_load1 rfl c1_28 rfl ((evs_at hoa ((RdIn.row (W := W) 7 rfl).use H 0 rfl) hos').get 12 _ rfl)) ?_
    have H := takeSeg hos' (St.pick [8, 0, 1, 2, 3, 4, 5, 6, 7, 9, 10, 11, 12, 13, 14, 15, 16, 17, 18, 19, 20, 21, 22, 23, 24, 25] (pre := [_, _, _, _, _, _, _, _, _, _, _, _, _, _, _, _, _, _, _, _, _, _, _, _, _, _]) rfl H rfl)
    have H := St.pick [0, 2, 3, 4, 5, 6, 7, 8, 9, 1, 10, 11, 12, 13, 14, 15, 16, 17, 18, 19, 20, 21, 22, 23, 24, 25, 26] (pre := [_, _, _, _, _, _, _, _, _, _, _, _, _, _, _, _, _, _, _, _, _, _, _, _, _, _, _]) rfl H rfl
    refine b_call rfl cb_38 rfl (BBytes_ok H (List.length_map _) (by omega)) (fun v w hv => ?_)
    obtain ⟨ra2, rc2, H⟩ := hv
    have hp2 := putB_ok (r := ⟨os[i].a, os[i].c, os[i].e.bs.map B⟩) hp1 (show (os[i].e.bs.map B).length ≤ 1000000000 by rw [List.length_map]; have := evs_bs hosv hos'; omega)
    have hq2 := putB_len r1 ⟨os[i].a, os[i].c, os[i].e.bs.map B⟩
    generalize hr2 : putB r1 ⟨os[i].a, os[i].c, os[i].e.bs.map B⟩ = r2 at *
    refine l_nil ?_
    refine w_seq ?_
    refine w_region ?_
    refine l_pslice rfl rfl ?_
    refine l_pint rfl rfl ?_
    refine l_v rfl (q_indexSliceE i rfl el_57 rfl hqa rfl rfl hqs') ?_
    refine l_v rfl (q_fieldAddr rfl fo30_9 rfl) ?_
    refine l_v rfl (q_load1 rfl c1_28 rfl ((evs_at hqa ((RdIn.row (W := W) 5 rfl).use H 0 rfl) hqs').get 12 _ rfl)) ?_
    have H := takeSeg hqs' (St.pick [6, 0, 1, 2, 3, 4, 5, 7, 8, 9, 10, 11, 12, 13, 14, 15, 16, 17, 18, 19, 20, 21, 22, 23, 24, 25] (pre := [_, _, _, _, _, _, _, _, _, _, _, _, _, _, _, _, _, _, _, _, _, _, _, _, _, _]) rfl H rfl)
    have H := St.pick [0, 2, 3, 4, 5, 6, 7, 1, 8, 9, 10, 11, 12, 13, 14, 15, 16, 17, 18, 19, 20, 21, 22, 23, 24, 25, 26] (pre := [_, _, _, _, _, _, _, _, _, _, _, _, _, _, _, _, _, _, _, _, _, _, _, _, _, _, _]) rfl H rfl
    refine b_call rfl cb_38 rfl (BBytes_ok H (List.length_map _) (by omega)) (fun v w hv => ?_)
    obtain ⟨ra3, rc3, H⟩ := hv
    have hp3 := putB_ok (r := ⟨qs[i].a, qs[i].c, qs[i].e.bs.map B⟩) hp2 (show (qs[i].e.bs.map B).length ≤ 1000000000 by rw [List.length_map]; have := evs_bs hqsv hqs'; omega)
    have hq3 := putB_len r2 ⟨qs[i].a, qs[i].c, qs[i].e.bs.map B⟩
    generalize hr3 : putB r2 ⟨qs[i].a, qs[i].c, qs[i].e.bs.map B⟩ = r3 at *
    refine l_nil ?_
    refine w_seq ?_
    refine w_region ?_
    refine l_pslice rfl rfl ?_
    refine l_pint rfl rfl ?_
    refine l_v rfl (q_indexSliceE i rfl el_57 rfl hla rfl rfl hi) ?_
    refine l_v rfl (q_loadN (vs := ls[i].cells) rfl ag_30 rfl rfl (evs_at hla ((RdIn.row (W := W) 11 rfl).use H 0 rfl) hi)) ?_
    refine b_call rfl cb_11 rfl (PutEvent_ok H ls[i].e (hlok i hi) ((EvsR.segs 12 rfl) _ (List.getElem_mem hi))) (fun v w hv => ?_)
    obtain ⟨pa, pc, rfl, H⟩ := hv
    have H := rowLen (List.length_map _) H
    refine l_ptup rfl rfl ?_
    refine l_pslice rfl rfl ?_
    refine l_pint rfl rfl ?_
    refine l_pslice rfl rfl ?_
    refine l_pint rfl rfl ?_
    refine l_nil ?_
    refine w_region ?_
    refine l_pslice rfl rfl ?_
    refine b_call rfl cb_38 rfl (BBytes_ok H (List.length_map _) (by omega)) (fun v w hv => ?_)
    obtain ⟨ra4, rc4, H⟩ := hv
    refine l_nil ?_
    refine w_region ?_
    refine l_pint rfl rfl ?_
    first | refine l_v rfl (q_add rfl rfl rfl (by simp only [inK]; omega)) ?_ | refine l_pint rfl rfl ?_
    refine l_pint rfl rfl ?_
    refine l_nil ?_
    refine ⟨by repeat' first | exact aM | exact aR | refine aI rfl ?_ | refine aU rfl ?_ | refine aL rfl ?_, ?_⟩
    have e1 := putB_len rs ⟨ms[i].a, ms[i].c, ms[i].e.bs.map B⟩
    have e2 := putB_len r1 ⟨os[i].a, os[i].c, os[i].e.bs.map B⟩
    have e3 := putB_len r2 ⟨qs[i].a, qs[i].c, qs[i].e.bs.map B⟩
    have e4 := putB_len r3 ⟨pa, pc, (putEv ls[i].e).1.map B⟩
    rw [hr1] at e1; rw [hr2] at e2; rw [hr3] at e3
    exact ⟨m - 1, (i + 1, putB r3 ⟨pa, pc, (putEv ls[i].e).1.map B⟩, ra4, rc4), by omega, ⟨by exact congrArg (Value.int IntKind.i64) (Int.natCast_succ i).symm, trivial⟩, by omega, by omega, putB_ok (r := ⟨pa, pc, (putEv ls[i].e).1.map B⟩) hp3 (by show ((putEv ls[i].e).1.map B).length ≤ _; rw [List.length_map]; have := putEv_len ls[i].e; omega), H⟩
  try simp only [sH] at c2
  have hil : i = ls.length := by omega
  refine w_exit ?_
  refine w_seq ?_
  refine w_seq ?_
  refine w_region ?_
  refine l_pint rfl rfl ?_
  refine l_nil ?_
  refine w_block ?_
  refine w_loopG (G := Nat × List LR × Option Addr × Nat) [35, 186, 187, 188, 189, 190, 191, 192, 193, 194, 195, 196, 197] (fun ⟨i, rs, ra, rc⟩ => [(35, I ((i : Nat) : Int))]) (fun m ⟨i, rs, ra, rc⟩ w => m + i = ns.length ∧ rs.length ≤ 1200 + i ∧ (∀ x ∈ rs, x.p.length ≤ 1000000000) ∧ St W w (bookL b11 rs ra rc [] none 0 (row 30 13 qa qs.length qc (evsV qs) :: row 30 13 oa os.length oc (evsV os) :: row 30 13 ma ms.length mc (evsV ms) :: row 30 13 la ls.length lc (evsV ls) :: Segs (ls.map EvM.seg) :: row 30 13 na ns.length nc (evsV ns) :: Segs ((ns.drop i).map EvM.seg) :: row 5 1 fa (fileL s ts).length fc ((fileL s ts).map B) :: row 5 1 ga (fileL s ts2).length gc ((fileL s ts2).map B) :: row 5 1 ka (fileL s ts).length kc ((fileL s ts).map B) :: row 3 1 xa (layT s ts).places.length xc (natsV (layT s ts).places) :: row 3 1 ya (layT s ts).places.length yc (natsV (layT s ts).places) :: tapeL tb p (ts.foldl addT (newT s)) (blk b3 (s.cells a c) 56 :: F)))) (fun _ => rfl) ?_ ?_
  · exact ⟨ns.length, (0, rs, ra, rc), ⟨rfl, trivial⟩, rfl, by omega, hrp, St.pick [0, 1, 2, 3, 4, 5, 7, 9, 11, 12, 13, 14, 15, 16, 17, 18, 19, 20, 21, 22, 23, 24, 25] (pre := [_, _, _, _, _, _, _, _, _, _, _, _, _, _, _, _, _, _, _, _, _, _, _, _, _, _]) rfl H rfl⟩
  rintro m ⟨i, rs, ra, rc⟩ ρ1 w ⟨hmi, hrs, hrp, H⟩
  refine w_seq ?_
  refine w_seq ?_
  refine w_region ?_
  refine l_pint rfl rfl ?_
  refine l_pslice rfl rfl ?_
  refine l_v rfl (q_lenSlice rfl el_57 rfl) ?_
  refine l_pbool rfl rfl ?_
  refine l_nil ?_
  refine w_cond rfl (fun c4 => ?_) (fun c4 => ?_)
  · try simp only [sH] at c4
    have hin : i < ns.length := by omega
    obtain ⟨nb, no, hna⟩ := evs_ex ((RdIn.row (W := W) 10 rfl).use H 0 rfl) hin
    refine w_skip ?_
    refine w_seq ?_
    refine w_block ?_
    refine w_region ?_
    refine l_pslice rfl rfl ?_
    refine l_pint rfl rfl ?_
    refine l_v rfl (q_indexSliceE i rfl el_57 rfl hna rfl rfl hin) ?_
    refine l_v rfl (q_fieldAddr rfl fo30_9 rfl) ?_
    refine l_v rfl (q_load1 rfl c1_28 rfl ((evs_at hna ((RdIn.row (W := W) 10 rfl).use H 0 rfl) hin).get 12 _ rfl)) ?_
    have H := takeSeg hin (St.pick [11, 0, 1, 2, 3, 4, 5, 6, 7, 8, 9, 10, 12, 13, 14, 15, 16, 17, 18, 19, 20, 21, 22] (pre := [_, _, _, _, _, _, _, _, _, _, _, _, _, _, _, _, _, _, _, _, _, _, _]) rfl H rfl)
    have H := St.pick [0, 2, 3, 4, 5, 6, 7, 8, 9, 10, 11, 12, 1, 13, 14, 15, 16, 17, 18, 19, 20, 21, 22, 23] (pre := [_, _, _, _, _, _, _, _, _, _, _, _, _, _, _, _, _, _, _, _, _, _, _, _]) rfl H rfl
    refine b_call rfl cb_38 rfl (BBytes_ok H (List.length_map _) (by omega)) (fun v w hv => ?_)
    obtain ⟨ra1, rc1, H⟩ := hv
    refine l_nil ?_
    refine w_region ?_
    refine l_pint rfl rfl ?_
    first | refine l_v rfl (q_add rfl rfl rfl (by simp only [inK]; omega)) ?_ | refine l_pint rfl rfl ?_
    refine l_pint rfl rfl ?_
    refine l_nil ?_
    refine ⟨by repeat' first | exact aM | exact aR | refine aI rfl ?_ | refine aU rfl ?_ | refine aL rfl ?_, ?_⟩
    have e1 := putB_len rs ⟨ns[i].a, ns[i].c, ns[i].e.bs.map B⟩
    exact ⟨m - 1, (i + 1, putB rs ⟨ns[i].a, ns[i].c, ns[i].e.bs.map B⟩, ra1, rc1), by omega, ⟨by exact congrArg (Value.int IntKind.i64) (Int.natCast_succ i).symm, trivial⟩, by omega, by omega, putB_ok (r := ⟨ns[i].a, ns[i].c, ns[i].e.bs.map B⟩) hrp (by show (ns[i].e.bs.map B).length ≤ _; rw [List.length_map]; have := evs_bs hnsv hin; omega), H⟩
  try simp only [sH] at c4
  have H := St.pick [0, 1, 2, 3, 4, 5, 6, 7, 8, 9, 12, 13, 14, 15, 16, 17, 18, 19, 20, 21, 22] (pre := [_, _, _, _, _, _, _, _, _, _, _, _, _, _, _, _, _, _, _, _, _, _, _]) rfl H rfl
  refine w_exit ?_
  refine w_seq ?_
  refine w_region ?_
  refine l_pslice rfl rfl ?_
  have H := rowLen (List.length_map _) (St.pick [10, 0, 1, 2, 3, 4, 5, 6, 7, 8, 9, 11, 12, 13, 14, 15, 16, 17, 18, 19, 20] (pre := [_, _, _, _, _, _, _, _, _, _, _, _, _, _, _, _, _, _, _, _, _]) rfl H rfl)
  refine b_call rfl cb_38 rfl (BBytes_ok H (List.length_map _) (by omega)) (fun v w hv => ?_)
  obtain ⟨rb1, rd1, H⟩ := hv
  have hp1 := putB_ok (r := ⟨fa, fc, (fileL s ts).map B⟩) hrp (show ((fileL s ts).map B).length ≤ 1000000000 by rw [List.length_map]; have := fileL_small s ht (show ts.length ≤ 4096 by omega); omega)
  have hq1 := putB_len rs ⟨fa, fc, (fileL s ts).map B⟩
  generalize hr1 : putB rs ⟨fa, fc, (fileL s ts).map B⟩ = r1 at *
  refine l_nil ?_
  refine w_seq ?_
  refine w_region ?_
  refine l_pslice rfl rfl ?_
  have H := rowLen (List.length_map _) (St.pick [10, 0, 1, 2, 3, 4, 5, 6, 7, 8, 9, 11, 12, 13, 14, 15, 16, 17, 18, 19] (pre := [_, _, _, _, _, _, _, _, _, _, _, _, _, _, _, _, _, _, _, _]) rfl H rfl)
  refine b_call rfl cb_38 rfl (BBytes_ok H (List.length_map _) (by omega)) (fun v w hv => ?_)
  obtain ⟨rb2, rd2, H⟩ := hv
  have hp2 := putB_ok (r := ⟨ga, gc, (fileL s ts2).map B⟩) hp1 (show ((fileL s ts2).map B).length ≤ 1000000000 by rw [List.length_map]; have := fileL_small s ht2 (show ts2.length ≤ 4096 by omega); omega)
  have hq2 := putB_len r1 ⟨ga, gc, (fileL s ts2).map B⟩
  generalize hr2 : putB r1 ⟨ga, gc, (fileL s ts2).map B⟩ = r2 at *
  refine l_nil ?_
  refine w_seq ?_
  refine w_region ?_
  refine l_pslice rfl rfl ?_
  have H := rowLen (List.length_map _) (St.pick [10, 0, 1, 2, 3, 4, 5, 6, 7, 8, 9, 11, 12, 13, 14, 15, 16, 17, 18] (pre := [_, _, _, _, _, _, _, _, _, _, _, _, _, _, _, _, _, _, _]) rfl H rfl)
  refine b_call rfl cb_38 rfl (BBytes_ok H (List.length_map _) (by omega)) (fun v w hv => ?_)
  obtain ⟨rb3, rd3, H⟩ := hv
  have hp3 := putB_ok (r := ⟨ka, kc, (fileL s ts).map B⟩) hp2 (show ((fileL s ts).map B).length ≤ 1000000000 by rw [List.length_map]; have := fileL_small s ht (show ts.length ≤ 4096 by omega); omega)
  have hq3 := putB_len r2 ⟨ka, kc, (fileL s ts).map B⟩
  generalize hr3 : putB r2 ⟨ka, kc, (fileL s ts).map B⟩ = r3 at *
  refine l_nil ?_
  refine w_seq ?_
  refine w_region ?_
  refine l_pslice rfl rfl ?_
  have H := rowLen (natsV_len _) (St.pick [10, 0, 1, 2, 3, 4, 5, 6, 7, 8, 9, 11, 12, 13, 14, 15, 16, 17] (pre := [_, _, _, _, _, _, _, _, _, _, _, _, _, _, _, _, _, _]) rfl H rfl)
  refine b_call rfl cb_39 rfl (BInts_ok H (natsV_len _) (by simp)) (fun v w hv => ?_)
  obtain ⟨zb1, zd1, H⟩ := hv
  have hz1 := putB_ok (r := ⟨xa, xc, natsV (layT s ts).places⟩) (rs := []) (fun _ h => nomatch h) (show (natsV (layT s ts).places).length ≤ 1000000000 by rw [natsV_len]; have := (lay_small s ht.len (show ts.length ≤ 4096 by omega)).1; omega)
  have hy1 := putB_len [] ⟨xa, xc, natsV (layT s ts).places⟩
  generalize hw1 : putB [] ⟨xa, xc, natsV (layT s ts).places⟩ = z1 at *
  rw [List.length_nil] at hy1
  refine l_nil ?_
  refine w_seq ?_
  refine w_region ?_
  refine l_pslice rfl rfl ?_
  have H := rowLen (natsV_len _) (St.pick [10, 0, 1, 2, 3, 4, 5, 6, 7, 8, 9, 11, 12, 13, 14, 15, 16] (pre := [_, _, _, _, _, _, _, _, _, _, _, _, _, _, _, _, _]) rfl H rfl)
  refine b_call rfl cb_39 rfl (BInts_ok H (natsV_len _) (by omega)) (fun v w hv => ?_)
  obtain ⟨zb2, zd2, H⟩ := hv
  have hz2 := putB_ok (r := ⟨ya, yc, natsV (layT s ts).places⟩) hz1 (show (natsV (layT s ts).places).length ≤ 1000000000 by rw [natsV_len]; have := (lay_small s ht.len (show ts.length ≤ 4096 by omega)).1; omega)
  have hy2 := putB_len z1 ⟨ya, yc, natsV (layT s ts).places⟩
  generalize hw2 : putB z1 ⟨ya, yc, natsV (layT s ts).places⟩ = z2 at *
  refine l_nil ?_
  refine w_seq ?_
  refine w_seq ?_
  refine w_region ?_
  refine l_pint rfl rfl ?_
  refine l_nil ?_
  refine w_block ?_
  refine w_loopG (G := Nat) [36, 208, 209, 210, 211, 212, 213, 214, 215, 216, 217] (fun k => [(36, I ((k : Nat) : Int))]) (fun m k w => m + k = ms.length ∧ St W w (bookL b11 r3 rb3 rd3 z2 zb2 zd2 (row 30 13 qa qs.length qc (evsV qs) :: row 30 13 oa os.length oc (evsV os) :: row 30 13 ma ms.length mc (evsV (ndL (-1) ms k)) :: row 30 13 la ls.length lc (evsV ls) :: Segs (ls.map EvM.seg) :: tapeL tb p (ts.foldl addT (newT s)) (blk b3 (s.cells a c) 56 :: F)))) (fun _ => rfl) ?_ ?_
  · exact ⟨ms.length, 0, ⟨rfl, trivial⟩, rfl, by rw [ndL_zero]; exact H⟩
  rintro m k ρ1 w ⟨hmi, H⟩
  refine w_seq ?_
  refine w_seq ?_
  refine w_region ?_
  refine l_pint rfl rfl ?_
  refine l_pslice rfl rfl ?_
  refine l_v rfl (q_lenSlice rfl el_57 rfl) ?_
  refine l_pbool rfl rfl ?_
  refine l_nil ?_
  refine w_cond rfl (fun c5 => ?_) (fun c5 => ?_)
  · try simp only [sH] at c5
    have hk : k < ms.length := by omega
    have hk2 : k < (ndL (-1) ms k).length := by rw [ndL_len]; exact hk
    obtain ⟨nb, hnba, _⟩ := row_addr H (i := 7) rfl (evsV_get hk2 1 (by decide))
    refine w_skip ?_
    refine w_seq ?_
    refine w_block ?_
    refine w_region ?_
    refine l_pslice rfl rfl ?_
    refine l_pint rfl rfl ?_
    refine l_v rfl (q_indexSliceE k rfl el_57 rfl hnba rfl rfl hk) ?_
    refine l_v rfl (q_fieldAddr rfl fo30_1 rfl) ?_
    refine b_storeRow (vs := [I (-1)]) (xs' := evsV (ndL (-1) ms (k + 1))) rfl sz_3 rfl rfl rfl rfl rfl H 7 rfl hnba (by rw [evsV_len, ndL_len]; simp; omega) (by rw [Nat.zero_add]; exact ndL_step hk) (fun w H => ?_)
    refine l_nil ?_
    refine w_region ?_
    refine l_pint rfl rfl ?_
    first | refine l_v rfl (q_add rfl rfl rfl (by simp only [inK]; omega)) ?_ | refine l_pint rfl rfl ?_
    refine l_pint rfl rfl ?_
    refine l_nil ?_
    refine ⟨by repeat' first | exact aM | exact aR | refine aI rfl ?_ | refine aU rfl ?_ | refine aL rfl ?_, ?_⟩
    exact ⟨m - 1, k + 1, by omega, ⟨by exact congrArg (Value.int IntKind.i64) (Int.natCast_succ k).symm, trivial⟩, by omega, H⟩
  try simp only [sH] at c5
  obtain rfl : k = ms.length := by omega
  rw [ndL_full] at H
  refine w_exit ?_
  refine w_seq ?_
  refine w_seq ?_
  refine w_region ?_
  refine l_pint rfl rfl ?_
  refine l_nil ?_
  refine w_block ?_
  refine w_loopG (G := Nat) [37, 218, 219, 220, 221, 222, 223, 224, 225, 226, 227] (fun k => [(37, I ((k : Nat) : Int))]) (fun m k w => m + k = os.length ∧ St W w (bookL b11 r3 rb3 rd3 z2 zb2 zd2 (row 30 13 qa qs.length qc (evsV qs) :: row 30 13 oa os.length oc (evsV (ndL (-2) os k)) :: row 30 13 ma ms.length mc (evsV (ms.map (setNd (-1)))) :: row 30 13 la ls.length lc (evsV ls) :: Segs (ls.map EvM.seg) :: tapeL tb p (ts.foldl addT (newT s)) (blk b3 (s.cells a c) 56 :: F)))) (fun _ => rfl) ?_ ?_
  · exact ⟨os.length, 0, ⟨rfl, trivial⟩, rfl, by rw [ndL_zero]; exact H⟩
  rintro m k ρ1 w ⟨hmi, H⟩
  refine w_seq ?_
  refine w_seq ?_
  refine w_region ?_
  refine l_pint rfl rfl ?_
  refine l_pslice rfl rfl ?_
  refine l_v rfl (q_lenSlice rfl el_57 rfl) ?_
  refine l_pbool rfl rfl ?_
  refine l_nil ?_
  refine w_cond rfl (fun c6 => ?_) (fun c6 => ?_)
  · try simp only [sH] at c6
    have hk : k < os.length := by omega
    have hk2 : k < (ndL (-2) os k).length := by rw [ndL_len]; exact hk
    obtain ⟨nb, hnba, _⟩ := row_addr H (i := 6) rfl (evsV_get hk2 1 (by decide))
    refine w_skip ?_
    refine w_seq ?_
    refine w_block ?_
    refine w_region ?_
    refine l_pslice rfl rfl ?_
    refine l_pint rfl rfl ?_
    refine l_v rfl (q_indexSliceE k rfl el_57 rfl hnba rfl rfl hk) ?_
    refine l_v rfl (q_fieldAddr rfl fo30_1 rfl) ?_
    refine b_storeRow (vs := [I (-2)]) (xs' := evsV (ndL (-2) os (k + 1))) rfl sz_3 rfl rfl rfl rfl rfl H 6 rfl hnba (by rw [evsV_len, ndL_len]; simp; omega) (by rw [Nat.zero_add]; exact ndL_step hk) (fun w H => ?_)
    refine l_nil ?_
    refine w_region ?_
    refine l_pint rfl rfl ?_
    first | refine l_v rfl (q_add rfl rfl rfl (by simp only [inK]; omega)) ?_ | refine l_pint rfl rfl ?_
    refine l_pint rfl rfl ?_
    refine l_nil ?_
    refine ⟨by repeat' first | exact aM | exact aR | refine aI rfl ?_ | refine aU rfl ?_ | refine aL rfl ?_, ?_⟩
    exact ⟨m - 1, k + 1, by omega, ⟨by exact congrArg (Value.int IntKind.i64) (Int.natCast_succ k).symm, trivial⟩, by omega, H⟩
  try simp only [sH] at c6
  obtain rfl : k = os.length := by omega
  rw [ndL_full] at H
  refine w_exit ?_
  refine w_seq ?_
  refine w_seq ?_
  refine w_region ?_
  refine l_pint rfl rfl ?_
  refine l_nil ?_
  refine w_block ?_
  refine w_loopG (G := Nat) [38, 228, 229, 230, 231, 232, 233, 234, 235, 236, 237] (fun k => [(38, I ((k : Nat) : Int))]) (fun m k w => m + k = qs.length ∧ St W w (bookL b11 r3 rb3 rd3 z2 zb2 zd2 (row 30 13 qa qs.length qc (evsV (ndL (-3) qs k)) :: row 30 13 oa os.length oc (evsV (os.map (setNd (-2)))) :: row 30 13 ma ms.length mc (evsV (ms.map (setNd (-1)))) :: row 30 13 la ls.length lc (evsV ls) :: Segs (ls.map EvM.seg) :: tapeL tb p (ts.foldl addT (newT s)) (blk b3 (s.cells a c) 56 :: F)))) (fun _ => rfl) ?_ ?_
  · exact ⟨qs.length, 0, ⟨rfl, trivial⟩, rfl, by rw [ndL_zero]; exact H⟩
  rintro m k ρ1 w ⟨hmi, H⟩
  refine w_seq ?_
  refine w_seq ?_
  refine w_region ?_
  refine l_pint rfl rfl ?_
  refine l_pslice rfl rfl ?_
  refine l_v rfl (q_lenSlice rfl el_57 rfl) ?_
  refine l_pbool rfl rfl ?_
  refine l_nil ?_
  refine w_cond rfl (fun c7 => ?_) (fun c7 => ?_)
  · try simp only [sH] at c7
    have hk : k < qs.length := by omega
    have hk2 : k < (ndL (-3) qs k).length := by rw [ndL_len]; exact hk
    obtain ⟨nb, hnba, _⟩ := row_addr H (i := 5) rfl (evsV_get hk2 1 (by decide))
    refine w_skip ?_
    refine w_seq ?_
    refine w_block ?_
    refine w_region ?_
    refine l_pslice rfl rfl ?_
    refine l_pint rfl rfl ?_
    refine l_v rfl (q_indexSliceE k rfl el_57 rfl hnba rfl rfl hk) ?_
    refine l_v rfl (q_fieldAddr rfl fo30_1 rfl) ?_
    refine b_storeRow (vs := [I (-3)]) (xs' := evsV (ndL (-3) qs (k + 1))) rfl sz_3 rfl rfl rfl rfl rfl H 5 rfl hnba (by rw [evsV_len, ndL_len]; simp; omega) (by rw [Nat.zero_add]; exact ndL_step hk) (fun w H => ?_)
    refine l_nil ?_
    refine w_region ?_
    refine l_pint rfl rfl ?_
    first | refine l_v rfl (q_add rfl rfl rfl (by simp only [inK]; omega)) ?_ | refine l_pint rfl rfl ?_
    refine l_pint rfl rfl ?_
    refine l_nil ?_
    refine ⟨by repeat' first | exact aM | exact aR | refine aI rfl ?_ | refine aU rfl ?_ | refine aL rfl ?_, ?_⟩
    exact ⟨m - 1, k + 1, by omega, ⟨by exact congrArg (Value.int IntKind.i64) (Int.natCast_succ k).symm, trivial⟩, by omega, H⟩
  try simp only [sH] at c7
  obtain rfl : k = qs.length := by omega
  rw [ndL_full] at H
  refine w_exit ?_
  refine w_seq ?_
  refine w_seq ?_
  refine w_region ?_
  refine l_pint rfl rfl ?_
  refine l_nil ?_
  refine w_block ?_
  refine w_loopG (G := Nat) [6, 39, 238, 239, 240, 241, 242, 243, 244, 245, 246, 247, 248, 249, 250, 251, 252, 253, 254, 255, 256, 257, 258, 259, 260, 261, 262, 263, 264, 265] (fun k => [(39, I ((k : Nat) : Int))]) (fun m k w => m + k = ms.length ∧ St W w (bookL b11 r3 rb3 rd3 z2 zb2 zd2 (row 30 13 qa qs.length qc (evsV (qs.map (setNd (-3)))) :: row 30 13 oa os.length oc (evsV (os.map (setNd (-2)))) :: row 30 13 ma ms.length mc (evsV (ms.map (setNd (-1)))) :: row 30 13 la ls.length lc (evsV ls) :: Segs (ls.map EvM.seg) :: tapeL tb p (ts.foldl addT (newT s)) (blk b3 (s.cells a c) 56 :: F)))) (fun _ => rfl) ?_ ?_
  · exact ⟨ms.length, 0, ⟨rfl, trivial⟩, rfl, H⟩
  rintro m k ρ1 w ⟨hmi, H⟩
  refine w_seq ?_
  refine w_seq ?_
  refine w_region ?_
  refine l_pint rfl rfl ?_
  refine l_pslice rfl rfl ?_
  refine l_v rfl (q_lenSlice rfl el_57 rfl) ?_
  refine l_pbool rfl rfl ?_
  refine l_nil ?_
  refine w_cond rfl (fun c8 => ?_) (fun c8 => ?_)
  · try simp only [sH] at c8
    have hkms : k < (ms.map (setNd (-1))).length := by rw [List.length_map]; omega
    obtain ⟨mb, mo, hma⟩ := evs_ex ((RdIn.row (W := W) 7 rfl).use H 0 rfl) hkms
    have hkos : k < (os.map (setNd (-2))).length := by rw [List.length_map]; omega
    obtain ⟨ob, oo, hoa⟩ := evs_ex ((RdIn.row (W := W) 6 rfl).use H 0 rfl) hkos
    have hkqs : k < (qs.map (setNd (-3))).length := by rw [List.length_map]; omega
    obtain ⟨qb, qo, hqa⟩ := evs_ex ((RdIn.row (W := W) 5 rfl).use H 0 rfl) hkqs
    refine w_skip ?_
    refine w_seq ?_
    refine w_block ?_
    refine w_seq ?_
    refine w_region ?_
    refine l_pslice rfl rfl ?_
    refine l_pint rfl rfl ?_
    refine l_v rfl (q_indexSliceE k rfl el_57 rfl hma rfl rfl (by omega)) ?_
    refine l_v rfl (q_fieldAddr rfl fo30_1 rfl) ?_
    refine l_v rfl (q_load1 rfl c1_3 rfl ((evs_at hma ((RdIn.row (W := W) 7 rfl).use H 0 rfl) hkms).get 1 (I (-1)) (by rw [List.getElem_map]; rfl))) ?_
    refine l_pbool rfl rfl ?_
    refine l_pbool rfl rfl ?_
    refine l_split 250 rfl (fun h250 => absurd h250 (by simp)) (fun h250 => ?_)
    try simp only [sH] at h250
    refine l_pslice rfl rfl ?_
    refine l_pint rfl rfl ?_
    refine l_v rfl (q_indexSliceE k rfl el_57 rfl hoa rfl rfl (by omega)) ?_
    refine l_v rfl (q_fieldAddr rfl fo30_1 rfl) ?_
    refine l_v rfl (q_load1 rfl c1_3 rfl ((evs_at hoa ((RdIn.row (W := W) 6 rfl).use H 0 rfl) hkos).get 1 (I (-2)) (by rw [List.getElem_map]; rfl))) ?_
    refine l_pbool rfl rfl ?_
    refine l_pickF (v := .bool _) rfl rfl rfl ?_
    refine l_pbool rfl rfl ?_
    refine l_split 258 rfl (fun h258 => absurd h258 (by simp)) (fun h258 => ?_)
    try simp only [sH] at h258
    refine l_pslice rfl rfl ?_
    refine l_pint rfl rfl ?_
    refine l_v rfl (q_indexSliceE k rfl el_57 rfl hqa rfl rfl (by omega)) ?_
    refine l_v rfl (q_fieldAddr rfl fo30_1 rfl) ?_
    refine l_v rfl (q_load1 rfl c1_3 rfl ((evs_at hqa ((RdIn.row (W := W) 5 rfl).use H 0 rfl) hkqs).get 1 (I (-3)) (by rw [List.getElem_map]; rfl))) ?_
    refine l_pbool rfl rfl ?_
    refine l_pickF (v := .bool _) rfl rfl rfl ?_
    refine l_nil ?_
    refine w_cond rfl (fun c9 => ?_) (fun c9 => ?_)
    · try simp only [sH] at c9
      exact absurd c9 (by simp)
    try simp only [sH] at c9
    refine w_skip ?_
    refine w_region ?_
    refine l_pint rfl rfl ?_
    first | refine l_v rfl (q_add rfl rfl rfl (by simp only [inK]; omega)) ?_ | refine l_pint rfl rfl ?_
    refine l_pint rfl rfl ?_
    refine l_nil ?_
    refine ⟨by repeat' first | exact aM | exact aR | refine aI rfl ?_ | refine aU rfl ?_ | refine aL rfl ?_, ?_⟩
    exact ⟨m - 1, k + 1, by omega, ⟨by exact congrArg (Value.int IntKind.i64) (Int.natCast_succ k).symm, trivial⟩, by omega, H⟩
  try simp only [sH] at c8
  refine w_exit ?_
  refine w_seq ?_
  refine w_seq ?_
  refine w_region ?_
  refine b_call rfl cb_40 rfl (Apart_ok H ⟨by omega, hp3⟩ ⟨by omega, hz2⟩) (fun v w hv => ?_)
  obtain ⟨rfl, H⟩ := hv
  have H := St.pick [5, 6, 7, 8, 9, 3, 4, 10] (pre := [_, _, _, _, _, _, _, _, _, _, _]) rfl H rfl
  refine l_pbool rfl rfl ?_
  refine l_nil ?_
  refine w_cond rfl (fun c10 => ?_) (fun c10 => ?_)
  · try simp only [sH] at c10
    exact absurd c10 (by simp)
  try simp only [sH] at c10
  refine w_skip ?_
  refine w_seq ?_
  refine w_region ?_
  refine l_pptr rfl rfl ?_
  refine b_call rfl cb_23 rfl (TBytes_ok hN H hT.ok hpt hT.pl) (fun v w hv => ?_)
  obtain ⟨ea1, ec1, hr7, H⟩ := hv
  rw [hfile] at hr7 H
  subst hr7
  have hec := (H.rowInv (i := 0) rfl).2.1
  refine b_call rfl cb_20 rfl (Read_ok hN H (RdIn.row 0 rfl) rfl hec hfl) (fun v w hv => ?_)
  obtain ⟨va, vc, da, dc, vs, hvs, hr8, H⟩ := hv
  rw [read_file hc hso ht (show ts.length ≤ 4096 by omega)] at hvs hr8 H
  subst hr8
  have hvs : vs.map EvM.e = ls.map EvM.e := hvs.trans hls.symm
  refine l_ptup rfl rfl ?_
  refine l_pagg rfl rfl ?_
  refine l_pslice rfl rfl ?_
  refine l_pint rfl rfl ?_
  refine l_pint rfl rfl ?_
  refine b_alloc (cs := stp0.cells none 0) rfl ze_56 rfl H (fun b40 w H => ?_)
  refine b_store (cs' := s.cells da dc) rfl sz_56 rfl rfl rfl rfl rfl H 0 rfl rfl (putL_all rfl) (fun w H => ?_)
  refine l_pslice rfl rfl ?_
  refine l_pint rfl rfl ?_
  refine l_pint rfl rfl ?_
  refine l_nil ?_
  refine w_seq ?_
  refine w_region ?_
  refine b_call rfl cb_19 rfl (works_ok hN H) (fun v w hv => ?_)
  obtain ⟨rfl, H⟩ := hv
  refine l_pbool rfl rfl ?_
  refine l_split 277 rfl (fun h277 => ?_) (fun h277 => absurd h277 (by simp))
  try simp only [sH] at h277
  refine l_pint rfl rfl ?_
  refine l_pbool rfl rfl ?_
  refine l_pickT (v := .bool _) rfl rfl rfl ?_
  refine l_pbool rfl rfl ?_
  refine l_split 281 rfl (fun h281 => ?_) (fun h281 => absurd h281 (by simp))
  try simp only [sH] at h281
  refine l_pslice rfl rfl ?_
  refine l_pslice rfl rfl ?_
  refine b_call rfl cb_27 rfl (sameEvents_ok H (xs := vs) (ys := ls) (RdIn.row 1 rfl) rfl (EvsR.segs 2 rfl) (RdIn.row 10 rfl) rfl (EvsR.segs 11 rfl) (by have := map_len hvs; omega)) (fun v w hv => ?_)
  obtain ⟨bb, hbb, rfl, H⟩ := hv
  obtain rfl : bb = true := hbb.2 hvs
  refine l_pickT (v := .bool _) rfl rfl rfl ?_
  refine l_pbool rfl rfl ?_
  refine l_nil ?_
  refine w_ret ?_
  refine fin1 (v := .bool _) rfl ?_
  exact ⟨rfl, _, H⟩
end Go.Proofs.YtfpmnhmdphaceaaDoor
