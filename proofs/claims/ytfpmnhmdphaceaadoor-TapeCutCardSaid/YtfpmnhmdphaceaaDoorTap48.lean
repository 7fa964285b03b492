/- The walk of the law TapeCut ends in true, where the table of nibbles is laid. -/
import Derived.Test.YtfpmnhmdphaceaaDoorTap47
import Derived.Test.YtfpmnhmdphaceaaDoorTap38
import Derived.Test.YtfpmnhmdphaceaaDoorTap39
import Derived.Test.YtfpmnhmdphaceaaDoorTap31
namespace Go.Proofs.YtfpmnhmdphaceaaDoor
open Go.EW
attribute [local irreducible] EW.W EW.L EW.fin block8 outB shaL
set_option linter.unusedVariables false
set_option linter.unusedSimpArgs false
attribute [local irreducible] crcN crcB crcL sealL openR sealR putEv getEv runR readR fileT fileL usedE addRT chkS chsOf posW
theorem evTxt_of {ls : List EvM} {ts : List Txt} (ht : TsOk ts) (h : ls.map EvM.e = ts.map evOf) : evTxt ls = ts := by
  have h1 : evTxt ls = (ls.map EvM.e).map fun e => (putEv e).1 := by unfold evTxt; rw [List.map_map]; rfl
  rw [h1, h, List.map_map]
  refine (List.map_congr_left fun t htm => ?_).trans (List.map_id ts)
  show (putEv (getEv t).1).1 = t
  rw [(getEv_good (ht.good t htm).1).1]
theorem evOk_of {ls : List EvM} {ts : List Txt} (h : ls.map EvM.e = ts.map evOf) : ∀ e ∈ ls.map EvM.e, EvOk e := fun e he => by
  rw [h] at he
  obtain ⟨t, _, rfl⟩ := List.mem_map.1 he
  exact getEv_ok t
theorem cut_ex {l : List Nat} {k : Nat} : ∀ (n i p : Nat), n + i = l.length → l[i]? = some p → p ≤ k → ∃ i p, l[i]? = some p ∧ p ≤ k ∧ ∀ p', l[i + 1]? = some p' → k < p'
  | 0, i, p, hn, hp, _ => by
    have := (List.getElem?_eq_some_iff.1 hp).1
    omega
  | n + 1, i, p, hn, hp, hk => by
    cases hq : l[i + 1]? with
    | none => exact ⟨i, p, hp, hk, fun p' h => by rw [hq] at h; cases h⟩
    | some q =>
      rcases Nat.lt_or_ge k q with h1 | h1
      · exact ⟨i, p, hp, hk, fun p' h => by rw [hq] at h; cases h; exact h1⟩
      exact cut_ex n (i + 1) q (by omega) hq h1
theorem cut_some {s : Stp} (hc : chkS s = 0) (hso : StpOk s) {us : List Txt} (ht : TsOk us) (hn : us.length ≤ 4096) {k : Nat} (hk : k < (fileL s us).length) : ∃ p y, runR ((fileL s us).take k) = (222, p, y) ∧ y.right = p := by
  obtain ⟨i, p, h1, h2, h3⟩ := cut_ex (k := k) (posC s us).length 0 0 rfl (posC_zero s us) (Nat.zero_le _)
  obtain ⟨y, h4, h5, _⟩ := cut_run hc hso ht hn hk h1 h2 h3
  exact ⟨p, y, h4, h5⟩
attribute [local semireducible] readR in
theorem read_cut {bs : Txt} {p : Nat} {y : SS} (h : runR bs = (222, p, y)) : readR bs = (stp0, [], 222, p) := by unfold readR; rw [h]; rfl
theorem file_len4 {s : Stp} {us : List Txt} (ht : TsOk us) (hn : us.length ≤ 4096) : 4 ≤ (fileL s us).length := by
  rw [file_form ht hn, List.length_append, List.length_append, be4_len]; omega
theorem row_nil {W w : World} {S : List Seg} {T sz : Nat} {a : Option Addr} {c : Nat} : True := trivial
set_option maxRecDepth 8000 in
set_option maxHeartbeats 1000000 in
theorem TapeCut_no {W w : World} {F : List Seg} (hN : NibOk W) (H : St W w F) (s : Stp) (hso : StpOk s) {a : Option Addr} {c : Nat} (hr : RdIn W F a (intsV s.cls)) {es : List EvM} {ea : Option Addr} {n ec : Nat} (hre : RdIn W F ea (evsV es)) (hl : es.length = n) (hes : EvsIn W F es) (hn : n ≤ 140737488351232) {ct : Int} (hc : chkS s ≠ 0) :
    Ok Tryd.prog 5 [.agg (s.cells a c).toArray, .slice ea n ec, I ct].toArray w (fun r w' => r = .bool true ∧ ∃ S, St W w' S) := by
  subst hl
  refine enter (n := 136) (rs := #[.tmp 6]) Tryd.func5 rfl rfl rfl rfl ?_
  refine w_seq ?_
  refine w_region ?_
  refine b_box (cs := s.cells a c) rfl rfl rfl H (fun b3 w H => ?_)
  refine l_pbool rfl rfl ?_
  refine l_nil ?_
  refine w_seq ?_
  refine w_region ?_
  refine l_v rfl (q_loadN (vs := s.cells a c) rfl ag_56 rfl rfl (H.cells 0 rfl)) ?_
  refine l_pslice rfl rfl ?_
  refine b_call rfl cb_22 rfl (made_no hN H s hso (hr.up 1 rfl) (hre.up 1 rfl) rfl (hes.up 1 rfl) (by omega) hc) (fun v w hv => ?_)
  obtain ⟨rfl, H⟩ := hv
  refine l_ptup rfl rfl ?_
  refine l_pptr rfl rfl ?_
  refine l_pslice rfl rfl ?_
  refine l_pptr rfl rfl ?_
  refine l_pslice rfl rfl ?_
  refine l_nil ?_
  refine w_seq ?_
  refine w_seq ?_
  refine w_region ?_
  refine l_pptr rfl rfl ?_
  refine l_v rfl (q_eqlNilT rfl pt_61 rfl rfl) ?_
  refine l_nil ?_
  refine w_cond_t rfl ?_
  refine w_seq ?_
  refine w_region ?_
  refine b_call rfl cb_19 rfl (works_ok hN H) (fun v w hv => ?_)
  obtain ⟨rfl, H⟩ := hv
  refine l_pbool rfl rfl ?_
  refine l_nil ?_
  refine w_ret ?_
  refine fin1 (v := .bool _) rfl ?_
  exact ⟨rfl, _, H⟩
set_option maxRecDepth 8000 in
set_option maxHeartbeats 2000000 in
theorem TapeCut_yes {W w : World} {F : List Seg} (hN : NibOk W) (H : St W w F) (s : Stp) (hso : StpOk s) {a : Option Addr} {c : Nat} (hr : RdIn W F a (intsV s.cls)) {es : List EvM} {ea : Option Addr} {n ec : Nat} (hre : RdIn W F ea (evsV es)) (hl : es.length = n) (hes : EvsIn W F es) (hn : n ≤ 140737488351232) {ct : Int} (hc : chkS s = 0) :
    Ok Tryd.prog 5 [.agg (s.cells a c).toArray, .slice ea n ec, I ct].toArray w (fun r w' => r = .bool true ∧ ∃ S, St W w' S) := by
  subst hl
  refine enter (n := 136) (rs := #[.tmp 6]) Tryd.func5 rfl rfl rfl rfl ?_
  refine w_seq ?_
  refine w_region ?_
  refine b_box (cs := s.cells a c) rfl rfl rfl H (fun b3 w H => ?_)
  refine l_pbool rfl rfl ?_
  refine l_nil ?_
  refine w_seq ?_
  refine w_region ?_
  refine l_v rfl (q_loadN (vs := s.cells a c) rfl ag_56 rfl rfl (H.cells 0 rfl)) ?_
  refine l_pslice rfl rfl ?_
  refine b_call rfl cb_22 rfl (made_ok hN H s hso (hr.up 1 rfl) (hre.up 1 rfl) rfl (hes.up 1 rfl) (by omega) hc) (fun v w hv => ?_)
  obtain ⟨tb, p, la, lc, ls, hpt, hls, rfl, H⟩ := hv
  have H := St.pick [2, 3, 4, 5, 6, 0, 1, 7] (pre := [_, _, _, _, _, _, _, _]) rfl H rfl
  have hek : ∀ e ∈ es.map EvM.e, EvOk e := fun e he => by
    obtain ⟨x, hx, rfl⟩ := List.mem_map.1 he
    exact (hes x hx).2
  rw [made_form s (es.map EvM.e) (min es.length 300) (by omega) (by rw [List.length_map]; omega)] at hpt hls H
  have hls := hls.trans (bytes_ev hek (min es.length 300)).symm
  have ht := bytes_ok hek (min es.length 300)
  have hn1 : (bytesN (es.map EvM.e) (min es.length 300)).length ≤ 300 := by unfold bytesN; rw [List.length_map]; have := taken_len (es.map EvM.e) (min es.length 300); omega
  simp only [] at hpt H
  generalize bytesN (es.map EvM.e) (min es.length 300) = ts at *
  have hT := tok_all s ht.len (show ts.length ≤ 4096 by omega)
  have hfile := (file_all s ts).1
  have hlen : ls.length = ts.length := by rw [← List.length_map (f := EvM.e), hls, List.length_map]
  have hf4 := file_len4 (s := s) ht (show ts.length ≤ 4096 by omega)
  refine l_ptup rfl rfl ?_
  refine l_pptr rfl rfl ?_
  refine l_pslice rfl rfl ?_
  refine l_pptr rfl rfl ?_
  refine l_pslice rfl rfl ?_
  refine l_nil ?_
  refine w_seq ?_
  refine w_seq ?_
  refine w_region ?_
  refine l_pptr rfl rfl ?_
  refine l_v rfl (q_eqlNilF rfl pt_61 rfl rfl) ?_
  refine l_nil ?_
  refine w_cond_f rfl ?_
  refine w_skip ?_
  refine w_seq ?_
  refine w_region ?_
  refine l_pptr rfl rfl ?_
  refine b_call rfl cb_23 rfl (TBytes_ok hN H hT.ok hpt hT.pl) (fun v w hv => ?_)
  obtain ⟨fa, fc, hr2, H⟩ := hv
  rw [hfile] at hr2 H
  subst hr2
  have hfc := (H.rowInv (i := 0) rfl).2.1
  have hfl : (fileL s ts).length ≤ 140737488351232 := by rw [← hfile]; exact fileT_len hT
  refine l_pslice rfl rfl ?_
  refine l_nil ?_
  refine w_seq ?_
  refine w_region ?_
  refine l_v rfl (q_loadN (vs := s.cells a c) rfl ag_56 rfl rfl (H.cells 8 rfl)) ?_
  refine l_pslice rfl rfl ?_
  refine b_call rfl cb_24 rfl (places_ok H s hso hc (hr.up 9 rfl) (RdIn.row 6 rfl) rfl (EvsIn.segs 7 rfl (evOk_of hls)) (by omega)) (fun v w hv => ?_)
  obtain ⟨pa, pc, ha, hc2, rfl, H⟩ := hv
  rw [evTxt_of ht hls] at H ⊢
  refine l_ptup rfl rfl ?_
  refine l_pslice rfl rfl ?_
  refine l_pslice rfl rfl ?_
  refine l_pslice rfl rfl ?_
  refine l_pslice rfl rfl ?_
  refine l_nil ?_
  refine w_seq ?_
  refine w_region ?_
  refine l_pint rfl rfl ?_
  refine l_pslice rfl rfl ?_
  refine l_v rfl (q_lenSlice rfl el_28 rfl) ?_
  first | refine l_v rfl (q_sub rfl rfl rfl (by simp only [inK]; omega)) ?_ | refine l_pint rfl rfl ?_
  refine b_call rfl cb_25 rfl (within_ok H (m := (fileL s ts).length - 1) (by omega) (by omega)) (fun v w hv => ?_)
  obtain ⟨k, hkm, rfl, H⟩ := hv
  have hk : k < (fileL s ts).length := by omega
  obtain ⟨pp, yy, hrun, hyr⟩ := cut_some hc hso ht (show ts.length ≤ 4096 by omega) hk
  have hread := read_cut hrun
  have hktl : ((fileL s ts).take k).length = k := by rw [List.length_take]; omega
  refine l_pint rfl rfl ?_
  refine l_nil ?_
  refine w_seq ?_
  refine w_region ?_
  refine l_pslice rfl rfl ?_
  refine l_pint rfl rfl ?_
  refine l_v rfl (q_slice (l := 0) (h := k) (m := fc) rfl el_28 rfl Bnd.none (Bnd.nat (by omega)) Bnd.none (by simp)) ?_
  refine b_call rfl cb_20 rfl (Read_ok (bs := (fileL s ts).take k) hN H (rdin_head (RdIn.row 2 rfl)) (by omega) (by omega) (by omega)) (fun v w hv => ?_)
  obtain ⟨ra, rc, ca, cc, es1, hes1, hr3, H⟩ := hv
  rw [hread] at hes1 hr3 H
  obtain rfl : es1 = [] := List.map_eq_nil_iff.1 hes1
  subst hr3
  refine l_ptup rfl rfl ?_
  refine l_pagg rfl rfl ?_
  refine l_pslice rfl rfl ?_
  refine l_pint rfl rfl ?_
  refine l_pint rfl rfl ?_
  refine b_alloc (cs := stp0.cells none 0) rfl ze_56 rfl H (fun b13 w H => ?_)
  refine b_store (cs' := stp0.cells ca cc) rfl sz_56 rfl rfl rfl rfl rfl H 0 rfl rfl (putL_all rfl) (fun w H => ?_)
  refine l_pslice rfl rfl ?_
  refine l_pint rfl rfl ?_
  refine l_pint rfl rfl ?_
  refine l_nil ?_
  refine w_seq ?_
  refine w_region ?_
  refine l_pslice rfl rfl ?_
  refine l_pint rfl rfl ?_
  refine l_v rfl (q_slice (l := 0) (h := k) (m := fc) rfl el_28 rfl Bnd.none (Bnd.nat (by omega)) Bnd.none (by simp)) ?_
  refine b_call rfl cb_26 rfl (Salvage_ok (bs := (fileL s ts).take k) hN H (rdin_head (RdIn.row 6 rfl)) (by omega) (by omega) (by omega)) (fun v w hv => ?_)
  obtain ⟨sa, sc, da, dc, es2, hes2, hr4, H⟩ := hv
  rw [hrun] at hes2 hr4 H
  simp only [] at hes2 hr4 H
  rw [hyr] at hr4
  subst hr4
  have H := St.pick [7, 8, 9, 0, 1, 2, 15, 16, 17] (pre := [_, _, _, _, _, _, _, _, _, _, _, _, _, _, _, _, _, _]) rfl H rfl
  refine l_ptup rfl rfl ?_
  refine l_pagg rfl rfl ?_
  refine l_pslice rfl rfl ?_
  refine l_pint rfl rfl ?_
  refine b_alloc (cs := stp0.cells none 0) rfl ze_56 rfl H (fun b17 w H => ?_)
  refine b_store (cs' := yy.stp.cells da dc) rfl sz_56 rfl rfl rfl rfl rfl H 0 rfl rfl (putL_all rfl) (fun w H => ?_)
  refine l_pslice rfl rfl ?_
  refine l_pint rfl rfl ?_
  refine l_nil ?_
  refine w_seq ?_
  refine w_seq ?_
  refine w_region ?_
  refine l_pint rfl rfl ?_
  refine l_pbool rfl rfl ?_
  refine l_pbool rfl rfl ?_
  refine l_split 62 rfl (fun h62 => absurd h62 (by simp)) (fun h62 => ?_)
  try simp only [sH] at h62
  refine l_pslice rfl rfl ?_
  refine l_v rfl (q_lenSlice rfl el_57 rfl) ?_
  refine l_pbool rfl rfl ?_
  refine l_pickF (v := .bool _) rfl rfl rfl ?_
  refine l_nil ?_
  refine w_cond rfl (fun c1 => ?_) (fun c1 => ?_)
  · try simp only [sH] at c1
    exact absurd c1 (by simp)
  try simp only [sH] at c1
  refine w_skip ?_
  refine w_seq ?_
  refine w_region ?_
  refine l_pslice rfl rfl ?_
  refine l_pslice rfl rfl ?_
  refine l_v rfl (q_lenSlice rfl el_28 rfl) ?_
  first | refine l_v rfl (q_sub rfl rfl rfl (by simp only [inK]; omega)) ?_ | refine l_pint rfl rfl ?_
  refine b_buildSlice (cs := [I (((fileL s ts).length : Int) - 4)]) rfl el_66 ze_3 rfl rfl rfl H (fun b71 w H => ?_)
  have hpwl := posW_len s ts
  have hchl := chs_len ts ht.len
  refine b_append rfl el_66 ze_3 rfl rfl rfl H 2 rfl (ys := [I (((fileL s ts).length - 4 : Nat) : Int)]) (by have h := Rd.mk (H.cells0 0 rfl); rw [show (((fileL s ts).length : Int) - 4) = (((fileL s ts).length - 4 : Nat) : Int) by omega] at h; exact h) rfl (fun u hu => by obtain rfl := List.mem_singleton.1 hu; rfl) ⟨by omega, by simp only [maxLen]; omega⟩ (fun a72 c72 w H => ?_)
  have H := H.drop1
  have hpcl : (posW s ts).length + 1 = (posC s ts).length := by unfold posC; rw [List.length_append]; rfl
  have hpcv : natsV (posW s ts) ++ [I (((fileL s ts).length - 4 : Nat) : Int)] = natsV (posC s ts) := by unfold posC natsV; rw [List.map_append]; rfl
  rw [hpcl] at H ⊢
  rw [hpcv] at H
  have H : St W w (blk b17 (yy.stp.cells da dc) 56 :: row 3 1 a72 (posC s ts).length c72 (natsV (posC s ts)) :: row 3 1 ha (aheadL (chsOf ts) (chsOf ts).length).length hc2 (natsV (aheadL (chsOf ts) (chsOf ts).length)) :: row 5 1 fa (fileL s ts).length fc ((fileL s ts).map B) :: row 30 13 sa es2.length sc (evsV es2) :: Segs (es2.map EvM.seg) :: row 150 1 da yy.stp.cls.length dc (intsV yy.stp.cls) :: row 30 13 la ls.length lc (evsV ls) :: Segs (ls.map EvM.seg) :: blk b3 (s.cells a c) 56 :: F) := H
  refine l_pslice rfl rfl ?_
  refine l_nil ?_
  refine w_seq ?_
  refine w_region ?_
  refine l_pint rfl rfl ?_
  refine l_nil ?_
  refine w_cutG (G := Nat) [20, 73, 74, 75, 76, 77, 78, 79, 80, 81, 82, 83, 84, 85, 86, 87, 88] (fun i => [(20, I (i : Int))]) (fun i w => (∃ p, (posC s ts)[i]? = some p ∧ p ≤ k) ∧ (∀ p', (posC s ts)[i + 1]? = some p' → k < p') ∧ St W w (blk b17 (yy.stp.cells da dc) 56 :: row 3 1 a72 (posC s ts).length c72 (natsV (posC s ts)) :: row 3 1 ha (aheadL (chsOf ts) (chsOf ts).length).length hc2 (natsV (aheadL (chsOf ts) (chsOf ts).length)) :: row 5 1 fa (fileL s ts).length fc ((fileL s ts).map B) :: row 30 13 sa es2.length sc (evsV es2) :: Segs (es2.map EvM.seg) :: row 150 1 da yy.stp.cls.length dc (intsV yy.stp.cls) :: row 30 13 la ls.length lc (evsV ls) :: Segs (ls.map EvM.seg) :: blk b3 (s.cells a c) 56 :: F)) (fun _ => rfl) ?_ ?_
  · refine w_block ?_
    refine w_loopG (G := Nat) [20, 73, 74, 75, 76, 77, 78, 79, 80, 81, 82, 83, 84, 85, 86, 87, 88] (fun i => [(20, I (i : Int))]) (fun m i w => m + i = (posC s ts).length ∧ (∃ p, (posC s ts)[i]? = some p ∧ p ≤ k) ∧ St W w (blk b17 (yy.stp.cells da dc) 56 :: row 3 1 a72 (posC s ts).length c72 (natsV (posC s ts)) :: row 3 1 ha (aheadL (chsOf ts) (chsOf ts).length).length hc2 (natsV (aheadL (chsOf ts) (chsOf ts).length)) :: row 5 1 fa (fileL s ts).length fc ((fileL s ts).map B) :: row 30 13 sa es2.length sc (evsV es2) :: Segs (es2.map EvM.seg) :: row 150 1 da yy.stp.cls.length dc (intsV yy.stp.cls) :: row 30 13 la ls.length lc (evsV ls) :: Segs (ls.map EvM.seg) :: blk b3 (s.cells a c) 56 :: F)) (fun _ => rfl) ?_ ?_
    · exact ⟨(posC s ts).length, 0, ⟨rfl, trivial⟩, rfl, ⟨0, posC_zero s ts, Nat.zero_le _⟩, H⟩
    rintro m i ρ1 w ⟨hmi, ⟨p, hp, hpk⟩, H⟩
    refine w_seq ?_
    refine w_seq ?_
    refine w_region ?_
    refine l_pint rfl rfl ?_
    first | refine l_v rfl (q_add rfl rfl rfl (by simp only [inK]; omega)) ?_ | refine l_pint rfl rfl ?_
    refine l_pslice rfl rfl ?_
    refine l_v rfl (q_lenSlice rfl el_66 rfl) ?_
    refine l_pbool rfl rfl ?_
    refine l_pbool rfl rfl ?_
    refine l_split 78 rfl (fun h78 => ?_) (fun h78 => ?_)
    · try simp only [sH] at h78
      have hj : i + 1 < (posC s ts).length := by omega
      obtain ⟨pb, po, hpa, hpc⟩ := nat_at ((H.rowInv (i := 1) rfl).2.2.2.2) hj
      refine l_pslice rfl rfl ?_
      refine l_pint rfl rfl ?_
      first | refine l_v rfl (q_add rfl rfl rfl (by simp only [inK]; omega)) ?_ | refine l_pint rfl rfl ?_
      refine l_v rfl (q_indexSliceE (i + 1) rfl el_66 rfl hpa rfl (by omega) hj) ?_
      refine l_v rfl (q_load1 rfl c1_3 rfl hpc) ?_
      refine l_pint rfl rfl ?_
      refine l_pbool rfl rfl ?_
      refine l_pickT (v := .bool _) rfl rfl rfl ?_
      refine l_nil ?_
      refine w_cond rfl (fun c2 => ?_) (fun c2 => ?_)
      · try simp only [sH] at c2
        refine w_skip ?_
        refine w_block ?_
        refine w_region ?_
        refine l_pint rfl rfl ?_
        first | refine l_v rfl (q_add rfl rfl rfl (by simp only [inK]; omega)) ?_ | refine l_pint rfl rfl ?_
        refine l_pint rfl rfl ?_
        refine l_nil ?_
        refine ⟨by repeat' first | exact aM | exact aR | refine aI rfl ?_ | refine aU rfl ?_ | refine aL rfl ?_, ?_⟩
        exact ⟨m - 1, i + 1, by omega, ⟨by exact congrArg (Value.int IntKind.i64) (Int.natCast_succ i).symm, trivial⟩, by omega, ⟨_, List.getElem?_eq_getElem hj, by omega⟩, H⟩
      try simp only [sH] at c2
      refine w_exit ?_
      refine ⟨by repeat' first | exact aM | exact aR | refine aI rfl ?_ | refine aU rfl ?_ | refine aL rfl ?_, ?_⟩
      exact ⟨i, ⟨rfl, trivial⟩, ⟨p, hp, hpk⟩, fun p' h => by rw [List.getElem?_eq_getElem hj] at h; have h := Option.some.inj h; omega, H⟩
    try simp only [sH] at h78
    refine l_no rfl ?_
    refine l_no rfl ?_
    refine l_no rfl ?_
    refine l_no rfl ?_
    refine l_no rfl ?_
    refine l_no rfl ?_
    refine l_no rfl ?_
    refine l_pickF (v := .bool _) rfl rfl rfl ?_
    refine l_nil ?_
    refine w_cond_f rfl ?_
    refine w_exit ?_
    refine ⟨by repeat' first | exact aM | exact aR | refine aI rfl ?_ | refine aU rfl ?_ | refine aL rfl ?_, ?_⟩
    exact ⟨i, ⟨rfl, trivial⟩, ⟨p, hp, hpk⟩, fun p' h => absurd (List.getElem?_eq_some_iff.1 h).1 (by omega), H⟩
  rintro i ρ1 w ⟨⟨p, hp, hpk⟩, hnx, H⟩
  obtain ⟨y', hr1, hr2, hr3, hr4⟩ := cut_run hc hso ht (show ts.length ≤ 4096 by omega) hk hp hpk hnx
  rw [hrun] at hr1
  obtain ⟨rfl, rfl⟩ : pp = p ∧ yy = y' := by simpa using hr1
  have hi : i < (posC s ts).length := (List.getElem?_eq_some_iff.1 hp).1
  have hpi : (posC s ts)[i] = pp := Option.some.inj ((List.getElem?_eq_getElem hi).symm.trans hp)
  obtain ⟨pb, po, hpa, hpc⟩ := nat_at ((H.rowInv (i := 1) rfl).2.2.2.2) hi
  rw [hpi] at hpc
  refine w_seq ?_
  refine w_seq ?_
  refine w_region ?_
  refine l_pint rfl rfl ?_
  refine l_pslice rfl rfl ?_
  refine l_pint rfl rfl ?_
  refine l_v rfl (q_indexSliceE i rfl el_66 rfl hpa rfl rfl hi) ?_
  refine l_v rfl (q_load1 rfl c1_3 rfl hpc) ?_
  refine l_pbool rfl rfl ?_
  refine l_pbool rfl rfl ?_
  refine l_split 95 rfl (fun h95 => absurd h95 (by simp)) (fun h95 => ?_)
  try simp only [sH] at h95
  refine l_pint rfl rfl ?_
  refine l_pslice rfl rfl ?_
  refine l_pint rfl rfl ?_
  refine l_v rfl (q_indexSliceE i rfl el_66 rfl hpa rfl rfl hi) ?_
  refine l_v rfl (q_load1 rfl c1_3 rfl hpc) ?_
  refine l_pbool rfl rfl ?_
  refine l_pickF (v := .bool _) rfl rfl rfl ?_
  refine l_nil ?_
  refine w_cond rfl (fun c3 => ?_) (fun c3 => ?_)
  · try simp only [sH] at c3
    exact absurd c3 (by simp [hr2])
  try simp only [sH] at c3
  refine w_skip ?_
  refine w_seq ?_
  refine w_seq ?_
  refine w_region ?_
  refine l_pint rfl rfl ?_
  refine l_pbool rfl rfl ?_
  refine l_nil ?_
  refine w_cond rfl (fun c4 => ?_) (fun c4 => ?_)
  · try simp only [sH] at c4
    refine w_seq ?_
    refine w_region ?_
    refine b_call rfl cb_19 rfl (works_ok hN H) (fun v w hv => ?_)
    obtain ⟨rfl, H⟩ := hv
    refine l_pbool rfl rfl ?_
    refine l_split 106 rfl (fun h106 => ?_) (fun h106 => absurd h106 (by simp))
    try simp only [sH] at h106
    refine l_v rfl (q_loadN (vs := yy.stp.cells da dc) rfl ag_56 rfl rfl (H.cells 0 rfl)) ?_
    refine l_v rfl (q_build (cs := stp0.cells none 0) rfl sp_56 rfl) ?_
    refine b_call rfl cb_21 rfl (sameSetup_ok H (s := yy.stp) (t := stp0) (RdIn.row 6 rfl) RdIn.nil (by rw [(hr3 (by omega)).1]; decide)) (fun v w hv => ?_)
    obtain ⟨bb, hbb, rfl, H⟩ := hv
    obtain rfl : bb = true := hbb.2 (hr3 (by omega)).1
    have hel2 : es2.length = 0 := by rw [← List.length_map (f := EvM.e), hes2, (hr3 (by omega)).2]; rfl
    refine l_pickT (v := .bool _) rfl rfl rfl ?_
    refine l_pbool rfl rfl ?_
    refine l_split 111 rfl (fun h111 => ?_) (fun h111 => absurd h111 (by simp))
    try simp only [sH] at h111
    refine l_pslice rfl rfl ?_
    refine l_v rfl (q_lenSlice rfl el_57 rfl) ?_
    refine l_pbool rfl rfl ?_
    refine l_pickT (v := .bool _) rfl rfl rfl ?_
    refine l_pbool rfl rfl ?_
    refine l_nil ?_
    refine w_ret ?_
    refine fin1 (v := .bool _) rfl ?_
    exact ⟨congrArg Value.bool (by simp [hel2]), _, H⟩
  try simp only [sH] at c4
  have hals := ahead_len (chsOf ts) (chsOf ts).length
  have hai : min i ((chsOf ts).length + 1) < (aheadL (chsOf ts) (chsOf ts).length).length := by omega
  obtain ⟨qb, qo, hqa, _⟩ := nat_at ((H.rowInv (i := 2) rfl).2.2.2.2) hai
  have hae : (aheadL (chsOf ts) (chsOf ts).length)[min i ((chsOf ts).length + 1)] = (cnt ((chsOf ts).take (min (i - 1) (chsOf ts).length))) := by
    have h := ahead_get (chsOf ts) (chsOf ts).length (min (i - 1) (chsOf ts).length) (Nat.min_le_right _ _)
    rw [show min (i - 1) (chsOf ts).length + 1 = min i ((chsOf ts).length + 1) by omega, List.getElem?_eq_getElem hai] at h
    exact Option.some.inj h
  have hcl2 := cnt_le (us := ts) (i := min (i - 1) (chsOf ts).length)
  have hlc := (H.rowInv (i := 7) rfl).2.1
  refine w_skip ?_
  refine w_seq ?_
  refine w_region ?_
  refine b_call rfl cb_19 rfl (works_ok hN H) (fun v w hv => ?_)
  obtain ⟨rfl, H⟩ := hv
  refine l_pbool rfl rfl ?_
  refine l_split 117 rfl (fun h117 => ?_) (fun h117 => absurd h117 (by simp))
  try simp only [sH] at h117
  refine l_v rfl (q_loadN (vs := yy.stp.cells da dc) rfl ag_56 rfl rfl (H.cells 0 rfl)) ?_
  refine l_v rfl (q_loadN (vs := s.cells a c) rfl ag_56 rfl rfl (H.cells 9 rfl)) ?_
  refine b_call rfl cb_21 rfl (sameSetup_ok H (s := yy.stp) (t := s) (RdIn.row 6 rfl) (hr.up 10 rfl) (by rw [(hr4 (by omega)).1]; have := (chk_inv hc).2.1; omega)) (fun v w hv => ?_)
  obtain ⟨bb, hbb, rfl, H⟩ := hv
  obtain rfl : bb = true := hbb.2 (hr4 (by omega)).1
  refine l_pickT (v := .bool _) rfl rfl rfl ?_
  refine l_pbool rfl rfl ?_
  refine l_split 122 rfl (fun h122 => ?_) (fun h122 => absurd h122 (by simp))
  try simp only [sH] at h122
  refine l_pslice rfl rfl ?_
  refine l_pslice rfl rfl ?_
  refine l_pslice rfl rfl ?_
  refine l_pint rfl rfl ?_
  refine l_pslice rfl rfl ?_
  refine l_v rfl (q_lenSlice rfl el_66 rfl) ?_
  first | refine l_v rfl (q_sub rfl rfl rfl (by simp only [inK]; omega)) ?_ | refine l_pint rfl rfl ?_
  refine l_v rfl (q_min (((min i ((chsOf ts).length + 1) : Nat)) : Int) rfl rfl rfl (by have := ahead_len (chsOf ts) (chsOf ts).length; split <;> omega)) ?_
  refine l_v rfl (q_indexSliceE (min i ((chsOf ts).length + 1)) rfl el_66 rfl hqa rfl rfl hai) ?_
  refine l_v rfl (q_load1 (v := I ((cnt ((chsOf ts).take (min (i - 1) (chsOf ts).length))) : Int)) rfl c1_3 rfl (by have h := nat_c hqa ((H.rowInv (i := 2) rfl).2.2.2.2) hai; rw [hae] at h; exact h)) ?_
  refine l_v rfl (q_slice (l := 0) (h := (cnt ((chsOf ts).take (min (i - 1) (chsOf ts).length)))) (m := lc) rfl el_57 rfl Bnd.none (Bnd.nat (by omega)) Bnd.none (by simp)) ?_
  refine b_call rfl cb_27 rfl (sameEvents_ok H (xs := es2) (ys := (ls.drop 0).take (cnt ((chsOf ts).take (min (i - 1) (chsOf ts).length)))) (RdIn.row 4 rfl) rfl (EvsR.segs 5 rfl) (evs_slice (RdIn.row 7 rfl) (fun e => by omega)) (by rw [List.length_take, List.length_drop]; omega) ((EvsR.segs 8 rfl).sub (fun x hx => List.mem_of_mem_drop (List.mem_of_mem_take hx))) (by have := congrArg List.length hes2; rw [List.length_map, (hr4 (by omega)).2, List.length_map, List.length_take] at this; omega)) (fun v w hv => ?_)
  obtain ⟨bb, hbb, rfl, H⟩ := hv
  obtain rfl : bb = true := hbb.2 (by rw [hes2, (hr4 (by omega)).2, List.drop_zero, List.map_take, List.map_take, ← hls])
  refine l_pickT (v := .bool _) rfl rfl rfl ?_
  refine l_pbool rfl rfl ?_
  refine l_nil ?_
  refine w_ret ?_
  refine fin1 (v := .bool _) rfl ?_
  exact ⟨rfl, _, H⟩
end Go.Proofs.YtfpmnhmdphaceaaDoor
