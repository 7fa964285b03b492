/- Walks through the tape's functions. -/
import Derived.Test.YtfpmnhmdphaceaaDoorTapP5
namespace Go.Proofs.YtfpmnhmdphaceaaDoor
open Go.EW
attribute [local irreducible] EW.W EW.L EW.fin block8 outB shaL
set_option linter.unusedVariables false
set_option linter.unusedSimpArgs false
attribute [local irreducible] crcN crcB crcL sealL openR sealR putEv getEv runR fileT

theorem EvsIn.segs {W : World} {S : List Seg} {es : List EvM} (i : Nat) (hi : S[i]? = some (Segs (es.map EvM.seg))) (h : ∀ e ∈ es.map EvM.e, EvOk e) : EvsIn W S es := fun x hx => by
  obtain ⟨j, hj, rfl⟩ := List.getElem_of_mem hx
  exact ⟨RdIn.segsF i hi j (by rw [List.getElem?_map, List.getElem?_eq_getElem hj]; rfl), h _ (List.mem_map.2 ⟨_, hx, rfl⟩)⟩
theorem readR_no {bs : List UInt8} (h : (readR bs).2.2.1 ≠ 0) : (readR bs).1 = stp0 ∧ (readR bs).2.1 = [] ∧ (readR bs).2.2.2 ≤ bs.length := by
  unfold readR at h ⊢
  split at h
  · rename_i h1
    rw [if_pos h1]
    exact ⟨rfl, rfl, (run_all bs).2.2.2⟩
  · exact absurd rfl h
theorem readR_yes {bs : List UInt8} (h : (readR bs).2.2.1 = 0) : chkS (readR bs).1 = 0 ∧ (∀ e ∈ (readR bs).2.1, (putEv e).2 = 0) ∧ (readR bs).2.1.length ≤ 4096 ∧ fileT (addsE (newT (readR bs).1) (readR bs).2.1) = bs := by
  unfold readR at h ⊢
  split at h
  · rename_i h1; exact absurd h h1
  · rename_i h1
    rw [if_neg h1]
    exact run_form (by simpa using h1)
theorem readR_all (bs : List UInt8) : (∀ e ∈ (readR bs).2.1, EvOk e) ∧ StpOk (readR bs).1 ∧ (readR bs).1.cls.length ≤ 16 := by
  obtain ⟨h1, h2, h3, _⟩ := run_all bs
  unfold readR
  split
  · exact ⟨fun e he => absurd he (by simp), fun x hx => absurd hx (by simp [stp0]), Nat.zero_le _⟩
  · exact ⟨h1, h2, h3⟩
attribute [local irreducible] readR

set_option maxRecDepth 8000 in
set_option maxHeartbeats 1000000 in
theorem TapeForm_ok {W w : World} {F : List Seg} (hN : NibOk W) (H : St W w F) {a ae : Option Addr} {n c ne ce : Nat} {bs eb : List UInt8} (hr : RdIn W F a (bs.map B)) (hl : bs.length = n) (hcp : bs.length ≤ c) (hn : n ≤ 140737488351232) (hre : RdIn W F ae (eb.map B)) (hle : eb.length = ne) (hcpe : eb.length ≤ ce) (hne : ne ≤ 140737488351232) :
    Ok Tryd.prog 4 [.slice a n c, .slice ae ne ce].toArray w (fun r w' => r = .bool true ∧ ∃ S, St W w' S) := by
  refine enter (n := 95) (rs := #[.tmp 4]) Tryd.func4 rfl rfl rfl rfl ?_
  refine w_seq ?_
  refine w_region ?_
  refine l_pbool rfl rfl ?_
  refine l_nil ?_
  refine w_seq ?_
  refine w_region ?_
  refine l_pslice rfl rfl ?_
  refine b_call rfl cb_14 rfl (GetEvent_ok H hre hle (by omega)) (fun v w hv => ?_)
  obtain ⟨xa, xc, rfl, H⟩ := hv
  refine l_ptup rfl rfl ?_
  refine l_pagg rfl rfl ?_
  refine l_pint rfl rfl ?_
  refine b_alloc (cs := evt0.cells none 0) rfl ze_30 rfl H (fun b5 w H => ?_)
  refine b_store (cs' := (getEv eb).1.cells xa xc) rfl sz_30 rfl rfl rfl rfl rfl H 0 rfl rfl (putL_all rfl) (fun w H => ?_)
  refine l_pint rfl rfl ?_
  refine l_nil ?_
  refine w_cutG (G := Unit) [4, 7, 8, 19, 20, 21, 22, 23, 24, 25, 26, 27, 28, 29, 30, 31, 32, 33, 34] (fun ⟨⟩ => []) (fun ⟨⟩ w => St W w F) (fun _ => rfl) ?_ ?_
  · refine w_seq ?_
    refine w_region ?_
    refine l_pint rfl rfl ?_
    refine l_pbool rfl rfl ?_
    refine l_nil ?_
    refine w_cond rfl (fun c1 => ?_) (fun c1 => ?_)
    · try simp only [sH] at c1
      refine w_seq ?_
      refine w_region ?_
      refine l_v rfl (q_loadN (vs := (getEv eb).1.cells xa xc) rfl ag_30 rfl rfl (H.cells 0 rfl)) ?_
      refine b_call rfl cb_11 rfl (PutEvent_ok H (getEv eb).1 (getEv_ok eb) (RdIn.rowF 1 rfl)) (fun v w hv => ?_)
      obtain ⟨ya, yc, hr1, H⟩ := hv
      rw [(getEv_good (b := eb) (by omega)).1] at hr1 H
      subst hr1
      refine l_ptup rfl rfl ?_
      refine l_pslice rfl rfl ?_
      refine l_pint rfl rfl ?_
      refine l_pslice rfl rfl ?_
      refine l_pint rfl rfl ?_
      refine l_nil ?_
      refine w_seq ?_
      refine w_region ?_
      refine l_pint rfl rfl ?_
      refine l_pbool rfl rfl ?_
      refine l_pbool rfl rfl ?_
      refine l_split 28 rfl (fun h28 => absurd h28 (by simp)) (fun h28 => ?_)
      try simp only [sH] at h28
      refine l_pslice rfl rfl ?_
      refine l_v rfl (q_bytesStr (bs := eb) rfl by_28 st_9 rfl ((H.rowInv (i := 0) rfl).2.2.2.2) rfl) ?_
      refine l_pslice rfl rfl ?_
      refine l_v rfl (q_bytesStr (bs := eb) rfl by_28 st_9 rfl (hre.use H 3 rfl) hle) ?_
      refine l_v rfl (q_pure (s_neq rfl rfl)) ?_
      refine l_pickF (v := .bool _) rfl rfl rfl ?_
      refine l_nil ?_
      refine w_cond rfl (fun c2 => ?_) (fun c2 => ?_)
      · try simp only [sH] at c2
        exact absurd c2 (by simp)
      · try simp only [sH] at c2
        refine w_skip ?_
        refine ⟨by repeat' first | exact aM | exact aR | refine aI rfl ?_ | refine aU rfl ?_ | refine aL rfl ?_, ?_⟩
        exact ⟨⟨⟩, trivial, H.drop1.drop1.drop1⟩
    · try simp only [sH] at c1
      refine w_skip ?_
      refine ⟨by repeat' first | exact aM | exact aR | refine aI rfl ?_ | refine aU rfl ?_ | refine aL rfl ?_, ?_⟩
      exact ⟨⟨⟩, trivial, H.drop1.drop1⟩
  · rintro ⟨⟩ ρ1 w H
    refine w_seq ?_
    refine w_region ?_
    refine l_pslice rfl rfl ?_
    refine b_call rfl cb_20 rfl (Read_ok hN H hr hl hcp (by omega)) (fun v w hv => ?_)
    obtain ⟨ea, ec, ca, cc, es, hes, rfl, H⟩ := hv
    refine l_ptup rfl rfl ?_
    refine l_pagg rfl rfl ?_
    refine l_pslice rfl rfl ?_
    refine l_pint rfl rfl ?_
    refine l_pint rfl rfl ?_
    refine b_alloc (cs := stp0.cells none 0) rfl ze_56 rfl H (fun b9 w H => ?_)
    refine b_store (cs' := (readR bs).1.cells ca cc) rfl sz_56 rfl rfl rfl rfl rfl H 0 rfl rfl (putL_all rfl) (fun w H => ?_)
    refine l_pslice rfl rfl ?_
    refine l_pint rfl rfl ?_
    refine l_pint rfl rfl ?_
    refine l_nil ?_
    refine w_seq ?_
    refine w_seq ?_
    refine w_region ?_
    refine l_pint rfl rfl ?_
    refine l_pbool rfl rfl ?_
    refine l_nil ?_
    refine w_cond rfl (fun c3 => ?_) (fun c3 => ?_)
    · try simp only [sH] at c3
      have hno := readR_no (bs := bs) (by omega)
      have hel0 : es.length = 0 := by rw [← List.length_map (f := EvM.e), hes, hno.2.1]; rfl
      have hat := hno.2.2
      refine w_seq ?_
      refine w_region ?_
      refine b_call rfl cb_19 rfl (works_ok hN H) (fun v w hv => ?_)
      obtain ⟨rfl, H⟩ := hv
      refine l_pbool rfl rfl ?_
      refine l_split 45 rfl (fun h45 => ?_) (fun h45 => absurd h45 (by simp))
      try simp only [sH] at h45
      refine l_pslice rfl rfl ?_
      refine l_v rfl (q_lenSlice rfl el_57 rfl) ?_
      refine l_pbool rfl rfl ?_
      refine l_pickT (v := .bool _) rfl rfl rfl ?_
      refine l_pbool rfl rfl ?_
      refine l_split 50 rfl (fun h50 => ?_) (fun h50 => absurd h50 (by simp [hel0]))
      try simp only [sH] at h50
      refine l_pint rfl rfl ?_
      refine l_pbool rfl rfl ?_
      refine l_pickT (v := .bool _) rfl rfl rfl ?_
      refine l_pbool rfl rfl ?_
      refine l_split 54 rfl (fun h54 => ?_) (fun h54 => absurd h54 (by first | (simp; done) | (simp; omega)))
      try simp only [sH] at h54
      refine l_pint rfl rfl ?_
      refine l_pslice rfl rfl ?_
      refine l_v rfl (q_lenSlice rfl el_28 rfl) ?_
      refine l_pbool rfl rfl ?_
      refine l_pickT (v := .bool _) rfl rfl rfl ?_
      refine l_pbool rfl rfl ?_
      refine l_split 60 rfl (fun h60 => ?_) (fun h60 => absurd h60 (by first | (simp; done) | (simp; omega)))
      try simp only [sH] at h60
      refine l_v rfl (q_loadN (vs := (readR bs).1.cells ca cc) rfl ag_56 rfl rfl (H.cells 0 rfl)) ?_
      refine l_v rfl (q_build (cs := stp0.cells none 0) rfl sp_56 rfl) ?_
      refine b_call rfl cb_21 rfl (sameSetup_ok H (s := (readR bs).1) (t := stp0) (RdIn.row 3 rfl) RdIn.nil (by have := (readR_all bs).2.2; omega)) (fun v w hv => ?_)
      obtain ⟨bb, hbb, rfl, H⟩ := hv
      obtain rfl : bb = true := hbb.2 hno.1
      refine l_pickT (v := .bool _) rfl rfl rfl ?_
      refine l_pbool rfl rfl ?_
      refine l_nil ?_
      refine w_ret ?_
      refine fin1 (v := .bool _) rfl ?_
      exact ⟨rfl, _, H⟩
    · try simp only [sH] at c3
      have hyes := readR_yes (bs := bs) (by omega)
      have hen : es.length = (readR bs).2.1.length := by rw [← hes, List.length_map]
      have h4k := hyes.2.2.1
      refine w_skip ?_
      refine w_seq ?_
      refine w_region ?_
      refine l_v rfl (q_loadN (vs := (readR bs).1.cells ca cc) rfl ag_56 rfl rfl (H.cells 0 rfl)) ?_
      refine l_pslice rfl rfl ?_
      refine b_call rfl cb_22 rfl (made_ok hN H (readR bs).1 (readR_all bs).2.1 (RdIn.row 3 rfl) (RdIn.row 1 rfl) rfl (EvsIn.segs 2 rfl (by rw [hes]; exact (readR_all bs).1)) (by omega) hyes.1) (fun v w hv => ?_)
      obtain ⟨tb, p, la, lc, ls, hpt, hls, rfl, H⟩ := hv
      have H := St.pick [2, 3, 4, 5, 6, 0, 1, 7, 8, 9, 10] (pre := [_, _, _, _, _, _, _, _, _, _, _]) rfl H rfl
      refine l_ptup rfl rfl ?_
      refine l_pptr rfl rfl ?_
      refine l_pslice rfl rfl ?_
      refine l_pptr rfl rfl ?_
      refine l_pslice rfl rfl ?_
      refine l_nil ?_
      refine w_seq ?_
      refine w_seq ?_
      refine w_region ?_
      refine l_pslice rfl rfl ?_
      refine l_v rfl (q_lenSlice rfl el_57 rfl) ?_
      refine l_pbool rfl rfl ?_
      refine l_nil ?_
      refine w_cond rfl (fun c4 => ?_) (fun c4 => ?_)
      · try simp only [sH] at c4
        refine w_seq ?_
        refine w_region ?_
        refine b_call rfl cb_19 rfl (works_ok hN H) (fun v w hv => ?_)
        obtain ⟨rfl, H⟩ := hv
        refine l_pbool rfl rfl ?_
        refine l_nil ?_
        refine w_ret ?_
        refine fin1 (v := .bool _) rfl ?_
        exact ⟨rfl, _, H⟩
      · try simp only [sH] at c4
        have hmk := made_adds (readR bs).1 (readR bs).2.1 hyes.2.1 h4k (readR bs).2.1.length (Nat.le_refl _)
        rw [List.take_length] at hmk
        have hmin : min es.length 300 = (readR bs).2.1.length := by omega
        have hlen : ls.length = es.length := by rw [← List.length_map (f := EvM.e), hls, hmin, hes, hmk, List.length_map, hen]
        have hfile : fileT (madeG (readR bs).1 (es.map EvM.e) (min es.length 300)).1 = bs := by rw [hmin, hes, hmk]; exact hyes.2.2.2
        refine w_skip ?_
        refine w_seq ?_
        refine w_drawT [18] [14] [(0, 0), (1, 0), (2, 0), (3, 0), (4, 0), (5, 0), (6, 0), (7, 0), (8, 0), (9, 0), (10, 0), (13, 0), (14, 1), (11, 2), (12, 2), (15, 0), (16, 0), (17, 0), (18, 2), (19, 0), (20, 0)] mixed (by kernel_rfl) (fun _ _ _ h => fin_panic h) H (fun H => ?_)
        refine r_pptr rfl rfl rfl ?_
        refine r_w rfl rfl (fun w => q_neqNilF rfl pt_61 rfl rfl) ?_
        refine r_pbool rfl rfl rfl ?_
        refine r_pslice rfl rfl rfl ?_
        refine r_w rfl rfl (fun w => q_lenSlice rfl el_57 rfl) ?_
        refine r_pslice rfl rfl rfl ?_
        refine r_w rfl rfl (fun w => q_lenSlice rfl el_57 rfl) ?_
        refine r_pbool rfl rfl rfl ?_
        refine r_pickT (v := .bool _) rfl rfl rfl rfl ?_
        refine r_pbool rfl rfl rfl ?_
        refine r_split 84 rfl (fun h84 => ?_) (fun h84 => absurd h84 (by simp [hlen]))
        try simp only [sH] at h84
        refine r_pptr rfl rfl rfl ?_
        refine r_pslice rfl rfl rfl ?_
        refine r_v rfl rfl (fun w hS => q_bytesStr (bs := bs) rfl by_28 st_9 rfl (hr.use hS 11 rfl) hl) ?_
        refine r_do rfl ?_
        refine b_call rfl cb_23 rfl (TBytes_ok hN H (madeG_ok _ _ _).ok hpt (madeG_ok _ _ _).pl) (fun v w hv => ?_)
        obtain ⟨fa, fc, hr2, H⟩ := hv
        rw [hfile] at hr2 H
        subst hr2
        refine l_nil ⟨fun _ _ => (by first | exact H | exact H.drop1 | exact H.drop1.drop1 | exact H.drop1.drop1.drop1), ?_⟩
        refine r_do rfl ?_
        refine l_v rfl (q_bytesStr (bs := bs) rfl by_28 st_9 rfl ((H.rowInv (i := 0) rfl).2.2.2.2) rfl) ?_
        refine l_nil ⟨fun _ _ => (by first | exact H | exact H.drop1 | exact H.drop1.drop1 | exact H.drop1.drop1.drop1), ?_⟩
        refine r_w rfl rfl (fun w => q_pure (s_eql rfl rfl)) ?_
        refine r_pickT (v := .bool _) rfl rfl rfl rfl ?_
        refine r_pbool rfl rfl rfl ?_
        refine r_split 92 rfl (fun h92 => ?_) (fun h92 => absurd h92 (by simp))
        try simp only [sH] at h92
        refine r_do rfl ?_
        refine b_call rfl cb_19 rfl (works_ok hN H) (fun v w hv => ?_)
        obtain ⟨rfl, H⟩ := hv
        refine l_nil ⟨(fun h => nomatch h), ?_⟩
        refine r_pickT (v := .bool _) rfl rfl rfl rfl ?_
        refine r_pbool rfl rfl rfl ?_
        refine r_nil ?_
        refine w_ret ?_
        refine fin1 (v := .bool _) rfl ?_
        exact ⟨rfl, _, H⟩

end Go.Proofs.YtfpmnhmdphaceaaDoor
