/- The laws' helper steps: what it comes to, and what it meets. -/
import Derived.Test.YtcmmhpkgjcepdaaTre29
namespace Go.Proofs.Ytcmmhpkgjcepdaa
open Go.EW
attribute [local irreducible] EW.W EW.L EW.fin block8 outB shaL
set_option linter.unusedVariables false
set_option linter.unusedSimpArgs false
attribute [local irreducible] swp headH leafH nodeH inclN sidesN bothN lenN splitN upN incdR extR pathV incR conR unlikeN oneB metB
set_option maxRecDepth 8000 in
set_option maxHeartbeats 2000000 in
theorem steps_ok (k : Nat) : ∀ {W w : World} {F : List Seg} {aa ab pa : Option Addr} {m n ca cb pn pc : Nat} {wh : Bool} {la lb : List Ent} {old : List UInt8} {path : List (List UInt8)}, St W w F → RdIn W F aa (entsV la) → RdIn W F ab (entsV lb) → la.length = m → lb.length = n → m ≤ ca → n ≤ cb → EntsOk la → EntsOk lb → old.length = 32 → PathOk path → RdIn W F pa (pathV path) → path.length = lenN m n wh → pn = path.length → pn ≤ pc → 1 ≤ m → m ≤ n → n = k → n ≤ 4398046511000 →
    Ok Try.prog 40 [.slice aa m ca, .slice ab n cb, .bool wh, .agg (old.map B).toArray, .slice pa pn pc].toArray w (fun r w' => ∃ fd : Bool, r = .tuple #[.agg ((bothN m n wh old path).1.map B).toArray, .agg ((bothN m n wh old path).2.map B).toArray, .bool fd] ∧ StepLaw la lb (bothN m n wh old path).1 (bothN m n wh old path).2 fd ∧ St W w' F) := by
  induction k using Nat.strongRecOn with
  | _ k ih =>
    intro W w F aa ab pa m n ca cb pn pc wh la lb old path H hra hrb hla hlb hca hcb hoa hob hold hpo hpr hpl hpn hpc hm hmn hnk hnb
    subst hnk
    subst hpn
    have hple : path.length ≤ n := by rw [hpl]; unfold lenN; exact lenF_le _ _ _ _
    refine enter (n := 154) (rs := #[.cell 10 24, .cell 11 24, .tmp 12]) Try.func40 rfl rfl rfl rfl ?_
    refine w_seq ?_
    refine w_region ?_
    refine b_box rfl rfl rfl H (fun b8 w H => ?_)
    refine b_alloc rfl ze_24 rfl H (fun b10 w H => ?_)
    refine b_alloc rfl ze_24 rfl H (fun b11 w H => ?_)
    refine l_pbool rfl rfl ?_
    refine l_nil ?_
    refine w_seq ?_
    refine w_seq ?_
    refine w_region ?_
    refine l_pslice rfl rfl ?_
    refine l_v rfl (q_lenSlice rfl el_22 rfl) ?_
    refine l_pslice rfl rfl ?_
    refine l_v rfl (q_lenSlice rfl el_22 rfl) ?_
    refine l_pbool rfl rfl ?_
    refine l_nil ?_
    refine w_cond rfl (fun c1 => ?_) (fun c1 => ?_)
    · try simp only [decide_eq_true_eq, decide_eq_false_iff_not, Bool.not_eq_true', Bool.not_eq_false', beq_iff_eq, beq_eq_false_iff_ne, bne_iff_ne, bne_eq_false_iff_eq, ne_eq, Int.not_lt, Int.not_le] at c1
      have e : m = n := by omega
      subst e
      rw [lenN_eq hm] at hpl
      have hbe := bothN_eq (wh := wh) (old := old) (p := path) hm
      refine w_seq ?_
      refine w_seq ?_
      refine w_region ?_
      refine l_pbool rfl rfl ?_
      refine l_nil ?_
      refine w_cond rfl (fun c2 => ?_) (fun c2 => ?_)
      · try simp only [decide_eq_true_eq, decide_eq_false_iff_not, Bool.not_eq_true', Bool.not_eq_false', beq_iff_eq, beq_eq_false_iff_ne, bne_iff_ne, bne_eq_false_iff_eq, ne_eq, Int.not_lt, Int.not_le] at c2
        obtain rfl : wh = true := c2
        refine w_seq ?_
        refine w_drawX [7] [0, 1, 2] 2 [(0, 1), (1, 1), (2, 1), (3, 0), (4, 0), (5, 2), (6, 2), (7, 2), (8, 0)] mixed (by kernel_rfl) (fun _ _ _ h => fin_panic h) H (fun H => ?_)
        refine r_v rfl rfl (fun w hS => q_loadN (vs := old.map B) rfl ag_24 rfl (by simp [hold]) (hS.cells 0 rfl)) ?_
        refine r_v rfl rfl (fun w hS => q_loadN (vs := old.map B) rfl ag_24 rfl (by simp [hold]) (hS.cells 0 rfl)) ?_
        refine r_v rfl rfl (fun w hS => q_loadN (vs := old.map B) rfl ag_24 rfl (by simp [hold]) (hS.cells 0 rfl)) ?_
        refine r_pslice rfl rfl rfl ?_
        refine r_pslice rfl rfl rfl ?_
        refine r_do rfl ?_
        refine b_call rfl cb_78 rfl (met_ok H hold (hra.up 3 rfl) (hrb.up 3 rfl) hla hlb hca hcb hoa hob (by omega)) (fun v w hv => ?_)
        obtain ⟨rfl, H⟩ := hv
        refine l_nil ⟨fun _ _ => Sx.tl H 2 rfl, ?_⟩
        refine r_do rfl ?_
        refine b_store (vs := (old).map B) rfl sz_24 rfl rfl rfl (by simp [hold]) (all1 _) H 1 rfl (by simp [z32, hold]) (putL_all (by simp [z32, hold])) (fun w H => ?_)
        refine l_nil ⟨fun _ _ => Sx.tl H 2 rfl, ?_⟩
        refine r_do rfl ?_
        refine b_store (vs := (old).map B) rfl sz_24 rfl rfl rfl (by simp [hold]) (all1 _) H 0 rfl (by simp [z32, hold]) (putL_all (by simp [z32, hold])) (fun w H => ?_)
        refine l_nil ⟨(fun h => nomatch h), ?_⟩
        refine r_pbool rfl rfl rfl ?_
        refine r_nil ?_
        refine w_ret ?_
        refine finc2ct (vs := (old).map B) (vs2 := (old).map B) rfl rfl ag_24 (by simp [hold]) (by simp [hold]) (H.cells 1 rfl) (H.cells 0 rfl) rfl ?_
        refine ⟨metB old la lb, by first | (rw [hbe]; done) | (rw [hbe]; rfl), ?_, (((H.erase 0).erase 0).erase 0)⟩
        rw [hbe]
        exact step_eq (by omega)
      · try simp only [decide_eq_true_eq, decide_eq_false_iff_not, Bool.not_eq_true', Bool.not_eq_false', beq_iff_eq, beq_eq_false_iff_ne, bne_iff_ne, bne_eq_false_iff_eq, ne_eq, Int.not_lt, Int.not_le] at c2
        obtain rfl : wh = false := c2
        have h0 : 0 < path.length := by rw [hpl]; decide
        obtain ⟨bp, op, hap, _⟩ := path_cells hpo (hpr.use H 3 rfl) h0
        have hbe2 : bothN m m false old path = (path[0], path[0]) := by rw [hbe, pathD hpo h0]; rfl
        refine w_skip ?_
        refine w_seq ?_
        refine w_drawX [13] [2, 5, 8] 2 [(0, 0), (1, 0), (2, 1), (3, 0), (4, 0), (5, 1), (6, 0), (7, 0), (8, 1), (9, 0), (10, 0), (11, 2), (12, 2), (13, 2), (14, 0)] mixed (by kernel_rfl) (fun _ _ _ h => fin_panic h) H (fun H => ?_)
        refine r_pslice rfl rfl rfl ?_
        refine r_w rfl rfl (fun w => q_indexSliceE 0 rfl el_42 rfl hap rfl rfl h0) ?_
        refine r_v rfl rfl (fun w hS => q_loadN (vs := (path[0]).map B) rfl ag_24 rfl (by simp [hpo _ (List.getElem_mem h0)]) (path_at2 hap hpo (hS.use hpr 1 rfl) h0)) ?_
        refine r_pslice rfl rfl rfl ?_
        refine r_w rfl rfl (fun w => q_indexSliceE 0 rfl el_42 rfl hap rfl rfl h0) ?_
        refine r_v rfl rfl (fun w hS => q_loadN (vs := (path[0]).map B) rfl ag_24 rfl (by simp [hpo _ (List.getElem_mem h0)]) (path_at2 hap hpo (hS.use hpr 1 rfl) h0)) ?_
        refine r_pslice rfl rfl rfl ?_
        refine r_w rfl rfl (fun w => q_indexSliceE 0 rfl el_42 rfl hap rfl rfl h0) ?_
        refine r_v rfl rfl (fun w hS => q_loadN (vs := (path[0]).map B) rfl ag_24 rfl (by simp [hpo _ (List.getElem_mem h0)]) (path_at2 hap hpo (hS.use hpr 1 rfl) h0)) ?_
        refine r_pslice rfl rfl rfl ?_
        refine r_pslice rfl rfl rfl ?_
        refine r_do rfl ?_
        refine b_call rfl cb_78 rfl (met_ok H (hpo _ (List.getElem_mem h0)) (hra.up 3 rfl) (hrb.up 3 rfl) hla hlb hca hcb hoa hob (by omega)) (fun v w hv => ?_)
        obtain ⟨rfl, H⟩ := hv
        refine l_nil ⟨fun _ _ => Sx.tl H 2 rfl, ?_⟩
        refine r_do rfl ?_
        refine b_store (vs := (path[0]).map B) rfl sz_24 rfl rfl rfl (by simp [hpo _ (List.getElem_mem h0)]) (all1 _) H 1 rfl (by simp [z32, hpo _ (List.getElem_mem h0)]) (putL_all (by simp [z32, hpo _ (List.getElem_mem h0)])) (fun w H => ?_)
        refine l_nil ⟨fun _ _ => Sx.tl H 2 rfl, ?_⟩
        refine r_do rfl ?_
        refine b_store (vs := (path[0]).map B) rfl sz_24 rfl rfl rfl (by simp [hpo _ (List.getElem_mem h0)]) (all1 _) H 0 rfl (by simp [z32, hpo _ (List.getElem_mem h0)]) (putL_all (by simp [z32, hpo _ (List.getElem_mem h0)])) (fun w H => ?_)
        refine l_nil ⟨(fun h => nomatch h), ?_⟩
        refine r_pbool rfl rfl rfl ?_
        refine r_nil ?_
        refine w_ret ?_
        refine finc2ct (vs := (path[0]).map B) (vs2 := (path[0]).map B) rfl rfl ag_24 (by simp [hpo _ (List.getElem_mem h0)]) (by simp [hpo _ (List.getElem_mem h0)]) (H.cells 1 rfl) (H.cells 0 rfl) rfl ?_
        refine ⟨metB path[0] la lb, by first | (rw [hbe2]; done) | (rw [hbe2]; rfl), ?_, (((H.erase 0).erase 0).erase 0)⟩
        rw [hbe2]
        exact step_eq (by omega)
    · try simp only [decide_eq_true_eq, decide_eq_false_iff_not, Bool.not_eq_true', Bool.not_eq_false', beq_iff_eq, beq_eq_false_iff_ne, bne_iff_ne, bne_eq_false_iff_eq, ne_eq, Int.not_lt, Int.not_le] at c1
      have hne : m < n := by omega
      have h2 : 2 ≤ n := by omega
      have hsp := splitN_spec (n := n) (by omega)
      have hpos := lenN_pos (wh := wh) hm hne
      have hlp : path.length - 1 < path.length := by omega
      obtain ⟨bp, op, hap, hcp⟩ := path_cells hpo (hpr.use H 3 rfl) hlp
      have hll := hpo _ (List.getElem_mem hlp)
      have hpt := hpo.take (path.length - 1)
      rw [lenN_ne hm hne] at hpl
      refine w_skip ?_
      refine w_seq ?_
      refine w_region ?_
      refine l_pslice rfl rfl ?_
      refine l_v rfl (q_lenSlice rfl el_22 rfl) ?_
      refine b_call rfl cb_73 rfl (split2_ok (n := n) ⟨by omega, by omega⟩) (fun v w hv => ?_)
      obtain ⟨rfl, rfl⟩ := hv
      refine l_pint rfl rfl ?_
      refine l_nil ?_
      refine w_seq ?_
      refine w_region ?_
      refine l_pslice rfl rfl ?_
      refine l_v rfl (q_lenSlice rfl el_42 rfl) ?_
      first | refine l_v rfl (q_subN (a := path.length) (b := 1) rfl rfl rfl ⟨by omega, by omega⟩) ?_ | refine l_pint rfl rfl ?_
      refine l_pint rfl rfl ?_
      refine l_nil ?_
      refine w_seq ?_
      refine w_seq ?_
      refine w_region ?_
      refine l_pslice rfl rfl ?_
      refine l_v rfl (q_lenSlice rfl el_22 rfl) ?_
      refine l_pint rfl rfl ?_
      refine l_pbool rfl rfl ?_
      refine l_nil ?_
      refine w_cond rfl (fun c3 => ?_) (fun c3 => ?_)
      · try simp only [decide_eq_true_eq, decide_eq_false_iff_not, Bool.not_eq_true', Bool.not_eq_false', beq_iff_eq, beq_eq_false_iff_ne, bne_iff_ne, bne_eq_false_iff_eq, ne_eq, Int.not_lt, Int.not_le] at c3
        rw [if_pos (by omega)] at hpl
        have hptl : (path.take (path.length - 1)).length = lenN m (splitN n) wh := by rw [List.length_take]; omega
        have hbl := bothN_len (splitN n) (wh := wh) (old := old) (Nat.le_refl _) hm (by omega) hold hpt hptl
        have hbe := bothN_le (wh := wh) (old := old) (p := path) hm hne (by omega)
        rw [pathD hpo hlp] at hbe
        obtain ⟨P, hP⟩ : ∃ P : Pair, P = ((bothN m (splitN n) wh old (path.take (path.length - 1))).2, path[path.length - 1]) := ⟨_, rfl⟩
        have hPo : PairOk P := by rw [hP]; exact ⟨hbl.2, hll⟩
        refine w_cutG (G := Nat × Nat × Bool) [15, 16, 17, 58, 59, 60, 61, 62, 63, 64, 65, 66, 67, 68, 69, 70, 71] (fun ⟨p1, p2, fd⟩ => [(15, .pointer (some ⟨p1, 0, none⟩)), (16, .pointer (some ⟨p2, 0, none⟩)), (17, .bool fd)]) (fun ⟨p1, p2, fd⟩ w => StepLaw la (lb.take (splitN n)) (bothN m (splitN n) wh old (path.take (path.length - 1))).1 (bothN m (splitN n) wh old (path.take (path.length - 1))).2 fd ∧ St W w (blk p2 ((bothN m (splitN n) wh old (path.take (path.length - 1))).2.map B) 24 :: blk p1 ((bothN m (splitN n) wh old (path.take (path.length - 1))).1.map B) 24 :: blk b11 z32 24 :: blk b10 z32 24 :: blk b8 (old.map B) 24 :: F)) (fun _ => rfl) ?_ ?_
        · refine w_drawP [16, 17] [5] (.alt [(0, 0), (1, 0), (2, 0), (3, 0), (4, 0), (5, 1), (6, 0), (7, 0), (8, 0)] (.alt [(9, 2), (10, 0), (11, 0), (12, 0), (13, 0)] (.leaf [(14, 2), (15, 2), (16, 2), (17, 2), (18, 0)]) (.leaf [(15, 2), (14, 2), (16, 2), (17, 2), (18, 0)])) (.alt [] (.alt [(14, 2)] (.leaf [(9, 2), (10, 0), (11, 0), (12, 0), (13, 0), (15, 2), (16, 2), (17, 2), (18, 0)]) (.leaf [(15, 2), (9, 2), (10, 0), (11, 0), (12, 0), (13, 0), (16, 2), (17, 2), (18, 0)])) (.alt [(15, 2)] (.leaf [(9, 2), (10, 0), (11, 0), (12, 0), (13, 0), (14, 2), (16, 2), (17, 2), (18, 0)]) (.leaf [(14, 2), (9, 2), (10, 0), (11, 0), (12, 0), (13, 0), (16, 2), (17, 2), (18, 0)])))) mixed (by kernel_rfl) (fun _ _ _ h => fin_panic h) H (fun H => ?_)
          refine rp_alt ?_
          refine r_pslice rfl rfl rfl ?_
          refine r_pslice rfl rfl rfl ?_
          refine r_pint rfl rfl rfl ?_
          refine r_w rfl rfl (fun w => q_slice (h := splitN n) rfl el_22 rfl Bnd.none (Bnd.nat (by omega)) Bnd.none (by simp)) ?_
          refine r_pbool rfl rfl rfl ?_
          refine r_v rfl rfl (fun w hS => q_loadN (vs := old.map B) rfl ag_24 rfl (by simp [hold]) (hS.cells 2 rfl)) ?_
          refine r_pslice rfl rfl rfl ?_
          refine r_pint rfl rfl rfl ?_
          refine r_w rfl rfl (fun w => q_slice (h := path.length - 1) rfl el_42 rfl Bnd.none (Bnd.nat (by omega)) Bnd.none (by simp)) ?_
          refine rp_two ?_ ?_
          · refine rp_alt ?_
            refine r_do rfl ?_
            refine b_call rfl cb_40 rfl (ih (splitN n) (by omega) (n := splitN n) (wh := wh) (old := old) (path := (path.take (path.length - 1))) (la := la) (lb := lb.take (splitN n)) H (by first | exact (hra.up 3 rfl) | exact (hra.up 4 rfl) | exact (hra.up 5 rfl)) (by first | exact rdin_take5 (hrb.up 3 rfl) (splitN n) cb | exact rdin_take5 (hrb.up 4 rfl) (splitN n) cb | exact rdin_take5 (hrb.up 5 rfl) (splitN n) cb) hla (by rw [List.length_take]; omega) hca (by omega) hoa (hob.take _) hold hpt (by first | exact rdin_take32 hpo (hpr.up 3 rfl) (path.length - 1) pc | exact rdin_take32 hpo (hpr.up 4 rfl) (path.length - 1) pc | exact rdin_take32 hpo (hpr.up 5 rfl) (path.length - 1) pc) hptl (by rw [List.length_take]; omega) (by omega) (by omega) (by omega) rfl (by omega)) (fun v w hv => ?_)
            obtain ⟨fd', rfl, hlaw, H⟩ := hv
            refine l_nil ⟨fun _ _ => (by first | exact H | exact H.drop1 | exact H.drop1.drop1 | exact H.drop1.drop1.drop1), ?_⟩
            refine r_ptup rfl rfl rfl ?_
            refine r_pagg rfl rfl rfl ?_
            refine r_pagg rfl rfl rfl ?_
            refine r_pbool rfl rfl rfl ?_
            refine rp_two ?_ ?_
            · refine rp_leaf ?_
              refine r_do rfl ?_
              refine b_alloc rfl ze_24 rfl H (fun b15 w H => ?_)
              refine l_nil ⟨fun _ _ => (by first | exact H | exact H.drop1 | exact H.drop1.drop1 | exact H.drop1.drop1.drop1), ?_⟩
              refine r_do rfl ?_
              refine b_alloc rfl ze_24 rfl H (fun b16 w H => ?_)
              refine l_nil ⟨fun _ _ => (by first | exact H | exact H.drop1 | exact H.drop1.drop1 | exact H.drop1.drop1.drop1), ?_⟩
              refine r_do rfl ?_
              first | refine b_store (vs := ((bothN m (splitN n) wh old (path.take (path.length - 1))).1).map B) rfl sz_24 rfl rfl rfl (by simp [hbl.1]) (all1 _) H 0 rfl (by simp [hbl.1]) (putL_all (by simp [hbl.1])) (fun w H => ?_) | refine b_store (vs := ((bothN m (splitN n) wh old (path.take (path.length - 1))).1).map B) rfl sz_24 rfl rfl rfl (by simp [hbl.1]) (all1 _) H 1 rfl (by simp [hbl.1]) (putL_all (by simp [hbl.1])) (fun w H => ?_)
              refine l_nil ⟨(fun h => nomatch h), ?_⟩
              refine r_do rfl ?_
              first | refine b_store (vs := ((bothN m (splitN n) wh old (path.take (path.length - 1))).2).map B) rfl sz_24 rfl rfl rfl (by simp [hbl.2]) (all1 _) H 0 rfl (by simp [hbl.2]) (putL_all (by simp [hbl.2])) (fun w H => ?_) | refine b_store (vs := ((bothN m (splitN n) wh old (path.take (path.length - 1))).2).map B) rfl sz_24 rfl rfl rfl (by simp [hbl.2]) (all1 _) H 1 rfl (by simp [hbl.2]) (putL_all (by simp [hbl.2])) (fun w H => ?_)
              refine l_nil ⟨(fun h => nomatch h), ?_⟩
              refine r_pbool rfl rfl rfl ?_
              refine r_nil ?_
              refine ⟨by repeat' first | exact Agr.mix _ _ _ | exact Agr.refl _ _ | refine Agr.inner rfl ?_ | refine Agr.upd rfl ?_ | refine Agr.updL' rfl ?_, ?_⟩
              exact ⟨(b15, b16, fd'), ⟨rfl, rfl, rfl, trivial⟩, hlaw, by first | exact H | exact H.swap01⟩
            · refine rp_leaf ?_
              refine r_do rfl ?_
              refine b_alloc rfl ze_24 rfl H (fun b16 w H => ?_)
              refine l_nil ⟨fun _ _ => (by first | exact H | exact H.drop1 | exact H.drop1.drop1 | exact H.drop1.drop1.drop1), ?_⟩
              refine r_do rfl ?_
              refine b_alloc rfl ze_24 rfl H (fun b15 w H => ?_)
              refine l_nil ⟨fun _ _ => (by first | exact H | exact H.drop1 | exact H.drop1.drop1 | exact H.drop1.drop1.drop1), ?_⟩
              refine r_do rfl ?_
              first | refine b_store (vs := ((bothN m (splitN n) wh old (path.take (path.length - 1))).1).map B) rfl sz_24 rfl rfl rfl (by simp [hbl.1]) (all1 _) H 0 rfl (by simp [hbl.1]) (putL_all (by simp [hbl.1])) (fun w H => ?_) | refine b_store (vs := ((bothN m (splitN n) wh old (path.take (path.length - 1))).1).map B) rfl sz_24 rfl rfl rfl (by simp [hbl.1]) (all1 _) H 1 rfl (by simp [hbl.1]) (putL_all (by simp [hbl.1])) (fun w H => ?_)
              refine l_nil ⟨(fun h => nomatch h), ?_⟩
              refine r_do rfl ?_
              first | refine b_store (vs := ((bothN m (splitN n) wh old (path.take (path.length - 1))).2).map B) rfl sz_24 rfl rfl rfl (by simp [hbl.2]) (all1 _) H 0 rfl (by simp [hbl.2]) (putL_all (by simp [hbl.2])) (fun w H => ?_) | refine b_store (vs := ((bothN m (splitN n) wh old (path.take (path.length - 1))).2).map B) rfl sz_24 rfl rfl rfl (by simp [hbl.2]) (all1 _) H 1 rfl (by simp [hbl.2]) (putL_all (by simp [hbl.2])) (fun w H => ?_)
              refine l_nil ⟨(fun h => nomatch h), ?_⟩
              refine r_pbool rfl rfl rfl ?_
              refine r_nil ?_
              refine ⟨by repeat' first | exact Agr.mix _ _ _ | exact Agr.refl _ _ | refine Agr.inner rfl ?_ | refine Agr.upd rfl ?_ | refine Agr.updL' rfl ?_, ?_⟩
              exact ⟨(b15, b16, fd'), ⟨rfl, rfl, rfl, trivial⟩, hlaw, by first | exact H | exact H.swap01⟩
          · refine rp_alt ?_
            refine rp_two ?_ ?_
            · refine rp_alt ?_
              refine r_do rfl ?_
              refine b_alloc rfl ze_24 rfl H (fun b15 w H => ?_)
              refine l_nil ⟨fun _ _ => (by first | exact H | exact H.drop1 | exact H.drop1.drop1 | exact H.drop1.drop1.drop1), ?_⟩
              refine rp_two ?_ ?_
              · refine rp_leaf ?_
                refine r_do rfl ?_
                refine b_call rfl cb_40 rfl (ih (splitN n) (by omega) (n := splitN n) (wh := wh) (old := old) (path := (path.take (path.length - 1))) (la := la) (lb := lb.take (splitN n)) H (by first | exact (hra.up 3 rfl) | exact (hra.up 4 rfl) | exact (hra.up 5 rfl)) (by first | exact rdin_take5 (hrb.up 3 rfl) (splitN n) cb | exact rdin_take5 (hrb.up 4 rfl) (splitN n) cb | exact rdin_take5 (hrb.up 5 rfl) (splitN n) cb) hla (by rw [List.length_take]; omega) hca (by omega) hoa (hob.take _) hold hpt (by first | exact rdin_take32 hpo (hpr.up 3 rfl) (path.length - 1) pc | exact rdin_take32 hpo (hpr.up 4 rfl) (path.length - 1) pc | exact rdin_take32 hpo (hpr.up 5 rfl) (path.length - 1) pc) hptl (by rw [List.length_take]; omega) (by omega) (by omega) (by omega) rfl (by omega)) (fun v w hv => ?_)
                obtain ⟨fd', rfl, hlaw, H⟩ := hv
                refine l_nil ⟨fun _ _ => (by first | exact H | exact H.drop1 | exact H.drop1.drop1 | exact H.drop1.drop1.drop1), ?_⟩
                refine r_ptup rfl rfl rfl ?_
                refine r_pagg rfl rfl rfl ?_
                refine r_pagg rfl rfl rfl ?_
                refine r_pbool rfl rfl rfl ?_
                refine r_do rfl ?_
                refine b_alloc rfl ze_24 rfl H (fun b16 w H => ?_)
                refine l_nil ⟨fun _ _ => (by first | exact H | exact H.drop1 | exact H.drop1.drop1 | exact H.drop1.drop1.drop1), ?_⟩
                refine r_do rfl ?_
                first | refine b_store (vs := ((bothN m (splitN n) wh old (path.take (path.length - 1))).1).map B) rfl sz_24 rfl rfl rfl (by simp [hbl.1]) (all1 _) H 0 rfl (by simp [hbl.1]) (putL_all (by simp [hbl.1])) (fun w H => ?_) | refine b_store (vs := ((bothN m (splitN n) wh old (path.take (path.length - 1))).1).map B) rfl sz_24 rfl rfl rfl (by simp [hbl.1]) (all1 _) H 1 rfl (by simp [hbl.1]) (putL_all (by simp [hbl.1])) (fun w H => ?_)
                refine l_nil ⟨(fun h => nomatch h), ?_⟩
                refine r_do rfl ?_
                first | refine b_store (vs := ((bothN m (splitN n) wh old (path.take (path.length - 1))).2).map B) rfl sz_24 rfl rfl rfl (by simp [hbl.2]) (all1 _) H 0 rfl (by simp [hbl.2]) (putL_all (by simp [hbl.2])) (fun w H => ?_) | refine b_store (vs := ((bothN m (splitN n) wh old (path.take (path.length - 1))).2).map B) rfl sz_24 rfl rfl rfl (by simp [hbl.2]) (all1 _) H 1 rfl (by simp [hbl.2]) (putL_all (by simp [hbl.2])) (fun w H => ?_)
                refine l_nil ⟨(fun h => nomatch h), ?_⟩
                refine r_pbool rfl rfl rfl ?_
                refine r_nil ?_
                refine ⟨by repeat' first | exact Agr.mix _ _ _ | exact Agr.refl _ _ | refine Agr.inner rfl ?_ | refine Agr.upd rfl ?_ | refine Agr.updL' rfl ?_, ?_⟩
                exact ⟨(b15, b16, fd'), ⟨rfl, rfl, rfl, trivial⟩, hlaw, by first | exact H | exact H.swap01⟩
              · refine rp_leaf ?_
                refine r_do rfl ?_
                refine b_alloc rfl ze_24 rfl H (fun b16 w H => ?_)
                refine l_nil ⟨fun _ _ => (by first | exact H | exact H.drop1 | exact H.drop1.drop1 | exact H.drop1.drop1.drop1), ?_⟩
                refine r_do rfl ?_
                refine b_call rfl cb_40 rfl (ih (splitN n) (by omega) (n := splitN n) (wh := wh) (old := old) (path := (path.take (path.length - 1))) (la := la) (lb := lb.take (splitN n)) H (by first | exact (hra.up 3 rfl) | exact (hra.up 4 rfl) | exact (hra.up 5 rfl)) (by first | exact rdin_take5 (hrb.up 3 rfl) (splitN n) cb | exact rdin_take5 (hrb.up 4 rfl) (splitN n) cb | exact rdin_take5 (hrb.up 5 rfl) (splitN n) cb) hla (by rw [List.length_take]; omega) hca (by omega) hoa (hob.take _) hold hpt (by first | exact rdin_take32 hpo (hpr.up 3 rfl) (path.length - 1) pc | exact rdin_take32 hpo (hpr.up 4 rfl) (path.length - 1) pc | exact rdin_take32 hpo (hpr.up 5 rfl) (path.length - 1) pc) hptl (by rw [List.length_take]; omega) (by omega) (by omega) (by omega) rfl (by omega)) (fun v w hv => ?_)
                obtain ⟨fd', rfl, hlaw, H⟩ := hv
                refine l_nil ⟨fun _ _ => (by first | exact H | exact H.drop1 | exact H.drop1.drop1 | exact H.drop1.drop1.drop1), ?_⟩
                refine r_ptup rfl rfl rfl ?_
                refine r_pagg rfl rfl rfl ?_
                refine r_pagg rfl rfl rfl ?_
                refine r_pbool rfl rfl rfl ?_
                refine r_do rfl ?_
                first | refine b_store (vs := ((bothN m (splitN n) wh old (path.take (path.length - 1))).1).map B) rfl sz_24 rfl rfl rfl (by simp [hbl.1]) (all1 _) H 0 rfl (by simp [hbl.1]) (putL_all (by simp [hbl.1])) (fun w H => ?_) | refine b_store (vs := ((bothN m (splitN n) wh old (path.take (path.length - 1))).1).map B) rfl sz_24 rfl rfl rfl (by simp [hbl.1]) (all1 _) H 1 rfl (by simp [hbl.1]) (putL_all (by simp [hbl.1])) (fun w H => ?_)
                refine l_nil ⟨(fun h => nomatch h), ?_⟩
                refine r_do rfl ?_
                first | refine b_store (vs := ((bothN m (splitN n) wh old (path.take (path.length - 1))).2).map B) rfl sz_24 rfl rfl rfl (by simp [hbl.2]) (all1 _) H 0 rfl (by simp [hbl.2]) (putL_all (by simp [hbl.2])) (fun w H => ?_) | refine b_store (vs := ((bothN m (splitN n) wh old (path.take (path.length - 1))).2).map B) rfl sz_24 rfl rfl rfl (by simp [hbl.2]) (all1 _) H 1 rfl (by simp [hbl.2]) (putL_all (by simp [hbl.2])) (fun w H => ?_)
                refine l_nil ⟨(fun h => nomatch h), ?_⟩
                refine r_pbool rfl rfl rfl ?_
                refine r_nil ?_
                refine ⟨by repeat' first | exact Agr.mix _ _ _ | exact Agr.refl _ _ | refine Agr.inner rfl ?_ | refine Agr.upd rfl ?_ | refine Agr.updL' rfl ?_, ?_⟩
                exact ⟨(b15, b16, fd'), ⟨rfl, rfl, rfl, trivial⟩, hlaw, by first | exact H | exact H.swap01⟩
            · refine rp_alt ?_
              refine r_do rfl ?_
              refine b_alloc rfl ze_24 rfl H (fun b16 w H => ?_)
              refine l_nil ⟨fun _ _ => (by first | exact H | exact H.drop1 | exact H.drop1.drop1 | exact H.drop1.drop1.drop1), ?_⟩
              refine rp_two ?_ ?_
              · refine rp_leaf ?_
                refine r_do rfl ?_
                refine b_call rfl cb_40 rfl (ih (splitN n) (by omega) (n := splitN n) (wh := wh) (old := old) (path := (path.take (path.length - 1))) (la := la) (lb := lb.take (splitN n)) H (by first | exact (hra.up 3 rfl) | exact (hra.up 4 rfl) | exact (hra.up 5 rfl)) (by first | exact rdin_take5 (hrb.up 3 rfl) (splitN n) cb | exact rdin_take5 (hrb.up 4 rfl) (splitN n) cb | exact rdin_take5 (hrb.up 5 rfl) (splitN n) cb) hla (by rw [List.length_take]; omega) hca (by omega) hoa (hob.take _) hold hpt (by first | exact rdin_take32 hpo (hpr.up 3 rfl) (path.length - 1) pc | exact rdin_take32 hpo (hpr.up 4 rfl) (path.length - 1) pc | exact rdin_take32 hpo (hpr.up 5 rfl) (path.length - 1) pc) hptl (by rw [List.length_take]; omega) (by omega) (by omega) (by omega) rfl (by omega)) (fun v w hv => ?_)
                obtain ⟨fd', rfl, hlaw, H⟩ := hv
                refine l_nil ⟨fun _ _ => (by first | exact H | exact H.drop1 | exact H.drop1.drop1 | exact H.drop1.drop1.drop1), ?_⟩
                refine r_ptup rfl rfl rfl ?_
                refine r_pagg rfl rfl rfl ?_
                refine r_pagg rfl rfl rfl ?_
                refine r_pbool rfl rfl rfl ?_
                refine r_do rfl ?_
                refine b_alloc rfl ze_24 rfl H (fun b15 w H => ?_)
                refine l_nil ⟨fun _ _ => (by first | exact H | exact H.drop1 | exact H.drop1.drop1 | exact H.drop1.drop1.drop1), ?_⟩
                refine r_do rfl ?_
                first | refine b_store (vs := ((bothN m (splitN n) wh old (path.take (path.length - 1))).1).map B) rfl sz_24 rfl rfl rfl (by simp [hbl.1]) (all1 _) H 0 rfl (by simp [hbl.1]) (putL_all (by simp [hbl.1])) (fun w H => ?_) | refine b_store (vs := ((bothN m (splitN n) wh old (path.take (path.length - 1))).1).map B) rfl sz_24 rfl rfl rfl (by simp [hbl.1]) (all1 _) H 1 rfl (by simp [hbl.1]) (putL_all (by simp [hbl.1])) (fun w H => ?_)
                refine l_nil ⟨(fun h => nomatch h), ?_⟩
                refine r_do rfl ?_
                first | refine b_store (vs := ((bothN m (splitN n) wh old (path.take (path.length - 1))).2).map B) rfl sz_24 rfl rfl rfl (by simp [hbl.2]) (all1 _) H 0 rfl (by simp [hbl.2]) (putL_all (by simp [hbl.2])) (fun w H => ?_) | refine b_store (vs := ((bothN m (splitN n) wh old (path.take (path.length - 1))).2).map B) rfl sz_24 rfl rfl rfl (by simp [hbl.2]) (all1 _) H 1 rfl (by simp [hbl.2]) (putL_all (by simp [hbl.2])) (fun w H => ?_)
                refine l_nil ⟨(fun h => nomatch h), ?_⟩
                refine r_pbool rfl rfl rfl ?_
                refine r_nil ?_
                refine ⟨by repeat' first | exact Agr.mix _ _ _ | exact Agr.refl _ _ | refine Agr.inner rfl ?_ | refine Agr.upd rfl ?_ | refine Agr.updL' rfl ?_, ?_⟩
                exact ⟨(b15, b16, fd'), ⟨rfl, rfl, rfl, trivial⟩, hlaw, by first | exact H | exact H.swap01⟩
              · refine rp_leaf ?_
                refine r_do rfl ?_
                refine b_alloc rfl ze_24 rfl H (fun b15 w H => ?_)
                refine l_nil ⟨fun _ _ => (by first | exact H | exact H.drop1 | exact H.drop1.drop1 | exact H.drop1.drop1.drop1), ?_⟩
                refine r_do rfl ?_
                refine b_call rfl cb_40 rfl (ih (splitN n) (by omega) (n := splitN n) (wh := wh) (old := old) (path := (path.take (path.length - 1))) (la := la) (lb := lb.take (splitN n)) H (by first | exact (hra.up 3 rfl) | exact (hra.up 4 rfl) | exact (hra.up 5 rfl)) (by first | exact rdin_take5 (hrb.up 3 rfl) (splitN n) cb | exact rdin_take5 (hrb.up 4 rfl) (splitN n) cb | exact rdin_take5 (hrb.up 5 rfl) (splitN n) cb) hla (by rw [List.length_take]; omega) hca (by omega) hoa (hob.take _) hold hpt (by first | exact rdin_take32 hpo (hpr.up 3 rfl) (path.length - 1) pc | exact rdin_take32 hpo (hpr.up 4 rfl) (path.length - 1) pc | exact rdin_take32 hpo (hpr.up 5 rfl) (path.length - 1) pc) hptl (by rw [List.length_take]; omega) (by omega) (by omega) (by omega) rfl (by omega)) (fun v w hv => ?_)
                obtain ⟨fd', rfl, hlaw, H⟩ := hv
                refine l_nil ⟨fun _ _ => (by first | exact H | exact H.drop1 | exact H.drop1.drop1 | exact H.drop1.drop1.drop1), ?_⟩
                refine r_ptup rfl rfl rfl ?_
                refine r_pagg rfl rfl rfl ?_
                refine r_pagg rfl rfl rfl ?_
                refine r_pbool rfl rfl rfl ?_
                refine r_do rfl ?_
                first | refine b_store (vs := ((bothN m (splitN n) wh old (path.take (path.length - 1))).1).map B) rfl sz_24 rfl rfl rfl (by simp [hbl.1]) (all1 _) H 0 rfl (by simp [hbl.1]) (putL_all (by simp [hbl.1])) (fun w H => ?_) | refine b_store (vs := ((bothN m (splitN n) wh old (path.take (path.length - 1))).1).map B) rfl sz_24 rfl rfl rfl (by simp [hbl.1]) (all1 _) H 1 rfl (by simp [hbl.1]) (putL_all (by simp [hbl.1])) (fun w H => ?_)
                refine l_nil ⟨(fun h => nomatch h), ?_⟩
                refine r_do rfl ?_
                first | refine b_store (vs := ((bothN m (splitN n) wh old (path.take (path.length - 1))).2).map B) rfl sz_24 rfl rfl rfl (by simp [hbl.2]) (all1 _) H 0 rfl (by simp [hbl.2]) (putL_all (by simp [hbl.2])) (fun w H => ?_) | refine b_store (vs := ((bothN m (splitN n) wh old (path.take (path.length - 1))).2).map B) rfl sz_24 rfl rfl rfl (by simp [hbl.2]) (all1 _) H 1 rfl (by simp [hbl.2]) (putL_all (by simp [hbl.2])) (fun w H => ?_)
                refine l_nil ⟨(fun h => nomatch h), ?_⟩
                refine r_pbool rfl rfl rfl ?_
                refine r_nil ?_
                refine ⟨by repeat' first | exact Agr.mix _ _ _ | exact Agr.refl _ _ | refine Agr.inner rfl ?_ | refine Agr.upd rfl ?_ | refine Agr.updL' rfl ?_, ?_⟩
                exact ⟨(b15, b16, fd'), ⟨rfl, rfl, rfl, trivial⟩, hlaw, by first | exact H | exact H.swap01⟩
        · rintro ⟨p1, p2, fd⟩ ρ1 w ⟨hlaw, H⟩
          refine w_seq ?_
          refine w_drawT [7] [0, 4] [(0, 1), (1, 0), (2, 0), (3, 0), (4, 1), (5, 0), (6, 2), (7, 2)] mixed (by kernel_rfl) (fun _ _ _ h => fin_panic h) H (fun H => ?_)
          refine r_v rfl rfl (fun w hS => q_loadN (vs := ((bothN m (splitN n) wh old (path.take (path.length - 1))).2).map B) rfl ag_24 rfl (by simp [hbl.2]) (hS.cells 0 rfl)) ?_
          refine r_pslice rfl rfl rfl ?_
          refine r_pint rfl rfl rfl ?_
          refine r_w rfl rfl (fun w => q_indexSliceE (path.length - 1) rfl el_42 rfl hap rfl rfl (by omega)) ?_
          refine r_v rfl rfl (fun w hS => q_loadN (vs := (path[path.length - 1]).map B) rfl ag_24 rfl (by simp [hll]) (path_at2 hap hpo (hpr.use hS 5 rfl) hlp)) ?_
          refine r_w rfl rfl (fun w => q_build (cs := P.cells) rfl sp_116 (by rw [hP]; exact fill_pair hbl.2 hll)) ?_
          refine r_do rfl ?_
          refine b_alloc rfl ze_116 rfl H (fun b18 w H => ?_)
          refine l_nil ⟨fun _ _ => (by first | exact H | exact H.drop1 | exact H.drop1.drop1 | exact H.drop1.drop1.drop1), ?_⟩
          refine r_do rfl ?_
          refine b_store (vs := P.cells) rfl sz_116 rfl rfl rfl (by rw [pair_len hPo]; rfl) (all1 _) H 0 rfl (by rw [pair_len hPo]; rfl) (putL_all (by rw [pair_len hPo]; rfl)) (fun w H => ?_)
          refine l_nil ⟨(fun h => nomatch h), ?_⟩
          refine r_nil ?_
          refine w_seq ?_
          refine w_drawT [13, 14] [0, 2, 4, 8] [(0, 1), (1, 0), (2, 1), (3, 0), (4, 1), (6, 0), (5, 2), (7, 0), (8, 1), (9, 0), (10, 2), (11, 2), (12, 0), (13, 2), (14, 2), (15, 0)] mixed (by kernel_rfl) (fun _ _ _ h => fin_panic h) H (fun H => ?_)
          refine r_v rfl rfl (fun w hS => q_loadN (vs := ((bothN m (splitN n) wh old (path.take (path.length - 1))).1).map B) rfl ag_24 rfl (by simp [hbl.1]) (hS.cells 2 rfl)) ?_
          refine r_w rfl rfl (fun w => q_fieldAddr rfl fo116_0 rfl) ?_
          refine r_v rfl rfl (fun w hS => q_loadN (vs := P.1.map B) rfl ag_24 rfl (by simp [hPo.1]) (pair_fst hPo (hS.cells 0 rfl))) ?_
          refine r_w rfl rfl (fun w => q_fieldAddr rfl fo116_1 rfl) ?_
          refine r_v rfl rfl (fun w hS => q_loadN (vs := P.2.map B) rfl ag_24 rfl (by simp [hPo.2]) (pair_snd hPo (hS.cells 0 rfl))) ?_
          refine r_pbool rfl rfl rfl ?_
          refine r_do rfl ?_
          refine b_call rfl cb_17 rfl (Node_ok H hPo.1 hPo.2) (fun v w hv => ?_)
          obtain ⟨rfl, H⟩ := hv
          refine l_nil ⟨fun _ _ => (by first | exact H | exact H.drop1 | exact H.drop1.drop1 | exact H.drop1.drop1.drop1), ?_⟩
          refine r_pbool rfl rfl rfl ?_
          refine r_split 85 rfl (fun h85 => ?_) (fun h85 => ?_)
          · try simp only [decide_eq_true_eq, decide_eq_false_iff_not, Bool.not_eq_true', Bool.not_eq_false', beq_iff_eq, beq_eq_false_iff_ne, bne_iff_ne, bne_eq_false_iff_eq, ne_eq, Int.not_lt, Int.not_le] at h85
            refine r_no1 rfl rfl ?_
            refine r_no rfl rfl ?_
            refine r_do rfl (l_no rfl (l_nil ⟨fun _ _ => (by first | exact H | exact H.drop1 | exact H.drop1.drop1), ?_⟩))
            refine r_do rfl (l_no rfl (l_nil ⟨fun _ _ => (by first | exact H | exact H.drop1 | exact H.drop1.drop1), ?_⟩))
            refine r_pickT (v := .bool _) rfl rfl rfl rfl ?_
            refine r_do rfl ?_
            refine b_store (vs := ((bothN m (splitN n) wh old (path.take (path.length - 1))).1).map B) rfl sz_24 rfl rfl rfl (by simp [hbl.1]) (all1 _) H 4 rfl (by simp [z32, hbl.1]) (putL_all (by simp [z32, hbl.1])) (fun w H => ?_)
            refine l_nil ⟨(fun h => nomatch h), ?_⟩
            refine r_do rfl ?_
            refine b_store (vs := (nodeH P.1 P.2).map B) rfl sz_24 rfl rfl rfl (by simp [nodeH_len]) (all1 _) H 3 rfl (by simp [z32, nodeH_len]) (putL_all (by simp [z32, nodeH_len])) (fun w H => ?_)
            refine l_nil ⟨(fun h => nomatch h), ?_⟩
            refine r_pbool rfl rfl rfl ?_
            refine r_nil ?_
            refine w_ret ?_
            refine finc2ct (vs := ((bothN m (splitN n) wh old (path.take (path.length - 1))).1).map B) (vs2 := (nodeH P.1 P.2).map B) rfl rfl ag_24 (by simp [hbl.1]) (by simp [nodeH_len]) (H.cells 4 rfl) (H.cells 3 rfl) rfl ?_
            exact ⟨true, by first | (rw [hbe, hP]; done) | (rw [hbe, hP]; rfl), step_true, ((((((H.erase 0).erase 0).erase 0).erase 0).erase 0).erase 0)⟩
          · try simp only [decide_eq_true_eq, decide_eq_false_iff_not, Bool.not_eq_true', Bool.not_eq_false', beq_iff_eq, beq_eq_false_iff_ne, bne_iff_ne, bne_eq_false_iff_eq, ne_eq, Int.not_lt, Int.not_le] at h85
            refine r_v rfl rfl (fun w hS => q_loadN (vs := P.cells) rfl ag_116 rfl (pair_len hPo) (hS.cells 0 rfl)) ?_
            refine r_pslice rfl rfl rfl ?_
            refine r_do rfl ?_
            refine b_call rfl cb_75 rfl (halves_ok2 H (hrb.up 6 rfl) hlb hcb hob h2 (by omega)) (fun v w hv => ?_)
            obtain ⟨rfl, H⟩ := hv
            refine l_nil ⟨fun _ _ => (by first | exact H | exact H.drop1 | exact H.drop1.drop1 | exact H.drop1.drop1.drop1), ?_⟩
            refine r_do rfl ?_
            refine b_call rfl cb_74 rfl (one_ok H hPo (halvesP_ok lb)) (fun v w hv => ?_)
            obtain ⟨rfl, H⟩ := hv
            refine l_nil ⟨fun _ _ => (by first | exact H | exact H.drop1 | exact H.drop1.drop1 | exact H.drop1.drop1.drop1), ?_⟩
            refine r_pickF (v := .bool _) rfl rfl rfl rfl ?_
            refine r_do rfl ?_
            refine b_store (vs := ((bothN m (splitN n) wh old (path.take (path.length - 1))).1).map B) rfl sz_24 rfl rfl rfl (by simp [hbl.1]) (all1 _) H 4 rfl (by simp [z32, hbl.1]) (putL_all (by simp [z32, hbl.1])) (fun w H => ?_)
            refine l_nil ⟨(fun h => nomatch h), ?_⟩
            refine r_do rfl ?_
            refine b_store (vs := (nodeH P.1 P.2).map B) rfl sz_24 rfl rfl rfl (by simp [nodeH_len]) (all1 _) H 3 rfl (by simp [z32, nodeH_len]) (putL_all (by simp [z32, nodeH_len])) (fun w H => ?_)
            refine l_nil ⟨(fun h => nomatch h), ?_⟩
            refine r_pbool rfl rfl rfl ?_
            refine r_nil ?_
            refine w_ret ?_
            refine finc2ct (vs := ((bothN m (splitN n) wh old (path.take (path.length - 1))).1).map B) (vs2 := (nodeH P.1 P.2).map B) rfl rfl ag_24 (by simp [hbl.1]) (by simp [nodeH_len]) (H.cells 4 rfl) (H.cells 3 rfl) rfl ?_
            obtain rfl : fd = false := by simpa using h85
            refine ⟨oneB P (halvesP lb), by first | (rw [hbe, hP]; done) | (rw [hbe, hP]; rfl), ?_, ((((((H.erase 0).erase 0).erase 0).erase 0).erase 0).erase 0)⟩
            rw [hbe, hP]
            subst hlb
            exact step_le h2 (by omega) hlaw
      · try simp only [decide_eq_true_eq, decide_eq_false_iff_not, Bool.not_eq_true', Bool.not_eq_false', beq_iff_eq, beq_eq_false_iff_ne, bne_iff_ne, bne_eq_false_iff_eq, ne_eq, Int.not_lt, Int.not_le] at c3
        rw [if_neg (by omega)] at hpl
        have hptl : (path.take (path.length - 1)).length = lenN (m - splitN n) (n - splitN n) false := by rw [List.length_take]; omega
        have hbl := bothN_len (n - splitN n) (m := m - splitN n) (wh := false) (old := old) (Nat.le_refl _) (by omega) (by omega) hold hpt hptl
        have hbe := bothN_gt (wh := wh) (old := old) (p := path) hne (by omega)
        rw [pathD hpo hlp] at hbe
        obtain ⟨P, hP⟩ : ∃ P : Pair, P = (path[path.length - 1], (bothN (m - splitN n) (n - splitN n) false old (path.take (path.length - 1))).1) := ⟨_, rfl⟩
        have hPo : PairOk P := by rw [hP]; exact ⟨hll, hbl.1⟩
        obtain ⟨Q, hQ⟩ : ∃ Q : Pair, Q = (path[path.length - 1], (bothN (m - splitN n) (n - splitN n) false old (path.take (path.length - 1))).2) := ⟨_, rfl⟩
        have hQo : PairOk Q := by rw [hQ]; exact ⟨hll, hbl.2⟩
        refine w_skip ?_
        refine w_cutG (G := Nat × Nat × Bool) [19, 20, 21, 91, 92, 93, 94, 95, 96, 97, 98, 99, 100, 101, 102, 103, 104, 105] (fun ⟨p1, p2, fd⟩ => [(19, .pointer (some ⟨p1, 0, none⟩)), (20, .pointer (some ⟨p2, 0, none⟩)), (21, .bool fd)]) (fun ⟨p1, p2, fd⟩ w => StepLaw (la.drop (splitN n)) (lb.drop (splitN n)) (bothN (m - splitN n) (n - splitN n) false old (path.take (path.length - 1))).1 (bothN (m - splitN n) (n - splitN n) false old (path.take (path.length - 1))).2 fd ∧ St W w (blk p2 ((bothN (m - splitN n) (n - splitN n) false old (path.take (path.length - 1))).2.map B) 24 :: blk p1 ((bothN (m - splitN n) (n - splitN n) false old (path.take (path.length - 1))).1.map B) 24 :: blk b11 z32 24 :: blk b10 z32 24 :: blk b8 (old.map B) 24 :: F)) (fun _ => rfl) ?_ ?_
        · refine w_drawP [17, 18] [6] (.alt [(0, 0), (1, 0), (2, 0), (3, 0), (4, 0), (5, 0), (6, 1), (7, 0), (8, 0), (9, 0)] (.alt [(10, 2), (11, 0), (12, 0), (13, 0), (14, 0)] (.leaf [(15, 2), (16, 2), (17, 2), (18, 2), (19, 0)]) (.leaf [(16, 2), (15, 2), (17, 2), (18, 2), (19, 0)])) (.alt [] (.alt [(15, 2)] (.leaf [(10, 2), (11, 0), (12, 0), (13, 0), (14, 0), (16, 2), (17, 2), (18, 2), (19, 0)]) (.leaf [(16, 2), (10, 2), (11, 0), (12, 0), (13, 0), (14, 0), (17, 2), (18, 2), (19, 0)])) (.alt [(16, 2)] (.leaf [(10, 2), (11, 0), (12, 0), (13, 0), (14, 0), (15, 2), (17, 2), (18, 2), (19, 0)]) (.leaf [(15, 2), (10, 2), (11, 0), (12, 0), (13, 0), (14, 0), (17, 2), (18, 2), (19, 0)])))) mixed (by kernel_rfl) (fun _ _ _ h => fin_panic h) H (fun H => ?_)
          refine rp_alt ?_
          refine r_pslice rfl rfl rfl ?_
          refine r_pint rfl rfl rfl ?_
          refine r_w rfl rfl (fun w => q_slice (l := splitN n) rfl el_22 rfl Bnd.none Bnd.none (Bnd.nat (by omega)) (by simp)) ?_
          refine r_pslice rfl rfl rfl ?_
          refine r_pint rfl rfl rfl ?_
          refine r_w rfl rfl (fun w => q_slice (l := splitN n) rfl el_22 rfl Bnd.none Bnd.none (Bnd.nat (by omega)) (by simp)) ?_
          refine r_v rfl rfl (fun w hS => q_loadN (vs := old.map B) rfl ag_24 rfl (by simp [hold]) (hS.cells 2 rfl)) ?_
          refine r_pslice rfl rfl rfl ?_
          refine r_pint rfl rfl rfl ?_
          refine r_w rfl rfl (fun w => q_slice (h := path.length - 1) rfl el_42 rfl Bnd.none (Bnd.nat (by omega)) Bnd.none (by simp)) ?_
          refine rp_two ?_ ?_
          · refine rp_alt ?_
            refine r_do rfl ?_
            refine b_call rfl cb_40 rfl (ih (n - splitN n) (by omega) (n := n - splitN n) (wh := false) (old := old) (path := (path.take (path.length - 1))) (la := la.drop (splitN n)) (lb := lb.drop (splitN n)) H (by first | exact rdin_drop5 (hra.up 3 rfl) (by omega) | exact rdin_drop5 (hra.up 4 rfl) (by omega) | exact rdin_drop5 (hra.up 5 rfl) (by omega)) (by first | exact rdin_drop5 (hrb.up 3 rfl) (by omega) | exact rdin_drop5 (hrb.up 4 rfl) (by omega) | exact rdin_drop5 (hrb.up 5 rfl) (by omega)) (by rw [List.length_drop]; omega) (by rw [List.length_drop]; omega) (by omega) (by omega) (hoa.drop _) (hob.drop _) hold hpt (by first | exact rdin_take32 hpo (hpr.up 3 rfl) (path.length - 1) pc | exact rdin_take32 hpo (hpr.up 4 rfl) (path.length - 1) pc | exact rdin_take32 hpo (hpr.up 5 rfl) (path.length - 1) pc) hptl (by rw [List.length_take]; omega) (by omega) (by omega) (by omega) rfl (by omega)) (fun v w hv => ?_)
            obtain ⟨fd', rfl, hlaw, H⟩ := hv
            refine l_nil ⟨fun _ _ => (by first | exact H | exact H.drop1 | exact H.drop1.drop1 | exact H.drop1.drop1.drop1), ?_⟩
            refine r_ptup rfl rfl rfl ?_
            refine r_pagg rfl rfl rfl ?_
            refine r_pagg rfl rfl rfl ?_
            refine r_pbool rfl rfl rfl ?_
            refine rp_two ?_ ?_
            · refine rp_leaf ?_
              refine r_do rfl ?_
              refine b_alloc rfl ze_24 rfl H (fun b19 w H => ?_)
              refine l_nil ⟨fun _ _ => (by first | exact H | exact H.drop1 | exact H.drop1.drop1 | exact H.drop1.drop1.drop1), ?_⟩
              refine r_do rfl ?_
              refine b_alloc rfl ze_24 rfl H (fun b20 w H => ?_)
              refine l_nil ⟨fun _ _ => (by first | exact H | exact H.drop1 | exact H.drop1.drop1 | exact H.drop1.drop1.drop1), ?_⟩
              refine r_do rfl ?_
              first | refine b_store (vs := ((bothN (m - splitN n) (n - splitN n) false old (path.take (path.length - 1))).1).map B) rfl sz_24 rfl rfl rfl (by simp [hbl.1]) (all1 _) H 0 rfl (by simp [hbl.1]) (putL_all (by simp [hbl.1])) (fun w H => ?_) | refine b_store (vs := ((bothN (m - splitN n) (n - splitN n) false old (path.take (path.length - 1))).1).map B) rfl sz_24 rfl rfl rfl (by simp [hbl.1]) (all1 _) H 1 rfl (by simp [hbl.1]) (putL_all (by simp [hbl.1])) (fun w H => ?_)
              refine l_nil ⟨(fun h => nomatch h), ?_⟩
              refine r_do rfl ?_
              first | refine b_store (vs := ((bothN (m - splitN n) (n - splitN n) false old (path.take (path.length - 1))).2).map B) rfl sz_24 rfl rfl rfl (by simp [hbl.2]) (all1 _) H 0 rfl (by simp [hbl.2]) (putL_all (by simp [hbl.2])) (fun w H => ?_) | refine b_store (vs := ((bothN (m - splitN n) (n - splitN n) false old (path.take (path.length - 1))).2).map B) rfl sz_24 rfl rfl rfl (by simp [hbl.2]) (all1 _) H 1 rfl (by simp [hbl.2]) (putL_all (by simp [hbl.2])) (fun w H => ?_)
              refine l_nil ⟨(fun h => nomatch h), ?_⟩
              refine r_pbool rfl rfl rfl ?_
              refine r_nil ?_
              refine ⟨by repeat' first | exact Agr.mix _ _ _ | exact Agr.refl _ _ | refine Agr.inner rfl ?_ | refine Agr.upd rfl ?_ | refine Agr.updL' rfl ?_, ?_⟩
              exact ⟨(b19, b20, fd'), ⟨rfl, rfl, rfl, trivial⟩, hlaw, by first | exact H | exact H.swap01⟩
            · refine rp_leaf ?_
              refine r_do rfl ?_
              refine b_alloc rfl ze_24 rfl H (fun b20 w H => ?_)
              refine l_nil ⟨fun _ _ => (by first | exact H | exact H.drop1 | exact H.drop1.drop1 | exact H.drop1.drop1.drop1), ?_⟩
              refine r_do rfl ?_
              refine b_alloc rfl ze_24 rfl H (fun b19 w H => ?_)
              refine l_nil ⟨fun _ _ => (by first | exact H | exact H.drop1 | exact H.drop1.drop1 | exact H.drop1.drop1.drop1), ?_⟩
              refine r_do rfl ?_
              first | refine b_store (vs := ((bothN (m - splitN n) (n - splitN n) false old (path.take (path.length - 1))).1).map B) rfl sz_24 rfl rfl rfl (by simp [hbl.1]) (all1 _) H 0 rfl (by simp [hbl.1]) (putL_all (by simp [hbl.1])) (fun w H => ?_) | refine b_store (vs := ((bothN (m - splitN n) (n - splitN n) false old (path.take (path.length - 1))).1).map B) rfl sz_24 rfl rfl rfl (by simp [hbl.1]) (all1 _) H 1 rfl (by simp [hbl.1]) (putL_all (by simp [hbl.1])) (fun w H => ?_)
              refine l_nil ⟨(fun h => nomatch h), ?_⟩
              refine r_do rfl ?_
              first | refine b_store (vs := ((bothN (m - splitN n) (n - splitN n) false old (path.take (path.length - 1))).2).map B) rfl sz_24 rfl rfl rfl (by simp [hbl.2]) (all1 _) H 0 rfl (by simp [hbl.2]) (putL_all (by simp [hbl.2])) (fun w H => ?_) | refine b_store (vs := ((bothN (m - splitN n) (n - splitN n) false old (path.take (path.length - 1))).2).map B) rfl sz_24 rfl rfl rfl (by simp [hbl.2]) (all1 _) H 1 rfl (by simp [hbl.2]) (putL_all (by simp [hbl.2])) (fun w H => ?_)
              refine l_nil ⟨(fun h => nomatch h), ?_⟩
              refine r_pbool rfl rfl rfl ?_
              refine r_nil ?_
              refine ⟨by repeat' first | exact Agr.mix _ _ _ | exact Agr.refl _ _ | refine Agr.inner rfl ?_ | refine Agr.upd rfl ?_ | refine Agr.updL' rfl ?_, ?_⟩
              exact ⟨(b19, b20, fd'), ⟨rfl, rfl, rfl, trivial⟩, hlaw, by first | exact H | exact H.swap01⟩
          · refine rp_alt ?_
            refine rp_two ?_ ?_
            · refine rp_alt ?_
              refine r_do rfl ?_
              refine b_alloc rfl ze_24 rfl H (fun b19 w H => ?_)
              refine l_nil ⟨fun _ _ => (by first | exact H | exact H.drop1 | exact H.drop1.drop1 | exact H.drop1.drop1.drop1), ?_⟩
              refine rp_two ?_ ?_
              · refine rp_leaf ?_
                refine r_do rfl ?_
                refine b_call rfl cb_40 rfl (ih (n - splitN n) (by omega) (n := n - splitN n) (wh := false) (old := old) (path := (path.take (path.length - 1))) (la := la.drop (splitN n)) (lb := lb.drop (splitN n)) H (by first | exact rdin_drop5 (hra.up 3 rfl) (by omega) | exact rdin_drop5 (hra.up 4 rfl) (by omega) | exact rdin_drop5 (hra.up 5 rfl) (by omega)) (by first | exact rdin_drop5 (hrb.up 3 rfl) (by omega) | exact rdin_drop5 (hrb.up 4 rfl) (by omega) | exact rdin_drop5 (hrb.up 5 rfl) (by omega)) (by rw [List.length_drop]; omega) (by rw [List.length_drop]; omega) (by omega) (by omega) (hoa.drop _) (hob.drop _) hold hpt (by first | exact rdin_take32 hpo (hpr.up 3 rfl) (path.length - 1) pc | exact rdin_take32 hpo (hpr.up 4 rfl) (path.length - 1) pc | exact rdin_take32 hpo (hpr.up 5 rfl) (path.length - 1) pc) hptl (by rw [List.length_take]; omega) (by omega) (by omega) (by omega) rfl (by omega)) (fun v w hv => ?_)
                obtain ⟨fd', rfl, hlaw, H⟩ := hv
                refine l_nil ⟨fun _ _ => (by first | exact H | exact H.drop1 | exact H.drop1.drop1 | exact H.drop1.drop1.drop1), ?_⟩
                refine r_ptup rfl rfl rfl ?_
                refine r_pagg rfl rfl rfl ?_
                refine r_pagg rfl rfl rfl ?_
                refine r_pbool rfl rfl rfl ?_
                refine r_do rfl ?_
                refine b_alloc rfl ze_24 rfl H (fun b20 w H => ?_)
                refine l_nil ⟨fun _ _ => (by first | exact H | exact H.drop1 | exact H.drop1.drop1 | exact H.drop1.drop1.drop1), ?_⟩
                refine r_do rfl ?_
                first | refine b_store (vs := ((bothN (m - splitN n) (n - splitN n) false old (path.take (path.length - 1))).1).map B) rfl sz_24 rfl rfl rfl (by simp [hbl.1]) (all1 _) H 0 rfl (by simp [hbl.1]) (putL_all (by simp [hbl.1])) (fun w H => ?_) | refine b_store (vs := ((bothN (m - splitN n) (n - splitN n) false old (path.take (path.length - 1))).1).map B) rfl sz_24 rfl rfl rfl (by simp [hbl.1]) (all1 _) H 1 rfl (by simp [hbl.1]) (putL_all (by simp [hbl.1])) (fun w H => ?_)
                refine l_nil ⟨(fun h => nomatch h), ?_⟩
                refine r_do rfl ?_
                first | refine b_store (vs := ((bothN (m - splitN n) (n - splitN n) false old (path.take (path.length - 1))).2).map B) rfl sz_24 rfl rfl rfl (by simp [hbl.2]) (all1 _) H 0 rfl (by simp [hbl.2]) (putL_all (by simp [hbl.2])) (fun w H => ?_) | refine b_store (vs := ((bothN (m - splitN n) (n - splitN n) false old (path.take (path.length - 1))).2).map B) rfl sz_24 rfl rfl rfl (by simp [hbl.2]) (all1 _) H 1 rfl (by simp [hbl.2]) (putL_all (by simp [hbl.2])) (fun w H => ?_)
                refine l_nil ⟨(fun h => nomatch h), ?_⟩
                refine r_pbool rfl rfl rfl ?_
                refine r_nil ?_
                refine ⟨by repeat' first | exact Agr.mix _ _ _ | exact Agr.refl _ _ | refine Agr.inner rfl ?_ | refine Agr.upd rfl ?_ | refine Agr.updL' rfl ?_, ?_⟩
                exact ⟨(b19, b20, fd'), ⟨rfl, rfl, rfl, trivial⟩, hlaw, by first | exact H | exact H.swap01⟩
              · refine rp_leaf ?_
                refine r_do rfl ?_
                refine b_alloc rfl ze_24 rfl H (fun b20 w H => ?_)
                refine l_nil ⟨fun _ _ => (by first | exact H | exact H.drop1 | exact H.drop1.drop1 | exact H.drop1.drop1.drop1), ?_⟩
                refine r_do rfl ?_
                refine b_call rfl cb_40 rfl (ih (n - splitN n) (by omega) (n := n - splitN n) (wh := false) (old := old) (path := (path.take (path.length - 1))) (la := la.drop (splitN n)) (lb := lb.drop (splitN n)) H (by first | exact rdin_drop5 (hra.up 3 rfl) (by omega) | exact rdin_drop5 (hra.up 4 rfl) (by omega) | exact rdin_drop5 (hra.up 5 rfl) (by omega)) (by first | exact rdin_drop5 (hrb.up 3 rfl) (by omega) | exact rdin_drop5 (hrb.up 4 rfl) (by omega) | exact rdin_drop5 (hrb.up 5 rfl) (by omega)) (by rw [List.length_drop]; omega) (by rw [List.length_drop]; omega) (by omega) (by omega) (hoa.drop _) (hob.drop _) hold hpt (by first | exact rdin_take32 hpo (hpr.up 3 rfl) (path.length - 1) pc | exact rdin_take32 hpo (hpr.up 4 rfl) (path.length - 1) pc | exact rdin_take32 hpo (hpr.up 5 rfl) (path.length - 1) pc) hptl (by rw [List.length_take]; omega) (by omega) (by omega) (by omega) rfl (by omega)) (fun v w hv => ?_)
                obtain ⟨fd', rfl, hlaw, H⟩ := hv
                refine l_nil ⟨fun _ _ => (by first | exact H | exact H.drop1 | exact H.drop1.drop1 | exact H.drop1.drop1.drop1), ?_⟩
                refine r_ptup rfl rfl rfl ?_
                refine r_pagg rfl rfl rfl ?_
                refine r_pagg rfl rfl rfl ?_
                refine r_pbool rfl rfl rfl ?_
                refine r_do rfl ?_
                first | refine b_store (vs := ((bothN (m - splitN n) (n - splitN n) false old (path.take (path.length - 1))).1).map B) rfl sz_24 rfl rfl rfl (by simp [hbl.1]) (all1 _) H 0 rfl (by simp [hbl.1]) (putL_all (by simp [hbl.1])) (fun w H => ?_) | refine b_store (vs := ((bothN (m - splitN n) (n - splitN n) false old (path.take (path.length - 1))).1).map B) rfl sz_24 rfl rfl rfl (by simp [hbl.1]) (all1 _) H 1 rfl (by simp [hbl.1]) (putL_all (by simp [hbl.1])) (fun w H => ?_)
                refine l_nil ⟨(fun h => nomatch h), ?_⟩
                refine r_do rfl ?_
                first | refine b_store (vs := ((bothN (m - splitN n) (n - splitN n) false old (path.take (path.length - 1))).2).map B) rfl sz_24 rfl rfl rfl (by simp [hbl.2]) (all1 _) H 0 rfl (by simp [hbl.2]) (putL_all (by simp [hbl.2])) (fun w H => ?_) | refine b_store (vs := ((bothN (m - splitN n) (n - splitN n) false old (path.take (path.length - 1))).2).map B) rfl sz_24 rfl rfl rfl (by simp [hbl.2]) (all1 _) H 1 rfl (by simp [hbl.2]) (putL_all (by simp [hbl.2])) (fun w H => ?_)
                refine l_nil ⟨(fun h => nomatch h), ?_⟩
                refine r_pbool rfl rfl rfl ?_
                refine r_nil ?_
                refine ⟨by repeat' first | exact Agr.mix _ _ _ | exact Agr.refl _ _ | refine Agr.inner rfl ?_ | refine Agr.upd rfl ?_ | refine Agr.updL' rfl ?_, ?_⟩
                exact ⟨(b19, b20, fd'), ⟨rfl, rfl, rfl, trivial⟩, hlaw, by first | exact H | exact H.swap01⟩
            · refine rp_alt ?_
              refine r_do rfl ?_
              refine b_alloc rfl ze_24 rfl H (fun b20 w H => ?_)
              refine l_nil ⟨fun _ _ => (by first | exact H | exact H.drop1 | exact H.drop1.drop1 | exact H.drop1.drop1.drop1), ?_⟩
              refine rp_two ?_ ?_
              · refine rp_leaf ?_
                refine r_do rfl ?_
                refine b_call rfl cb_40 rfl (ih (n - splitN n) (by omega) (n := n - splitN n) (wh := false) (old := old) (path := (path.take (path.length - 1))) (la := la.drop (splitN n)) (lb := lb.drop (splitN n)) H (by first | exact rdin_drop5 (hra.up 3 rfl) (by omega) | exact rdin_drop5 (hra.up 4 rfl) (by omega) | exact rdin_drop5 (hra.up 5 rfl) (by omega)) (by first | exact rdin_drop5 (hrb.up 3 rfl) (by omega) | exact rdin_drop5 (hrb.up 4 rfl) (by omega) | exact rdin_drop5 (hrb.up 5 rfl) (by omega)) (by rw [List.length_drop]; omega) (by rw [List.length_drop]; omega) (by omega) (by omega) (hoa.drop _) (hob.drop _) hold hpt (by first | exact rdin_take32 hpo (hpr.up 3 rfl) (path.length - 1) pc | exact rdin_take32 hpo (hpr.up 4 rfl) (path.length - 1) pc | exact rdin_take32 hpo (hpr.up 5 rfl) (path.length - 1) pc) hptl (by rw [List.length_take]; omega) (by omega) (by omega) (by omega) rfl (by omega)) (fun v w hv => ?_)
                obtain ⟨fd', rfl, hlaw, H⟩ := hv
                refine l_nil ⟨fun _ _ => (by first | exact H | exact H.drop1 | exact H.drop1.drop1 | exact H.drop1.drop1.drop1), ?_⟩
                refine r_ptup rfl rfl rfl ?_
                refine r_pagg rfl rfl rfl ?_
                refine r_pagg rfl rfl rfl ?_
                refine r_pbool rfl rfl rfl ?_
                refine r_do rfl ?_
                refine b_alloc rfl ze_24 rfl H (fun b19 w H => ?_)
                refine l_nil ⟨fun _ _ => (by first | exact H | exact H.drop1 | exact H.drop1.drop1 | exact H.drop1.drop1.drop1), ?_⟩
                refine r_do rfl ?_
                first | refine b_store (vs := ((bothN (m - splitN n) (n - splitN n) false old (path.take (path.length - 1))).1).map B) rfl sz_24 rfl rfl rfl (by simp [hbl.1]) (all1 _) H 0 rfl (by simp [hbl.1]) (putL_all (by simp [hbl.1])) (fun w H => ?_) | refine b_store (vs := ((bothN (m - splitN n) (n - splitN n) false old (path.take (path.length - 1))).1).map B) rfl sz_24 rfl rfl rfl (by simp [hbl.1]) (all1 _) H 1 rfl (by simp [hbl.1]) (putL_all (by simp [hbl.1])) (fun w H => ?_)
                refine l_nil ⟨(fun h => nomatch h), ?_⟩
                refine r_do rfl ?_
                first | refine b_store (vs := ((bothN (m - splitN n) (n - splitN n) false old (path.take (path.length - 1))).2).map B) rfl sz_24 rfl rfl rfl (by simp [hbl.2]) (all1 _) H 0 rfl (by simp [hbl.2]) (putL_all (by simp [hbl.2])) (fun w H => ?_) | refine b_store (vs := ((bothN (m - splitN n) (n - splitN n) false old (path.take (path.length - 1))).2).map B) rfl sz_24 rfl rfl rfl (by simp [hbl.2]) (all1 _) H 1 rfl (by simp [hbl.2]) (putL_all (by simp [hbl.2])) (fun w H => ?_)
                refine l_nil ⟨(fun h => nomatch h), ?_⟩
                refine r_pbool rfl rfl rfl ?_
                refine r_nil ?_
                refine ⟨by repeat' first | exact Agr.mix _ _ _ | exact Agr.refl _ _ | refine Agr.inner rfl ?_ | refine Agr.upd rfl ?_ | refine Agr.updL' rfl ?_, ?_⟩
                exact ⟨(b19, b20, fd'), ⟨rfl, rfl, rfl, trivial⟩, hlaw, by first | exact H | exact H.swap01⟩
              · refine rp_leaf ?_
                refine r_do rfl ?_
                refine b_alloc rfl ze_24 rfl H (fun b19 w H => ?_)
                refine l_nil ⟨fun _ _ => (by first | exact H | exact H.drop1 | exact H.drop1.drop1 | exact H.drop1.drop1.drop1), ?_⟩
                refine r_do rfl ?_
                refine b_call rfl cb_40 rfl (ih (n - splitN n) (by omega) (n := n - splitN n) (wh := false) (old := old) (path := (path.take (path.length - 1))) (la := la.drop (splitN n)) (lb := lb.drop (splitN n)) H (by first | exact rdin_drop5 (hra.up 3 rfl) (by omega) | exact rdin_drop5 (hra.up 4 rfl) (by omega) | exact rdin_drop5 (hra.up 5 rfl) (by omega)) (by first | exact rdin_drop5 (hrb.up 3 rfl) (by omega) | exact rdin_drop5 (hrb.up 4 rfl) (by omega) | exact rdin_drop5 (hrb.up 5 rfl) (by omega)) (by rw [List.length_drop]; omega) (by rw [List.length_drop]; omega) (by omega) (by omega) (hoa.drop _) (hob.drop _) hold hpt (by first | exact rdin_take32 hpo (hpr.up 3 rfl) (path.length - 1) pc | exact rdin_take32 hpo (hpr.up 4 rfl) (path.length - 1) pc | exact rdin_take32 hpo (hpr.up 5 rfl) (path.length - 1) pc) hptl (by rw [List.length_take]; omega) (by omega) (by omega) (by omega) rfl (by omega)) (fun v w hv => ?_)
                obtain ⟨fd', rfl, hlaw, H⟩ := hv
                refine l_nil ⟨fun _ _ => (by first | exact H | exact H.drop1 | exact H.drop1.drop1 | exact H.drop1.drop1.drop1), ?_⟩
                refine r_ptup rfl rfl rfl ?_
                refine r_pagg rfl rfl rfl ?_
                refine r_pagg rfl rfl rfl ?_
                refine r_pbool rfl rfl rfl ?_
                refine r_do rfl ?_
                first | refine b_store (vs := ((bothN (m - splitN n) (n - splitN n) false old (path.take (path.length - 1))).1).map B) rfl sz_24 rfl rfl rfl (by simp [hbl.1]) (all1 _) H 0 rfl (by simp [hbl.1]) (putL_all (by simp [hbl.1])) (fun w H => ?_) | refine b_store (vs := ((bothN (m - splitN n) (n - splitN n) false old (path.take (path.length - 1))).1).map B) rfl sz_24 rfl rfl rfl (by simp [hbl.1]) (all1 _) H 1 rfl (by simp [hbl.1]) (putL_all (by simp [hbl.1])) (fun w H => ?_)
                refine l_nil ⟨(fun h => nomatch h), ?_⟩
                refine r_do rfl ?_
                first | refine b_store (vs := ((bothN (m - splitN n) (n - splitN n) false old (path.take (path.length - 1))).2).map B) rfl sz_24 rfl rfl rfl (by simp [hbl.2]) (all1 _) H 0 rfl (by simp [hbl.2]) (putL_all (by simp [hbl.2])) (fun w H => ?_) | refine b_store (vs := ((bothN (m - splitN n) (n - splitN n) false old (path.take (path.length - 1))).2).map B) rfl sz_24 rfl rfl rfl (by simp [hbl.2]) (all1 _) H 1 rfl (by simp [hbl.2]) (putL_all (by simp [hbl.2])) (fun w H => ?_)
                refine l_nil ⟨(fun h => nomatch h), ?_⟩
                refine r_pbool rfl rfl rfl ?_
                refine r_nil ?_
                refine ⟨by repeat' first | exact Agr.mix _ _ _ | exact Agr.refl _ _ | refine Agr.inner rfl ?_ | refine Agr.upd rfl ?_ | refine Agr.updL' rfl ?_, ?_⟩
                exact ⟨(b19, b20, fd'), ⟨rfl, rfl, rfl, trivial⟩, hlaw, by first | exact H | exact H.swap01⟩
        · rintro ⟨p1, p2, fd⟩ ρ1 w ⟨hlaw, H⟩
          refine w_seq ?_
          refine w_drawT [7] [3, 4] [(0, 0), (1, 0), (2, 0), (3, 1), (4, 1), (5, 0), (6, 2), (7, 2)] mixed (by kernel_rfl) (fun _ _ _ h => fin_panic h) H (fun H => ?_)
          refine r_pslice rfl rfl rfl ?_
          refine r_pint rfl rfl rfl ?_
          refine r_w rfl rfl (fun w => q_indexSliceE (path.length - 1) rfl el_42 rfl hap rfl rfl (by omega)) ?_
          refine r_v rfl rfl (fun w hS => q_loadN (vs := (path[path.length - 1]).map B) rfl ag_24 rfl (by simp [hll]) (path_at2 hap hpo (hpr.use hS 5 rfl) hlp)) ?_
          refine r_v rfl rfl (fun w hS => q_loadN (vs := ((bothN (m - splitN n) (n - splitN n) false old (path.take (path.length - 1))).1).map B) rfl ag_24 rfl (by simp [hbl.1]) (hS.cells 1 rfl)) ?_
          refine r_w rfl rfl (fun w => q_build (cs := P.cells) rfl sp_116 (by rw [hP]; exact fill_pair hll hbl.1)) ?_
          refine r_do rfl ?_
          refine b_alloc rfl ze_116 rfl H (fun b22 w H => ?_)
          refine l_nil ⟨fun _ _ => (by first | exact H | exact H.drop1 | exact H.drop1.drop1 | exact H.drop1.drop1.drop1), ?_⟩
          refine r_do rfl ?_
          refine b_store (vs := P.cells) rfl sz_116 rfl rfl rfl (by rw [pair_len hPo]; rfl) (all1 _) H 0 rfl (by rw [pair_len hPo]; rfl) (putL_all (by rw [pair_len hPo]; rfl)) (fun w H => ?_)
          refine l_nil ⟨(fun h => nomatch h), ?_⟩
          refine r_nil ?_
          refine w_seq ?_
          refine w_drawT [7] [3, 4] [(0, 0), (1, 0), (2, 0), (3, 1), (4, 1), (5, 0), (6, 2), (7, 2)] mixed (by kernel_rfl) (fun _ _ _ h => fin_panic h) H (fun H => ?_)
          refine r_pslice rfl rfl rfl ?_
          refine r_pint rfl rfl rfl ?_
          refine r_w rfl rfl (fun w => q_indexSliceE (path.length - 1) rfl el_42 rfl hap rfl rfl (by omega)) ?_
          refine r_v rfl rfl (fun w hS => q_loadN (vs := (path[path.length - 1]).map B) rfl ag_24 rfl (by simp [hll]) (path_at2 hap hpo (hpr.use hS 6 rfl) hlp)) ?_
          refine r_v rfl rfl (fun w hS => q_loadN (vs := ((bothN (m - splitN n) (n - splitN n) false old (path.take (path.length - 1))).2).map B) rfl ag_24 rfl (by simp [hbl.2]) (hS.cells 1 rfl)) ?_
          refine r_w rfl rfl (fun w => q_build (cs := Q.cells) rfl sp_116 (by rw [hQ]; exact fill_pair hll hbl.2)) ?_
          refine r_do rfl ?_
          refine b_alloc rfl ze_116 rfl H (fun b23 w H => ?_)
          refine l_nil ⟨fun _ _ => (by first | exact H | exact H.drop1 | exact H.drop1.drop1 | exact H.drop1.drop1.drop1), ?_⟩
          refine r_do rfl ?_
          refine b_store (vs := Q.cells) rfl sz_116 rfl rfl rfl (by rw [pair_len hQo]; rfl) (all1 _) H 0 rfl (by rw [pair_len hQo]; rfl) (putL_all (by rw [pair_len hQo]; rfl)) (fun w H => ?_)
          have H := H.pick [4, 5, 0, 1, 2, 3, 6] (pre := [_, _, _, _, _, _, _]) rfl rfl
          refine l_nil ⟨(fun h => nomatch h), ?_⟩
          refine r_nil ?_
          refine w_seq ?_
          refine w_drawX [] [1, 3, 6, 8, 12, 18, 27] 2 [(0, 0), (1, 1), (2, 0), (3, 1), (5, 0), (6, 1), (7, 0), (8, 1), (10, 0), (4, 2), (9, 2), (11, 0), (12, 1), (13, 0), (14, 2), (15, 2), (16, 0), (17, 0), (18, 1), (19, 0), (20, 2), (21, 2), (22, 0), (23, 0), (24, 0), (25, 0), (26, 0), (27, 1), (28, 0), (29, 0), (30, 0), (31, 0), (32, 0), (33, 0), (34, 2), (35, 0), (36, 2), (37, 2), (38, 0)] mixed (by kernel_rfl) (fun _ _ _ h => fin_panic h) H (fun H => ?_)
          refine r_w rfl rfl (fun w => q_fieldAddr rfl fo116_0 rfl) ?_
          refine r_v rfl rfl (fun w hS => q_loadN (vs := P.1.map B) rfl ag_24 rfl (by simp [hPo.1]) (pair_fst hPo (hS.cells 1 rfl))) ?_
          refine r_w rfl rfl (fun w => q_fieldAddr rfl fo116_1 rfl) ?_
          refine r_v rfl rfl (fun w hS => q_loadN (vs := P.2.map B) rfl ag_24 rfl (by simp [hPo.2]) (pair_snd hPo (hS.cells 1 rfl))) ?_
          refine r_w rfl rfl (fun w => q_fieldAddr rfl fo116_0 rfl) ?_
          refine r_v rfl rfl (fun w hS => q_loadN (vs := Q.1.map B) rfl ag_24 rfl (by simp [hQo.1]) (pair_fst hQo (hS.cells 0 rfl))) ?_
          refine r_w rfl rfl (fun w => q_fieldAddr rfl fo116_1 rfl) ?_
          refine r_v rfl rfl (fun w hS => q_loadN (vs := Q.2.map B) rfl ag_24 rfl (by simp [hQo.2]) (pair_snd hQo (hS.cells 0 rfl))) ?_
          refine r_pbool rfl rfl rfl ?_
          refine r_do rfl ?_
          refine b_call rfl cb_17 rfl (Node_ok H hPo.1 hPo.2) (fun v w hv => ?_)
          obtain ⟨rfl, H⟩ := hv
          refine l_nil ⟨fun _ _ => Sx.tl H 2 rfl, ?_⟩
          refine r_do rfl ?_
          refine b_call rfl cb_17 rfl (Node_ok H hQo.1 hQo.2) (fun v w hv => ?_)
          obtain ⟨rfl, H⟩ := hv
          refine l_nil ⟨fun _ _ => Sx.tl H 2 rfl, ?_⟩
          refine r_pbool rfl rfl rfl ?_
          refine r_split 129 rfl (fun h129 => ?_) (fun h129 => ?_)
          · try simp only [decide_eq_true_eq, decide_eq_false_iff_not, Bool.not_eq_true', Bool.not_eq_false', beq_iff_eq, beq_eq_false_iff_ne, bne_iff_ne, bne_eq_false_iff_eq, ne_eq, Int.not_lt, Int.not_le] at h129
            refine r_no1 rfl rfl ?_
            refine r_no rfl rfl ?_
            refine r_do rfl (l_no rfl (l_nil ⟨fun _ _ => Sx.tl H 2 rfl, ?_⟩))
            refine r_do rfl (l_no rfl (l_nil ⟨fun _ _ => Sx.tl H 2 rfl, ?_⟩))
            refine r_pickT (v := .bool _) rfl rfl rfl rfl ?_
            refine r_pbool rfl rfl rfl ?_
            refine r_no1 rfl rfl ?_
            refine r_no rfl rfl ?_
            refine r_do rfl (l_no rfl (l_nil ⟨fun _ _ => Sx.tl H 2 rfl, ?_⟩))
            refine r_do rfl (l_no rfl (l_nil ⟨fun _ _ => Sx.tl H 2 rfl, ?_⟩))
            refine r_pickT (v := .bool _) rfl rfl rfl rfl ?_
            refine r_pbool rfl rfl rfl ?_
            refine r_no rfl rfl ?_
            refine r_no rfl rfl ?_
            refine r_no rfl rfl ?_
            refine r_no1 rfl rfl ?_
            refine r_no rfl rfl ?_
            refine r_no rfl rfl ?_
            refine r_no rfl rfl ?_
            refine r_no rfl rfl ?_
            refine r_no rfl rfl ?_
            refine r_no rfl rfl ?_
            refine r_do rfl (l_no rfl (l_nil ⟨fun _ _ => Sx.tl H 2 rfl, ?_⟩))
            refine r_pickT (v := .bool _) rfl rfl rfl rfl ?_
            refine r_do rfl ?_
            refine b_store (vs := (nodeH P.1 P.2).map B) rfl sz_24 rfl rfl rfl (by simp [nodeH_len]) (all1 _) H 1 rfl (by simp [z32, nodeH_len]) (putL_all (by simp [z32, nodeH_len])) (fun w H => ?_)
            refine l_nil ⟨fun _ _ => Sx.tl H 2 rfl, ?_⟩
            refine r_do rfl ?_
            refine b_store (vs := (nodeH Q.1 Q.2).map B) rfl sz_24 rfl rfl rfl (by simp [nodeH_len]) (all1 _) H 0 rfl (by simp [z32, nodeH_len]) (putL_all (by simp [z32, nodeH_len])) (fun w H => ?_)
            refine l_nil ⟨fun _ _ => Sx.tl H 2 rfl, ?_⟩
            refine r_pbool rfl rfl rfl ?_
            refine r_nil ?_
            refine w_ret ?_
            refine finc2ct (vs := (nodeH P.1 P.2).map B) (vs2 := (nodeH Q.1 Q.2).map B) rfl rfl ag_24 (by simp [nodeH_len]) (by simp [nodeH_len]) (H.cells 1 rfl) (H.cells 0 rfl) rfl ?_
            exact ⟨true, by first | (rw [hbe, hP, hQ]; done) | (rw [hbe, hP, hQ]; rfl), step_true, (((((((H.erase 0).erase 0).erase 0).erase 0).erase 0).erase 0).erase 0)⟩
          · try simp only [decide_eq_true_eq, decide_eq_false_iff_not, Bool.not_eq_true', Bool.not_eq_false', beq_iff_eq, beq_eq_false_iff_ne, bne_iff_ne, bne_eq_false_iff_eq, ne_eq, Int.not_lt, Int.not_le] at h129
            refine r_v rfl rfl (fun w hS => q_loadN (vs := P.cells) rfl ag_116 rfl (pair_len hPo) (hS.cells 1 rfl)) ?_
            refine r_pslice rfl rfl rfl ?_
            refine r_do rfl ?_
            refine b_call rfl cb_75 rfl (halves_ok2 H (hra.up 7 rfl) hla hca hoa (by omega) (by omega)) (fun v w hv => ?_)
            obtain ⟨rfl, H⟩ := hv
            refine l_nil ⟨fun _ _ => Sx.tl H 2 rfl, ?_⟩
            refine r_do rfl ?_
            refine b_call rfl cb_74 rfl (one_ok H hPo (halvesP_ok la)) (fun v w hv => ?_)
            obtain ⟨rfl, H⟩ := hv
            refine l_nil ⟨fun _ _ => Sx.tl H 2 rfl, ?_⟩
            refine r_pickF (v := .bool _) rfl rfl rfl rfl ?_
            refine r_pbool rfl rfl rfl ?_
            refine r_split 135 rfl (fun h135 => ?_) (fun h135 => ?_)
            · try simp only [decide_eq_true_eq, decide_eq_false_iff_not, Bool.not_eq_true', Bool.not_eq_false', beq_iff_eq, beq_eq_false_iff_ne, bne_iff_ne, bne_eq_false_iff_eq, ne_eq, Int.not_lt, Int.not_le] at h135
              refine r_no1 rfl rfl ?_
              refine r_no rfl rfl ?_
              refine r_do rfl (l_no rfl (l_nil ⟨fun _ _ => Sx.tl H 2 rfl, ?_⟩))
              refine r_do rfl (l_no rfl (l_nil ⟨fun _ _ => Sx.tl H 2 rfl, ?_⟩))
              refine r_pickT (v := .bool _) rfl rfl rfl rfl ?_
              refine r_pbool rfl rfl rfl ?_
              refine r_no rfl rfl ?_
              refine r_no rfl rfl ?_
              refine r_no rfl rfl ?_
              refine r_no1 rfl rfl ?_
              refine r_no rfl rfl ?_
              refine r_no rfl rfl ?_
              refine r_no rfl rfl ?_
              refine r_no rfl rfl ?_
              refine r_no rfl rfl ?_
              refine r_no rfl rfl ?_
              refine r_do rfl (l_no rfl (l_nil ⟨fun _ _ => Sx.tl H 2 rfl, ?_⟩))
              refine r_pickT (v := .bool _) rfl rfl rfl rfl ?_
              refine r_do rfl ?_
              refine b_store (vs := (nodeH P.1 P.2).map B) rfl sz_24 rfl rfl rfl (by simp [nodeH_len]) (all1 _) H 1 rfl (by simp [z32, nodeH_len]) (putL_all (by simp [z32, nodeH_len])) (fun w H => ?_)
              refine l_nil ⟨fun _ _ => Sx.tl H 2 rfl, ?_⟩
              refine r_do rfl ?_
              refine b_store (vs := (nodeH Q.1 Q.2).map B) rfl sz_24 rfl rfl rfl (by simp [nodeH_len]) (all1 _) H 0 rfl (by simp [z32, nodeH_len]) (putL_all (by simp [z32, nodeH_len])) (fun w H => ?_)
              refine l_nil ⟨fun _ _ => Sx.tl H 2 rfl, ?_⟩
              refine r_pbool rfl rfl rfl ?_
              refine r_nil ?_
              refine w_ret ?_
              refine finc2ct (vs := (nodeH P.1 P.2).map B) (vs2 := (nodeH Q.1 Q.2).map B) rfl rfl ag_24 (by simp [nodeH_len]) (by simp [nodeH_len]) (H.cells 1 rfl) (H.cells 0 rfl) rfl ?_
              exact ⟨true, by first | (rw [hbe, hP, hQ]; done) | (rw [hbe, hP, hQ]; rfl), step_true, (((((((H.erase 0).erase 0).erase 0).erase 0).erase 0).erase 0).erase 0)⟩
            · try simp only [decide_eq_true_eq, decide_eq_false_iff_not, Bool.not_eq_true', Bool.not_eq_false', beq_iff_eq, beq_eq_false_iff_ne, bne_iff_ne, bne_eq_false_iff_eq, ne_eq, Int.not_lt, Int.not_le] at h135
              refine r_v rfl rfl (fun w hS => q_loadN (vs := Q.cells) rfl ag_116 rfl (pair_len hQo) (hS.cells 0 rfl)) ?_
              refine r_pslice rfl rfl rfl ?_
              refine r_do rfl ?_
              refine b_call rfl cb_75 rfl (halves_ok2 H (hrb.up 7 rfl) hlb hcb hob h2 (by omega)) (fun v w hv => ?_)
              obtain ⟨rfl, H⟩ := hv
              refine l_nil ⟨fun _ _ => Sx.tl H 2 rfl, ?_⟩
              refine r_do rfl ?_
              refine b_call rfl cb_74 rfl (one_ok H hQo (halvesP_ok lb)) (fun v w hv => ?_)
              obtain ⟨rfl, H⟩ := hv
              refine l_nil ⟨fun _ _ => Sx.tl H 2 rfl, ?_⟩
              refine r_pickF (v := .bool _) rfl rfl rfl rfl ?_
              refine r_pbool rfl rfl rfl ?_
              refine r_split 141 rfl (fun h141 => ?_) (fun h141 => ?_)
              · try simp only [decide_eq_true_eq, decide_eq_false_iff_not, Bool.not_eq_true', Bool.not_eq_false', beq_iff_eq, beq_eq_false_iff_ne, bne_iff_ne, bne_eq_false_iff_eq, ne_eq, Int.not_lt, Int.not_le] at h141
                refine r_no rfl rfl ?_
                refine r_no rfl rfl ?_
                refine r_no rfl rfl ?_
                refine r_no1 rfl rfl ?_
                refine r_no rfl rfl ?_
                refine r_no rfl rfl ?_
                refine r_no rfl rfl ?_
                refine r_no rfl rfl ?_
                refine r_no rfl rfl ?_
                refine r_no rfl rfl ?_
                refine r_do rfl (l_no rfl (l_nil ⟨fun _ _ => Sx.tl H 2 rfl, ?_⟩))
                refine r_pickT (v := .bool _) rfl rfl rfl rfl ?_
                refine r_do rfl ?_
                refine b_store (vs := (nodeH P.1 P.2).map B) rfl sz_24 rfl rfl rfl (by simp [nodeH_len]) (all1 _) H 1 rfl (by simp [z32, nodeH_len]) (putL_all (by simp [z32, nodeH_len])) (fun w H => ?_)
                refine l_nil ⟨fun _ _ => Sx.tl H 2 rfl, ?_⟩
                refine r_do rfl ?_
                refine b_store (vs := (nodeH Q.1 Q.2).map B) rfl sz_24 rfl rfl rfl (by simp [nodeH_len]) (all1 _) H 0 rfl (by simp [z32, nodeH_len]) (putL_all (by simp [z32, nodeH_len])) (fun w H => ?_)
                refine l_nil ⟨fun _ _ => Sx.tl H 2 rfl, ?_⟩
                refine r_pbool rfl rfl rfl ?_
                refine r_nil ?_
                refine w_ret ?_
                refine finc2ct (vs := (nodeH P.1 P.2).map B) (vs2 := (nodeH Q.1 Q.2).map B) rfl rfl ag_24 (by simp [nodeH_len]) (by simp [nodeH_len]) (H.cells 1 rfl) (H.cells 0 rfl) rfl ?_
                exact ⟨true, by first | (rw [hbe, hP, hQ]; done) | (rw [hbe, hP, hQ]; rfl), step_true, (((((((H.erase 0).erase 0).erase 0).erase 0).erase 0).erase 0).erase 0)⟩
              · try simp only [decide_eq_true_eq, decide_eq_false_iff_not, Bool.not_eq_true', Bool.not_eq_false', beq_iff_eq, beq_eq_false_iff_ne, bne_iff_ne, bne_eq_false_iff_eq, ne_eq, Int.not_lt, Int.not_le] at h141
                refine r_pslice rfl rfl rfl ?_
                refine r_pint rfl rfl rfl ?_
                refine r_w rfl rfl (fun w => q_indexSliceE (path.length - 1) rfl el_42 rfl hap rfl rfl (by omega)) ?_
                refine r_v rfl rfl (fun w hS => q_loadN (vs := (path[path.length - 1]).map B) rfl ag_24 rfl (by simp [hll]) (path_at2 hap hpo (hS.use hpr 5 rfl) hlp)) ?_
                refine r_pslice rfl rfl rfl ?_
                refine r_pint rfl rfl rfl ?_
                refine r_w rfl rfl (fun w => q_slice (h := splitN n) rfl el_22 rfl Bnd.none (Bnd.nat (by omega)) Bnd.none (by simp)) ?_
                refine r_pslice rfl rfl rfl ?_
                refine r_pint rfl rfl rfl ?_
                refine r_w rfl rfl (fun w => q_slice (h := splitN n) rfl el_22 rfl Bnd.none (Bnd.nat (by omega)) Bnd.none (by simp)) ?_
                refine r_do rfl ?_
                refine b_call rfl cb_78 rfl (met_ok (n := splitN n) H hll (rdin_take5 (hra.up 7 rfl) (splitN n) ca) (rdin_take5 (hrb.up 7 rfl) (splitN n) cb) (by rw [List.length_take]; omega) (by rw [List.length_take]; omega) (by omega) (by omega) (hoa.take _) (hob.take _) (by omega)) (fun v w hv => ?_)
                obtain ⟨rfl, H⟩ := hv
                refine l_nil ⟨fun _ _ => Sx.tl H 2 rfl, ?_⟩
                refine r_pickF (v := .bool _) rfl rfl rfl rfl ?_
                refine r_do rfl ?_
                refine b_store (vs := (nodeH P.1 P.2).map B) rfl sz_24 rfl rfl rfl (by simp [nodeH_len]) (all1 _) H 1 rfl (by simp [z32, nodeH_len]) (putL_all (by simp [z32, nodeH_len])) (fun w H => ?_)
                refine l_nil ⟨fun _ _ => Sx.tl H 2 rfl, ?_⟩
                refine r_do rfl ?_
                refine b_store (vs := (nodeH Q.1 Q.2).map B) rfl sz_24 rfl rfl rfl (by simp [nodeH_len]) (all1 _) H 0 rfl (by simp [z32, nodeH_len]) (putL_all (by simp [z32, nodeH_len])) (fun w H => ?_)
                refine l_nil ⟨fun _ _ => Sx.tl H 2 rfl, ?_⟩
                refine r_pbool rfl rfl rfl ?_
                refine r_nil ?_
                refine w_ret ?_
                refine finc2ct (vs := (nodeH P.1 P.2).map B) (vs2 := (nodeH Q.1 Q.2).map B) rfl rfl ag_24 (by simp [nodeH_len]) (by simp [nodeH_len]) (H.cells 1 rfl) (H.cells 0 rfl) rfl ?_
                obtain rfl : fd = false := by simpa using h129
                refine ⟨metB path[path.length - 1] (la.take (splitN n)) (lb.take (splitN n)), by first | (rw [hbe, hP, hQ]; done) | (rw [hbe, hP, hQ]; rfl), ?_, (((((((H.erase 0).erase 0).erase 0).erase 0).erase 0).erase 0).erase 0)⟩
                rw [hbe]
                have g1 : oneB (path[path.length - 1], (bothN (m - splitN n) (n - splitN n) false old (path.take (path.length - 1))).1) (halvesP la) = false := by rw [← hP]; simpa using h135
                have g2 : oneB (path[path.length - 1], (bothN (m - splitN n) (n - splitN n) false old (path.take (path.length - 1))).2) (halvesP lb) = false := by rw [← hQ]; simpa using h141
                subst hlb
                exact step_gt (by omega) (by omega) hlaw g1 g2


end Go.Proofs.Ytcmmhpkgjcepdaa
