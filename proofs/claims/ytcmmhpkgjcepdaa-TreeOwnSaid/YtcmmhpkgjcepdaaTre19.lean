/- The reference's far and both answer as the plain functions do. -/
import Derived.Test.YtcmmhpkgjcepdaaTre18
import Derived.Test.YtcmmhpkgjcepdaaTre15
namespace Go.Proofs.Ytcmmhpkgjcepdaa
open Go.EW
attribute [local irreducible] EW.W EW.L EW.fin block8 outB shaL
set_option linter.unusedVariables false
set_option linter.unusedSimpArgs false
attribute [local irreducible] swp headH leafH nodeH inclN sidesN bothN lenN splitN upN
theorem far_ok (k : Nat) : ∀ {w : World} {m n : Nat} {wh : Bool}, 1 ≤ m → m ≤ n → n = k → n ≤ 9223372036854775807 →
    Ok Try.prog 70 [.int .i64 (m : Int), .int .i64 (n : Int), .bool wh].toArray w (fun r w' => r = .int .i64 (lenN m n wh : Int) ∧ w' = w) := by
  induction k using Nat.strongRecOn with
  | _ k ih =>
    intro w m n wh hm hmn hnk hnb
    subst hnk
    refine enter (n := 30) (rs := #[.tmp 6]) Try.func70 rfl rfl rfl rfl ?_
    refine w_seq ?_
    refine w_region ?_
    refine l_pint rfl rfl ?_
    refine l_nil ?_
    refine w_seq ?_
    refine w_seq ?_
    refine w_region ?_
    refine l_pint rfl rfl ?_
    refine l_pint rfl rfl ?_
    refine l_pbool rfl rfl ?_
    refine l_nil ?_
    refine w_cond rfl (fun c1 => ?_) (fun c1 => ?_)
    · try simp only [decide_eq_true_eq, decide_eq_false_iff_not, Bool.not_eq_true', Bool.not_eq_false', beq_iff_eq, beq_eq_false_iff_ne, bne_iff_ne, bne_eq_false_iff_eq, ne_eq, Int.not_lt, Int.not_le] at c1
      have e : m = n := by omega
      subst e
      have hle := lenN_eq (wh := wh) hm
      refine w_seq ?_
      refine w_seq ?_
      refine w_region ?_
      refine l_pbool rfl rfl ?_
      refine l_nil ?_
      refine w_cond rfl (fun c2 => ?_) (fun c2 => ?_)
      · try simp only [decide_eq_true_eq, decide_eq_false_iff_not, Bool.not_eq_true', Bool.not_eq_false', beq_iff_eq, beq_eq_false_iff_ne, bne_iff_ne, bne_eq_false_iff_eq, ne_eq, Int.not_lt, Int.not_le] at c2
        obtain rfl : wh = true := c2
        refine w_seq ?_
        refine w_region ?_
        refine l_pint rfl rfl ?_
        refine l_nil ?_
        refine w_ret ?_
        refine fin1 (v := .int _ _) rfl ?_
        exact ⟨by rw [hle]; rfl, rfl⟩
      · try simp only [decide_eq_true_eq, decide_eq_false_iff_not, Bool.not_eq_true', Bool.not_eq_false', beq_iff_eq, beq_eq_false_iff_ne, bne_iff_ne, bne_eq_false_iff_eq, ne_eq, Int.not_lt, Int.not_le] at c2
        obtain rfl : wh = false := c2
        refine w_skip ?_
        refine w_seq ?_
        refine w_region ?_
        refine l_pint rfl rfl ?_
        refine l_nil ?_
        refine w_ret ?_
        refine fin1 (v := .int _ _) rfl ?_
        exact ⟨by rw [hle]; rfl, rfl⟩
    · try simp only [decide_eq_true_eq, decide_eq_false_iff_not, Bool.not_eq_true', Bool.not_eq_false', beq_iff_eq, beq_eq_false_iff_ne, bne_iff_ne, bne_eq_false_iff_eq, ne_eq, Int.not_lt, Int.not_le] at c1
      have hne : m < n := by omega
      have hsp := splitN_spec (n := n) (by omega)
      have hle := lenN_ne (wh := wh) hm hne
      refine w_skip ?_
      refine w_seq ?_
      refine w_region ?_
      refine l_pint rfl rfl ?_
      refine b_call rfl cb_54 rfl (rSplit_ok (n := n) ⟨by omega, by omega⟩) (fun v w hv => ?_)
      obtain ⟨rfl, rfl⟩ := hv
      refine l_pint rfl rfl ?_
      refine l_nil ?_
      refine w_seq ?_
      refine w_seq ?_
      refine w_region ?_
      refine l_pint rfl rfl ?_
      refine l_pint rfl rfl ?_
      refine l_pbool rfl rfl ?_
      refine l_nil ?_
      refine w_cond rfl (fun c3 => ?_) (fun c3 => ?_)
      · try simp only [decide_eq_true_eq, decide_eq_false_iff_not, Bool.not_eq_true', Bool.not_eq_false', beq_iff_eq, beq_eq_false_iff_ne, bne_iff_ne, bne_eq_false_iff_eq, ne_eq, Int.not_lt, Int.not_le] at c3
        rw [if_pos (by omega)] at hle
        have hsh : lenN m (splitN n) wh ≤ splitN n := by unfold lenN; exact lenF_le _ _ _ _
        refine w_seq ?_
        refine w_region ?_
        refine l_pint rfl rfl ?_
        refine l_pint rfl rfl ?_
        refine l_pbool rfl rfl ?_
        refine b_call rfl cb_70 rfl (ih (splitN n) (by omega) (n := splitN n) (wh := wh) hm (by omega) rfl (by omega)) (fun v w hv => ?_)
        obtain ⟨rfl, rfl⟩ := hv
        first | refine l_v rfl (q_add rfl rfl rfl (by simp only [inK]; omega)) ?_ | refine l_pint rfl rfl ?_
        refine l_pint rfl rfl ?_
        refine l_nil ?_
        refine w_ret ?_
        refine fin1 (v := .int _ _) rfl ?_
        exact ⟨congrArg (Value.int .i64) (by omega), rfl⟩
      · try simp only [decide_eq_true_eq, decide_eq_false_iff_not, Bool.not_eq_true', Bool.not_eq_false', beq_iff_eq, beq_eq_false_iff_ne, bne_iff_ne, bne_eq_false_iff_eq, ne_eq, Int.not_lt, Int.not_le] at c3
        rw [if_neg (by omega)] at hle
        have hsh : lenN (m - splitN n) (n - splitN n) false ≤ n - splitN n := by unfold lenN; exact lenF_le _ _ _ _
        refine w_skip ?_
        refine w_seq ?_
        refine w_region ?_
        refine l_pint rfl rfl ?_
        refine l_pint rfl rfl ?_
        first | refine l_v rfl (q_subN (a := m) (b := splitN n) rfl rfl rfl ⟨by omega, by omega⟩) ?_ | refine l_pint rfl rfl ?_
        refine l_pint rfl rfl ?_
        refine l_pint rfl rfl ?_
        first | refine l_v rfl (q_subN (a := n) (b := splitN n) rfl rfl rfl ⟨by omega, by omega⟩) ?_ | refine l_pint rfl rfl ?_
        refine b_call rfl cb_70 rfl (ih (n - splitN n) (by omega) (n := n - splitN n) (wh := false) (by omega) (by omega) rfl (by omega)) (fun v w hv => ?_)
        obtain ⟨rfl, rfl⟩ := hv
        first | refine l_v rfl (q_add rfl rfl rfl (by simp only [inK]; omega)) ?_ | refine l_pint rfl rfl ?_
        refine l_pint rfl rfl ?_
        refine l_nil ?_
        refine w_ret ?_
        refine fin1 (v := .int _ _) rfl ?_
        exact ⟨congrArg (Value.int .i64) (by omega), rfl⟩


set_option maxRecDepth 8000 in
set_option maxHeartbeats 2000000 in
theorem rboth_ok (k : Nat) : ∀ {W w : World} {F : List Seg} {m n : Nat} {wh : Bool} {old : List UInt8} {pa : Option Addr} {pc : Nat} {path : List (List UInt8)} {pn : Nat}, St W w F → old.length = 32 → PathOk path → RdIn W F pa (pathV path) → path.length = lenN m n wh → pn = path.length → pn ≤ pc → 1 ≤ m → m ≤ n → n = k → n ≤ 9223372036854775807 →
    Ok Try.prog 71 [.int .i64 (m : Int), .int .i64 (n : Int), .bool wh, .agg (old.map B).toArray, .slice pa pn pc].toArray w (fun r w' => r = .tuple #[.agg ((bothN m n wh old path).1.map B).toArray, .agg ((bothN m n wh old path).2.map B).toArray] ∧ St W w' F) := by
  induction k using Nat.strongRecOn with
  | _ k ih =>
    intro W w F m n wh old pa pc path pn H hold hpo hpr hpl hpn hpc hm hmn hnk hnb
    subst hnk
    subst hpn
    have hple : path.length ≤ n := by rw [hpl]; unfold lenN; exact lenF_le _ _ _ _
    refine enter (n := 82) (rs := #[.cell 10 24, .cell 11 24]) Try.func71 rfl rfl rfl rfl ?_
    refine w_seq ?_
    refine w_region ?_
    refine b_box rfl rfl rfl H (fun b8 w H => ?_)
    refine b_alloc rfl ze_24 rfl H (fun b10 w H => ?_)
    refine b_alloc rfl ze_24 rfl H (fun b11 w H => ?_)
    refine l_nil ?_
    refine w_seq ?_
    refine w_seq ?_
    refine w_region ?_
    refine l_pint rfl rfl ?_
    refine l_pint rfl rfl ?_
    refine l_pbool rfl rfl ?_
    refine l_nil ?_
    refine w_cond rfl (fun c1 => ?_) (fun c1 => ?_)
    · try simp only [decide_eq_true_eq, decide_eq_false_iff_not, Bool.not_eq_true', Bool.not_eq_false', beq_iff_eq, beq_eq_false_iff_ne, bne_iff_ne, bne_eq_false_iff_eq, ne_eq, Int.not_lt, Int.not_le] at c1
      have e : m = n := by omega
      subst e
      rw [lenN_eq hm] at hpl
      have hbe := bothN_eq (wh := wh) (old := old) (p := path) hm
      refine w_seq ?_
      refine w_seq ?_
      refine w_region ?_
      refine l_pbool rfl rfl ?_
      refine l_nil ?_
      refine w_cond rfl (fun c2 => ?_) (fun c2 => ?_)
      · try simp only [decide_eq_true_eq, decide_eq_false_iff_not, Bool.not_eq_true', Bool.not_eq_false', beq_iff_eq, beq_eq_false_iff_ne, bne_iff_ne, bne_eq_false_iff_eq, ne_eq, Int.not_lt, Int.not_le] at c2
        obtain rfl : wh = true := c2
        refine w_seq ?_
        refine w_drawX [3] [0, 1] 2 [(0, 1), (1, 1), (2, 2), (3, 2)] mixed (by kernel_rfl) (fun _ _ _ h => fin_panic h) H (fun H => ?_)
        refine r_v rfl rfl (fun w hS => q_loadN (vs := old.map B) rfl ag_24 rfl (by simp [hold]) (hS.cells 0 rfl)) ?_
        refine r_v rfl rfl (fun w hS => q_loadN (vs := old.map B) rfl ag_24 rfl (by simp [hold]) (hS.cells 0 rfl)) ?_
        refine r_do rfl ?_
        refine b_store (vs := (old).map B) rfl sz_24 rfl rfl rfl (by simp [hold]) (all1 _) H 1 rfl (by simp [z32, hold]) (putL_all (by simp [z32, hold])) (fun w H => ?_)
        refine l_nil ⟨fun _ _ => Sx.tl H 2 rfl, ?_⟩
        refine r_do rfl ?_
        refine b_store (vs := (old).map B) rfl sz_24 rfl rfl rfl (by simp [hold]) (all1 _) H 0 rfl (by simp [z32, hold]) (putL_all (by simp [z32, hold])) (fun w H => ?_)
        refine l_nil ⟨(fun h => nomatch h), ?_⟩
        refine r_nil ?_
        refine w_ret ?_
        refine finc2c (vs := (old).map B) (vs2 := (old).map B) rfl rfl ag_24 (by simp [hold]) (by simp [hold]) (H.cells 1 rfl) (H.cells 0 rfl) ?_
        refine ⟨by first | (rw [hbe]; done) | (rw [hbe]; rfl), (((H.erase 0).erase 0).erase 0)⟩
      · try simp only [decide_eq_true_eq, decide_eq_false_iff_not, Bool.not_eq_true', Bool.not_eq_false', beq_iff_eq, beq_eq_false_iff_ne, bne_iff_ne, bne_eq_false_iff_eq, ne_eq, Int.not_lt, Int.not_le] at c2
        obtain rfl : wh = false := c2
        have h0 : 0 < path.length := by rw [hpl]; decide
        obtain ⟨bp, op, hap, _⟩ := path_cells hpo (hpr.use H 3 rfl) h0
        have hbe2 : bothN m m false old path = (path[0], path[0]) := by rw [hbe, pathD hpo h0]; rfl
        refine w_skip ?_
        refine w_seq ?_
        refine w_drawX [7] [2, 5] 2 [(0, 0), (1, 0), (2, 1), (3, 0), (4, 0), (5, 1), (6, 2), (7, 2)] mixed (by kernel_rfl) (fun _ _ _ h => fin_panic h) H (fun H => ?_)
        refine r_pslice rfl rfl rfl ?_
        refine r_w rfl rfl (fun w => q_indexSliceE 0 rfl el_42 rfl hap rfl rfl h0) ?_
        refine r_v rfl rfl (fun w hS => q_loadN (vs := (path[0]).map B) rfl ag_24 rfl (by simp [hpo _ (List.getElem_mem h0)]) (path_at2 hap hpo (hS.use hpr 1 rfl) h0)) ?_
        refine r_pslice rfl rfl rfl ?_
        refine r_w rfl rfl (fun w => q_indexSliceE 0 rfl el_42 rfl hap rfl rfl h0) ?_
        refine r_v rfl rfl (fun w hS => q_loadN (vs := (path[0]).map B) rfl ag_24 rfl (by simp [hpo _ (List.getElem_mem h0)]) (path_at2 hap hpo (hS.use hpr 1 rfl) h0)) ?_
        refine r_do rfl ?_
        refine b_store (vs := (path[0]).map B) rfl sz_24 rfl rfl rfl (by simp [hpo _ (List.getElem_mem h0)]) (all1 _) H 1 rfl (by simp [z32, hpo _ (List.getElem_mem h0)]) (putL_all (by simp [z32, hpo _ (List.getElem_mem h0)])) (fun w H => ?_)
        refine l_nil ⟨fun _ _ => Sx.tl H 2 rfl, ?_⟩
        refine r_do rfl ?_
        refine b_store (vs := (path[0]).map B) rfl sz_24 rfl rfl rfl (by simp [hpo _ (List.getElem_mem h0)]) (all1 _) H 0 rfl (by simp [z32, hpo _ (List.getElem_mem h0)]) (putL_all (by simp [z32, hpo _ (List.getElem_mem h0)])) (fun w H => ?_)
        refine l_nil ⟨(fun h => nomatch h), ?_⟩
        refine r_nil ?_
        refine w_ret ?_
        refine finc2c (vs := (path[0]).map B) (vs2 := (path[0]).map B) rfl rfl ag_24 (by simp [hpo _ (List.getElem_mem h0)]) (by simp [hpo _ (List.getElem_mem h0)]) (H.cells 1 rfl) (H.cells 0 rfl) ?_
        refine ⟨by first | (rw [hbe2]; done) | (rw [hbe2]; rfl), (((H.erase 0).erase 0).erase 0)⟩
    · try simp only [decide_eq_true_eq, decide_eq_false_iff_not, Bool.not_eq_true', Bool.not_eq_false', beq_iff_eq, beq_eq_false_iff_ne, bne_iff_ne, bne_eq_false_iff_eq, ne_eq, Int.not_lt, Int.not_le] at c1
      have hne : m < n := by omega
      have hsp := splitN_spec (n := n) (by omega)
      have hpos := lenN_pos (wh := wh) hm hne
      have hlp : path.length - 1 < path.length := by omega
      obtain ⟨bp, op, hap, hcp⟩ := path_cells hpo (hpr.use H 3 rfl) hlp
      have hll := hpo _ (List.getElem_mem hlp)
      have hpt := hpo.take (path.length - 1)
      rw [lenN_ne hm hne] at hpl
      refine w_skip ?_
      refine w_seq ?_
      refine w_region ?_
      refine l_pint rfl rfl ?_
      refine b_call rfl cb_54 rfl (rSplit_ok (n := n) ⟨by omega, by omega⟩) (fun v w hv => ?_)
      obtain ⟨rfl, rfl⟩ := hv
      refine l_pint rfl rfl ?_
      refine l_nil ?_
      refine w_seq ?_
      refine w_region ?_
      refine l_pslice rfl rfl ?_
      refine l_v rfl (q_lenSlice rfl el_42 rfl) ?_
      first | refine l_v rfl (q_subN (a := path.length) (b := 1) rfl rfl rfl ⟨by omega, by omega⟩) ?_ | refine l_pint rfl rfl ?_
      refine l_pint rfl rfl ?_
      refine l_nil ?_
      refine w_seq ?_
      refine w_seq ?_
      refine w_region ?_
      refine l_pint rfl rfl ?_
      refine l_pint rfl rfl ?_
      refine l_pbool rfl rfl ?_
      refine l_nil ?_
      refine w_cond rfl (fun c3 => ?_) (fun c3 => ?_)
      · try simp only [decide_eq_true_eq, decide_eq_false_iff_not, Bool.not_eq_true', Bool.not_eq_false', beq_iff_eq, beq_eq_false_iff_ne, bne_iff_ne, bne_eq_false_iff_eq, ne_eq, Int.not_lt, Int.not_le] at c3
        rw [if_pos (by omega)] at hpl
        have hptl : (path.take (path.length - 1)).length = lenN m (splitN n) wh := by rw [List.length_take]; omega
        have hbl := bothN_len (splitN n) (wh := wh) (old := old) (Nat.le_refl _) hm (by omega) hold hpt hptl
        have hbe := bothN_le (wh := wh) (old := old) (p := path) hm hne (by omega)
        rw [pathD hpo hlp] at hbe
        refine w_cutG (G := Nat × Nat) [14, 15, 38, 39, 40, 41, 42, 43, 44, 45, 46, 47, 48] (fun ⟨p1, p2⟩ => [(14, .pointer (some ⟨p1, 0, none⟩)), (15, .pointer (some ⟨p2, 0, none⟩))]) (fun ⟨p1, p2⟩ w => St W w (blk p2 ((bothN m (splitN n) wh old (path.take (path.length - 1))).2.map B) 24 :: blk p1 ((bothN m (splitN n) wh old (path.take (path.length - 1))).1.map B) 24 :: blk b11 z32 24 :: blk b10 z32 24 :: blk b8 (old.map B) 24 :: F)) (fun _ => rfl) ?_ ?_
        · refine w_drawP [13, 14] [3] (.alt [(0, 0), (1, 0), (2, 0), (3, 1), (4, 0), (5, 0), (6, 0)] (.alt [(7, 2), (8, 0), (9, 0), (10, 0)] (.leaf [(11, 2), (12, 2), (13, 2), (14, 2)]) (.leaf [(12, 2), (11, 2), (13, 2), (14, 2)])) (.alt [] (.alt [(11, 2)] (.leaf [(7, 2), (8, 0), (9, 0), (10, 0), (12, 2), (13, 2), (14, 2)]) (.leaf [(12, 2), (7, 2), (8, 0), (9, 0), (10, 0), (13, 2), (14, 2)])) (.alt [(12, 2)] (.leaf [(7, 2), (8, 0), (9, 0), (10, 0), (11, 2), (13, 2), (14, 2)]) (.leaf [(11, 2), (7, 2), (8, 0), (9, 0), (10, 0), (13, 2), (14, 2)])))) mixed (by kernel_rfl) (fun _ _ _ h => fin_panic h) H (fun H => ?_)
          refine rp_alt ?_
          refine r_pint rfl rfl rfl ?_
          refine r_pint rfl rfl rfl ?_
          refine r_pbool rfl rfl rfl ?_
          refine r_v rfl rfl (fun w hS => q_loadN (vs := old.map B) rfl ag_24 rfl (by simp [hold]) (hS.cells 2 rfl)) ?_
          refine r_pslice rfl rfl rfl ?_
          refine r_pint rfl rfl rfl ?_
          refine r_w rfl rfl (fun w => q_slice (h := path.length - 1) rfl el_42 rfl Bnd.none (Bnd.nat (by omega)) Bnd.none (by simp)) ?_
          refine rp_two ?_ ?_
          · refine rp_alt ?_
            refine r_do rfl ?_
            refine b_call rfl cb_71 rfl (ih (splitN n) (by omega) (n := splitN n) (wh := wh) (old := old) (path := (path.take (path.length - 1))) H hold hpt (by first | exact rdin_take32 hpo (hpr.up 3 rfl) (path.length - 1) pc | exact rdin_take32 hpo (hpr.up 4 rfl) (path.length - 1) pc | exact rdin_take32 hpo (hpr.up 5 rfl) (path.length - 1) pc) hptl (by rw [List.length_take]; omega) (by omega) (by omega) (by omega) rfl (by omega)) (fun v w hv => ?_)
            obtain ⟨rfl, H⟩ := hv
            refine l_nil ⟨fun _ _ => (by first | exact H | exact H.drop1 | exact H.drop1.drop1 | exact H.drop1.drop1.drop1), ?_⟩
            refine r_ptup rfl rfl rfl ?_
            refine r_pagg rfl rfl rfl ?_
            refine r_pagg rfl rfl rfl ?_
            refine rp_two ?_ ?_
            · refine rp_leaf ?_
              refine r_do rfl ?_
              refine b_alloc rfl ze_24 rfl H (fun b14 w H => ?_)
              refine l_nil ⟨fun _ _ => (by first | exact H | exact H.drop1 | exact H.drop1.drop1 | exact H.drop1.drop1.drop1), ?_⟩
              refine r_do rfl ?_
              refine b_alloc rfl ze_24 rfl H (fun b15 w H => ?_)
              refine l_nil ⟨fun _ _ => (by first | exact H | exact H.drop1 | exact H.drop1.drop1 | exact H.drop1.drop1.drop1), ?_⟩
              refine r_do rfl ?_
              first | refine b_store (vs := ((bothN m (splitN n) wh old (path.take (path.length - 1))).1).map B) rfl sz_24 rfl rfl rfl (by simp [hbl.1]) (all1 _) H 0 rfl (by simp [hbl.1]) (putL_all (by simp [hbl.1])) (fun w H => ?_) | refine b_store (vs := ((bothN m (splitN n) wh old (path.take (path.length - 1))).1).map B) rfl sz_24 rfl rfl rfl (by simp [hbl.1]) (all1 _) H 1 rfl (by simp [hbl.1]) (putL_all (by simp [hbl.1])) (fun w H => ?_)
              refine l_nil ⟨(fun h => nomatch h), ?_⟩
              refine r_do rfl ?_
              first | refine b_store (vs := ((bothN m (splitN n) wh old (path.take (path.length - 1))).2).map B) rfl sz_24 rfl rfl rfl (by simp [hbl.2]) (all1 _) H 0 rfl (by simp [hbl.2]) (putL_all (by simp [hbl.2])) (fun w H => ?_) | refine b_store (vs := ((bothN m (splitN n) wh old (path.take (path.length - 1))).2).map B) rfl sz_24 rfl rfl rfl (by simp [hbl.2]) (all1 _) H 1 rfl (by simp [hbl.2]) (putL_all (by simp [hbl.2])) (fun w H => ?_)
              refine l_nil ⟨(fun h => nomatch h), ?_⟩
              refine r_nil ?_
              refine ⟨by repeat' first | exact Agr.mix _ _ _ | exact Agr.refl _ _ | refine Agr.inner rfl ?_ | refine Agr.upd rfl ?_ | refine Agr.updL' rfl ?_, ?_⟩
              exact ⟨(b14, b15), ⟨rfl, rfl, trivial⟩, by first | exact H | exact H.swap01⟩
            · refine rp_leaf ?_
              refine r_do rfl ?_
              refine b_alloc rfl ze_24 rfl H (fun b15 w H => ?_)
              refine l_nil ⟨fun _ _ => (by first | exact H | exact H.drop1 | exact H.drop1.drop1 | exact H.drop1.drop1.drop1), ?_⟩
              refine r_do rfl ?_
              refine b_alloc rfl ze_24 rfl H (fun b14 w H => ?_)
              refine l_nil ⟨fun _ _ => (by first | exact H | exact H.drop1 | exact H.drop1.drop1 | exact H.drop1.drop1.drop1), ?_⟩
              refine r_do rfl ?_
              first | refine b_store (vs := ((bothN m (splitN n) wh old (path.take (path.length - 1))).1).map B) rfl sz_24 rfl rfl rfl (by simp [hbl.1]) (all1 _) H 0 rfl (by simp [hbl.1]) (putL_all (by simp [hbl.1])) (fun w H => ?_) | refine b_store (vs := ((bothN m (splitN n) wh old (path.take (path.length - 1))).1).map B) rfl sz_24 rfl rfl rfl (by simp [hbl.1]) (all1 _) H 1 rfl (by simp [hbl.1]) (putL_all (by simp [hbl.1])) (fun w H => ?_)
              refine l_nil ⟨(fun h => nomatch h), ?_⟩
              refine r_do rfl ?_
              first | refine b_store (vs := ((bothN m (splitN n) wh old (path.take (path.length - 1))).2).map B) rfl sz_24 rfl rfl rfl (by simp [hbl.2]) (all1 _) H 0 rfl (by simp [hbl.2]) (putL_all (by simp [hbl.2])) (fun w H => ?_) | refine b_store (vs := ((bothN m (splitN n) wh old (path.take (path.length - 1))).2).map B) rfl sz_24 rfl rfl rfl (by simp [hbl.2]) (all1 _) H 1 rfl (by simp [hbl.2]) (putL_all (by simp [hbl.2])) (fun w H => ?_)
              refine l_nil ⟨(fun h => nomatch h), ?_⟩
              refine r_nil ?_
              refine ⟨by repeat' first | exact Agr.mix _ _ _ | exact Agr.refl _ _ | refine Agr.inner rfl ?_ | refine Agr.upd rfl ?_ | refine Agr.updL' rfl ?_, ?_⟩
              exact ⟨(b14, b15), ⟨rfl, rfl, trivial⟩, by first | exact H | exact H.swap01⟩
          · refine rp_alt ?_
            refine rp_two ?_ ?_
            · refine rp_alt ?_
              refine r_do rfl ?_
              refine b_alloc rfl ze_24 rfl H (fun b14 w H => ?_)
              refine l_nil ⟨fun _ _ => (by first | exact H | exact H.drop1 | exact H.drop1.drop1 | exact H.drop1.drop1.drop1), ?_⟩
              refine rp_two ?_ ?_
              · refine rp_leaf ?_
                refine r_do rfl ?_
                refine b_call rfl cb_71 rfl (ih (splitN n) (by omega) (n := splitN n) (wh := wh) (old := old) (path := (path.take (path.length - 1))) H hold hpt (by first | exact rdin_take32 hpo (hpr.up 3 rfl) (path.length - 1) pc | exact rdin_take32 hpo (hpr.up 4 rfl) (path.length - 1) pc | exact rdin_take32 hpo (hpr.up 5 rfl) (path.length - 1) pc) hptl (by rw [List.length_take]; omega) (by omega) (by omega) (by omega) rfl (by omega)) (fun v w hv => ?_)
                obtain ⟨rfl, H⟩ := hv
                refine l_nil ⟨fun _ _ => (by first | exact H | exact H.drop1 | exact H.drop1.drop1 | exact H.drop1.drop1.drop1), ?_⟩
                refine r_ptup rfl rfl rfl ?_
                refine r_pagg rfl rfl rfl ?_
                refine r_pagg rfl rfl rfl ?_
                refine r_do rfl ?_
                refine b_alloc rfl ze_24 rfl H (fun b15 w H => ?_)
                refine l_nil ⟨fun _ _ => (by first | exact H | exact H.drop1 | exact H.drop1.drop1 | exact H.drop1.drop1.drop1), ?_⟩
                refine r_do rfl ?_
                first | refine b_store (vs := ((bothN m (splitN n) wh old (path.take (path.length - 1))).1).map B) rfl sz_24 rfl rfl rfl (by simp [hbl.1]) (all1 _) H 0 rfl (by simp [hbl.1]) (putL_all (by simp [hbl.1])) (fun w H => ?_) | refine b_store (vs := ((bothN m (splitN n) wh old (path.take (path.length - 1))).1).map B) rfl sz_24 rfl rfl rfl (by simp [hbl.1]) (all1 _) H 1 rfl (by simp [hbl.1]) (putL_all (by simp [hbl.1])) (fun w H => ?_)
                refine l_nil ⟨(fun h => nomatch h), ?_⟩
                refine r_do rfl ?_
                first | refine b_store (vs := ((bothN m (splitN n) wh old (path.take (path.length - 1))).2).map B) rfl sz_24 rfl rfl rfl (by simp [hbl.2]) (all1 _) H 0 rfl (by simp [hbl.2]) (putL_all (by simp [hbl.2])) (fun w H => ?_) | refine b_store (vs := ((bothN m (splitN n) wh old (path.take (path.length - 1))).2).map B) rfl sz_24 rfl rfl rfl (by simp [hbl.2]) (all1 _) H 1 rfl (by simp [hbl.2]) (putL_all (by simp [hbl.2])) (fun w H => ?_)
                refine l_nil ⟨(fun h => nomatch h), ?_⟩
                refine r_nil ?_
                refine ⟨by repeat' first | exact Agr.mix _ _ _ | exact Agr.refl _ _ | refine Agr.inner rfl ?_ | refine Agr.upd rfl ?_ | refine Agr.updL' rfl ?_, ?_⟩
                exact ⟨(b14, b15), ⟨rfl, rfl, trivial⟩, by first | exact H | exact H.swap01⟩
              · refine rp_leaf ?_
                refine r_do rfl ?_
                refine b_alloc rfl ze_24 rfl H (fun b15 w H => ?_)
                refine l_nil ⟨fun _ _ => (by first | exact H | exact H.drop1 | exact H.drop1.drop1 | exact H.drop1.drop1.drop1), ?_⟩
                refine r_do rfl ?_
                refine b_call rfl cb_71 rfl (ih (splitN n) (by omega) (n := splitN n) (wh := wh) (old := old) (path := (path.take (path.length - 1))) H hold hpt (by first | exact rdin_take32 hpo (hpr.up 3 rfl) (path.length - 1) pc | exact rdin_take32 hpo (hpr.up 4 rfl) (path.length - 1) pc | exact rdin_take32 hpo (hpr.up 5 rfl) (path.length - 1) pc) hptl (by rw [List.length_take]; omega) (by omega) (by omega) (by omega) rfl (by omega)) (fun v w hv => ?_)
                obtain ⟨rfl, H⟩ := hv
                refine l_nil ⟨fun _ _ => (by first | exact H | exact H.drop1 | exact H.drop1.drop1 | exact H.drop1.drop1.drop1), ?_⟩
                refine r_ptup rfl rfl rfl ?_
                refine r_pagg rfl rfl rfl ?_
                refine r_pagg rfl rfl rfl ?_
                refine r_do rfl ?_
                first | refine b_store (vs := ((bothN m (splitN n) wh old (path.take (path.length - 1))).1).map B) rfl sz_24 rfl rfl rfl (by simp [hbl.1]) (all1 _) H 0 rfl (by simp [hbl.1]) (putL_all (by simp [hbl.1])) (fun w H => ?_) | refine b_store (vs := ((bothN m (splitN n) wh old (path.take (path.length - 1))).1).map B) rfl sz_24 rfl rfl rfl (by simp [hbl.1]) (all1 _) H 1 rfl (by simp [hbl.1]) (putL_all (by simp [hbl.1])) (fun w H => ?_)
                refine l_nil ⟨(fun h => nomatch h), ?_⟩
                refine r_do rfl ?_
                first | refine b_store (vs := ((bothN m (splitN n) wh old (path.take (path.length - 1))).2).map B) rfl sz_24 rfl rfl rfl (by simp [hbl.2]) (all1 _) H 0 rfl (by simp [hbl.2]) (putL_all (by simp [hbl.2])) (fun w H => ?_) | refine b_store (vs := ((bothN m (splitN n) wh old (path.take (path.length - 1))).2).map B) rfl sz_24 rfl rfl rfl (by simp [hbl.2]) (all1 _) H 1 rfl (by simp [hbl.2]) (putL_all (by simp [hbl.2])) (fun w H => ?_)
                refine l_nil ⟨(fun h => nomatch h), ?_⟩
                refine r_nil ?_
                refine ⟨by repeat' first | exact Agr.mix _ _ _ | exact Agr.refl _ _ | refine Agr.inner rfl ?_ | refine Agr.upd rfl ?_ | refine Agr.updL' rfl ?_, ?_⟩
                exact ⟨(b14, b15), ⟨rfl, rfl, trivial⟩, by first | exact H | exact H.swap01⟩
            · refine rp_alt ?_
              refine r_do rfl ?_
              refine b_alloc rfl ze_24 rfl H (fun b15 w H => ?_)
              refine l_nil ⟨fun _ _ => (by first | exact H | exact H.drop1 | exact H.drop1.drop1 | exact H.drop1.drop1.drop1), ?_⟩
              refine rp_two ?_ ?_
              · refine rp_leaf ?_
                refine r_do rfl ?_
                refine b_call rfl cb_71 rfl (ih (splitN n) (by omega) (n := splitN n) (wh := wh) (old := old) (path := (path.take (path.length - 1))) H hold hpt (by first | exact rdin_take32 hpo (hpr.up 3 rfl) (path.length - 1) pc | exact rdin_take32 hpo (hpr.up 4 rfl) (path.length - 1) pc | exact rdin_take32 hpo (hpr.up 5 rfl) (path.length - 1) pc) hptl (by rw [List.length_take]; omega) (by omega) (by omega) (by omega) rfl (by omega)) (fun v w hv => ?_)
                obtain ⟨rfl, H⟩ := hv
                refine l_nil ⟨fun _ _ => (by first | exact H | exact H.drop1 | exact H.drop1.drop1 | exact H.drop1.drop1.drop1), ?_⟩
                refine r_ptup rfl rfl rfl ?_
                refine r_pagg rfl rfl rfl ?_
                refine r_pagg rfl rfl rfl ?_
                refine r_do rfl ?_
                refine b_alloc rfl ze_24 rfl H (fun b14 w H => ?_)
                refine l_nil ⟨fun _ _ => (by first | exact H | exact H.drop1 | exact H.drop1.drop1 | exact H.drop1.drop1.drop1), ?_⟩
                refine r_do rfl ?_
                first | refine b_store (vs := ((bothN m (splitN n) wh old (path.take (path.length - 1))).1).map B) rfl sz_24 rfl rfl rfl (by simp [hbl.1]) (all1 _) H 0 rfl (by simp [hbl.1]) (putL_all (by simp [hbl.1])) (fun w H => ?_) | refine b_store (vs := ((bothN m (splitN n) wh old (path.take (path.length - 1))).1).map B) rfl sz_24 rfl rfl rfl (by simp [hbl.1]) (all1 _) H 1 rfl (by simp [hbl.1]) (putL_all (by simp [hbl.1])) (fun w H => ?_)
                refine l_nil ⟨(fun h => nomatch h), ?_⟩
                refine r_do rfl ?_
                first | refine b_store (vs := ((bothN m (splitN n) wh old (path.take (path.length - 1))).2).map B) rfl sz_24 rfl rfl rfl (by simp [hbl.2]) (all1 _) H 0 rfl (by simp [hbl.2]) (putL_all (by simp [hbl.2])) (fun w H => ?_) | refine b_store (vs := ((bothN m (splitN n) wh old (path.take (path.length - 1))).2).map B) rfl sz_24 rfl rfl rfl (by simp [hbl.2]) (all1 _) H 1 rfl (by simp [hbl.2]) (putL_all (by simp [hbl.2])) (fun w H => ?_)
                refine l_nil ⟨(fun h => nomatch h), ?_⟩
                refine r_nil ?_
                refine ⟨by repeat' first | exact Agr.mix _ _ _ | exact Agr.refl _ _ | refine Agr.inner rfl ?_ | refine Agr.upd rfl ?_ | refine Agr.updL' rfl ?_, ?_⟩
                exact ⟨(b14, b15), ⟨rfl, rfl, trivial⟩, by first | exact H | exact H.swap01⟩
              · refine rp_leaf ?_
                refine r_do rfl ?_
                refine b_alloc rfl ze_24 rfl H (fun b14 w H => ?_)
                refine l_nil ⟨fun _ _ => (by first | exact H | exact H.drop1 | exact H.drop1.drop1 | exact H.drop1.drop1.drop1), ?_⟩
                refine r_do rfl ?_
                refine b_call rfl cb_71 rfl (ih (splitN n) (by omega) (n := splitN n) (wh := wh) (old := old) (path := (path.take (path.length - 1))) H hold hpt (by first | exact rdin_take32 hpo (hpr.up 3 rfl) (path.length - 1) pc | exact rdin_take32 hpo (hpr.up 4 rfl) (path.length - 1) pc | exact rdin_take32 hpo (hpr.up 5 rfl) (path.length - 1) pc) hptl (by rw [List.length_take]; omega) (by omega) (by omega) (by omega) rfl (by omega)) (fun v w hv => ?_)
                obtain ⟨rfl, H⟩ := hv
                refine l_nil ⟨fun _ _ => (by first | exact H | exact H.drop1 | exact H.drop1.drop1 | exact H.drop1.drop1.drop1), ?_⟩
                refine r_ptup rfl rfl rfl ?_
                refine r_pagg rfl rfl rfl ?_
                refine r_pagg rfl rfl rfl ?_
                refine r_do rfl ?_
                first | refine b_store (vs := ((bothN m (splitN n) wh old (path.take (path.length - 1))).1).map B) rfl sz_24 rfl rfl rfl (by simp [hbl.1]) (all1 _) H 0 rfl (by simp [hbl.1]) (putL_all (by simp [hbl.1])) (fun w H => ?_) | refine b_store (vs := ((bothN m (splitN n) wh old (path.take (path.length - 1))).1).map B) rfl sz_24 rfl rfl rfl (by simp [hbl.1]) (all1 _) H 1 rfl (by simp [hbl.1]) (putL_all (by simp [hbl.1])) (fun w H => ?_)
                refine l_nil ⟨(fun h => nomatch h), ?_⟩
                refine r_do rfl ?_
                first | refine b_store (vs := ((bothN m (splitN n) wh old (path.take (path.length - 1))).2).map B) rfl sz_24 rfl rfl rfl (by simp [hbl.2]) (all1 _) H 0 rfl (by simp [hbl.2]) (putL_all (by simp [hbl.2])) (fun w H => ?_) | refine b_store (vs := ((bothN m (splitN n) wh old (path.take (path.length - 1))).2).map B) rfl sz_24 rfl rfl rfl (by simp [hbl.2]) (all1 _) H 1 rfl (by simp [hbl.2]) (putL_all (by simp [hbl.2])) (fun w H => ?_)
                refine l_nil ⟨(fun h => nomatch h), ?_⟩
                refine r_nil ?_
                refine ⟨by repeat' first | exact Agr.mix _ _ _ | exact Agr.refl _ _ | refine Agr.inner rfl ?_ | refine Agr.upd rfl ?_ | refine Agr.updL' rfl ?_, ?_⟩
                exact ⟨(b14, b15), ⟨rfl, rfl, trivial⟩, by first | exact H | exact H.swap01⟩
        · rintro ⟨p1, p2⟩ ρ1 w H
          refine w_seq ?_
          refine w_drawT [7, 8] [0, 1, 5] [(0, 1), (1, 1), (2, 0), (3, 0), (4, 0), (5, 1), (6, 2), (7, 2), (8, 2)] mixed (by kernel_rfl) (fun _ _ _ h => fin_panic h) H (fun H => ?_)
          refine r_v rfl rfl (fun w hS => q_loadN (vs := ((bothN m (splitN n) wh old (path.take (path.length - 1))).1).map B) rfl ag_24 rfl (by simp [hbl.1]) (hS.cells 1 rfl)) ?_
          refine r_v rfl rfl (fun w hS => q_loadN (vs := ((bothN m (splitN n) wh old (path.take (path.length - 1))).2).map B) rfl ag_24 rfl (by simp [hbl.2]) (hS.cells 0 rfl)) ?_
          refine r_pslice rfl rfl rfl ?_
          refine r_pint rfl rfl rfl ?_
          refine r_w rfl rfl (fun w => q_indexSliceE (path.length - 1) rfl el_42 rfl hap rfl rfl (by omega)) ?_
          refine r_v rfl rfl (fun w hS => q_loadN (vs := (path[path.length - 1]).map B) rfl ag_24 rfl (by simp [hll]) (path_at2 hap hpo (hpr.use hS 5 rfl) hlp)) ?_
          refine r_do rfl ?_
          refine b_call rfl cb_18 rfl (rNode_ok H hbl.2 hll) (fun v w hv => ?_)
          obtain ⟨rfl, H⟩ := hv
          refine l_nil ⟨fun _ _ => (by first | exact H | exact H.drop1 | exact H.drop1.drop1 | exact H.drop1.drop1.drop1), ?_⟩
          refine r_do rfl ?_
          refine b_store (vs := ((bothN m (splitN n) wh old (path.take (path.length - 1))).1).map B) rfl sz_24 rfl rfl rfl (by simp [hbl.1]) (all1 _) H 3 rfl (by simp [z32, hbl.1]) (putL_all (by simp [z32, hbl.1])) (fun w H => ?_)
          refine l_nil ⟨(fun h => nomatch h), ?_⟩
          refine r_do rfl ?_
          refine b_store (vs := (nodeH (bothN m (splitN n) wh old (path.take (path.length - 1))).2 path[path.length - 1]).map B) rfl sz_24 rfl rfl rfl (by simp [nodeH_len]) (all1 _) H 2 rfl (by simp [z32, nodeH_len]) (putL_all (by simp [z32, nodeH_len])) (fun w H => ?_)
          refine l_nil ⟨(fun h => nomatch h), ?_⟩
          refine r_nil ?_
          refine w_ret ?_
          refine finc2c (vs := ((bothN m (splitN n) wh old (path.take (path.length - 1))).1).map B) (vs2 := (nodeH (bothN m (splitN n) wh old (path.take (path.length - 1))).2 path[path.length - 1]).map B) rfl rfl ag_24 (by simp [hbl.1]) (by simp [nodeH_len]) (H.cells 3 rfl) (H.cells 2 rfl) ?_
          refine ⟨by first | (rw [hbe]; done) | (rw [hbe]; rfl), (((((H.erase 0).erase 0).erase 0).erase 0).erase 0)⟩
      · try simp only [decide_eq_true_eq, decide_eq_false_iff_not, Bool.not_eq_true', Bool.not_eq_false', beq_iff_eq, beq_eq_false_iff_ne, bne_iff_ne, bne_eq_false_iff_eq, ne_eq, Int.not_lt, Int.not_le] at c3
        rw [if_neg (by omega)] at hpl
        have hptl : (path.take (path.length - 1)).length = lenN (m - splitN n) (n - splitN n) false := by rw [List.length_take]; omega
        have hbl := bothN_len (n - splitN n) (m := m - splitN n) (wh := false) (old := old) (Nat.le_refl _) (by omega) (by omega) hold hpt hptl
        have hbe := bothN_gt (wh := wh) (old := old) (p := path) hne (by omega)
        rw [pathD hpo hlp] at hbe
        refine w_skip ?_
        refine w_cutG (G := Nat × Nat) [16, 17, 56, 57, 58, 59, 60, 61, 62, 63, 64, 65, 66, 67, 68, 69] (fun ⟨p1, p2⟩ => [(16, .pointer (some ⟨p1, 0, none⟩)), (17, .pointer (some ⟨p2, 0, none⟩))]) (fun ⟨p1, p2⟩ w => St W w (blk p2 ((bothN (m - splitN n) (n - splitN n) false old (path.take (path.length - 1))).2.map B) 24 :: blk p1 ((bothN (m - splitN n) (n - splitN n) false old (path.take (path.length - 1))).1.map B) 24 :: blk b11 z32 24 :: blk b10 z32 24 :: blk b8 (old.map B) 24 :: F)) (fun _ => rfl) ?_ ?_
        · refine w_drawP [16, 17] [6] (.alt [(0, 0), (1, 0), (2, 0), (3, 0), (4, 0), (5, 0), (6, 1), (7, 0), (8, 0), (9, 0)] (.alt [(10, 2), (11, 0), (12, 0), (13, 0)] (.leaf [(14, 2), (15, 2), (16, 2), (17, 2)]) (.leaf [(15, 2), (14, 2), (16, 2), (17, 2)])) (.alt [] (.alt [(14, 2)] (.leaf [(10, 2), (11, 0), (12, 0), (13, 0), (15, 2), (16, 2), (17, 2)]) (.leaf [(15, 2), (10, 2), (11, 0), (12, 0), (13, 0), (16, 2), (17, 2)])) (.alt [(15, 2)] (.leaf [(10, 2), (11, 0), (12, 0), (13, 0), (14, 2), (16, 2), (17, 2)]) (.leaf [(14, 2), (10, 2), (11, 0), (12, 0), (13, 0), (16, 2), (17, 2)])))) mixed (by kernel_rfl) (fun _ _ _ h => fin_panic h) H (fun H => ?_)
          refine rp_alt ?_
          refine r_pint rfl rfl rfl ?_
          refine r_pint rfl rfl rfl ?_
          first | refine r_w rfl rfl (fun w => q_subN (a := m) (b := splitN n) rfl rfl rfl ⟨by omega, by omega⟩) ?_ | refine r_pint rfl rfl rfl ?_
          refine r_pint rfl rfl rfl ?_
          refine r_pint rfl rfl rfl ?_
          first | refine r_w rfl rfl (fun w => q_subN (a := n) (b := splitN n) rfl rfl rfl ⟨by omega, by omega⟩) ?_ | refine r_pint rfl rfl rfl ?_
          refine r_v rfl rfl (fun w hS => q_loadN (vs := old.map B) rfl ag_24 rfl (by simp [hold]) (hS.cells 2 rfl)) ?_
          refine r_pslice rfl rfl rfl ?_
          refine r_pint rfl rfl rfl ?_
          refine r_w rfl rfl (fun w => q_slice (h := path.length - 1) rfl el_42 rfl Bnd.none (Bnd.nat (by omega)) Bnd.none (by simp)) ?_
          refine rp_two ?_ ?_
          · refine rp_alt ?_
            refine r_do rfl ?_
            refine b_call rfl cb_71 rfl (ih (n - splitN n) (by omega) (n := n - splitN n) (wh := false) (old := old) (path := (path.take (path.length - 1))) H hold hpt (by first | exact rdin_take32 hpo (hpr.up 3 rfl) (path.length - 1) pc | exact rdin_take32 hpo (hpr.up 4 rfl) (path.length - 1) pc | exact rdin_take32 hpo (hpr.up 5 rfl) (path.length - 1) pc) hptl (by rw [List.length_take]; omega) (by omega) (by omega) (by omega) rfl (by omega)) (fun v w hv => ?_)
            obtain ⟨rfl, H⟩ := hv
            refine l_nil ⟨fun _ _ => (by first | exact H | exact H.drop1 | exact H.drop1.drop1 | exact H.drop1.drop1.drop1), ?_⟩
            refine r_ptup rfl rfl rfl ?_
            refine r_pagg rfl rfl rfl ?_
            refine r_pagg rfl rfl rfl ?_
            refine rp_two ?_ ?_
            · refine rp_leaf ?_
              refine r_do rfl ?_
              refine b_alloc rfl ze_24 rfl H (fun b16 w H => ?_)
              refine l_nil ⟨fun _ _ => (by first | exact H | exact H.drop1 | exact H.drop1.drop1 | exact H.drop1.drop1.drop1), ?_⟩
              refine r_do rfl ?_
              refine b_alloc rfl ze_24 rfl H (fun b17 w H => ?_)
              refine l_nil ⟨fun _ _ => (by first | exact H | exact H.drop1 | exact H.drop1.drop1 | exact H.drop1.drop1.drop1), ?_⟩
              refine r_do rfl ?_
              first | refine b_store (vs := ((bothN (m - splitN n) (n - splitN n) false old (path.take (path.length - 1))).1).map B) rfl sz_24 rfl rfl rfl (by simp [hbl.1]) (all1 _) H 0 rfl (by simp [hbl.1]) (putL_all (by simp [hbl.1])) (fun w H => ?_) | refine b_store (vs := ((bothN (m - splitN n) (n - splitN n) false old (path.take (path.length - 1))).1).map B) rfl sz_24 rfl rfl rfl (by simp [hbl.1]) (all1 _) H 1 rfl (by simp [hbl.1]) (putL_all (by simp [hbl.1])) (fun w H => ?_)
              refine l_nil ⟨(fun h => nomatch h), ?_⟩
              refine r_do rfl ?_
              first | refine b_store (vs := ((bothN (m - splitN n) (n - splitN n) false old (path.take (path.length - 1))).2).map B) rfl sz_24 rfl rfl rfl (by simp [hbl.2]) (all1 _) H 0 rfl (by simp [hbl.2]) (putL_all (by simp [hbl.2])) (fun w H => ?_) | refine b_store (vs := ((bothN (m - splitN n) (n - splitN n) false old (path.take (path.length - 1))).2).map B) rfl sz_24 rfl rfl rfl (by simp [hbl.2]) (all1 _) H 1 rfl (by simp [hbl.2]) (putL_all (by simp [hbl.2])) (fun w H => ?_)
              refine l_nil ⟨(fun h => nomatch h), ?_⟩
              refine r_nil ?_
              refine ⟨by repeat' first | exact Agr.mix _ _ _ | exact Agr.refl _ _ | refine Agr.inner rfl ?_ | refine Agr.upd rfl ?_ | refine Agr.updL' rfl ?_, ?_⟩
              exact ⟨(b16, b17), ⟨rfl, rfl, trivial⟩, by first | exact H | exact H.swap01⟩
            · refine rp_leaf ?_
              refine r_do rfl ?_
              refine b_alloc rfl ze_24 rfl H (fun b17 w H => ?_)
              refine l_nil ⟨fun _ _ => (by first | exact H | exact H.drop1 | exact H.drop1.drop1 | exact H.drop1.drop1.drop1), ?_⟩
              refine r_do rfl ?_
              refine b_alloc rfl ze_24 rfl H (fun b16 w H => ?_)
              refine l_nil ⟨fun _ _ => (by first | exact H | exact H.drop1 | exact H.drop1.drop1 | exact H.drop1.drop1.drop1), ?_⟩
              refine r_do rfl ?_
              first | refine b_store (vs := ((bothN (m - splitN n) (n - splitN n) false old (path.take (path.length - 1))).1).map B) rfl sz_24 rfl rfl rfl (by simp [hbl.1]) (all1 _) H 0 rfl (by simp [hbl.1]) (putL_all (by simp [hbl.1])) (fun w H => ?_) | refine b_store (vs := ((bothN (m - splitN n) (n - splitN n) false old (path.take (path.length - 1))).1).map B) rfl sz_24 rfl rfl rfl (by simp [hbl.1]) (all1 _) H 1 rfl (by simp [hbl.1]) (putL_all (by simp [hbl.1])) (fun w H => ?_)
              refine l_nil ⟨(fun h => nomatch h), ?_⟩
              refine r_do rfl ?_
              first | refine b_store (vs := ((bothN (m - splitN n) (n - splitN n) false old (path.take (path.length - 1))).2).map B) rfl sz_24 rfl rfl rfl (by simp [hbl.2]) (all1 _) H 0 rfl (by simp [hbl.2]) (putL_all (by simp [hbl.2])) (fun w H => ?_) | refine b_store (vs := ((bothN (m - splitN n) (n - splitN n) false old (path.take (path.length - 1))).2).map B) rfl sz_24 rfl rfl rfl (by simp [hbl.2]) (all1 _) H 1 rfl (by simp [hbl.2]) (putL_all (by simp [hbl.2])) (fun w H => ?_)
              refine l_nil ⟨(fun h => nomatch h), ?_⟩
              refine r_nil ?_
              refine ⟨by repeat' first | exact Agr.mix _ _ _ | exact Agr.refl _ _ | refine Agr.inner rfl ?_ | refine Agr.upd rfl ?_ | refine Agr.updL' rfl ?_, ?_⟩
              exact ⟨(b16, b17), ⟨rfl, rfl, trivial⟩, by first | exact H | exact H.swap01⟩
          · refine rp_alt ?_
            refine rp_two ?_ ?_
            · refine rp_alt ?_
              refine r_do rfl ?_
              refine b_alloc rfl ze_24 rfl H (fun b16 w H => ?_)
              refine l_nil ⟨fun _ _ => (by first | exact H | exact H.drop1 | exact H.drop1.drop1 | exact H.drop1.drop1.drop1), ?_⟩
              refine rp_two ?_ ?_
              · refine rp_leaf ?_
                refine r_do rfl ?_
                refine b_call rfl cb_71 rfl (ih (n - splitN n) (by omega) (n := n - splitN n) (wh := false) (old := old) (path := (path.take (path.length - 1))) H hold hpt (by first | exact rdin_take32 hpo (hpr.up 3 rfl) (path.length - 1) pc | exact rdin_take32 hpo (hpr.up 4 rfl) (path.length - 1) pc | exact rdin_take32 hpo (hpr.up 5 rfl) (path.length - 1) pc) hptl (by rw [List.length_take]; omega) (by omega) (by omega) (by omega) rfl (by omega)) (fun v w hv => ?_)
                obtain ⟨rfl, H⟩ := hv
                refine l_nil ⟨fun _ _ => (by first | exact H | exact H.drop1 | exact H.drop1.drop1 | exact H.drop1.drop1.drop1), ?_⟩
                refine r_ptup rfl rfl rfl ?_
                refine r_pagg rfl rfl rfl ?_
                refine r_pagg rfl rfl rfl ?_
                refine r_do rfl ?_
                refine b_alloc rfl ze_24 rfl H (fun b17 w H => ?_)
                refine l_nil ⟨fun _ _ => (by first | exact H | exact H.drop1 | exact H.drop1.drop1 | exact H.drop1.drop1.drop1), ?_⟩
                refine r_do rfl ?_
                first | refine b_store (vs := ((bothN (m - splitN n) (n - splitN n) false old (path.take (path.length - 1))).1).map B) rfl sz_24 rfl rfl rfl (by simp [hbl.1]) (all1 _) H 0 rfl (by simp [hbl.1]) (putL_all (by simp [hbl.1])) (fun w H => ?_) | refine b_store (vs := ((bothN (m - splitN n) (n - splitN n) false old (path.take (path.length - 1))).1).map B) rfl sz_24 rfl rfl rfl (by simp [hbl.1]) (all1 _) H 1 rfl (by simp [hbl.1]) (putL_all (by simp [hbl.1])) (fun w H => ?_)
                refine l_nil ⟨(fun h => nomatch h), ?_⟩
                refine r_do rfl ?_
                first | refine b_store (vs := ((bothN (m - splitN n) (n - splitN n) false old (path.take (path.length - 1))).2).map B) rfl sz_24 rfl rfl rfl (by simp [hbl.2]) (all1 _) H 0 rfl (by simp [hbl.2]) (putL_all (by simp [hbl.2])) (fun w H => ?_) | refine b_store (vs := ((bothN (m - splitN n) (n - splitN n) false old (path.take (path.length - 1))).2).map B) rfl sz_24 rfl rfl rfl (by simp [hbl.2]) (all1 _) H 1 rfl (by simp [hbl.2]) (putL_all (by simp [hbl.2])) (fun w H => ?_)
                refine l_nil ⟨(fun h => nomatch h), ?_⟩
                refine r_nil ?_
                refine ⟨by repeat' first | exact Agr.mix _ _ _ | exact Agr.refl _ _ | refine Agr.inner rfl ?_ | refine Agr.upd rfl ?_ | refine Agr.updL' rfl ?_, ?_⟩
                exact ⟨(b16, b17), ⟨rfl, rfl, trivial⟩, by first | exact H | exact H.swap01⟩
              · refine rp_leaf ?_
                refine r_do rfl ?_
                refine b_alloc rfl ze_24 rfl H (fun b17 w H => ?_)
                refine l_nil ⟨fun _ _ => (by first | exact H | exact H.drop1 | exact H.drop1.drop1 | exact H.drop1.drop1.drop1), ?_⟩
                refine r_do rfl ?_
                refine b_call rfl cb_71 rfl (ih (n - splitN n) (by omega) (n := n - splitN n) (wh := false) (old := old) (path := (path.take (path.length - 1))) H hold hpt (by first | exact rdin_take32 hpo (hpr.up 3 rfl) (path.length - 1) pc | exact rdin_take32 hpo (hpr.up 4 rfl) (path.length - 1) pc | exact rdin_take32 hpo (hpr.up 5 rfl) (path.length - 1) pc) hptl (by rw [List.length_take]; omega) (by omega) (by omega) (by omega) rfl (by omega)) (fun v w hv => ?_)
                obtain ⟨rfl, H⟩ := hv
                refine l_nil ⟨fun _ _ => (by first | exact H | exact H.drop1 | exact H.drop1.drop1 | exact H.drop1.drop1.drop1), ?_⟩
                refine r_ptup rfl rfl rfl ?_
                refine r_pagg rfl rfl rfl ?_
                refine r_pagg rfl rfl rfl ?_
                refine r_do rfl ?_
                first | refine b_store (vs := ((bothN (m - splitN n) (n - splitN n) false old (path.take (path.length - 1))).1).map B) rfl sz_24 rfl rfl rfl (by simp [hbl.1]) (all1 _) H 0 rfl (by simp [hbl.1]) (putL_all (by simp [hbl.1])) (fun w H => ?_) | refine b_store (vs := ((bothN (m - splitN n) (n - splitN n) false old (path.take (path.length - 1))).1).map B) rfl sz_24 rfl rfl rfl (by simp [hbl.1]) (all1 _) H 1 rfl (by simp [hbl.1]) (putL_all (by simp [hbl.1])) (fun w H => ?_)
                refine l_nil ⟨(fun h => nomatch h), ?_⟩
                refine r_do rfl ?_
                first | refine b_store (vs := ((bothN (m - splitN n) (n - splitN n) false old (path.take (path.length - 1))).2).map B) rfl sz_24 rfl rfl rfl (by simp [hbl.2]) (all1 _) H 0 rfl (by simp [hbl.2]) (putL_all (by simp [hbl.2])) (fun w H => ?_) | refine b_store (vs := ((bothN (m - splitN n) (n - splitN n) false old (path.take (path.length - 1))).2).map B) rfl sz_24 rfl rfl rfl (by simp [hbl.2]) (all1 _) H 1 rfl (by simp [hbl.2]) (putL_all (by simp [hbl.2])) (fun w H => ?_)
                refine l_nil ⟨(fun h => nomatch h), ?_⟩
                refine r_nil ?_
                refine ⟨by repeat' first | exact Agr.mix _ _ _ | exact Agr.refl _ _ | refine Agr.inner rfl ?_ | refine Agr.upd rfl ?_ | refine Agr.updL' rfl ?_, ?_⟩
                exact ⟨(b16, b17), ⟨rfl, rfl, trivial⟩, by first | exact H | exact H.swap01⟩
            · refine rp_alt ?_
              refine r_do rfl ?_
              refine b_alloc rfl ze_24 rfl H (fun b17 w H => ?_)
              refine l_nil ⟨fun _ _ => (by first | exact H | exact H.drop1 | exact H.drop1.drop1 | exact H.drop1.drop1.drop1), ?_⟩
              refine rp_two ?_ ?_
              · refine rp_leaf ?_
                refine r_do rfl ?_
                refine b_call rfl cb_71 rfl (ih (n - splitN n) (by omega) (n := n - splitN n) (wh := false) (old := old) (path := (path.take (path.length - 1))) H hold hpt (by first | exact rdin_take32 hpo (hpr.up 3 rfl) (path.length - 1) pc | exact rdin_take32 hpo (hpr.up 4 rfl) (path.length - 1) pc | exact rdin_take32 hpo (hpr.up 5 rfl) (path.length - 1) pc) hptl (by rw [List.length_take]; omega) (by omega) (by omega) (by omega) rfl (by omega)) (fun v w hv => ?_)
                obtain ⟨rfl, H⟩ := hv
                refine l_nil ⟨fun _ _ => (by first | exact H | exact H.drop1 | exact H.drop1.drop1 | exact H.drop1.drop1.drop1), ?_⟩
                refine r_ptup rfl rfl rfl ?_
                refine r_pagg rfl rfl rfl ?_
                refine r_pagg rfl rfl rfl ?_
                refine r_do rfl ?_
                refine b_alloc rfl ze_24 rfl H (fun b16 w H => ?_)
                refine l_nil ⟨fun _ _ => (by first | exact H | exact H.drop1 | exact H.drop1.drop1 | exact H.drop1.drop1.drop1), ?_⟩
                refine r_do rfl ?_
                first | refine b_store (vs := ((bothN (m - splitN n) (n - splitN n) false old (path.take (path.length - 1))).1).map B) rfl sz_24 rfl rfl rfl (by simp [hbl.1]) (all1 _) H 0 rfl (by simp [hbl.1]) (putL_all (by simp [hbl.1])) (fun w H => ?_) | refine b_store (vs := ((bothN (m - splitN n) (n - splitN n) false old (path.take (path.length - 1))).1).map B) rfl sz_24 rfl rfl rfl (by simp [hbl.1]) (all1 _) H 1 rfl (by simp [hbl.1]) (putL_all (by simp [hbl.1])) (fun w H => ?_)
                refine l_nil ⟨(fun h => nomatch h), ?_⟩
                refine r_do rfl ?_
                first | refine b_store (vs := ((bothN (m - splitN n) (n - splitN n) false old (path.take (path.length - 1))).2).map B) rfl sz_24 rfl rfl rfl (by simp [hbl.2]) (all1 _) H 0 rfl (by simp [hbl.2]) (putL_all (by simp [hbl.2])) (fun w H => ?_) | refine b_store (vs := ((bothN (m - splitN n) (n - splitN n) false old (path.take (path.length - 1))).2).map B) rfl sz_24 rfl rfl rfl (by simp [hbl.2]) (all1 _) H 1 rfl (by simp [hbl.2]) (putL_all (by simp [hbl.2])) (fun w H => ?_)
                refine l_nil ⟨(fun h => nomatch h), ?_⟩
                refine r_nil ?_
                refine ⟨by repeat' first | exact Agr.mix _ _ _ | exact Agr.refl _ _ | refine Agr.inner rfl ?_ | refine Agr.upd rfl ?_ | refine Agr.updL' rfl ?_, ?_⟩
                exact ⟨(b16, b17), ⟨rfl, rfl, trivial⟩, by first | exact H | exact H.swap01⟩
              · refine rp_leaf ?_
                refine r_do rfl ?_
                refine b_alloc rfl ze_24 rfl H (fun b16 w H => ?_)
                refine l_nil ⟨fun _ _ => (by first | exact H | exact H.drop1 | exact H.drop1.drop1 | exact H.drop1.drop1.drop1), ?_⟩
                refine r_do rfl ?_
                refine b_call rfl cb_71 rfl (ih (n - splitN n) (by omega) (n := n - splitN n) (wh := false) (old := old) (path := (path.take (path.length - 1))) H hold hpt (by first | exact rdin_take32 hpo (hpr.up 3 rfl) (path.length - 1) pc | exact rdin_take32 hpo (hpr.up 4 rfl) (path.length - 1) pc | exact rdin_take32 hpo (hpr.up 5 rfl) (path.length - 1) pc) hptl (by rw [List.length_take]; omega) (by omega) (by omega) (by omega) rfl (by omega)) (fun v w hv => ?_)
                obtain ⟨rfl, H⟩ := hv
                refine l_nil ⟨fun _ _ => (by first | exact H | exact H.drop1 | exact H.drop1.drop1 | exact H.drop1.drop1.drop1), ?_⟩
                refine r_ptup rfl rfl rfl ?_
                refine r_pagg rfl rfl rfl ?_
                refine r_pagg rfl rfl rfl ?_
                refine r_do rfl ?_
                first | refine b_store (vs := ((bothN (m - splitN n) (n - splitN n) false old (path.take (path.length - 1))).1).map B) rfl sz_24 rfl rfl rfl (by simp [hbl.1]) (all1 _) H 0 rfl (by simp [hbl.1]) (putL_all (by simp [hbl.1])) (fun w H => ?_) | refine b_store (vs := ((bothN (m - splitN n) (n - splitN n) false old (path.take (path.length - 1))).1).map B) rfl sz_24 rfl rfl rfl (by simp [hbl.1]) (all1 _) H 1 rfl (by simp [hbl.1]) (putL_all (by simp [hbl.1])) (fun w H => ?_)
                refine l_nil ⟨(fun h => nomatch h), ?_⟩
                refine r_do rfl ?_
                first | refine b_store (vs := ((bothN (m - splitN n) (n - splitN n) false old (path.take (path.length - 1))).2).map B) rfl sz_24 rfl rfl rfl (by simp [hbl.2]) (all1 _) H 0 rfl (by simp [hbl.2]) (putL_all (by simp [hbl.2])) (fun w H => ?_) | refine b_store (vs := ((bothN (m - splitN n) (n - splitN n) false old (path.take (path.length - 1))).2).map B) rfl sz_24 rfl rfl rfl (by simp [hbl.2]) (all1 _) H 1 rfl (by simp [hbl.2]) (putL_all (by simp [hbl.2])) (fun w H => ?_)
                refine l_nil ⟨(fun h => nomatch h), ?_⟩
                refine r_nil ?_
                refine ⟨by repeat' first | exact Agr.mix _ _ _ | exact Agr.refl _ _ | refine Agr.inner rfl ?_ | refine Agr.upd rfl ?_ | refine Agr.updL' rfl ?_, ?_⟩
                exact ⟨(b16, b17), ⟨rfl, rfl, trivial⟩, by first | exact H | exact H.swap01⟩
        · rintro ⟨p1, p2⟩ ρ1 w H
          refine w_seq ?_
          refine w_drawT [11, 12, 13] [3, 4, 9, 10] [(0, 0), (1, 0), (2, 0), (3, 1), (4, 1), (6, 0), (7, 0), (8, 0), (9, 1), (10, 1), (5, 2), (11, 2), (12, 2), (13, 2)] mixed (by kernel_rfl) (fun _ _ _ h => fin_panic h) H (fun H => ?_)
          refine r_pslice rfl rfl rfl ?_
          refine r_pint rfl rfl rfl ?_
          refine r_w rfl rfl (fun w => q_indexSliceE (path.length - 1) rfl el_42 rfl hap rfl rfl (by omega)) ?_
          refine r_v rfl rfl (fun w hS => q_loadN (vs := (path[path.length - 1]).map B) rfl ag_24 rfl (by simp [hll]) (path_at2 hap hpo (hpr.use hS 5 rfl) hlp)) ?_
          refine r_v rfl rfl (fun w hS => q_loadN (vs := ((bothN (m - splitN n) (n - splitN n) false old (path.take (path.length - 1))).1).map B) rfl ag_24 rfl (by simp [hbl.1]) (hS.cells 1 rfl)) ?_
          refine r_pslice rfl rfl rfl ?_
          refine r_pint rfl rfl rfl ?_
          refine r_w rfl rfl (fun w => q_indexSliceE (path.length - 1) rfl el_42 rfl hap rfl rfl (by omega)) ?_
          refine r_v rfl rfl (fun w hS => q_loadN (vs := (path[path.length - 1]).map B) rfl ag_24 rfl (by simp [hll]) (path_at2 hap hpo (hpr.use hS 5 rfl) hlp)) ?_
          refine r_v rfl rfl (fun w hS => q_loadN (vs := ((bothN (m - splitN n) (n - splitN n) false old (path.take (path.length - 1))).2).map B) rfl ag_24 rfl (by simp [hbl.2]) (hS.cells 0 rfl)) ?_
          refine r_do rfl ?_
          refine b_call rfl cb_18 rfl (rNode_ok H hll hbl.1) (fun v w hv => ?_)
          obtain ⟨rfl, H⟩ := hv
          refine l_nil ⟨fun _ _ => (by first | exact H | exact H.drop1 | exact H.drop1.drop1 | exact H.drop1.drop1.drop1), ?_⟩
          refine r_do rfl ?_
          refine b_call rfl cb_18 rfl (rNode_ok H hll hbl.2) (fun v w hv => ?_)
          obtain ⟨rfl, H⟩ := hv
          refine l_nil ⟨(fun h => nomatch h), ?_⟩
          refine r_do rfl ?_
          refine b_store (vs := (nodeH path[path.length - 1] (bothN (m - splitN n) (n - splitN n) false old (path.take (path.length - 1))).1).map B) rfl sz_24 rfl rfl rfl (by simp [nodeH_len]) (all1 _) H 3 rfl (by simp [z32, nodeH_len]) (putL_all (by simp [z32, nodeH_len])) (fun w H => ?_)
          refine l_nil ⟨(fun h => nomatch h), ?_⟩
          refine r_do rfl ?_
          refine b_store (vs := (nodeH path[path.length - 1] (bothN (m - splitN n) (n - splitN n) false old (path.take (path.length - 1))).2).map B) rfl sz_24 rfl rfl rfl (by simp [nodeH_len]) (all1 _) H 2 rfl (by simp [z32, nodeH_len]) (putL_all (by simp [z32, nodeH_len])) (fun w H => ?_)
          refine l_nil ⟨(fun h => nomatch h), ?_⟩
          refine r_nil ?_
          refine w_ret ?_
          refine finc2c (vs := (nodeH path[path.length - 1] (bothN (m - splitN n) (n - splitN n) false old (path.take (path.length - 1))).1).map B) (vs2 := (nodeH path[path.length - 1] (bothN (m - splitN n) (n - splitN n) false old (path.take (path.length - 1))).2).map B) rfl rfl ag_24 (by simp [nodeH_len]) (by simp [nodeH_len]) (H.cells 3 rfl) (H.cells 2 rfl) ?_
          refine ⟨by first | (rw [hbe]; done) | (rw [hbe]; rfl), (((((H.erase 0).erase 0).erase 0).erase 0).erase 0)⟩


end Go.Proofs.Ytcmmhpkgjcepdaa
