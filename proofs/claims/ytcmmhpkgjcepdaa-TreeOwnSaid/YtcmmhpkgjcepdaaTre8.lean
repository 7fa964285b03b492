/- The tree's both and Extends do what their contracts say. -/
import Derived.Test.YtcmmhpkgjcepdaaTre7
namespace Go.Proofs.Ytcmmhpkgjcepdaa
open Go.EW
attribute [local irreducible] EW.W EW.L EW.fin block8 outB shaL
set_option linter.unusedVariables false
set_option linter.unusedSimpArgs false
attribute [local irreducible] swp headH leafH nodeH inclN sidesN bothN lenN

theorem rdin_take32 {W : World} {F : List Seg} {a : Option Addr} {p : List (List UInt8)} (hp : PathOk p) (h : RdIn W F a (pathV p)) (k c : Nat) : RdIn W F (subA a 32 0 c) (pathV (p.take k)) := by
  have := h.subA (sz := 32) (l := 0) (m := c) (j := k * 32) (fun _ => .inr rfl)
  rw [pathV_take hp]
  simpa using this
theorem lenN_pos {m n : Nat} {wh : Bool} (h1 : 1 ≤ m) (h2 : m < n) : 1 ≤ lenN m n wh := by
  rw [lenN_ne h1 h2]
  split <;> omega
theorem pathD {p : List (List UInt8)} {i : Nat} (hp : PathOk p) (hi : i < p.length) : p.getD i [] = p[i] := by simp [List.getD, hi]
theorem bothN_len : ∀ (k : Nat) {m n : Nat} {wh : Bool} {old : List UInt8} {p : List (List UInt8)}, n ≤ k → 1 ≤ m → m ≤ n → old.length = 32 → PathOk p → p.length = lenN m n wh → (bothN m n wh old p).1.length = 32 ∧ (bothN m n wh old p).2.length = 32 := by
  intro k
  induction k with
  | zero => intro m n wh old p hk h1 h2; omega
  | succ k ih =>
    intro m n wh old p hk h1 h2 ho hp hl
    by_cases he : m = n
    · subst he
      rw [lenN_eq h1] at hl
      rw [bothN_eq h1]
      cases wh with
      | true => exact ⟨ho, ho⟩
      | false =>
        have : (0 : Nat) < p.length := by rw [hl]; decide
        show (p.getD 0 []).length = 32 ∧ (p.getD 0 []).length = 32
        rw [pathD hp this]
        exact ⟨hp _ (List.getElem_mem this), hp _ (List.getElem_mem this)⟩
    · have hs := splitN_spec (n := n) (by omega)
      rw [lenN_ne h1 (by omega)] at hl
      by_cases hk2 : m ≤ splitN n
      · rw [if_pos hk2] at hl
        rw [bothN_le h1 (by omega) hk2]
        exact ⟨(ih (by omega) h1 hk2 ho (hp.take _) (by rw [List.length_take]; omega)).1, nodeH_len _ _⟩
      · rw [if_neg hk2] at hl
        rw [bothN_gt (by omega) (by omega)]
        exact ⟨nodeH_len _ _, nodeH_len _ _⟩

set_option maxRecDepth 8000 in
set_option maxHeartbeats 2000000 in
theorem both_ok (k : Nat) : ∀ {W w : World} {F : List Seg} {m n : Nat} {wh : Bool} {old : List UInt8} {pa : Option Addr} {pc : Nat} {path : List (List UInt8)} {pn : Nat}, St W w F → old.length = 32 → PathOk path → RdIn W F pa (pathV path) → path.length = lenN m n wh → pn = path.length → pn ≤ pc → 1 ≤ m → m ≤ n → n = k → n ≤ 9223372036854775807 →
    Ok Try.prog 69 [.int .i64 (m : Int), .int .i64 (n : Int), .bool wh, .agg (old.map B).toArray, .slice pa pn pc].toArray w (fun r w' => r = .tuple #[.agg ((bothN m n wh old path).1.map B).toArray, .agg ((bothN m n wh old path).2.map B).toArray] ∧ St W w' F) := by
  induction k using Nat.strongRecOn with
  | _ k ih =>
    intro W w F m n wh old pa pc path pn H hold hpo hpr hpl hpn hpc hm hmn hnk hnb
    subst hnk
    subst hpn
    have hple : path.length ≤ n := by rw [hpl]; unfold lenN; exact lenF_le _ _ _ _
    refine enter (n := 77) (rs := #[.cell 10 24, .cell 11 24]) Try.func69 rfl rfl rfl rfl ?_
    refine w_seq ?_
    refine w_region ?_
    refine b_box rfl rfl rfl H (fun b8 w H => ?_)
    refine b_alloc rfl ze_24 rfl H (fun b10 w H => ?_)
    refine b_alloc rfl ze_24 rfl H (fun b11 w H => ?_)
    refine l_nil ?_
    refine w_seq ?_
    refine w_seq ?_
    refine w_region ?_
    refine l_pint rfl rfl ?_
    refine l_pint rfl rfl ?_
    refine l_pbool rfl rfl ?_
    refine l_nil ?_
    refine w_cond rfl (fun c1 => ?_) (fun c1 => ?_)
    · try simp only [decide_eq_true_eq, decide_eq_false_iff_not, Bool.not_eq_true', Bool.not_eq_false', beq_iff_eq, beq_eq_false_iff_ne, bne_iff_ne, bne_eq_false_iff_eq, ne_eq, Int.not_lt, Int.not_le] at c1
      have e : m = n := by omega
      subst e
      rw [lenN_eq hm] at hpl
      have hbe := bothN_eq (wh := wh) (old := old) (p := path) hm
      refine w_seq ?_
      refine w_seq ?_
      refine w_region ?_
      refine l_pbool rfl rfl ?_
      refine l_nil ?_
      refine w_cond rfl (fun c2 => ?_) (fun c2 => ?_)
      · try simp only [decide_eq_true_eq, decide_eq_false_iff_not, Bool.not_eq_true', Bool.not_eq_false', beq_iff_eq, beq_eq_false_iff_ne, bne_iff_ne, bne_eq_false_iff_eq, ne_eq, Int.not_lt, Int.not_le] at c2
        obtain rfl : wh = true := c2
        refine w_seq ?_
        refine w_drawX [3] [0, 1] 2 [(0, 1), (1, 1), (2, 2), (3, 2)] mixed (by kernel_rfl) (fun _ _ _ h => fin_panic h) H (fun H => ?_)
        refine r_v rfl rfl (fun w hS => q_loadN (vs := old.map B) rfl ag_24 rfl (by simp [hold]) (hS.cells 0 rfl)) ?_
        refine r_v rfl rfl (fun w hS => q_loadN (vs := old.map B) rfl ag_24 rfl (by simp [hold]) (hS.cells 0 rfl)) ?_
        refine r_do rfl ?_
        refine b_store (vs := (old).map B) rfl sz_24 rfl rfl rfl (by simp [hold]) (all1 _) H 1 rfl (by simp [hold]) (putL_all (by simp [hold])) (fun w H => ?_)
        refine l_nil ⟨fun _ _ => Sx.tl H 2 rfl, ?_⟩
        refine r_do rfl ?_
        refine b_store (vs := (old).map B) rfl sz_24 rfl rfl rfl (by simp [hold]) (all1 _) H 0 rfl (by simp [hold]) (putL_all (by simp [hold])) (fun w H => ?_)
        refine l_nil ⟨(fun h => nomatch h), ?_⟩
        refine r_nil ?_
        refine w_ret ?_
        refine finc2c (vs := (old).map B) (vs2 := (old).map B) rfl rfl ag_24 (by simp [hold]) (by simp [hold]) (H.cells 1 rfl) (H.cells 0 rfl) ?_
        refine ⟨by first | (rw [hbe]; done) | (rw [hbe]; rfl), (((H.erase 0).erase 0).erase 0)⟩
      · try simp only [decide_eq_true_eq, decide_eq_false_iff_not, Bool.not_eq_true', Bool.not_eq_false', beq_iff_eq, beq_eq_false_iff_ne, bne_iff_ne, bne_eq_false_iff_eq, ne_eq, Int.not_lt, Int.not_le] at c2
        obtain rfl : wh = false := c2
        have h0 : 0 < path.length := by rw [hpl]; decide
        obtain ⟨bp, op, hap, _⟩ := path_cells hpo (hpr.use H 3 rfl) h0
        have hbe2 : bothN m m false old path = (path[0], path[0]) := by rw [hbe, pathD hpo h0]; rfl
        refine w_skip ?_
        refine w_seq ?_
        refine w_drawX [7] [2, 5] 2 [(0, 0), (1, 0), (2, 1), (3, 0), (4, 0), (5, 1), (6, 2), (7, 2)] mixed (by kernel_rfl) (fun _ _ _ h => fin_panic h) H (fun H => ?_)
        refine r_pslice rfl rfl rfl ?_
        refine r_w rfl rfl (fun w => q_indexSliceE 0 rfl el_42 rfl hap rfl rfl h0) ?_
        refine r_v rfl rfl (fun w hS => q_loadN (vs := (path[0]).map B) rfl ag_24 rfl (by simp [hpo _ (List.getElem_mem h0)]) (path_at2 hap hpo (hS.use hpr 1 rfl) h0)) ?_
        refine r_pslice rfl rfl rfl ?_
        refine r_w rfl rfl (fun w => q_indexSliceE 0 rfl el_42 rfl hap rfl rfl h0) ?_
        refine r_v rfl rfl (fun w hS => q_loadN (vs := (path[0]).map B) rfl ag_24 rfl (by simp [hpo _ (List.getElem_mem h0)]) (path_at2 hap hpo (hS.use hpr 1 rfl) h0)) ?_
        refine r_do rfl ?_
        refine b_store (vs := (path[0]).map B) rfl sz_24 rfl rfl rfl (by simp [hpo _ (List.getElem_mem h0)]) (all1 _) H 1 rfl (by simp [hpo _ (List.getElem_mem h0)]) (putL_all (by simp [hpo _ (List.getElem_mem h0)])) (fun w H => ?_)
        refine l_nil ⟨fun _ _ => Sx.tl H 2 rfl, ?_⟩
        refine r_do rfl ?_
        refine b_store (vs := (path[0]).map B) rfl sz_24 rfl rfl rfl (by simp [hpo _ (List.getElem_mem h0)]) (all1 _) H 0 rfl (by simp [hpo _ (List.getElem_mem h0)]) (putL_all (by simp [hpo _ (List.getElem_mem h0)])) (fun w H => ?_)
        refine l_nil ⟨(fun h => nomatch h), ?_⟩
        refine r_nil ?_
        refine w_ret ?_
        refine finc2c (vs := (path[0]).map B) (vs2 := (path[0]).map B) rfl rfl ag_24 (by simp [hpo _ (List.getElem_mem h0)]) (by simp [hpo _ (List.getElem_mem h0)]) (H.cells 1 rfl) (H.cells 0 rfl) ?_
        refine ⟨by first | (rw [hbe2]; done) | (rw [hbe2]; rfl), (((H.erase 0).erase 0).erase 0)⟩
    · try simp only [decide_eq_true_eq, decide_eq_false_iff_not, Bool.not_eq_true', Bool.not_eq_false', beq_iff_eq, beq_eq_false_iff_ne, bne_iff_ne, bne_eq_false_iff_eq, ne_eq, Int.not_lt, Int.not_le] at c1
      have hne : m < n := by omega
      have hsp := splitN_spec (n := n) (by omega)
      have hpos := lenN_pos (wh := wh) hm hne
      have hlp : path.length - 1 < path.length := by omega
      obtain ⟨bp, op, hap, hcp⟩ := path_cells hpo (hpr.use H 3 rfl) hlp
      have hll := hpo _ (List.getElem_mem hlp)
      have hpt := hpo.take (path.length - 1)
      rw [lenN_ne hm hne] at hpl
      refine w_skip ?_
      refine w_seq ?_
      refine w_region ?_
      refine l_pslice rfl rfl ?_
      refine l_pslice rfl rfl ?_
      refine l_v rfl (q_lenSlice rfl el_42 rfl) ?_
      first | refine l_v rfl (q_subN (a := path.length) (b := 1) rfl rfl rfl ⟨by omega, by omega⟩) ?_ | refine l_pint rfl rfl ?_
      refine l_v rfl (q_indexSliceE (path.length - 1) rfl el_42 rfl hap rfl rfl (by omega)) ?_
      refine l_v rfl (q_loadN (vs := (path[path.length - 1]).map B) rfl ag_24 rfl (by simp [hll]) hcp) ?_
      refine b_alloc rfl ze_24 rfl H (fun b12 w H => ?_)
      refine b_store (vs := (path[path.length - 1]).map B) rfl sz_24 rfl rfl rfl (by simp [hll]) (all1 _) H 0 rfl (by simp [hll]) (putL_all (by simp [hll])) (fun w H => ?_)
      refine l_nil ?_
      refine w_seq ?_
      refine w_region ?_
      refine l_pslice rfl rfl ?_
      refine l_pslice rfl rfl ?_
      refine l_v rfl (q_lenSlice rfl el_42 rfl) ?_
      first | refine l_v rfl (q_subN (a := path.length) (b := 1) rfl rfl rfl ⟨by omega, by omega⟩) ?_ | refine l_pint rfl rfl ?_
      refine l_v rfl (q_slice (h := path.length - 1) rfl el_42 rfl Bnd.none (Bnd.nat (by omega)) Bnd.none (by simp)) ?_
      refine l_pslice rfl rfl ?_
      refine l_nil ?_
      refine w_seq ?_
      refine w_region ?_
      refine l_pint rfl rfl ?_
      refine b_call rfl cb_51 rfl (split_ok (n := n) ⟨by omega, by omega⟩) (fun v w hv => ?_)
      obtain ⟨rfl, rfl⟩ := hv
      refine l_pint rfl rfl ?_
      refine l_nil ?_
      refine w_seq ?_
      refine w_seq ?_
      refine w_region ?_
      refine l_pint rfl rfl ?_
      refine l_pint rfl rfl ?_
      refine l_pbool rfl rfl ?_
      refine l_nil ?_
      refine w_cond rfl (fun c3 => ?_) (fun c3 => ?_)
      · try simp only [decide_eq_true_eq, decide_eq_false_iff_not, Bool.not_eq_true', Bool.not_eq_false', beq_iff_eq, beq_eq_false_iff_ne, bne_iff_ne, bne_eq_false_iff_eq, ne_eq, Int.not_lt, Int.not_le] at c3
        rw [if_pos (by omega)] at hpl
        have hptl : (path.take (path.length - 1)).length = lenN m (splitN n) wh := by rw [List.length_take]; omega
        have hbl := bothN_len (splitN n) (wh := wh) (old := old) (Nat.le_refl _) hm (by omega) hold hpt hptl
        have hbe := bothN_le (wh := wh) (old := old) (p := path) hm hne (by omega)
        rw [pathD hpo hlp] at hbe
        refine w_seq ?_
        refine w_region ?_
        refine l_pint rfl rfl ?_
        refine l_pint rfl rfl ?_
        refine l_pbool rfl rfl ?_
        refine l_v rfl (q_loadN (vs := old.map B) rfl ag_24 rfl (by simp [hold]) (H.cells 3 rfl)) ?_
        refine l_pslice rfl rfl ?_
        refine b_call rfl cb_69 rfl (ih (splitN n) (by omega) (n := splitN n) (wh := wh) (old := old) (path := path.take (path.length - 1)) H hold hpt (rdin_take32 hpo (hpr.up 4 rfl) (path.length - 1) pc) hptl (by rw [List.length_take]; omega) (by omega) (by omega) (by omega) rfl (by omega)) (fun v w hv => ?_)
        obtain ⟨rfl, H⟩ := hv
        refine l_ptup rfl rfl ?_
        refine l_pagg rfl rfl ?_
        refine l_pagg rfl rfl ?_
        refine b_alloc rfl ze_24 rfl H (fun b14 w H => ?_)
        refine b_alloc rfl ze_24 rfl H (fun b15 w H => ?_)
        refine b_store (vs := ((bothN m (splitN n) wh old (path.take (path.length - 1))).1).map B) rfl sz_24 rfl rfl rfl (by simp [hbl.1]) (all1 _) H 1 rfl (by simp [hbl.1]) (putL_all (by simp [hbl.1])) (fun w H => ?_)
        refine b_store (vs := ((bothN m (splitN n) wh old (path.take (path.length - 1))).2).map B) rfl sz_24 rfl rfl rfl (by simp [hbl.2]) (all1 _) H 0 rfl (by simp [hbl.2]) (putL_all (by simp [hbl.2])) (fun w H => ?_)
        refine l_nil ?_
        refine w_seq ?_
        refine w_drawT [4, 5] [0, 1, 2] [(0, 1), (1, 1), (2, 1), (3, 2), (4, 2), (5, 2)] mixed (by kernel_rfl) (fun _ _ _ h => fin_panic h) H (fun H => ?_)
        refine r_v rfl rfl (fun w hS => q_loadN (vs := ((bothN m (splitN n) wh old (path.take (path.length - 1))).1).map B) rfl ag_24 rfl (by simp [hbl.1]) (hS.cells 1 rfl)) ?_
        refine r_v rfl rfl (fun w hS => q_loadN (vs := ((bothN m (splitN n) wh old (path.take (path.length - 1))).2).map B) rfl ag_24 rfl (by simp [hbl.2]) (hS.cells 0 rfl)) ?_
        refine r_v rfl rfl (fun w hS => q_loadN (vs := (path[path.length - 1]).map B) rfl ag_24 rfl (by simp [hll]) (hS.cells 2 rfl)) ?_
        refine r_do rfl ?_
        refine b_call rfl cb_17 rfl (Node_ok H hbl.2 hll) (fun v w hv => ?_)
        obtain ⟨rfl, H⟩ := hv
        refine l_nil ⟨fun _ _ => (by first | exact H | exact H.drop1 | exact H.drop1.drop1 | exact H.drop1.drop1.drop1), ?_⟩
        refine r_do rfl ?_
        refine b_store (vs := ((bothN m (splitN n) wh old (path.take (path.length - 1))).1).map B) rfl sz_24 rfl rfl rfl (by simp [hbl.1]) (all1 _) H 4 rfl (by simp [hbl.1]) (putL_all (by simp [hbl.1])) (fun w H => ?_)
        refine l_nil ⟨(fun h => nomatch h), ?_⟩
        refine r_do rfl ?_
        refine b_store (vs := (nodeH (bothN m (splitN n) wh old (path.take (path.length - 1))).2 path[path.length - 1]).map B) rfl sz_24 rfl rfl rfl (by simp [nodeH_len]) (all1 _) H 3 rfl (by simp [nodeH_len]) (putL_all (by simp [nodeH_len])) (fun w H => ?_)
        refine l_nil ⟨(fun h => nomatch h), ?_⟩
        refine r_nil ?_
        refine w_ret ?_
        refine finc2c (vs := ((bothN m (splitN n) wh old (path.take (path.length - 1))).1).map B) (vs2 := (nodeH (bothN m (splitN n) wh old (path.take (path.length - 1))).2 path[path.length - 1]).map B) rfl rfl ag_24 (by simp [hbl.1]) (by simp [nodeH_len]) (H.cells 4 rfl) (H.cells 3 rfl) ?_
        refine ⟨by first | (rw [hbe]; done) | (rw [hbe]; rfl), ((((((H.erase 0).erase 0).erase 0).erase 0).erase 0).erase 0)⟩
      · try simp only [decide_eq_true_eq, decide_eq_false_iff_not, Bool.not_eq_true', Bool.not_eq_false', beq_iff_eq, beq_eq_false_iff_ne, bne_iff_ne, bne_eq_false_iff_eq, ne_eq, Int.not_lt, Int.not_le] at c3
        rw [if_neg (by omega)] at hpl
        have hptl : (path.take (path.length - 1)).length = lenN (m - splitN n) (n - splitN n) false := by rw [List.length_take]; omega
        have hbl := bothN_len (n - splitN n) (m := m - splitN n) (wh := false) (old := old) (Nat.le_refl _) (by omega) (by omega) hold hpt hptl
        have hbe := bothN_gt (wh := wh) (old := old) (p := path) hne (by omega)
        rw [pathD hpo hlp] at hbe
        refine w_skip ?_
        refine w_seq ?_
        refine w_region ?_
        refine l_pint rfl rfl ?_
        refine l_pint rfl rfl ?_
        first | refine l_v rfl (q_subN (a := m) (b := splitN n) rfl rfl rfl ⟨by omega, by omega⟩) ?_ | refine l_pint rfl rfl ?_
        refine l_pint rfl rfl ?_
        refine l_pint rfl rfl ?_
        first | refine l_v rfl (q_subN (a := n) (b := splitN n) rfl rfl rfl ⟨by omega, by omega⟩) ?_ | refine l_pint rfl rfl ?_
        refine l_v rfl (q_loadN (vs := old.map B) rfl ag_24 rfl (by simp [hold]) (H.cells 3 rfl)) ?_
        refine l_pslice rfl rfl ?_
        refine b_call rfl cb_69 rfl (ih (n - splitN n) (by omega) (n := n - splitN n) (wh := false) (old := old) (path := path.take (path.length - 1)) H hold hpt (rdin_take32 hpo (hpr.up 4 rfl) (path.length - 1) pc) hptl (by rw [List.length_take]; omega) (by omega) (by omega) (by omega) rfl (by omega)) (fun v w hv => ?_)
        obtain ⟨rfl, H⟩ := hv
        refine l_ptup rfl rfl ?_
        refine l_pagg rfl rfl ?_
        refine l_pagg rfl rfl ?_
        refine b_alloc rfl ze_24 rfl H (fun b16 w H => ?_)
        refine b_alloc rfl ze_24 rfl H (fun b17 w H => ?_)
        refine b_store (vs := ((bothN (m - splitN n) (n - splitN n) false old (path.take (path.length - 1))).1).map B) rfl sz_24 rfl rfl rfl (by simp [hbl.1]) (all1 _) H 1 rfl (by simp [hbl.1]) (putL_all (by simp [hbl.1])) (fun w H => ?_)
        refine b_store (vs := ((bothN (m - splitN n) (n - splitN n) false old (path.take (path.length - 1))).2).map B) rfl sz_24 rfl rfl rfl (by simp [hbl.2]) (all1 _) H 0 rfl (by simp [hbl.2]) (putL_all (by simp [hbl.2])) (fun w H => ?_)
        refine l_nil ?_
        refine w_seq ?_
        refine w_drawT [5, 6, 7] [0, 1, 3, 4] [(0, 1), (1, 1), (3, 1), (4, 1), (2, 2), (5, 2), (6, 2), (7, 2)] mixed (by kernel_rfl) (fun _ _ _ h => fin_panic h) H (fun H => ?_)
        refine r_v rfl rfl (fun w hS => q_loadN (vs := (path[path.length - 1]).map B) rfl ag_24 rfl (by simp [hll]) (hS.cells 2 rfl)) ?_
        refine r_v rfl rfl (fun w hS => q_loadN (vs := ((bothN (m - splitN n) (n - splitN n) false old (path.take (path.length - 1))).1).map B) rfl ag_24 rfl (by simp [hbl.1]) (hS.cells 1 rfl)) ?_
        refine r_v rfl rfl (fun w hS => q_loadN (vs := (path[path.length - 1]).map B) rfl ag_24 rfl (by simp [hll]) (hS.cells 2 rfl)) ?_
        refine r_v rfl rfl (fun w hS => q_loadN (vs := ((bothN (m - splitN n) (n - splitN n) false old (path.take (path.length - 1))).2).map B) rfl ag_24 rfl (by simp [hbl.2]) (hS.cells 0 rfl)) ?_
        refine r_do rfl ?_
        refine b_call rfl cb_17 rfl (Node_ok H hll hbl.1) (fun v w hv => ?_)
        obtain ⟨rfl, H⟩ := hv
        refine l_nil ⟨fun _ _ => (by first | exact H | exact H.drop1 | exact H.drop1.drop1 | exact H.drop1.drop1.drop1), ?_⟩
        refine r_do rfl ?_
        refine b_call rfl cb_17 rfl (Node_ok H hll hbl.2) (fun v w hv => ?_)
        obtain ⟨rfl, H⟩ := hv
        refine l_nil ⟨(fun h => nomatch h), ?_⟩
        refine r_do rfl ?_
        refine b_store (vs := (nodeH path[path.length - 1] (bothN (m - splitN n) (n - splitN n) false old (path.take (path.length - 1))).1).map B) rfl sz_24 rfl rfl rfl (by simp [nodeH_len]) (all1 _) H 4 rfl (by simp [nodeH_len]) (putL_all (by simp [nodeH_len])) (fun w H => ?_)
        refine l_nil ⟨(fun h => nomatch h), ?_⟩
        refine r_do rfl ?_
        refine b_store (vs := (nodeH path[path.length - 1] (bothN (m - splitN n) (n - splitN n) false old (path.take (path.length - 1))).2).map B) rfl sz_24 rfl rfl rfl (by simp [nodeH_len]) (all1 _) H 3 rfl (by simp [nodeH_len]) (putL_all (by simp [nodeH_len])) (fun w H => ?_)
        refine l_nil ⟨(fun h => nomatch h), ?_⟩
        refine r_nil ?_
        refine w_ret ?_
        refine finc2c (vs := (nodeH path[path.length - 1] (bothN (m - splitN n) (n - splitN n) false old (path.take (path.length - 1))).1).map B) (vs2 := (nodeH path[path.length - 1] (bothN (m - splitN n) (n - splitN n) false old (path.take (path.length - 1))).2).map B) rfl rfl ag_24 (by simp [nodeH_len]) (by simp [nodeH_len]) (H.cells 4 rfl) (H.cells 3 rfl) ?_
        refine ⟨by first | (rw [hbe]; done) | (rw [hbe]; rfl), ((((((H.erase 0).erase 0).erase 0).erase 0).erase 0).erase 0)⟩



/-- Extends' answer -/
def extR (old : List UInt8) (m : Int) (head : List UInt8) (n : Int) (p : List (List UInt8)) : Int :=
  if m < 0 ∨ n < m then 200 else if p.length ≠ (if 0 < m ∧ m < n then lenN m.toNat n.toNat true else 0) then 201
  else if (m = 0 ∧ old ≠ shaL []) ∨ (m = n ∧ old ≠ head) then 202
  else if 0 < m ∧ m < n then (if (bothN m.toNat n.toNat true old p).1 ≠ old ∨ (bothN m.toNat n.toNat true old p).2 ≠ head then 202 else 0) else 0
theorem sha_nil_len : (shaL []).length = 32 := shaL_len _

set_option maxRecDepth 8000 in
set_option maxHeartbeats 1000000 in
theorem Extends_ok {W w : World} {F : List Seg} (H : St W w F) {old hd : List UInt8} (hold : old.length = 32) (hhd : hd.length = 32) (x y : Int) {pa : Option Addr} {pc : Nat} {path : List (List UInt8)} (hpo : PathOk path) (hpr : RdIn W F pa (pathV path)) (hpc : path.length ≤ pc) (hpl : path.length ≤ 140737488355328) (hyb : y ≤ 9223372036854775807) :
    Ok Try.prog 27 [.agg (old.map B).toArray, .int .i64 x, .agg (hd.map B).toArray, .int .i64 y, .slice pa path.length pc].toArray w (fun r w' => r = .int .i64 (extR old x hd y path) ∧ St W w' F) := by
  refine enter (n := 75) (rs := #[.tmp 10]) Try.func27 rfl rfl rfl rfl ?_
  refine w_seq ?_
  refine w_region ?_
  refine b_box rfl rfl rfl H (fun b5 w H => ?_)
  refine b_box rfl rfl rfl H (fun b7 w H => ?_)
  refine l_pint rfl rfl ?_
  refine l_nil ?_
  refine w_seq ?_
  refine w_seq ?_
  refine w_region ?_
  refine l_pint rfl rfl ?_
  refine l_pbool rfl rfl ?_
  refine l_pbool rfl rfl ?_
  refine l_split 16 rfl (fun h16 => ?_) (fun h16 => ?_)
  · try simp only [decide_eq_true_eq, decide_eq_false_iff_not, Bool.not_eq_true', Bool.not_eq_false', beq_iff_eq, beq_eq_false_iff_ne, bne_iff_ne, bne_eq_false_iff_eq, ne_eq, Int.not_lt, Int.not_le] at h16
    refine l_no rfl ?_
    refine l_no rfl ?_
    refine l_no rfl ?_
    refine l_pickT (v := .bool _) rfl rfl rfl ?_
    refine l_nil ?_
    refine w_cond_t rfl ?_
    refine w_seq ?_
    refine w_region ?_
    refine l_pint rfl rfl ?_
    refine l_nil ?_
    refine w_ret ?_
    refine fin1 (v := .int _ _) rfl ?_
    refine ⟨?_, (H.erase 0).erase 0⟩
    unfold extR; rw [if_pos (by omega)]
  · try simp only [decide_eq_true_eq, decide_eq_false_iff_not, Bool.not_eq_true', Bool.not_eq_false', beq_iff_eq, beq_eq_false_iff_ne, bne_iff_ne, bne_eq_false_iff_eq, ne_eq, Int.not_lt, Int.not_le] at h16
    refine l_pint rfl rfl ?_
    refine l_pint rfl rfl ?_
    refine l_pbool rfl rfl ?_
    refine l_pickF (v := .bool _) rfl rfl rfl ?_
    refine l_nil ?_
    refine w_cond rfl (fun c1 => ?_) (fun c1 => ?_)
    · try simp only [decide_eq_true_eq, decide_eq_false_iff_not, Bool.not_eq_true', Bool.not_eq_false', beq_iff_eq, beq_eq_false_iff_ne, bne_iff_ne, bne_eq_false_iff_eq, ne_eq, Int.not_lt, Int.not_le] at c1
      refine w_seq ?_
      refine w_region ?_
      refine l_pint rfl rfl ?_
      refine l_nil ?_
      refine w_ret ?_
      refine fin1 (v := .int _ _) rfl ?_
      refine ⟨?_, (H.erase 0).erase 0⟩
      unfold extR; rw [if_pos (by omega)]
    · try simp only [decide_eq_true_eq, decide_eq_false_iff_not, Bool.not_eq_true', Bool.not_eq_false', beq_iff_eq, beq_eq_false_iff_ne, bne_iff_ne, bne_eq_false_iff_eq, ne_eq, Int.not_lt, Int.not_le] at c1
      obtain ⟨mm, rfl⟩ := Int.eq_ofNat_of_zero_le (by omega : 0 ≤ x)
      obtain ⟨nn, rfl⟩ := Int.eq_ofNat_of_zero_le (by omega : 0 ≤ y)
      obtain ⟨want, hw⟩ : ∃ k, k = if 0 < (mm : Int) ∧ (mm : Int) < nn then lenN mm nn true else 0 := ⟨_, rfl⟩
      have hR : extR old mm hd nn path = if path.length ≠ want then 201 else if ((mm : Int) = 0 ∧ old ≠ shaL []) ∨ ((mm : Int) = nn ∧ old ≠ hd) then 202 else if 0 < (mm : Int) ∧ (mm : Int) < nn then (if (bothN mm nn true old path).1 ≠ old ∨ (bothN mm nn true old path).2 ≠ hd then 202 else 0) else 0 := by unfold extR; rw [if_neg (by omega), Int.toNat_natCast, Int.toNat_natCast, ← hw]
      refine w_skip ?_
      refine w_seq ?_
      refine w_region ?_
      refine l_pint rfl rfl ?_
      refine l_nil ?_
      refine w_cutG (G := Unit) [11, 21, 22, 23, 24, 25, 26, 27, 28, 29, 30] (fun _ => [(11, .int .i64 (want : Int))]) (fun _ w => St W w (blk b7 (hd.map B) 24 :: blk b5 (old.map B) 24 :: F)) (fun _ => rfl) ?_ ?_
      · refine w_seq ?_
        refine w_region ?_
        refine l_pint rfl rfl ?_
        refine l_pbool rfl rfl ?_
        refine l_pbool rfl rfl ?_
        refine l_split 23 rfl (fun h23 => ?_) (fun h23 => ?_)
        · try simp only [decide_eq_true_eq, decide_eq_false_iff_not, Bool.not_eq_true', Bool.not_eq_false', beq_iff_eq, beq_eq_false_iff_ne, bne_iff_ne, bne_eq_false_iff_eq, ne_eq, Int.not_lt, Int.not_le] at h23
          refine l_pint rfl rfl ?_
          refine l_pint rfl rfl ?_
          refine l_pbool rfl rfl ?_
          refine l_pickT (v := .bool _) rfl rfl rfl ?_
          refine l_nil ?_
          refine w_cond rfl (fun c2 => ?_) (fun c2 => ?_)
          · try simp only [decide_eq_true_eq, decide_eq_false_iff_not, Bool.not_eq_true', Bool.not_eq_false', beq_iff_eq, beq_eq_false_iff_ne, bne_iff_ne, bne_eq_false_iff_eq, ne_eq, Int.not_lt, Int.not_le] at c2
            refine w_region ?_
            refine l_pint rfl rfl ?_
            refine l_pint rfl rfl ?_
            refine b_call rfl cb_68 rfl (length_ok (m := mm) (n := nn) (by omega) (by omega) (by omega) true) (fun v w hv => ?_)
            obtain ⟨rfl, rfl⟩ := hv
            refine l_pint rfl rfl ?_
            refine l_nil ?_
            refine ⟨by repeat' first | exact Agr.mix _ _ _ | exact Agr.refl _ _ | refine Agr.inner rfl ?_ | refine Agr.upd rfl ?_ | refine Agr.updL' rfl ?_, ?_⟩
            exact ⟨(), ⟨congrArg (Value.int .i64) (by rw [hw, if_pos (by omega)]), trivial⟩, H⟩
          · try simp only [decide_eq_true_eq, decide_eq_false_iff_not, Bool.not_eq_true', Bool.not_eq_false', beq_iff_eq, beq_eq_false_iff_ne, bne_iff_ne, bne_eq_false_iff_eq, ne_eq, Int.not_lt, Int.not_le] at c2
            refine w_skip ?_
            refine ⟨by repeat' first | exact Agr.mix _ _ _ | exact Agr.refl _ _ | refine Agr.inner rfl ?_ | refine Agr.upd rfl ?_ | refine Agr.updL' rfl ?_, ?_⟩
            exact ⟨(), ⟨congrArg (Value.int .i64) (by rw [hw, if_neg (by omega)]; rfl), trivial⟩, H⟩
        · try simp only [decide_eq_true_eq, decide_eq_false_iff_not, Bool.not_eq_true', Bool.not_eq_false', beq_iff_eq, beq_eq_false_iff_ne, bne_iff_ne, bne_eq_false_iff_eq, ne_eq, Int.not_lt, Int.not_le] at h23
          refine l_no rfl ?_
          refine l_no rfl ?_
          refine l_no rfl ?_
          refine l_pickF (v := .bool _) rfl rfl rfl ?_
          refine l_nil ?_
          refine w_cond_f rfl ?_
          refine w_skip ?_
          refine ⟨by repeat' first | exact Agr.mix _ _ _ | exact Agr.refl _ _ | refine Agr.inner rfl ?_ | refine Agr.upd rfl ?_ | refine Agr.updL' rfl ?_, ?_⟩
          exact ⟨(), ⟨congrArg (Value.int .i64) (by rw [hw, if_neg (by omega)]; rfl), trivial⟩, H⟩
      · rintro _ ρ1 w H
        refine w_seq ?_
        refine w_seq ?_
        refine w_region ?_
        refine l_pslice rfl rfl ?_
        refine l_v rfl (q_lenSlice rfl el_42 rfl) ?_
        refine l_pint rfl rfl ?_
        refine l_pbool rfl rfl ?_
        refine l_nil ?_
        refine w_cond rfl (fun c3 => ?_) (fun c3 => ?_)
        · try simp only [decide_eq_true_eq, decide_eq_false_iff_not, Bool.not_eq_true', Bool.not_eq_false', beq_iff_eq, beq_eq_false_iff_ne, bne_iff_ne, bne_eq_false_iff_eq, ne_eq, Int.not_lt, Int.not_le] at c3
          refine w_seq ?_
          refine w_region ?_
          refine l_pint rfl rfl ?_
          refine l_nil ?_
          refine w_ret ?_
          refine fin1 (v := .int _ _) rfl ?_
          refine ⟨?_, (H.erase 0).erase 0⟩
          rw [hR, if_pos (by omega)]
        · try simp only [decide_eq_true_eq, decide_eq_false_iff_not, Bool.not_eq_true', Bool.not_eq_false', beq_iff_eq, beq_eq_false_iff_ne, bne_iff_ne, bne_eq_false_iff_eq, ne_eq, Int.not_lt, Int.not_le] at c3
          refine w_skip ?_
          refine w_cutG (G := Unit) [10, 35, 36, 37, 38, 39, 40, 41, 42, 43, 44, 45, 46, 47, 48, 49, 50, 51] (fun _ => []) (fun _ w => ¬ (((mm : Int) = 0 ∧ old ≠ shaL []) ∨ ((mm : Int) = nn ∧ old ≠ hd)) ∧ St W w (blk b7 (hd.map B) 24 :: blk b5 (old.map B) 24 :: F)) (fun _ => rfl) ?_ ?_
          · refine w_seq ?_
            refine w_drawT [] [3, 12, 13] [(0, 0), (1, 0), (2, 0), (3, 1), (4, 2), (5, 0), (6, 0), (7, 0), (8, 0), (9, 0), (10, 0), (11, 0), (12, 1), (13, 1), (14, 0), (15, 0), (16, 0)] mixed (by kernel_rfl) (fun _ _ _ h => fin_panic h) H (fun H => ?_)
            refine r_pint rfl rfl rfl ?_
            refine r_pbool rfl rfl rfl ?_
            refine r_pbool rfl rfl rfl ?_
            refine r_split 37 rfl (fun h37 => ?_) (fun h37 => ?_)
            · try simp only [decide_eq_true_eq, decide_eq_false_iff_not, Bool.not_eq_true', Bool.not_eq_false', beq_iff_eq, beq_eq_false_iff_ne, bne_iff_ne, bne_eq_false_iff_eq, ne_eq, Int.not_lt, Int.not_le] at h37
              refine r_v rfl rfl (fun w hS => q_loadN (vs := (old).map B) rfl ag_24 rfl (by simp [hold]) (hS.cells 1 rfl)) ?_
              refine r_do rfl ?_
              refine b_call rfl cb_50 rfl (SumB_to H (bs := []) RdIn.nil rfl (Nat.le_refl _) (by decide)) (fun v w hv => ?_)
              obtain ⟨rfl, H⟩ := hv
              refine l_nil ⟨fun _ _ => (by first | exact H | exact H.drop1 | exact H.drop1.drop1 | exact H.drop1.drop1.drop1), ?_⟩
              refine r_w rfl rfl (fun w => q_neqHash rfl rfl rfl hold sha_nil_len) ?_
              refine r_pickT (v := .bool _) rfl rfl rfl rfl ?_
              refine r_pbool rfl rfl rfl ?_
              refine r_split 42 rfl (fun h42 => ?_) (fun h42 => ?_)
              · try simp only [decide_eq_true_eq, decide_eq_false_iff_not, Bool.not_eq_true', Bool.not_eq_false', beq_iff_eq, beq_eq_false_iff_ne, bne_iff_ne, bne_eq_false_iff_eq, ne_eq, Int.not_lt, Int.not_le] at h42
                refine r_no rfl rfl ?_
                refine r_no rfl rfl ?_
                refine r_no rfl rfl ?_
                refine r_no rfl rfl ?_
                refine r_no1 rfl rfl ?_
                refine r_no1 rfl rfl ?_
                refine r_no rfl rfl ?_
                refine r_no rfl rfl ?_
                refine r_pickT (v := .bool _) rfl rfl rfl rfl ?_
                refine r_nil ?_
                refine w_cond_t rfl ?_
                refine w_seq ?_
                refine w_region ?_
                refine l_pint rfl rfl ?_
                refine l_nil ?_
                refine w_ret ?_
                refine fin1 (v := .int _ _) rfl ?_
                refine ⟨?_, (H.erase 0).erase 0⟩
                rw [hR, if_neg (by omega), if_pos (.inl ⟨by omega, by simpa using h42⟩)]
              · try simp only [decide_eq_true_eq, decide_eq_false_iff_not, Bool.not_eq_true', Bool.not_eq_false', beq_iff_eq, beq_eq_false_iff_ne, bne_iff_ne, bne_eq_false_iff_eq, ne_eq, Int.not_lt, Int.not_le] at h42
                refine r_pint rfl rfl rfl ?_
                refine r_pint rfl rfl rfl ?_
                refine r_pbool rfl rfl rfl ?_
                refine r_pbool rfl rfl rfl ?_
                refine r_split 46 rfl (fun h46 => ?_) (fun h46 => ?_)
                · try simp only [decide_eq_true_eq, decide_eq_false_iff_not, Bool.not_eq_true', Bool.not_eq_false', beq_iff_eq, beq_eq_false_iff_ne, bne_iff_ne, bne_eq_false_iff_eq, ne_eq, Int.not_lt, Int.not_le] at h46
                  refine r_v rfl rfl (fun w hS => q_loadN (vs := (old).map B) rfl ag_24 rfl (by simp [hold]) (hS.cells 1 rfl)) ?_
                  refine r_v rfl rfl (fun w hS => q_loadN (vs := (hd).map B) rfl ag_24 rfl (by simp [hhd]) (hS.cells 0 rfl)) ?_
                  refine r_w rfl rfl (fun w => q_neqHash rfl rfl rfl hold hhd) ?_
                  refine r_pickT (v := .bool _) rfl rfl rfl rfl ?_
                  refine r_pickF (v := .bool _) rfl rfl rfl rfl ?_
                  refine r_nil ?_
                  refine w_cond rfl (fun c4 => ?_) (fun c4 => ?_)
                  · try simp only [decide_eq_true_eq, decide_eq_false_iff_not, Bool.not_eq_true', Bool.not_eq_false', beq_iff_eq, beq_eq_false_iff_ne, bne_iff_ne, bne_eq_false_iff_eq, ne_eq, Int.not_lt, Int.not_le] at c4
                    refine w_seq ?_
                    refine w_region ?_
                    refine l_pint rfl rfl ?_
                    refine l_nil ?_
                    refine w_ret ?_
                    refine fin1 (v := .int _ _) rfl ?_
                    refine ⟨?_, (H.erase 0).erase 0⟩
                    rw [hR, if_neg (by omega), if_pos (.inr ⟨by omega, by simpa using c4⟩)]
                  · try simp only [decide_eq_true_eq, decide_eq_false_iff_not, Bool.not_eq_true', Bool.not_eq_false', beq_iff_eq, beq_eq_false_iff_ne, bne_iff_ne, bne_eq_false_iff_eq, ne_eq, Int.not_lt, Int.not_le] at c4
                    refine w_skip ?_
                    refine ⟨by repeat' first | exact Agr.mix _ _ _ | exact Agr.refl _ _ | refine Agr.inner rfl ?_ | refine Agr.upd rfl ?_ | refine Agr.updL' rfl ?_, ?_⟩
                    refine ⟨(), trivial, ?_, H⟩
                    rintro (⟨h1, h2⟩ | ⟨h1, h2⟩)
                    · exact h2 (by simpa using h42)
                    · exact h2 (by simpa using c4)
                · try simp only [decide_eq_true_eq, decide_eq_false_iff_not, Bool.not_eq_true', Bool.not_eq_false', beq_iff_eq, beq_eq_false_iff_ne, bne_iff_ne, bne_eq_false_iff_eq, ne_eq, Int.not_lt, Int.not_le] at h46
                  refine r_no1 rfl rfl ?_
                  refine r_no1 rfl rfl ?_
                  refine r_no rfl rfl ?_
                  refine r_pickF (v := .bool _) rfl rfl rfl rfl ?_
                  refine r_pickF (v := .bool _) rfl rfl rfl rfl ?_
                  refine r_nil ?_
                  refine w_cond_f rfl ?_
                  refine w_skip ?_
                  refine ⟨by repeat' first | exact Agr.mix _ _ _ | exact Agr.refl _ _ | refine Agr.inner rfl ?_ | refine Agr.upd rfl ?_ | refine Agr.updL' rfl ?_, ?_⟩
                  refine ⟨(), trivial, ?_, H⟩
                  rintro (⟨h1, h2⟩ | ⟨h1, h2⟩)
                  · exact h2 (by simpa using h42)
                  · exact absurd h1 (by omega)
            · try simp only [decide_eq_true_eq, decide_eq_false_iff_not, Bool.not_eq_true', Bool.not_eq_false', beq_iff_eq, beq_eq_false_iff_ne, bne_iff_ne, bne_eq_false_iff_eq, ne_eq, Int.not_lt, Int.not_le] at h37
              refine r_no1 rfl rfl ?_
              refine r_do rfl (l_no rfl (l_nil ⟨fun _ _ => (by first | exact H | exact H.drop1 | exact H.drop1.drop1), ?_⟩))
              refine r_no rfl rfl ?_
              refine r_pickF (v := .bool _) rfl rfl rfl rfl ?_
              refine r_pbool rfl rfl rfl ?_
              refine r_pint rfl rfl rfl ?_
              refine r_pint rfl rfl rfl ?_
              refine r_pbool rfl rfl rfl ?_
              refine r_pbool rfl rfl rfl ?_
              refine r_split 46 rfl (fun h46 => ?_) (fun h46 => ?_)
              · try simp only [decide_eq_true_eq, decide_eq_false_iff_not, Bool.not_eq_true', Bool.not_eq_false', beq_iff_eq, beq_eq_false_iff_ne, bne_iff_ne, bne_eq_false_iff_eq, ne_eq, Int.not_lt, Int.not_le] at h46
                refine r_v rfl rfl (fun w hS => q_loadN (vs := (old).map B) rfl ag_24 rfl (by simp [hold]) (hS.cells 1 rfl)) ?_
                refine r_v rfl rfl (fun w hS => q_loadN (vs := (hd).map B) rfl ag_24 rfl (by simp [hhd]) (hS.cells 0 rfl)) ?_
                refine r_w rfl rfl (fun w => q_neqHash rfl rfl rfl hold hhd) ?_
                refine r_pickT (v := .bool _) rfl rfl rfl rfl ?_
                refine r_pickF (v := .bool _) rfl rfl rfl rfl ?_
                refine r_nil ?_
                refine w_cond rfl (fun c5 => ?_) (fun c5 => ?_)
                · try simp only [decide_eq_true_eq, decide_eq_false_iff_not, Bool.not_eq_true', Bool.not_eq_false', beq_iff_eq, beq_eq_false_iff_ne, bne_iff_ne, bne_eq_false_iff_eq, ne_eq, Int.not_lt, Int.not_le] at c5
                  refine w_seq ?_
                  refine w_region ?_
                  refine l_pint rfl rfl ?_
                  refine l_nil ?_
                  refine w_ret ?_
                  refine fin1 (v := .int _ _) rfl ?_
                  refine ⟨?_, (H.erase 0).erase 0⟩
                  rw [hR, if_neg (by omega), if_pos (.inr ⟨by omega, by simpa using c5⟩)]
                · try simp only [decide_eq_true_eq, decide_eq_false_iff_not, Bool.not_eq_true', Bool.not_eq_false', beq_iff_eq, beq_eq_false_iff_ne, bne_iff_ne, bne_eq_false_iff_eq, ne_eq, Int.not_lt, Int.not_le] at c5
                  refine w_skip ?_
                  refine ⟨by repeat' first | exact Agr.mix _ _ _ | exact Agr.refl _ _ | refine Agr.inner rfl ?_ | refine Agr.upd rfl ?_ | refine Agr.updL' rfl ?_, ?_⟩
                  refine ⟨(), trivial, ?_, H⟩
                  rintro (⟨h1, h2⟩ | ⟨h1, h2⟩)
                  · exact absurd h1 (by omega)
                  · exact h2 (by simpa using c5)
              · try simp only [decide_eq_true_eq, decide_eq_false_iff_not, Bool.not_eq_true', Bool.not_eq_false', beq_iff_eq, beq_eq_false_iff_ne, bne_iff_ne, bne_eq_false_iff_eq, ne_eq, Int.not_lt, Int.not_le] at h46
                refine r_no1 rfl rfl ?_
                refine r_no1 rfl rfl ?_
                refine r_no rfl rfl ?_
                refine r_pickF (v := .bool _) rfl rfl rfl rfl ?_
                refine r_pickF (v := .bool _) rfl rfl rfl rfl ?_
                refine r_nil ?_
                refine w_cond_f rfl ?_
                refine w_skip ?_
                refine ⟨by repeat' first | exact Agr.mix _ _ _ | exact Agr.refl _ _ | refine Agr.inner rfl ?_ | refine Agr.upd rfl ?_ | refine Agr.updL' rfl ?_, ?_⟩
                refine ⟨(), trivial, ?_, H⟩
                rintro (⟨h1, h2⟩ | ⟨h1, h2⟩)
                · exact absurd h1 (by omega)
                · exact absurd h1 (by omega)
          · rintro _ ρ1 w ⟨hbad, H⟩
            refine w_seq ?_
            refine w_seq ?_
            refine w_region ?_
            refine l_pint rfl rfl ?_
            refine l_pbool rfl rfl ?_
            refine l_pbool rfl rfl ?_
            refine l_split 54 rfl (fun h54 => ?_) (fun h54 => ?_)
            · try simp only [decide_eq_true_eq, decide_eq_false_iff_not, Bool.not_eq_true', Bool.not_eq_false', beq_iff_eq, beq_eq_false_iff_ne, bne_iff_ne, bne_eq_false_iff_eq, ne_eq, Int.not_lt, Int.not_le] at h54
              refine l_pint rfl rfl ?_
              refine l_pint rfl rfl ?_
              refine l_pbool rfl rfl ?_
              refine l_pickT (v := .bool _) rfl rfl rfl ?_
              refine l_nil ?_
              refine w_cond rfl (fun c6 => ?_) (fun c6 => ?_)
              · try simp only [decide_eq_true_eq, decide_eq_false_iff_not, Bool.not_eq_true', Bool.not_eq_false', beq_iff_eq, beq_eq_false_iff_ne, bne_iff_ne, bne_eq_false_iff_eq, ne_eq, Int.not_lt, Int.not_le] at c6
                have hpl2 : path.length = lenN mm nn true := by rw [if_pos (by omega)] at hw; omega
                have hbl := bothN_len nn (wh := true) (old := old) (Nat.le_refl _) (by omega) (by omega) hold hpo hpl2
                refine w_seq ?_
                refine w_region ?_
                refine l_pint rfl rfl ?_
                refine l_pint rfl rfl ?_
                refine l_v rfl (q_loadN (vs := (old).map B) rfl ag_24 rfl (by simp [hold]) (H.cells 1 rfl)) ?_
                refine l_pslice rfl rfl ?_
                refine b_call rfl cb_69 rfl (both_ok nn (m := mm) (n := nn) (wh := true) H hold hpo (hpr.up 2 rfl) hpl2 rfl hpc (by omega) (by omega) rfl (by omega)) (fun v w hv => ?_)
                obtain ⟨rfl, H⟩ := hv
                refine l_ptup rfl rfl ?_
                refine l_pagg rfl rfl ?_
                refine l_pagg rfl rfl ?_
                refine b_alloc rfl ze_24 rfl H (fun b12 w H => ?_)
                refine b_alloc rfl ze_24 rfl H (fun b13 w H => ?_)
                refine b_store (vs := ((bothN mm nn true old path).1).map B) rfl sz_24 rfl rfl rfl (by simp [hbl.1]) (all1 _) H 1 rfl (by simp [hbl.1]) (putL_all (by simp [hbl.1])) (fun w H => ?_)
                refine b_store (vs := ((bothN mm nn true old path).2).map B) rfl sz_24 rfl rfl rfl (by simp [hbl.2]) (all1 _) H 0 rfl (by simp [hbl.2]) (putL_all (by simp [hbl.2])) (fun w H => ?_)
                refine l_nil ?_
                refine w_seq ?_
                refine w_region ?_
                refine l_v rfl (q_loadN (vs := ((bothN mm nn true old path).1).map B) rfl ag_24 rfl (by simp [hbl.1]) (H.cells 1 rfl)) ?_
                refine l_v rfl (q_loadN (vs := (old).map B) rfl ag_24 rfl (by simp [hold]) (H.cells 3 rfl)) ?_
                refine l_v rfl (q_neqHash rfl rfl rfl hbl.1 hold) ?_
                refine l_pbool rfl rfl ?_
                refine l_split 70 rfl (fun h70 => ?_) (fun h70 => ?_)
                · try simp only [decide_eq_true_eq, decide_eq_false_iff_not, Bool.not_eq_true', Bool.not_eq_false', beq_iff_eq, beq_eq_false_iff_ne, bne_iff_ne, bne_eq_false_iff_eq, ne_eq, Int.not_lt, Int.not_le] at h70
                  refine l_no rfl ?_
                  refine l_no rfl ?_
                  refine l_no rfl ?_
                  refine l_pickT (v := .bool _) rfl rfl rfl ?_
                  refine l_nil ?_
                  refine w_cond_t rfl ?_
                  refine w_seq ?_
                  refine w_region ?_
                  refine l_pint rfl rfl ?_
                  refine l_nil ?_
                  refine w_ret ?_
                  refine fin1 (v := .int _ _) rfl ?_
                  refine ⟨?_, (((H.erase 0).erase 0).erase 0).erase 0⟩
                  rw [hR, if_neg (by omega), if_neg hbad, if_pos ⟨by omega, by omega⟩, if_pos (.inl (by simpa using h70))]
                · try simp only [decide_eq_true_eq, decide_eq_false_iff_not, Bool.not_eq_true', Bool.not_eq_false', beq_iff_eq, beq_eq_false_iff_ne, bne_iff_ne, bne_eq_false_iff_eq, ne_eq, Int.not_lt, Int.not_le] at h70
                  refine l_v rfl (q_loadN (vs := ((bothN mm nn true old path).2).map B) rfl ag_24 rfl (by simp [hbl.2]) (H.cells 0 rfl)) ?_
                  refine l_v rfl (q_loadN (vs := (hd).map B) rfl ag_24 rfl (by simp [hhd]) (H.cells 2 rfl)) ?_
                  refine l_v rfl (q_neqHash rfl rfl rfl hbl.2 hhd) ?_
                  refine l_pickF (v := .bool _) rfl rfl rfl ?_
                  refine l_nil ?_
                  refine w_cond rfl (fun c7 => ?_) (fun c7 => ?_)
                  · try simp only [decide_eq_true_eq, decide_eq_false_iff_not, Bool.not_eq_true', Bool.not_eq_false', beq_iff_eq, beq_eq_false_iff_ne, bne_iff_ne, bne_eq_false_iff_eq, ne_eq, Int.not_lt, Int.not_le] at c7
                    refine w_seq ?_
                    refine w_region ?_
                    refine l_pint rfl rfl ?_
                    refine l_nil ?_
                    refine w_ret ?_
                    refine fin1 (v := .int _ _) rfl ?_
                    refine ⟨?_, (((H.erase 0).erase 0).erase 0).erase 0⟩
                    rw [hR, if_neg (by omega), if_neg hbad, if_pos ⟨by omega, by omega⟩, if_pos (.inr (by simpa using c7))]
                  · try simp only [decide_eq_true_eq, decide_eq_false_iff_not, Bool.not_eq_true', Bool.not_eq_false', beq_iff_eq, beq_eq_false_iff_ne, bne_iff_ne, bne_eq_false_iff_eq, ne_eq, Int.not_lt, Int.not_le] at c7
                    refine w_skip ?_
                    refine w_seq ?_
                    refine w_region ?_
                    refine l_pint rfl rfl ?_
                    refine l_nil ?_
                    refine w_ret ?_
                    refine fin1 (v := .int _ _) rfl ?_
                    refine ⟨?_, (((H.erase 0).erase 0).erase 0).erase 0⟩
                    rw [hR, if_neg (by omega), if_neg hbad, if_pos ⟨by omega, by omega⟩, if_neg (by rintro (h | h); exact h (by simpa using h70); exact h (by simpa using c7))]
              · try simp only [decide_eq_true_eq, decide_eq_false_iff_not, Bool.not_eq_true', Bool.not_eq_false', beq_iff_eq, beq_eq_false_iff_ne, bne_iff_ne, bne_eq_false_iff_eq, ne_eq, Int.not_lt, Int.not_le] at c6
                refine w_skip ?_
                refine w_seq ?_
                refine w_region ?_
                refine l_pint rfl rfl ?_
                refine l_nil ?_
                refine w_ret ?_
                refine fin1 (v := .int _ _) rfl ?_
                refine ⟨?_, (H.erase 0).erase 0⟩
                rw [hR, if_neg (by omega), if_neg hbad, if_neg (by omega)]
            · try simp only [decide_eq_true_eq, decide_eq_false_iff_not, Bool.not_eq_true', Bool.not_eq_false', beq_iff_eq, beq_eq_false_iff_ne, bne_iff_ne, bne_eq_false_iff_eq, ne_eq, Int.not_lt, Int.not_le] at h54
              refine l_no rfl ?_
              refine l_no rfl ?_
              refine l_no rfl ?_
              refine l_pickF (v := .bool _) rfl rfl rfl ?_
              refine l_nil ?_
              refine w_cond_f rfl ?_
              refine w_skip ?_
              refine w_seq ?_
              refine w_region ?_
              refine l_pint rfl rfl ?_
              refine l_nil ?_
              refine w_ret ?_
              refine fin1 (v := .int _ _) rfl ?_
              refine ⟨?_, (H.erase 0).erase 0⟩
              rw [hR, if_neg (by omega), if_neg hbad, if_neg (by omega)]

end Go.Proofs.Ytcmmhpkgjcepdaa
