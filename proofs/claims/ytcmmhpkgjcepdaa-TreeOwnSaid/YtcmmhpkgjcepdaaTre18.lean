/- The reference's Included answers as the tree's own does. -/
import Derived.Test.YtcmmhpkgjcepdaaTre17
import Derived.Test.YtcmmhpkgjcepdaaTre13
namespace Go.Proofs.Ytcmmhpkgjcepdaa
open Go.EW
attribute [local irreducible] EW.W EW.L EW.fin block8 outB shaL
set_option linter.unusedVariables false
set_option linter.unusedSimpArgs false
attribute [local irreducible] swp headH leafH nodeH inclN sidesN bothN lenN splitN upN

theorem long_one {p : Nat} : (sidesN 1 p).length = 0 := by rw [sidesN_one (by omega)]; rfl
theorem long_le {n p : Nat} (h : 2 ≤ n) (hk : p ≤ splitN n) : (sidesN n p).length = (sidesN (splitN n) p).length + 1 := by
  rw [sidesN_two h, if_neg (by omega), List.length_append]; rfl
theorem long_gt {n p : Nat} (h : 2 ≤ n) (hk : splitN n < p) : (sidesN n p).length = (sidesN (n - splitN n) (p - splitN n)).length + 1 := by
  rw [sidesN_two h, if_pos hk, List.length_append]; rfl
theorem last_of {p : List (List UInt8)} (h : p.length - 1 < p.length) : p = p.take (p.length - 1) ++ [p[p.length - 1]] := by
  conv => lhs; rw [← List.take_append_drop (p.length - 1) p]
  rw [List.drop_eq_getElem_cons h, List.drop_eq_nil_of_le (by omega)]
theorem upN_two {s : List Bool} {b : Bool} {path : List (List UInt8)} {h : List UInt8} (hl : s.length + 1 = path.length) (hi : path.length - 1 < path.length) : upN (s ++ [b]) path h path.length = bif b then nodeH path[path.length - 1] (upN s (path.take (path.length - 1)) h (path.take (path.length - 1)).length) else nodeH (upN s (path.take (path.length - 1)) h (path.take (path.length - 1)).length) path[path.length - 1] := by
  have e := last_of hi
  have hlt : (path.take (path.length - 1)).length + 1 = path.length := by rw [List.length_take]; omega
  have := upN_last (s := s) (b := b) (path := path.take (path.length - 1)) (x := path[path.length - 1]) (h := h) (by rw [List.length_take]; omega)
  rw [← e, hlt] at this
  exact this
theorem up_one {p : Nat} {path : List (List UInt8)} {h : List UInt8} (hl : path.length = (sidesN 1 p).length) : upN (sidesN 1 p) path h path.length = h := by
  rw [hl, long_one]; rw [upN]
theorem up_le {n p : Nat} {path : List (List UInt8)} {h : List UInt8} (h2 : 2 ≤ n) (hk : p ≤ splitN n) (hl : path.length = (sidesN n p).length) (hi : path.length - 1 < path.length) : upN (sidesN n p) path h path.length = nodeH (upN (sidesN (splitN n) p) (path.take (path.length - 1)) h (path.take (path.length - 1)).length) path[path.length - 1] := by
  have hL := long_le h2 hk
  rw [sidesN_two h2, if_neg (by omega), upN_two (by omega) hi]; rfl
theorem up_gt {n p : Nat} {path : List (List UInt8)} {h : List UInt8} (h2 : 2 ≤ n) (hk : splitN n < p) (hl : path.length = (sidesN n p).length) (hi : path.length - 1 < path.length) : upN (sidesN n p) path h path.length = nodeH path[path.length - 1] (upN (sidesN (n - splitN n) (p - splitN n)) (path.take (path.length - 1)) h (path.take (path.length - 1)).length) := by
  have hL := long_gt h2 hk
  rw [sidesN_two h2, if_pos hk, upN_two (by omega) hi]; rfl

theorem long_ok (k : Nat) : ∀ {w : World} {n p : Nat}, n = k → 1 ≤ n → n ≤ 9223372036854775807 ∧ p ≤ n →
    Ok Try.prog 66 [.int .i64 (n : Int), .int .i64 (p : Int)].toArray w (fun r w' => r = .int .i64 ((sidesN n p).length : Int) ∧ w' = w) := by
  induction k using Nat.strongRecOn with
  | _ k ih =>
    intro w n p hnk hn1 hnb
    subst hnk
    refine enter (n := 25) (rs := #[.tmp 4]) Try.func66 rfl rfl rfl rfl ?_
    refine w_seq ?_
    refine w_region ?_
    refine l_pint rfl rfl ?_
    refine l_nil ?_
    refine w_seq ?_
    refine w_seq ?_
    refine w_region ?_
    refine l_pint rfl rfl ?_
    refine l_pbool rfl rfl ?_
    refine l_nil ?_
    refine w_cond rfl (fun c1 => ?_) (fun c1 => ?_)
    · try simp only [decide_eq_true_eq, decide_eq_false_iff_not, Bool.not_eq_true', Bool.not_eq_false', beq_iff_eq, beq_eq_false_iff_ne, bne_iff_ne, bne_eq_false_iff_eq, ne_eq, Int.not_lt, Int.not_le] at c1
      have e : n = 1 := by omega
      subst e
      refine w_seq ?_
      refine w_region ?_
      refine l_pint rfl rfl ?_
      refine l_nil ?_
      refine w_ret ?_
      refine fin1 (v := .int _ _) rfl ?_
      exact ⟨by rw [long_one]; rfl, rfl⟩
    · try simp only [decide_eq_true_eq, decide_eq_false_iff_not, Bool.not_eq_true', Bool.not_eq_false', beq_iff_eq, beq_eq_false_iff_ne, bne_iff_ne, bne_eq_false_iff_eq, ne_eq, Int.not_lt, Int.not_le] at c1
      have h2 : 2 ≤ n := by omega
      have hsp := splitN_spec h2
      refine w_skip ?_
      refine w_seq ?_
      refine w_region ?_
      refine l_pint rfl rfl ?_
      refine b_call rfl cb_54 rfl (rSplit_ok (n := n) ⟨by omega, by omega⟩) (fun v w hv => ?_)
      obtain ⟨rfl, rfl⟩ := hv
      refine l_pint rfl rfl ?_
      refine l_nil ?_
      refine w_seq ?_
      refine w_seq ?_
      refine w_region ?_
      refine l_pint rfl rfl ?_
      refine l_pint rfl rfl ?_
      refine l_pbool rfl rfl ?_
      refine l_nil ?_
      refine w_cond rfl (fun c2 => ?_) (fun c2 => ?_)
      · try simp only [decide_eq_true_eq, decide_eq_false_iff_not, Bool.not_eq_true', Bool.not_eq_false', beq_iff_eq, beq_eq_false_iff_ne, bne_iff_ne, bne_eq_false_iff_eq, ne_eq, Int.not_lt, Int.not_le] at c2
        have hle := long_le (p := p) h2 (by omega)
        have hsh := sidesN_short (n := splitN n) (p := p) (by omega)
        refine w_seq ?_
        refine w_region ?_
        refine l_pint rfl rfl ?_
        refine l_pint rfl rfl ?_
        refine b_call rfl cb_66 rfl (ih (splitN n) (by omega) (n := splitN n) (p := p) rfl (by omega) (by omega)) (fun v w hv => ?_)
        obtain ⟨rfl, rfl⟩ := hv
        first | refine l_v rfl (q_add rfl rfl rfl (by simp only [inK]; omega)) ?_ | refine l_pint rfl rfl ?_
        refine l_pint rfl rfl ?_
        refine l_nil ?_
        refine w_ret ?_
        refine fin1 (v := .int _ _) rfl ?_
        exact ⟨congrArg (Value.int .i64) (by omega), rfl⟩
      · try simp only [decide_eq_true_eq, decide_eq_false_iff_not, Bool.not_eq_true', Bool.not_eq_false', beq_iff_eq, beq_eq_false_iff_ne, bne_iff_ne, bne_eq_false_iff_eq, ne_eq, Int.not_lt, Int.not_le] at c2
        have hle := long_gt (p := p) h2 (by omega)
        have hsh := sidesN_short (n := n - splitN n) (p := p - splitN n) (by omega)
        refine w_skip ?_
        refine w_seq ?_
        refine w_region ?_
        refine l_pint rfl rfl ?_
        refine l_pint rfl rfl ?_
        first | refine l_v rfl (q_subN (a := n) (b := splitN n) rfl rfl rfl ⟨by omega, by omega⟩) ?_ | refine l_pint rfl rfl ?_
        refine l_pint rfl rfl ?_
        refine l_pint rfl rfl ?_
        first | refine l_v rfl (q_subN (a := p) (b := splitN n) rfl rfl rfl ⟨by omega, by omega⟩) ?_ | refine l_pint rfl rfl ?_
        refine b_call rfl cb_66 rfl (ih (n - splitN n) (by omega) (n := n - splitN n) (p := p - splitN n) rfl (by omega) (by omega)) (fun v w hv => ?_)
        obtain ⟨rfl, rfl⟩ := hv
        first | refine l_v rfl (q_add rfl rfl rfl (by simp only [inK]; omega)) ?_ | refine l_pint rfl rfl ?_
        refine l_pint rfl rfl ?_
        refine l_nil ?_
        refine w_ret ?_
        refine fin1 (v := .int _ _) rfl ?_
        exact ⟨congrArg (Value.int .i64) (by omega), rfl⟩


theorem up_ok (k : Nat) : ∀ {W w : World} {F : List Seg} {n p : Nat} {h : List UInt8} {pa : Option Addr} {pc : Nat} {path : List (List UInt8)} {pn : Nat}, St W w F → h.length = 32 → PathOk path → RdIn W F pa (pathV path) → path.length = (sidesN n p).length → pn = path.length → pn ≤ pc → n = k → 1 ≤ n → n ≤ 9223372036854775807 ∧ p ≤ n →
    Ok Try.prog 67 [.int .i64 (n : Int), .int .i64 (p : Int), .agg (h.map B).toArray, .slice pa pn pc].toArray w (fun r w' => r = .agg ((upN (sidesN n p) path h path.length).map B).toArray ∧ St W w' F) := by
  induction k using Nat.strongRecOn with
  | _ k ih =>
    intro W w F n p h pa pc path pn H hh hpo hpr hpl hpn hpc hnk hn1 hnb
    subst hpn
    subst hnk
    have hshort := sidesN_short (n := n) (p := p) (by omega)
    refine enter (n := 50) (rs := #[.cell 8 24]) Try.func67 rfl rfl rfl rfl ?_
    refine w_seq ?_
    refine w_region ?_
    refine b_box rfl rfl rfl H (fun b6 w H => ?_)
    refine b_alloc rfl ze_24 rfl H (fun b8 w H => ?_)
    refine l_nil ?_
    refine w_seq ?_
    refine w_seq ?_
    refine w_region ?_
    refine l_pint rfl rfl ?_
    refine l_pbool rfl rfl ?_
    refine l_nil ?_
    refine w_cond rfl (fun c1 => ?_) (fun c1 => ?_)
    · try simp only [decide_eq_true_eq, decide_eq_false_iff_not, Bool.not_eq_true', Bool.not_eq_false', beq_iff_eq, beq_eq_false_iff_ne, bne_iff_ne, bne_eq_false_iff_eq, ne_eq, Int.not_lt, Int.not_le] at c1
      have e : n = 1 := by omega
      subst e
      have hue := up_one (h := h) hpl
      refine w_seq ?_
      refine w_region ?_
      refine l_v rfl (q_loadN (vs := (h).map B) rfl ag_24 rfl (by simp [hh]) (H.cells 1 rfl)) ?_
      refine b_store (vs := (h).map B) rfl sz_24 rfl rfl rfl (by simp [hh]) (all1 _) H 0 rfl (by simp [hh]) (putL_all (by simp [hh])) (fun w H => ?_)
      refine l_nil ?_
      refine w_ret ?_
      refine finc (vs := (h).map B) rfl ag_24 (by simp [hh]) (H.cells 0 rfl) ?_
      exact ⟨by rw [hue], (H.erase 0).erase 0⟩
    · try simp only [decide_eq_true_eq, decide_eq_false_iff_not, Bool.not_eq_true', Bool.not_eq_false', beq_iff_eq, beq_eq_false_iff_ne, bne_iff_ne, bne_eq_false_iff_eq, ne_eq, Int.not_lt, Int.not_le] at c1
      have h2 : 2 ≤ n := by omega
      have hsp := splitN_spec h2
      have hpos : 1 ≤ path.length := by
        rw [hpl, sidesN_two h2]; split <;> simp
      have hlp : path.length - 1 < path.length := by omega
      obtain ⟨bp, op, hap, hcp⟩ := path_cells hpo (hpr.use H 2 rfl) hlp
      have hll := hpo _ (List.getElem_mem hlp)
      have hpt := hpo.take (path.length - 1)
      refine w_skip ?_
      refine w_seq ?_
      refine w_region ?_
      refine l_pint rfl rfl ?_
      refine b_call rfl cb_54 rfl (rSplit_ok (n := n) ⟨by omega, by omega⟩) (fun v w hv => ?_)
      obtain ⟨rfl, rfl⟩ := hv
      refine l_pint rfl rfl ?_
      refine l_nil ?_
      refine w_seq ?_
      refine w_region ?_
      refine l_pslice rfl rfl ?_
      refine l_v rfl (q_lenSlice rfl el_42 rfl) ?_
      first | refine l_v rfl (q_subN (a := path.length) (b := 1) rfl rfl rfl ⟨by omega, by omega⟩) ?_ | refine l_pint rfl rfl ?_
      refine l_pint rfl rfl ?_
      refine l_nil ?_
      refine w_seq ?_
      refine w_seq ?_
      refine w_region ?_
      refine l_pint rfl rfl ?_
      refine l_pint rfl rfl ?_
      refine l_pbool rfl rfl ?_
      refine l_nil ?_
      refine w_cond rfl (fun c2 => ?_) (fun c2 => ?_)
      · try simp only [decide_eq_true_eq, decide_eq_false_iff_not, Bool.not_eq_true', Bool.not_eq_false', beq_iff_eq, beq_eq_false_iff_ne, bne_iff_ne, bne_eq_false_iff_eq, ne_eq, Int.not_lt, Int.not_le] at c2
        have hle := long_le (p := p) h2 (by omega)
        have hue := up_le (h := h) h2 (by omega) hpl hlp
        have hptl : (path.take (path.length - 1)).length = (sidesN (splitN n) p).length := by rw [List.length_take]; omega
        refine w_seq ?_
        refine w_drawT [11, 12] [2, 10] [(0, 0), (1, 0), (2, 1), (3, 0), (4, 0), (5, 0), (7, 0), (8, 0), (9, 0), (10, 1), (6, 2), (11, 2), (12, 2)] mixed (by kernel_rfl) (fun _ _ _ h => fin_panic h) H (fun H => ?_)
        refine r_pint rfl rfl rfl ?_
        refine r_pint rfl rfl rfl ?_
        refine r_v rfl rfl (fun w hS => q_loadN (vs := (h).map B) rfl ag_24 rfl (by simp [hh]) (hS.cells 1 rfl)) ?_
        refine r_pslice rfl rfl rfl ?_
        refine r_pint rfl rfl rfl ?_
        refine r_w rfl rfl (fun w => q_slice (h := path.length - 1) rfl el_42 rfl Bnd.none (Bnd.nat (by omega)) Bnd.none (by simp)) ?_
        refine r_pslice rfl rfl rfl ?_
        refine r_pint rfl rfl rfl ?_
        refine r_w rfl rfl (fun w => q_indexSliceE (path.length - 1) rfl el_42 rfl hap rfl rfl (by omega)) ?_
        refine r_v rfl rfl (fun w hS => q_loadN (vs := (path[path.length - 1]).map B) rfl ag_24 rfl (by simp [hll]) (path_at2 hap hpo (hpr.use hS 2 rfl) hlp)) ?_
        refine r_do rfl ?_
        refine b_call rfl cb_67 rfl (ih (splitN n) (by omega) (n := splitN n) (p := p) (h := h) (path := (path.take (path.length - 1))) H hh hpt (rdin_take32 hpo (hpr.up 2 rfl) (path.length - 1) pc) hptl (by rw [List.length_take]; omega) (by omega) rfl (by omega) (by omega)) (fun v w hv => ?_)
        obtain ⟨rfl, H⟩ := hv
        refine l_nil ⟨fun _ _ => (by first | exact H | exact H.drop1 | exact H.drop1.drop1 | exact H.drop1.drop1.drop1), ?_⟩
        refine r_do rfl ?_
        refine b_call rfl cb_18 rfl (rNode_ok H (upN_len hh _) hll) (fun v w hv => ?_)
        obtain ⟨rfl, H⟩ := hv
        refine l_nil ⟨(fun h => nomatch h), ?_⟩
        refine r_do rfl ?_
        refine b_store (vs := (nodeH (upN (sidesN (splitN n) p) (path.take (path.length - 1)) h (path.take (path.length - 1)).length) path[path.length - 1]).map B) rfl sz_24 rfl rfl rfl (by simp [nodeH_len]) (all1 _) H 0 rfl (by simp [nodeH_len]) (putL_all (by simp [nodeH_len])) (fun w H => ?_)
        refine l_nil ⟨(fun h => nomatch h), ?_⟩
        refine r_nil ?_
        refine w_ret ?_
        refine finc (vs := (nodeH (upN (sidesN (splitN n) p) (path.take (path.length - 1)) h (path.take (path.length - 1)).length) path[path.length - 1]).map B) rfl ag_24 (by simp [nodeH_len]) (H.cells 0 rfl) ?_
        exact ⟨by rw [hue], (H.erase 0).erase 0⟩
      · try simp only [decide_eq_true_eq, decide_eq_false_iff_not, Bool.not_eq_true', Bool.not_eq_false', beq_iff_eq, beq_eq_false_iff_ne, bne_iff_ne, bne_eq_false_iff_eq, ne_eq, Int.not_lt, Int.not_le] at c2
        have hle := long_gt (p := p) h2 (by omega)
        have hue := up_gt (h := h) h2 (by omega) hpl hlp
        have hptl : (path.take (path.length - 1)).length = (sidesN (n - splitN n) (p - splitN n)).length := by rw [List.length_take]; omega
        refine w_skip ?_
        refine w_seq ?_
        refine w_drawT [15, 16] [3, 10] [(0, 0), (1, 0), (2, 0), (3, 1), (4, 0), (5, 0), (6, 0), (7, 0), (8, 0), (9, 0), (10, 1), (11, 0), (12, 0), (13, 0), (14, 2), (15, 2), (16, 2)] mixed (by kernel_rfl) (fun _ _ _ h => fin_panic h) H (fun H => ?_)
        refine r_pslice rfl rfl rfl ?_
        refine r_pint rfl rfl rfl ?_
        refine r_w rfl rfl (fun w => q_indexSliceE (path.length - 1) rfl el_42 rfl hap rfl rfl (by omega)) ?_
        refine r_v rfl rfl (fun w hS => q_loadN (vs := (path[path.length - 1]).map B) rfl ag_24 rfl (by simp [hll]) (path_at2 hap hpo (hpr.use hS 2 rfl) hlp)) ?_
        refine r_pint rfl rfl rfl ?_
        refine r_pint rfl rfl rfl ?_
        first | refine r_w rfl rfl (fun w => q_subN (a := n) (b := splitN n) rfl rfl rfl ⟨by omega, by omega⟩) ?_ | refine r_pint rfl rfl rfl ?_
        refine r_pint rfl rfl rfl ?_
        refine r_pint rfl rfl rfl ?_
        first | refine r_w rfl rfl (fun w => q_subN (a := p) (b := splitN n) rfl rfl rfl ⟨by omega, by omega⟩) ?_ | refine r_pint rfl rfl rfl ?_
        refine r_v rfl rfl (fun w hS => q_loadN (vs := (h).map B) rfl ag_24 rfl (by simp [hh]) (hS.cells 1 rfl)) ?_
        refine r_pslice rfl rfl rfl ?_
        refine r_pint rfl rfl rfl ?_
        refine r_w rfl rfl (fun w => q_slice (h := path.length - 1) rfl el_42 rfl Bnd.none (Bnd.nat (by omega)) Bnd.none (by simp)) ?_
        refine r_do rfl ?_
        refine b_call rfl cb_67 rfl (ih (n - splitN n) (by omega) (n := n - splitN n) (p := p - splitN n) (h := h) (path := (path.take (path.length - 1))) H hh hpt (rdin_take32 hpo (hpr.up 2 rfl) (path.length - 1) pc) hptl (by rw [List.length_take]; omega) (by omega) rfl (by omega) (by omega)) (fun v w hv => ?_)
        obtain ⟨rfl, H⟩ := hv
        refine l_nil ⟨fun _ _ => (by first | exact H | exact H.drop1 | exact H.drop1.drop1 | exact H.drop1.drop1.drop1), ?_⟩
        refine r_do rfl ?_
        refine b_call rfl cb_18 rfl (rNode_ok H hll (upN_len hh _)) (fun v w hv => ?_)
        obtain ⟨rfl, H⟩ := hv
        refine l_nil ⟨(fun h => nomatch h), ?_⟩
        refine r_do rfl ?_
        refine b_store (vs := (nodeH path[path.length - 1] (upN (sidesN (n - splitN n) (p - splitN n)) (path.take (path.length - 1)) h (path.take (path.length - 1)).length)).map B) rfl sz_24 rfl rfl rfl (by simp [nodeH_len]) (all1 _) H 0 rfl (by simp [nodeH_len]) (putL_all (by simp [nodeH_len])) (fun w H => ?_)
        refine l_nil ⟨(fun h => nomatch h), ?_⟩
        refine r_nil ?_
        refine w_ret ?_
        refine finc (vs := (nodeH path[path.length - 1] (upN (sidesN (n - splitN n) (p - splitN n)) (path.take (path.length - 1)) h (path.take (path.length - 1)).length)).map B) rfl ag_24 (by simp [nodeH_len]) (H.cells 0 rfl) ?_
        exact ⟨by rw [hue], (H.erase 0).erase 0⟩


set_option maxRecDepth 8000 in
set_option maxHeartbeats 1000000 in
theorem rIncluded_ok {W w : World} {F : List Seg} (H : St W w F) {hd : List UInt8} (hhd : hd.length = 32) (sz pl : Int) (e : Ent) (hva : e.va.size ≤ 140737488351232) {pa : Option Addr} {pc : Nat} {path : List (List UInt8)} (hpo : PathOk path) (hpr : RdIn W F pa (pathV path)) (hpc : path.length ≤ pc) (hpl : path.length ≤ 140737488355328) (hszb : sz ≤ 9223372036854775807) :
    Ok Try.prog 25 [.agg (hd.map B).toArray, .int .i64 sz, .int .i64 pl, .agg e.cells.toArray, .slice pa path.length pc].toArray w (fun r w' => r = .int .i64 (incdR hd sz pl e path) ∧ St W w' F) := by
  refine enter (n := 34) (rs := #[.tmp 10]) Try.func25 rfl rfl rfl rfl ?_
  refine w_seq ?_
  refine w_region ?_
  refine b_box rfl rfl rfl H (fun b5 w H => ?_)
  refine b_box rfl rfl rfl H (fun b8 w H => ?_)
  refine l_pint rfl rfl ?_
  refine l_nil ?_
  refine w_seq ?_
  refine w_seq ?_
  refine w_region ?_
  refine l_pint rfl rfl ?_
  refine l_pbool rfl rfl ?_
  refine l_nil ?_
  refine w_cond rfl (fun c1 => ?_) (fun c1 => ?_)
  · try simp only [decide_eq_true_eq, decide_eq_false_iff_not, Bool.not_eq_true', Bool.not_eq_false', beq_iff_eq, beq_eq_false_iff_ne, bne_iff_ne, bne_eq_false_iff_eq, ne_eq, Int.not_lt, Int.not_le] at c1
    refine w_seq ?_
    refine w_region ?_
    refine l_pint rfl rfl ?_
    refine l_nil ?_
    refine w_ret ?_
    refine fin1 (v := .int _ _) rfl ?_
    refine ⟨?_, (H.erase 0).erase 0⟩
    unfold incdR; rw [if_pos (by omega)]
  · try simp only [decide_eq_true_eq, decide_eq_false_iff_not, Bool.not_eq_true', Bool.not_eq_false', beq_iff_eq, beq_eq_false_iff_ne, bne_iff_ne, bne_eq_false_iff_eq, ne_eq, Int.not_lt, Int.not_le] at c1
    obtain ⟨size, rfl⟩ := Int.eq_ofNat_of_zero_le (by omega : 0 ≤ sz)
    refine w_skip ?_
    refine w_seq ?_
    refine w_seq ?_
    refine w_region ?_
    refine l_pint rfl rfl ?_
    refine l_pbool rfl rfl ?_
    refine l_pbool rfl rfl ?_
    refine l_split 15 rfl (fun h15 => ?_) (fun h15 => ?_)
    · try simp only [decide_eq_true_eq, decide_eq_false_iff_not, Bool.not_eq_true', Bool.not_eq_false', beq_iff_eq, beq_eq_false_iff_ne, bne_iff_ne, bne_eq_false_iff_eq, ne_eq, Int.not_lt, Int.not_le] at h15
      refine l_no rfl ?_
      refine l_no rfl ?_
      refine l_no rfl ?_
      refine l_pickT (v := .bool _) rfl rfl rfl ?_
      refine l_nil ?_
      refine w_cond_t rfl ?_
      refine w_seq ?_
      refine w_region ?_
      refine l_pint rfl rfl ?_
      refine l_nil ?_
      refine w_ret ?_
      refine fin1 (v := .int _ _) rfl ?_
      refine ⟨?_, (H.erase 0).erase 0⟩
      unfold incdR; rw [if_neg (by omega), if_pos (by omega)]
    · try simp only [decide_eq_true_eq, decide_eq_false_iff_not, Bool.not_eq_true', Bool.not_eq_false', beq_iff_eq, beq_eq_false_iff_ne, bne_iff_ne, bne_eq_false_iff_eq, ne_eq, Int.not_lt, Int.not_le] at h15
      refine l_pint rfl rfl ?_
      refine l_pint rfl rfl ?_
      refine l_pbool rfl rfl ?_
      refine l_pickF (v := .bool _) rfl rfl rfl ?_
      refine l_nil ?_
      refine w_cond rfl (fun c2 => ?_) (fun c2 => ?_)
      · try simp only [decide_eq_true_eq, decide_eq_false_iff_not, Bool.not_eq_true', Bool.not_eq_false', beq_iff_eq, beq_eq_false_iff_ne, bne_iff_ne, bne_eq_false_iff_eq, ne_eq, Int.not_lt, Int.not_le] at c2
        refine w_seq ?_
        refine w_region ?_
        refine l_pint rfl rfl ?_
        refine l_nil ?_
        refine w_ret ?_
        refine fin1 (v := .int _ _) rfl ?_
        refine ⟨?_, (H.erase 0).erase 0⟩
        unfold incdR; rw [if_neg (by omega), if_pos (by omega)]
      · try simp only [decide_eq_true_eq, decide_eq_false_iff_not, Bool.not_eq_true', Bool.not_eq_false', beq_iff_eq, beq_eq_false_iff_ne, bne_iff_ne, bne_eq_false_iff_eq, ne_eq, Int.not_lt, Int.not_le] at c2
        obtain ⟨place, rfl⟩ := Int.eq_ofNat_of_zero_le (by omega : 0 ≤ pl)
        have hsl := sidesN_short (n := size) (p := place) (by omega)
        have hR1 : incdR hd (size : Int) (place : Int) e path = if (sidesN size place).length ≠ path.length then 201 else if upN (sidesN size place) path (leafH e) path.length ≠ hd then 202 else 0 := by unfold incdR; rw [if_neg (by omega), if_neg (by omega), Int.toNat_natCast, Int.toNat_natCast]
        refine w_skip ?_
        refine w_seq ?_
        refine w_seq ?_
        refine w_region ?_
        refine l_pslice rfl rfl ?_
        refine l_v rfl (q_lenSlice rfl el_42 rfl) ?_
        refine l_pint rfl rfl ?_
        refine l_pint rfl rfl ?_
        refine b_call rfl cb_66 rfl (long_ok size (n := size) (p := place) rfl (by omega) ⟨by omega, by omega⟩) (fun v w hv => ?_)
        obtain ⟨rfl, rfl⟩ := hv
        refine l_pbool rfl rfl ?_
        refine l_nil ?_
        refine w_cond rfl (fun c3 => ?_) (fun c3 => ?_)
        · try simp only [decide_eq_true_eq, decide_eq_false_iff_not, Bool.not_eq_true', Bool.not_eq_false', beq_iff_eq, beq_eq_false_iff_ne, bne_iff_ne, bne_eq_false_iff_eq, ne_eq, Int.not_lt, Int.not_le] at c3
          refine w_seq ?_
          refine w_region ?_
          refine l_pint rfl rfl ?_
          refine l_nil ?_
          refine w_ret ?_
          refine fin1 (v := .int _ _) rfl ?_
          refine ⟨?_, (H.erase 0).erase 0⟩
          rw [hR1, if_pos (by omega)]
        · try simp only [decide_eq_true_eq, decide_eq_false_iff_not, Bool.not_eq_true', Bool.not_eq_false', beq_iff_eq, beq_eq_false_iff_ne, bne_iff_ne, bne_eq_false_iff_eq, ne_eq, Int.not_lt, Int.not_le] at c3
          rw [if_neg (by omega)] at hR1
          refine w_skip ?_
          refine w_seq ?_
          refine w_seq ?_
          refine w_drawT [] [2, 6] [(0, 0), (1, 0), (2, 1), (4, 0), (6, 1), (3, 2), (5, 2), (7, 0)] mixed (by kernel_rfl) (fun _ _ _ h => fin_panic h) H (fun H => ?_)
          refine r_pint rfl rfl rfl ?_
          refine r_pint rfl rfl rfl ?_
          refine r_v rfl rfl (fun w hS => q_loadN (vs := e.cells) rfl ag_28 rfl rfl (hS.cells 0 rfl)) ?_
          refine r_pslice rfl rfl rfl ?_
          refine r_v rfl rfl (fun w hS => q_loadN (vs := hd.map B) rfl ag_24 rfl (by simp [hhd]) (hS.cells 1 rfl)) ?_
          refine r_do rfl ?_
          refine b_call rfl cb_20 rfl (rLeaf_ok H e hva) (fun v w hv => ?_)
          obtain ⟨rfl, H⟩ := hv
          refine l_nil ⟨fun _ _ => (by first | exact H | exact H.drop1 | exact H.drop1.drop1 | exact H.drop1.drop1.drop1), ?_⟩
          refine r_do rfl ?_
          refine b_call rfl cb_67 rfl (up_ok size (n := size) (p := place) H (leafH_len _) hpo (hpr.up 2 rfl) (by omega) rfl hpc rfl (by omega) ⟨by omega, by omega⟩) (fun v w hv => ?_)
          obtain ⟨rfl, H⟩ := hv
          refine l_nil ⟨fun _ _ => (by first | exact H | exact H.drop1 | exact H.drop1.drop1 | exact H.drop1.drop1.drop1), ?_⟩
          refine r_w rfl rfl (fun w => q_neqHash rfl rfl rfl (upN_len (leafH_len e) _) hhd) ?_
          refine r_nil ?_
          refine w_cond rfl (fun c4 => ?_) (fun c4 => ?_)
          · try simp only [decide_eq_true_eq, decide_eq_false_iff_not, Bool.not_eq_true', Bool.not_eq_false', beq_iff_eq, beq_eq_false_iff_ne, bne_iff_ne, bne_eq_false_iff_eq, ne_eq, Int.not_lt, Int.not_le] at c4
            refine w_seq ?_
            refine w_region ?_
            refine l_pint rfl rfl ?_
            refine l_nil ?_
            refine w_ret ?_
            refine fin1 (v := .int _ _) rfl ?_
            refine ⟨?_, (H.erase 0).erase 0⟩
            rw [hR1, if_pos (by simpa using c4)]
          · try simp only [decide_eq_true_eq, decide_eq_false_iff_not, Bool.not_eq_true', Bool.not_eq_false', beq_iff_eq, beq_eq_false_iff_ne, bne_iff_ne, bne_eq_false_iff_eq, ne_eq, Int.not_lt, Int.not_le] at c4
            refine w_skip ?_
            refine w_seq ?_
            refine w_region ?_
            refine l_pint rfl rfl ?_
            refine l_nil ?_
            refine w_ret ?_
            refine fin1 (v := .int _ _) rfl ?_
            refine ⟨?_, (H.erase 0).erase 0⟩
            rw [hR1, if_neg (by simpa using c4)]

end Go.Proofs.Ytcmmhpkgjcepdaa
