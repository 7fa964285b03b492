/- The reference's leaf, node, split and head answer as the plain functions do. -/
import Derived.Test.YtcmmhpkgjcepdaaTre16
import Derived.Test.YtcmmhpkgjcepdaaTre3
namespace Go.Proofs.Ytcmmhpkgjcepdaa
open Go.EW
attribute [local irreducible] EW.W EW.L EW.fin block8 outB shaL
set_option linter.unusedVariables false
set_option linter.unusedSimpArgs false
theorem LeafText_ok {W w : World} {F : List Seg} (H : St W w F) (e : Ent) (hva : e.va.size ≤ 140737488351232) :
    Ok Try.prog 58 [.agg e.cells.toArray].toArray w (fun r w' => ∃ a c, r = .slice a (0 :: textL e).length c ∧ St W w' (row 5 1 a (0 :: textL e).length c ((0 :: textL e).map B) :: F)) := by
  have htl := textL_len e
  refine enter (n := 7) (rs := #[.tmp 2]) Try.func58 rfl rfl rfl rfl ?_
  refine w_seq ?_
  refine w_region ?_
  refine b_box rfl rfl rfl H (fun b1 w H => ?_)
  refine l_pslice rfl rfl ?_
  refine l_nil ?_
  refine w_seq ?_
  refine w_region ?_
  refine b_buildSlice (cs := [B 0]) rfl el_90 ze_5 rfl rfl rfl H (fun b3 w H => ?_)
  have H := row_lit rfl H
  refine l_v rfl (q_loadN (vs := e.cells) rfl ag_28 rfl rfl (H.cells 1 rfl)) ?_
  refine b_call rfl cb_89 rfl (rBytes_ok H e hva) (fun v w hv => ?_)
  obtain ⟨a5, c5, rfl, H⟩ := hv
  refine b_append rfl el_90 ze_5 rfl rfl rfl H 1 rfl (ys := (textL e).map B) ((H.rowInv (i := 0) rfl).2.2.2.2) (by simp ) (oneB _) ⟨by omega, by simp only [maxLen]; omega⟩ (fun a6 c6 w H => ?_)

  refine l_pslice rfl rfl ?_
  refine l_nil ?_
  refine w_ret ?_
  refine fin1 (v := .slice _ _ _) rfl ?_
  refine ⟨a6, c6, congrArg (fun x => Value.slice a6 x c6) (by rw [List.length_cons]; omega), ?_⟩
  have H2 := (H.erase 0).erase 1
  rw [List.length_cons, Nat.add_comm (textL e).length 1]
  exact H2

theorem NodeText_ok {W w : World} {F : List Seg} (H : St W w F) {x y : List UInt8} (hx : x.length = 32) (hy : y.length = 32) :
    Ok Try.prog 56 [.agg (x.map B).toArray, .agg (y.map B).toArray].toArray w (fun r w' => ∃ a c, r = .slice a (1 :: (x ++ y)).length c ∧ St W w' (row 5 1 a (1 :: (x ++ y)).length c ((1 :: (x ++ y)).map B) :: F)) := by
  refine enter (n := 13) (rs := #[.tmp 4]) Try.func56 rfl rfl rfl rfl ?_
  refine w_seq ?_
  refine w_region ?_
  refine b_box rfl rfl rfl H (fun b2 w H => ?_)
  refine b_box rfl rfl rfl H (fun b3 w H => ?_)
  refine l_pslice rfl rfl ?_
  refine l_nil ?_
  refine w_seq ?_
  refine w_region ?_
  refine b_buildSlice (cs := [B 1]) rfl el_90 ze_5 rfl rfl rfl H (fun b6 w H => ?_)
  have H := row_lit rfl H
  refine l_pslice rfl rfl ?_
  refine l_nil ?_
  refine w_seq ?_
  refine w_region ?_
  refine l_pslice rfl rfl ?_
  refine l_v rfl (q_sliceArr rfl ar_24 rfl Bnd.none Bnd.none Bnd.none (by simp)) ?_
  rw [subA_z]
  refine b_append rfl el_90 ze_5 rfl rfl rfl H 0 rfl (ys := (x).map B) (Rd.mk (H.cells 2 rfl)) (by simp [hx]) (oneB _) ⟨by omega, by simp only [maxLen]; omega⟩ (fun a9 c9 w H => ?_)

  refine l_pslice rfl rfl ?_
  refine l_nil ?_
  refine w_seq ?_
  refine w_region ?_
  refine l_pslice rfl rfl ?_
  refine l_v rfl (q_sliceArr rfl ar_24 rfl Bnd.none Bnd.none Bnd.none (by simp)) ?_
  rw [subA_z]
  refine b_append rfl el_90 ze_5 rfl rfl rfl H 0 rfl (ys := (y).map B) (Rd.mk (H.cells 1 rfl)) (by simp [hy]) (oneB _) ⟨by omega, by simp only [maxLen]; omega⟩ (fun a12 c12 w H => ?_)

  refine l_pslice rfl rfl ?_
  refine l_nil ?_
  refine w_ret ?_
  refine fin1 (v := .slice _ _ _) rfl ?_
  refine ⟨a12, c12, congrArg (fun x => Value.slice a12 x c12) (by simp [hx, hy]), ?_⟩
  have H2 := (H.erase 1).erase 1
  rw [show (1 :: (x ++ y)).length = 1 + 32 + 32 by simp [hx, hy]]
  simpa using H2

theorem rLeaf_ok {W w : World} {F : List Seg} (H : St W w F) (e : Ent) (hva : e.va.size ≤ 140737488351232) :
    Ok Try.prog 20 [.agg e.cells.toArray].toArray w (fun r w' => r = .agg ((leafH e).map B).toArray ∧ St W w' F) := by
  refine enter (n := 6) (rs := #[.cell 2 24]) Try.func20 rfl rfl rfl rfl ?_
  refine w_seq ?_
  refine w_region ?_
  refine b_box rfl rfl rfl H (fun b1 w H => ?_)
  refine b_alloc rfl ze_24 rfl H (fun b2 w H => ?_)
  refine l_nil ?_
  refine w_seq ?_
  refine w_region ?_
  refine l_v rfl (q_loadN (vs := e.cells) rfl ag_28 rfl rfl (H.cells 1 rfl)) ?_
  refine b_call rfl cb_58 rfl (LeafText_ok H e hva) (fun v w hv => ?_)
  obtain ⟨a4, c4, rfl, H⟩ := hv
  refine b_call rfl cb_53 rfl (rSum_ok H (bs := 0 :: textL e) (RdIn.row 0 rfl) rfl (by have := textL_len e; rw [List.length_cons]; omega)) (fun v w hv => ?_)
  obtain ⟨rfl, H⟩ := hv
  refine b_store (vs := (leafH e).map B) rfl sz_24 rfl rfl rfl (by simp [leafH_len]) (all1 _) H 1 rfl (by simp [leafH_len]) (putL_all (by simp [leafH_len])) (fun w H => ?_)
  refine l_nil ?_
  refine w_ret ?_
  refine finc (vs := (leafH e).map B) rfl ag_24 (by simp [leafH_len]) (H.cells 1 rfl) ?_
  exact ⟨rfl, (((H.erase 0).erase 0).erase 0)⟩

theorem rNode_ok {W w : World} {F : List Seg} (H : St W w F) {x y : List UInt8} (hx : x.length = 32) (hy : y.length = 32) :
    Ok Try.prog 18 [.agg (x.map B).toArray, .agg (y.map B).toArray].toArray w (fun r w' => r = .agg ((nodeH x y).map B).toArray ∧ St W w' F) := by
  refine enter (n := 9) (rs := #[.cell 4 24]) Try.func18 rfl rfl rfl rfl ?_
  refine w_seq ?_
  refine w_region ?_
  refine b_box rfl rfl rfl H (fun b2 w H => ?_)
  refine b_box rfl rfl rfl H (fun b3 w H => ?_)
  refine b_alloc rfl ze_24 rfl H (fun b4 w H => ?_)
  refine l_nil ?_
  refine w_seq ?_
  refine w_region ?_
  refine l_v rfl (q_loadN (vs := x.map B) rfl ag_24 rfl (by simp [hx]) (H.cells 2 rfl)) ?_
  refine l_v rfl (q_loadN (vs := y.map B) rfl ag_24 rfl (by simp [hy]) (H.cells 1 rfl)) ?_
  refine b_call rfl cb_56 rfl (NodeText_ok H hx hy) (fun v w hv => ?_)
  obtain ⟨a7, c7, rfl, H⟩ := hv
  refine b_call rfl cb_53 rfl (rSum_ok H (bs := 1 :: (x ++ y)) (RdIn.row 0 rfl) rfl (by simp [hx, hy])) (fun v w hv => ?_)
  obtain ⟨rfl, H⟩ := hv
  refine b_store (vs := (nodeH x y).map B) rfl sz_24 rfl rfl rfl (by simp [nodeH_len]) (all1 _) H 1 rfl (by simp [nodeH_len]) (putL_all (by simp [nodeH_len])) (fun w H => ?_)
  refine l_nil ?_
  refine w_ret ?_
  refine finc (vs := (nodeH x y).map B) rfl ag_24 (by simp [nodeH_len]) (H.cells 1 rfl) ?_
  exact ⟨rfl, (((H.erase 0).erase 0).erase 0).erase 0⟩

theorem rSplit_ok {w : World} {n : Nat} (hn : 1 ≤ n ∧ n ≤ 9223372036854775807) :
    Ok Try.prog 54 [.int .i64 (n : Int)].toArray w (fun r w' => r = .int .i64 (splitN n : Int) ∧ w' = w) := by
  refine enter (n := 12) (rs := #[.tmp 2]) Try.func54 rfl rfl rfl rfl ?_
  refine w_seq ?_
  refine w_region ?_
  refine l_pint rfl rfl ?_
  refine l_nil ?_
  refine w_seq ?_
  refine w_region ?_
  refine l_pint rfl rfl ?_
  refine l_nil ?_
  refine w_seq ?_
  refine w_block ?_
  refine w_loopG (G := Nat) [3, 4, 5, 6, 7, 8, 9, 10] (fun k => [(3, .int .i64 ((k : Nat) : Int))]) (fun m k w' => w' = w ∧ (1 ≤ k ∧ k ≤ n ∧ n ≤ k + m) ∧ sgo n m k = splitN n) (fun _ => rfl) ?_ ?_
  · exact ⟨n, 1, ⟨rfl, trivial⟩, rfl, ⟨by omega, by omega, by omega⟩, rfl⟩
  · rintro m k ρ1 w' ⟨rfl, ⟨hk1, hkn, hmk⟩, hs⟩
    refine w_seq ?_
    refine w_seq ?_
    refine w_region ?_
    refine l_pint rfl rfl ?_
    refine l_pint rfl rfl ?_
    refine l_pint rfl rfl ?_
    first | refine l_v rfl (q_sub rfl rfl rfl (by simp only [inK]; omega)) ?_ | refine l_pint rfl rfl ?_
    refine l_pbool rfl rfl ?_
    refine l_nil ?_
    refine w_cond rfl (fun c1 => ?_) (fun c1 => ?_)
    · try simp only [decide_eq_true_eq, decide_eq_false_iff_not, Bool.not_eq_true', Bool.not_eq_false', beq_iff_eq, beq_eq_false_iff_ne, bne_iff_ne, bne_eq_false_iff_eq, ne_eq, Int.not_lt, Int.not_le] at c1
      obtain ⟨m', rfl⟩ : ∃ m', m = m' + 1 := ⟨m - 1, by omega⟩
      rw [sgo, if_pos (by omega)] at hs
      refine w_skip ?_
      refine w_block ?_
      refine w_region ?_
      refine l_pint rfl rfl ?_
      first | refine l_v rfl (q_mul rfl rfl rfl (by simp only [inK]; omega)) ?_ | refine l_pint rfl rfl ?_
      refine l_pint rfl rfl ?_
      refine l_nil ?_
      refine ⟨by repeat' first | exact Agr.mix _ _ _ | exact Agr.refl _ _ | refine Agr.inner rfl ?_ | refine Agr.upd rfl ?_ | refine Agr.updL' rfl ?_, ?_⟩
      exact ⟨m', 2 * k, by omega, ⟨congrArg (Value.int .i64) (by omega), trivial⟩, rfl, ⟨by omega, by omega, by omega⟩, hs⟩
    · try simp only [decide_eq_true_eq, decide_eq_false_iff_not, Bool.not_eq_true', Bool.not_eq_false', beq_iff_eq, beq_eq_false_iff_ne, bne_iff_ne, bne_eq_false_iff_eq, ne_eq, Int.not_lt, Int.not_le] at c1
      have e : k = splitN n := by
        rw [← hs]
        match m with
        | 0 => rfl
        | m + 1 => rw [sgo, if_neg (by omega)]
      refine w_exit ?_
      refine w_seq ?_
      refine w_region ?_
      refine l_pint rfl rfl ?_
      refine l_pint rfl rfl ?_
      refine l_nil ?_
      refine w_ret ?_
      refine fin1 (v := .int _ _) rfl ?_
      exact ⟨by rw [e], rfl⟩

theorem rHead_ok (k : Nat) : ∀ {W w : World} {F : List Seg} {a : Option Addr} {n c : Nat} {es : List Ent}, St W w F → RdIn W F a (entsV es) → es.length = n → n ≤ c → EntsOk es → n = k → n ≤ 140737488355328 →
    Ok Try.prog 16 [.slice a n c].toArray w (fun r w' => r = .agg ((headH es).map B).toArray ∧ St W w' F) := by
  induction k using Nat.strongRecOn with
  | _ k ih =>
    intro W w F a n c es H hr hl hnc hok hnk hnb
    subst hnk
    refine enter (n := 27) (rs := #[.cell 2 24]) Try.func16 rfl rfl rfl rfl ?_
    refine w_seq ?_
    refine w_region ?_
    refine b_alloc rfl ze_24 rfl H (fun b2 w H => ?_)
    refine l_nil ?_
    refine w_seq ?_
    refine w_seq ?_
    refine w_region ?_
    refine l_pslice rfl rfl ?_
    refine l_v rfl (q_lenSlice rfl el_22 rfl) ?_
    refine l_pbool rfl rfl ?_
    refine l_nil ?_
    refine w_cond rfl (fun c1 => ?_) (fun c1 => ?_)
    · try simp only [decide_eq_true_eq, decide_eq_false_iff_not, Bool.not_eq_true', Bool.not_eq_false', beq_iff_eq, beq_eq_false_iff_ne, bne_iff_ne, bne_eq_false_iff_eq, ne_eq, Int.not_lt, Int.not_le] at c1
      refine w_seq ?_
      refine w_region ?_
      refine b_call rfl cb_53 rfl (rSum_ok H (bs := []) RdIn.nil rfl (by decide)) (fun v w hv => ?_)
      obtain ⟨rfl, H⟩ := hv
      refine b_store (vs := (shaL []).map B) rfl sz_24 rfl rfl rfl (by simp [shaL_len]) (all1 _) H 0 rfl (by simp [shaL_len]) (putL_all (by simp [shaL_len])) (fun w H => ?_)
      refine l_nil ?_
      refine w_ret ?_
      refine finc (vs := (shaL []).map B) rfl ag_24 (by simp [shaL_len]) (H.cells 0 rfl) ?_
      have e : es = [] := List.eq_nil_of_length_eq_zero (by omega)
      subst e
      exact ⟨rfl, H.erase 0⟩
    · try simp only [decide_eq_true_eq, decide_eq_false_iff_not, Bool.not_eq_true', Bool.not_eq_false', beq_iff_eq, beq_eq_false_iff_ne, bne_iff_ne, bne_eq_false_iff_eq, ne_eq, Int.not_lt, Int.not_le] at c1
      refine w_skip ?_
      refine w_seq ?_
      refine w_seq ?_
      refine w_region ?_
      refine l_pslice rfl rfl ?_
      refine l_v rfl (q_lenSlice rfl el_22 rfl) ?_
      refine l_pbool rfl rfl ?_
      refine l_nil ?_
      refine w_cond rfl (fun c2 => ?_) (fun c2 => ?_)
      · try simp only [decide_eq_true_eq, decide_eq_false_iff_not, Bool.not_eq_true', Bool.not_eq_false', beq_iff_eq, beq_eq_false_iff_ne, bne_iff_ne, bne_eq_false_iff_eq, ne_eq, Int.not_lt, Int.not_le] at c2
        have h0 : 0 < es.length := by omega
        obtain ⟨be, oe, hae, hce⟩ := ent_cells (hr.use H 1 rfl) h0
        refine w_seq ?_
        refine w_region ?_
        refine l_pslice rfl rfl ?_
        refine l_v rfl (q_indexSliceE 0 rfl el_22 rfl hae rfl rfl (by omega)) ?_
        refine l_v rfl (q_loadN (vs := es[0].cells) rfl ag_28 rfl rfl hce) ?_
        refine b_call rfl cb_20 rfl (rLeaf_ok H es[0] (hok _ (List.getElem_mem h0))) (fun v w hv => ?_)
        obtain ⟨rfl, H⟩ := hv
        refine b_store (vs := (leafH es[0]).map B) rfl sz_24 rfl rfl rfl (by simp [leafH_len]) (all1 _) H 0 rfl (by simp [leafH_len]) (putL_all (by simp [leafH_len])) (fun w H => ?_)
        refine l_nil ?_
        refine w_ret ?_
        refine finc (vs := (leafH es[0]).map B) rfl ag_24 (by simp [leafH_len]) (H.cells 0 rfl) ?_
        exact ⟨congrArg (fun x => Value.agg (List.map B x).toArray) (headH_single h0 (by omega)).symm, H.erase 0⟩
      · try simp only [decide_eq_true_eq, decide_eq_false_iff_not, Bool.not_eq_true', Bool.not_eq_false', beq_iff_eq, beq_eq_false_iff_ne, bne_iff_ne, bne_eq_false_iff_eq, ne_eq, Int.not_lt, Int.not_le] at c2
        have h2 : 2 ≤ n := by omega
        have hsp := splitN_spec h2
        refine w_skip ?_
        refine w_seq ?_
        refine w_region ?_
        refine l_pslice rfl rfl ?_
        refine l_v rfl (q_lenSlice rfl el_22 rfl) ?_
        refine b_call rfl cb_54 rfl (rSplit_ok (n := n) ⟨by omega, by omega⟩) (fun v w hv => ?_)
        obtain ⟨rfl, rfl⟩ := hv
        refine l_pint rfl rfl ?_
        refine l_nil ?_
        refine w_seq ?_
        refine w_drawT [3, 7, 8, 9] [] [(0, 0), (1, 0), (2, 0), (4, 0), (5, 0), (6, 0), (3, 2), (7, 2), (8, 2), (9, 2)] mixed (by kernel_rfl) (fun _ _ _ h => fin_panic h) H (fun H => ?_)
        refine r_pslice rfl rfl rfl ?_
        refine r_pint rfl rfl rfl ?_
        refine r_w rfl rfl (fun w => q_slice (h := splitN n) rfl el_22 rfl Bnd.none (Bnd.nat (by omega)) Bnd.none (by simp)) ?_
        refine r_pslice rfl rfl rfl ?_
        refine r_pint rfl rfl rfl ?_
        refine r_w rfl rfl (fun w => q_slice (l := splitN n) rfl el_22 rfl Bnd.none Bnd.none (Bnd.nat (by omega)) (by simp)) ?_
        refine r_do rfl ?_
        refine b_call rfl cb_16 rfl (ih (splitN n) (by omega) (n := splitN n) (es := es.take (splitN n)) H (rdin_take5 (hr.up 1 rfl) (splitN n) c) (by rw [List.length_take]; omega) (by omega) (hok.take _) rfl (by omega)) (fun v w hv => ?_)
        obtain ⟨rfl, H⟩ := hv
        refine l_nil ⟨(fun h => nomatch h), ?_⟩
        refine r_do rfl ?_
        refine b_call rfl cb_16 rfl (ih (n - splitN n) (by omega) (n := n - splitN n) (es := es.drop (splitN n)) H (rdin_drop5 (hr.up 1 rfl) (by omega)) (by rw [List.length_drop]; omega) (by omega) (hok.drop _) rfl (by omega)) (fun v w hv => ?_)
        obtain ⟨rfl, H⟩ := hv
        refine l_nil ⟨(fun h => nomatch h), ?_⟩
        refine r_do rfl ?_
        refine b_call rfl cb_18 rfl (rNode_ok H (headH_len _) (headH_len _)) (fun v w hv => ?_)
        obtain ⟨rfl, H⟩ := hv
        refine l_nil ⟨(fun h => nomatch h), ?_⟩
        refine r_do rfl ?_
        refine b_store (vs := (nodeH (headH (es.take (splitN n))) (headH (es.drop (splitN n)))).map B) rfl sz_24 rfl rfl rfl (by simp [nodeH_len]) (all1 _) H 0 rfl (by simp [nodeH_len]) (putL_all (by simp [nodeH_len])) (fun w H => ?_)
        refine l_nil ⟨(fun h => nomatch h), ?_⟩
        refine r_nil ?_
        refine w_ret ?_
        refine finc (vs := (nodeH (headH (es.take (splitN n))) (headH (es.drop (splitN n)))).map B) rfl ag_24 (by simp [nodeH_len]) (H.cells 0 rfl) ?_
        refine ⟨?_, H.erase 0⟩
        rw [headH_two (es := es) (by omega), hl]


end Go.Proofs.Ytcmmhpkgjcepdaa
