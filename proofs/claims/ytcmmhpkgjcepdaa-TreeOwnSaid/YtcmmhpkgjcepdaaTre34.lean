/- Tree's Add does what its contract says. -/
import Derived.Test.YtcmmhpkgjcepdaaTre33
import Derived.Test.YtcmmhpkgjcepdaaTre26
namespace Go.Proofs.Ytcmmhpkgjcepdaa
open Go.EW
attribute [local irreducible] EW.W EW.L EW.fin block8 outB shaL
set_option linter.unusedVariables false
set_option linter.unusedSimpArgs false
attribute [local irreducible] swp headH leafH nodeH inclN sidesN bothN lenN splitN upN incdR extR incR conR unlikeN oneB metB
set_option maxRecDepth 8000 in
theorem TAdd_ok {W w : World} {F : List Seg} {b : Nat} {a : Option Addr} {c : Nat} {es : List Ent} {E : List (List UInt8)} (H : St W w (treeL b a c es E F)) (he : EdgeOk E es) (hn : es.length ≤ 140737488355328) (hn2 : (es.length + 1) * 48 ≤ 140737488355328) (e : Ent) (hva : e.va.size ≤ 140737488351232) :
    Ok Try.prog 42 [.pointer (some ⟨b, 0, none⟩), .agg e.cells.toArray].toArray w (fun r w' => r = .int .i64 ((es ++ [e]).length : Int) ∧ ∃ a' c' E', EdgeOk E' (es ++ [e]) ∧ St W w' (treeL b a' c' (es ++ [e]) E' F)) := by
  refine enter (n := 53) (rs := #[.tmp 4]) Try.func42 rfl rfl rfl rfl ?_
  refine w_seq ?_
  refine w_region ?_
  refine b_box rfl rfl rfl H (fun b3 w H => ?_)
  refine l_pint rfl rfl ?_
  refine l_nil ?_
  refine w_seq ?_
  refine w_seq ?_
  refine w_region ?_
  refine l_pptr rfl rfl ?_
  refine l_v rfl (q_eqlNilF rfl pt_68 rfl rfl) ?_
  refine l_nil ?_
  refine w_cond_f rfl ?_
  refine w_skip ?_
  refine w_seq ?_
  refine w_region ?_
  refine l_v rfl (q_loadN (vs := e.cells) rfl ag_28 rfl rfl (H.cells 0 rfl)) ?_
  refine b_call rfl cb_19 rfl (Leaf_ok H e hva) (fun v w hv => ?_)
  obtain ⟨rfl, H⟩ := hv
  refine b_alloc rfl ze_24 rfl H (fun b5 w H => ?_)
  have hvl : ((leafH e).map B).length = 32 := by rw [List.length_map, leafH_len]
  refine b_store (vs := (leafH e).map B) rfl sz_24 rfl rfl rfl (by rw [hvl]; rfl) (all1 _) H 0 rfl (by rw [hvl]; first | rfl | (simp [hh]; done)) (putL_all (by rw [hvl]; first | rfl | (simp [hh]; done))) (fun w H => ?_)
  refine l_nil ?_
  refine w_seq ?_
  refine w_seq ?_
  refine w_region ?_
  refine l_pint rfl rfl ?_
  refine l_nil ?_
  refine w_block ?_
  refine w_loopG (G := Nat × List UInt8) [6, 11, 12, 13, 14, 15, 16, 17, 18, 19, 20, 21, 22, 23, 24, 25, 26, 27, 28, 29, 30, 31, 32, 33, 34, 35, 36, 37] (fun ⟨i, h⟩ => [(11, .int .i64 ((i : Nat) : Int))]) (fun m ⟨i, h⟩ w => (m + i = 64 ∧ h.length = 32 ∧ Carry es e i h) ∧ St W w (blk b5 (h.map B) 24 :: blk b3 e.cells 28 :: treeL b a c es E F)) (fun _ => rfl) ?_ ?_
  · exact ⟨64, (0, leafH e), ⟨rfl, trivial⟩, ⟨rfl, leafH_len e, carry_zero⟩, H⟩
  · rintro m ⟨i, h⟩ ρ1 w ⟨⟨hmi, hh, hcy⟩, H⟩
    refine w_seq ?_
    refine w_region ?_
    refine l_pbool rfl rfl ?_
    refine l_nil ?_
    refine w_seq ?_
    refine w_cond rfl (fun c1 => ?_) (fun c1 => ?_)
    · try simp only [decide_eq_true_eq, decide_eq_false_iff_not, Bool.not_eq_true', Bool.not_eq_false', beq_iff_eq, beq_eq_false_iff_ne, bne_iff_ne, bne_eq_false_iff_eq, ne_eq, Int.not_lt, Int.not_le] at c1
      have hi : i < 64 := by omega
      refine w_skip ?_
      refine w_seq ?_
      refine w_block ?_
      refine w_seq ?_
      refine w_region ?_
      refine l_pint rfl rfl ?_
      refine l_pint rfl rfl ?_
      refine l_nil ?_
      refine w_seq ?_
      refine w_seq ?_
      refine w_region ?_
      refine l_pptr rfl rfl ?_
      refine l_pptr rfl rfl ?_
      refine l_v rfl (q_fieldAddr rfl fo79_0 rfl) ?_
      refine l_v rfl (q_load1 rfl c1_22 rfl (H.cell 2 rfl rfl)) ?_
      refine l_v rfl (q_lenSlice rfl el_22 rfl) ?_
      refine l_pint rfl rfl ?_
      refine l_v rfl (q_pure (i64_shr (n := es.length) (i := i) rfl rfl (by omega))) ?_
      refine l_v rfl (q_pure (i64_bit (n := es.length / 2 ^ i) rfl rfl (shr_lt hn))) ?_
      refine l_pbool rfl rfl ?_
      refine l_nil ?_
      refine w_cond rfl (fun c2 => ?_) (fun c2 => ?_)
      · try simp only [decide_eq_true_eq, decide_eq_false_iff_not, Bool.not_eq_true', Bool.not_eq_false', beq_iff_eq, beq_eq_false_iff_ne, bne_iff_ne, bne_eq_false_iff_eq, ne_eq, Int.not_lt, Int.not_le] at c2
        refine w_seq ?_
        refine w_drawT [6] [2] [(0, 0), (1, 0), (2, 1), (3, 0), (4, 0), (5, 0), (6, 2)] mixed (by kernel_rfl) (fun _ _ _ h => fin_panic h) H (fun H => ?_)
        refine r_pptr rfl rfl rfl ?_
        refine r_pint rfl rfl rfl ?_
        refine r_v rfl rfl (fun w hS => q_loadN (vs := h.map B) rfl ag_24 rfl (by simp [hh]) (hS.cells 0 rfl)) ?_
        refine r_pptr rfl rfl rfl ?_
        refine r_w rfl rfl (fun w => q_fieldAddr rfl fo79_1 rfl) ?_
        refine r_w rfl rfl (fun w => q_indexArrE i rfl ar_77 rfl rfl rfl (by omega)) ?_
        refine r_do rfl ?_
        have hpl := pathV_len E he.1.1
        have hvl : (h.map B).length = 32 := by rw [List.length_map, hh]
        have h64 := he.1.2
        refine b_store (vs := h.map B) rfl sz_24 rfl rfl rfl (by rw [hvl]; rfl) (all1 _) H 2 rfl (by rw [hvl, List.length_cons, hpl, Nat.ble_eq]; omega) (edge_put he hh hi) (fun w H => ?_)
        have he2 := carry_end he hh hi hcy (by omega)
        have H := H.erase 0
        refine l_nil ⟨(fun h => nomatch h), ?_⟩
        refine r_nil ?_
        refine w_exit ?_
        refine w_seq ?_
        refine w_drawT [7, 10] [4, 5] [(0, 0), (1, 0), (2, 0), (3, 0), (4, 1), (5, 1), (6, 2), (7, 2), (8, 0), (9, 0), (10, 2)] mixed (by kernel_rfl) (fun _ _ _ h => fin_panic h) H (fun H => ?_)
        refine r_pptr rfl rfl rfl ?_
        refine r_pptr rfl rfl rfl ?_
        refine r_pptr rfl rfl rfl ?_
        refine r_w rfl rfl (fun w => q_fieldAddr rfl fo79_0 rfl) ?_
        refine r_v rfl rfl (fun w hS => q_load1 rfl c1_22 rfl (hS.cell 1 rfl rfl)) ?_
        refine r_v rfl rfl (fun w hS => q_loadN (vs := e.cells) rfl ag_28 rfl rfl (hS.cells 0 rfl)) ?_
        refine r_do rfl ?_
        refine b_buildSlice (cs := e.cells) rfl el_22 ze_28 rfl rfl (fill_ent _) H (fun b44 w H => ?_)
        refine l_nil ⟨fun _ _ => (by first | exact H | exact H.drop1 | exact H.drop1.drop1 | exact H.drop1.drop1.drop1), ?_⟩
        refine r_do rfl ?_
        refine b_append rfl el_22 ze_28 rfl rfl rfl H 3 rfl (ys := e.cells) (Rd.mk (H.cells0 0 rfl)) rfl (by rw [← entsV_one]; exact oneE _) ⟨by omega, by simp only [maxLen]; omega⟩ (fun a45 c45 w H => ?_)
        refine l_nil ⟨(fun h => nomatch h), ?_⟩
        refine r_pptr rfl rfl rfl ?_
        refine r_w rfl rfl (fun w => q_fieldAddr rfl fo79_0 rfl) ?_
        refine r_do rfl ?_
        refine b_store (vs := [.slice a45 (es.length + 1) c45]) rfl sz_22 rfl rfl rfl rfl rfl H 2 rfl (by rw [List.length_cons]; simp) rfl (fun w H => ?_)
        refine l_nil ⟨(fun h => nomatch h), ?_⟩
        refine r_nil ?_
        refine w_seq ?_
        refine w_region ?_
        refine l_pptr rfl rfl ?_
        refine l_pptr rfl rfl ?_
        refine l_v rfl (q_fieldAddr rfl fo79_0 rfl) ?_
        refine l_v rfl (q_load1 rfl c1_22 rfl (H.cell 2 rfl rfl)) ?_
        refine l_v rfl (q_lenSlice rfl el_22 rfl) ?_
        refine l_pint rfl rfl ?_
        refine l_nil ?_
        refine w_ret ?_
        refine fin1 (v := .int _ _) rfl ?_
        refine ⟨congrArg (Value.int .i64) (by rw [List.length_append, List.length_singleton]), a45, c45, E.set i h, he2, ?_⟩
        have H2 := (H.erase 0).erase 0
        unfold treeL
        rw [List.length_append, List.length_singleton, entsV_append, entsV_one]
        exact H2
      · try simp only [decide_eq_true_eq, decide_eq_false_iff_not, Bool.not_eq_true', Bool.not_eq_false', beq_iff_eq, beq_eq_false_iff_ne, bne_iff_ne, bne_eq_false_iff_eq, ne_eq, Int.not_lt, Int.not_le] at c2
        refine w_skip ?_
        refine w_drawT [7, 8] [5, 6] [(0, 0), (1, 0), (2, 0), (3, 0), (4, 0), (5, 1), (6, 1), (7, 2), (8, 2)] mixed (by kernel_rfl) (fun _ _ _ h => fin_panic h) H (fun H => ?_)
        refine r_pptr rfl rfl rfl ?_
        refine r_pint rfl rfl rfl ?_
        refine r_pptr rfl rfl rfl ?_
        refine r_w rfl rfl (fun w => q_fieldAddr rfl fo79_1 rfl) ?_
        refine r_w rfl rfl (fun w => q_indexArrE i rfl ar_77 rfl rfl rfl (by omega)) ?_
        refine r_v rfl rfl (fun w hS => q_loadN (vs := (E.getD i []).map B) rfl ag_24 rfl (by rw [List.length_map, edge_len he hi]) (edge_cells he hi (hS.cells 2 rfl))) ?_
        refine r_v rfl rfl (fun w hS => q_loadN (vs := h.map B) rfl ag_24 rfl (by simp [hh]) (hS.cells 0 rfl)) ?_
        refine r_do rfl ?_
        refine b_call rfl cb_17 rfl (Node_ok H (edge_len he hi) hh) (fun v w hv => ?_)
        obtain ⟨rfl, H⟩ := hv
        refine l_nil ⟨(fun h => nomatch h), ?_⟩
        refine r_do rfl ?_
        have hvl : ((nodeH (E.getD i []) h).map B).length = 32 := by rw [List.length_map, nodeH_len]
        refine b_store (vs := (nodeH (E.getD i []) h).map B) rfl sz_24 rfl rfl rfl (by rw [hvl]; rfl) (all1 _) H 0 rfl (by rw [hvl]; first | rfl | (simp [hh]; done)) (putL_all (by rw [hvl]; first | rfl | (simp [hh]; done))) (fun w H => ?_)
        refine l_nil ⟨(fun h => nomatch h), ?_⟩
        refine r_nil ?_
        refine w_region ?_
        first | refine l_v rfl (q_add rfl rfl rfl (by simp only [inK]; omega)) ?_ | refine l_pint rfl rfl ?_
        refine l_pint rfl rfl ?_
        refine l_nil ?_
        refine ⟨by repeat' first | exact Agr.mix _ _ _ | exact Agr.refl _ _ | refine Agr.inner rfl ?_ | refine Agr.upd rfl ?_ | refine Agr.updL' rfl ?_, ?_⟩
        exact ⟨m - 1, (i + 1, nodeH (E.getD i []) h), by omega, ⟨by exact congrArg (Value.int IntKind.i64) (Int.natCast_succ i).symm, trivial⟩, ⟨by omega, nodeH_len _ _, carry_step he hi hcy (by omega)⟩, H⟩
    · try simp only [decide_eq_true_eq, decide_eq_false_iff_not, Bool.not_eq_true', Bool.not_eq_false', beq_iff_eq, beq_eq_false_iff_ne, bne_iff_ne, bne_eq_false_iff_eq, ne_eq, Int.not_lt, Int.not_le] at c1
      have e64 : i = 64 := by omega
      subst e64
      exact (carry_stop hcy (by omega)).elim

end Go.Proofs.Ytcmmhpkgjcepdaa
