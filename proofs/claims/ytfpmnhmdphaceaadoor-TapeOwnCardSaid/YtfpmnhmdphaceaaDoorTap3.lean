/- Walks through the tape's functions. -/
import Derived.Test.YtfpmnhmdphaceaaDoorTapLAll
import Derived.Test.YtfpmnhmdphaceaaDoorTadAll
namespace Go.Proofs.YtfpmnhmdphaceaaDoor
open Go.EW
attribute [local irreducible] EW.W EW.L EW.fin block8 outB shaL
set_option linter.unusedVariables false
set_option linter.unusedSimpArgs false
theorem uses_zero {k : Int} (h : k < 1 ∨ 13 ≤ k) : usesN k = 0 := if_pos h
theorem uses_get {k : Int} (h : ¬ (k < 1 ∨ 13 ≤ k)) : ∃ j : Nat, k = (j : Int) ∧ j < 13 ∧ (usesT.map fun u : Nat => I (u : Int))[j]? = some (I (usesN k)) := by
  refine ⟨k.toNat, by omega, by omega, ?_⟩
  unfold usesN
  rw [if_neg h]
  have h1 : k.toNat < usesT.length := by have : usesT.length = 13 := rfl; omega
  rw [List.getElem?_map, List.getElem?_eq_getElem h1, List.getD_eq_getElem?_getD, List.getElem?_eq_getElem h1]; rfl
/-- pointers to an event's numbers -/
def ptrs (b : Nat) : List Value := [.pointer (some ⟨b, 1, none⟩), .pointer (some ⟨b, 2, none⟩), .pointer (some ⟨b, 3, none⟩), .pointer (some ⟨b, 4, none⟩), .pointer (some ⟨b, 5, none⟩), .pointer (some ⟨b, 6, none⟩)]
theorem ptrs_at (b : Nat) {i : Nat} (hi : i < 6) : (ptrs b)[i]? = some (.pointer (some ⟨b, i + 1, none⟩)) := by
  match i, hi with
  | 0, _ => rfl
  | 1, _ => rfl
  | 2, _ => rfl
  | 3, _ => rfl
  | 4, _ => rfl
  | 5, _ => rfl
theorem cell_i {W w : World} {F : List Seg} {b T j : Nat} {cs : List Value} {v : Value} (H : St W w (blk b cs T :: F)) (hj : cs[j]? = some v) : w.cell? ⟨b, 0 + j * 1, none⟩ = some v := by
  rw [Nat.zero_add, Nat.mul_one]; exact H.cell 0 rfl hj
theorem uses_ok {W w : World} {F : List Seg} (H : St W w F) (k : Int) :
    Ok Tryd.prog 41 [I k].toArray w (fun r w' => r = I (usesN k) ∧ St W w' F) := by
  refine enter (n := 14) (rs := #[.tmp 2]) Tryd.func41 rfl rfl rfl rfl ?_
  refine w_seq ?_
  refine w_region ?_
  refine l_pint rfl rfl ?_
  refine l_nil ?_
  refine w_seq ?_
  refine w_region ?_
  refine l_v rfl (q_buildArr (cs := usesT.map fun u : Nat => I (u : Int)) rfl ar_173 ze_173 (by kernel_rfl)) ?_
  refine b_alloc (cs := List.replicate 13 (.int .i64 0)) rfl ze_173 rfl H (fun b3 w H => ?_)
  refine b_store (vs := usesT.map fun u : Nat => I (u : Int)) (cs' := usesT.map fun u : Nat => I (u : Int)) rfl sz_173 rfl rfl rfl rfl rfl H 0 rfl rfl rfl (fun w H => ?_)
  refine l_nil ?_
  refine w_seq ?_
  refine w_seq ?_
  refine w_region ?_
  refine l_pint rfl rfl ?_
  refine l_pbool rfl rfl ?_
  refine l_pbool rfl rfl ?_
  refine l_split 7 rfl (fun h7 => ?_) (fun h7 => ?_)
  · try simp only [sH] at h7
    refine l_no rfl ?_
    refine l_no rfl ?_
    refine l_pickT (v := .bool _) rfl rfl rfl ?_
    refine l_nil ?_
    refine w_cond_t rfl ?_
    refine w_seq ?_
    refine w_region ?_
    refine l_pint rfl rfl ?_
    refine l_nil ?_
    refine w_ret ?_
    refine fin1 (v := .int _ _) rfl ?_
    refine ⟨?_, H.drop1⟩
    rw [uses_zero (by omega)]; rfl
  try simp only [sH] at h7
  refine l_pint rfl rfl ?_
  refine l_pbool rfl rfl ?_
  refine l_pickF (v := .bool _) rfl rfl rfl ?_
  refine l_nil ?_
  refine w_cond rfl (fun c1 => ?_) (fun c1 => ?_)
  · try simp only [sH] at c1
    refine w_seq ?_
    refine w_region ?_
    refine l_pint rfl rfl ?_
    refine l_nil ?_
    refine w_ret ?_
    refine fin1 (v := .int _ _) rfl ?_
    refine ⟨?_, H.drop1⟩
    rw [uses_zero (by omega)]; rfl
  try simp only [sH] at c1
  obtain ⟨j, rfl, hj13, hjc⟩ := uses_get (k := k) (by omega)
  refine w_skip ?_
  refine w_seq ?_
  refine w_region ?_
  refine l_pint rfl rfl ?_
  refine l_v rfl (q_indexArrE j rfl ar_173 rfl rfl rfl hj13) ?_
  refine l_v rfl (q_load1 rfl c1_3 rfl (cell_i H hjc)) ?_
  refine l_pint rfl rfl ?_
  refine l_nil ?_
  refine w_ret ?_
  refine fin1 (v := .int _ _) rfl ?_
  exact ⟨rfl, H.drop1⟩
theorem ints_ok {W w : World} {F : List Seg} (H : St W w F) (b : Nat) :
    Ok Tryd.prog 42 [.pointer (some ⟨b, 0, none⟩)].toArray w (fun r w' => r = .agg (ptrs b).toArray ∧ St W w' F) := by
  refine enter (n := 22) (rs := #[.cell 2 111]) Tryd.func42 rfl rfl rfl rfl ?_
  refine w_seq ?_
  refine w_region ?_
  refine b_alloc rfl ze_111 rfl H (fun b2 w H => ?_)
  refine l_nil ?_
  refine w_seq ?_
  refine w_drawT [19] [] [(0, 0), (1, 0), (2, 0), (3, 0), (4, 0), (5, 0), (6, 0), (7, 0), (8, 0), (9, 0), (10, 0), (11, 0), (12, 0), (13, 0), (14, 0), (15, 0), (16, 0), (17, 0), (18, 0), (19, 2)] mixed (by kernel_rfl) (fun _ _ _ h => fin_panic h) H (fun H => ?_)
  refine r_pptr rfl rfl rfl ?_
  refine r_pptr rfl rfl rfl ?_
  refine r_w rfl rfl (fun w => q_fieldAddr rfl fo30_1 rfl) ?_
  refine r_pptr rfl rfl rfl ?_
  refine r_pptr rfl rfl rfl ?_
  refine r_w rfl rfl (fun w => q_fieldAddr rfl fo30_2 rfl) ?_
  refine r_pptr rfl rfl rfl ?_
  refine r_pptr rfl rfl rfl ?_
  refine r_w rfl rfl (fun w => q_fieldAddr rfl fo30_3 rfl) ?_
  refine r_pptr rfl rfl rfl ?_
  refine r_pptr rfl rfl rfl ?_
  refine r_w rfl rfl (fun w => q_fieldAddr rfl fo30_4 rfl) ?_
  refine r_pptr rfl rfl rfl ?_
  refine r_pptr rfl rfl rfl ?_
  refine r_w rfl rfl (fun w => q_fieldAddr rfl fo30_5 rfl) ?_
  refine r_pptr rfl rfl rfl ?_
  refine r_pptr rfl rfl rfl ?_
  refine r_w rfl rfl (fun w => q_fieldAddr rfl fo30_6 rfl) ?_
  refine r_w rfl rfl (fun w => q_buildArr (cs := ptrs b) rfl ar_111 ze_111 rfl) ?_
  refine r_do rfl ?_
  first | refine b_store (cs' := [_, _, _, _, _, _]) rfl sz_111 rfl rfl rfl rfl rfl H 0 rfl rfl rfl (fun w H => ?_) | refine b_store (cs' := [_, _, _, _, _, _]) rfl sz_111 rfl rfl rfl rfl rfl H 1 rfl rfl rfl (fun w H => ?_)
  refine l_nil ⟨(fun h => nomatch h), ?_⟩
  refine r_nil ?_
  refine w_ret ?_
  refine finc rfl ag_111 rfl (by first | exact H.cells 0 rfl | exact H.cells 1 rfl) ?_
  exact ⟨rfl, H.drop1⟩
end Go.Proofs.YtfpmnhmdphaceaaDoor
