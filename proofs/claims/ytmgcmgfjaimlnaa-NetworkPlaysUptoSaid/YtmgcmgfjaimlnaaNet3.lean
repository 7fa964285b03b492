/- The network's Len, Sent, At and Record do what their contracts say, of every net that is laid in owned memory. -/
import Derived.Test.YtmgcmgfjaimlnaaNet3a
namespace Go.Proofs.Ytmgcmgfjaimlnaa
open Go.EW
attribute [local irreducible] EW.W EW.L EW.fin
set_option linter.unusedVariables false
set_option linter.unusedSimpArgs false
theorem Len_ok {W w : World} {S : List Seg} {b i : Nat} {cs : List Value} (H : St W w S) (hi : S[i]? = some (blk b cs 84)) {a : Option Addr} {n cap : Nat} (hp : cs[2]? = some (.slice a n cap)) :
    Ok Try.prog 16 [.pointer (some ⟨b, 0, none⟩)].toArray w (fun v w' => v = .int .i64 n ∧ w' = w) := by
  refine enter (n := 10) (rs := #[.tmp 2]) Try.func16 rfl rfl rfl rfl ?_
  refine w_seq ?_
  refine w_region ?_
  refine l_pint rfl rfl ?_
  refine l_nil ?_
  refine w_seq ?_
  refine w_seq ?_
  refine w_region ?_
  refine l_pptr rfl rfl ?_
  refine l_v rfl (q_eqlNilF rfl pt_24 rfl rfl) ?_
  refine l_nil ?_
  refine w_cond_f rfl ?_
  refine w_skip ?_
  refine w_seq ?_
  refine w_region ?_
  refine l_pptr rfl rfl ?_
  refine l_pptr rfl rfl ?_
  refine l_v rfl (q_fieldAddr rfl fo84_2 rfl) ?_
  refine l_v rfl (q_load1 rfl c1_22 rfl (H.cell i hi hp)) ?_
  refine l_v rfl (q_lenSlice rfl el_22 rfl) ?_
  refine l_pint rfl rfl ?_
  refine l_nil ?_
  refine w_ret ?_
  refine fin1 (v := .int _ _) rfl ?_
  exact ⟨rfl, rfl⟩
theorem Sent_ok {W w : World} {S : List Seg} {b i : Nat} {cs : List Value} (H : St W w S) (hi : S[i]? = some (blk b cs 84)) {a : Option Addr} {n cap : Nat} (hp : cs[3]? = some (.slice a n cap)) :
    Ok Try.prog 18 [.pointer (some ⟨b, 0, none⟩)].toArray w (fun v w' => v = .int .i64 n ∧ w' = w) := by
  refine enter (n := 10) (rs := #[.tmp 2]) Try.func18 rfl rfl rfl rfl ?_
  refine w_seq ?_
  refine w_region ?_
  refine l_pint rfl rfl ?_
  refine l_nil ?_
  refine w_seq ?_
  refine w_seq ?_
  refine w_region ?_
  refine l_pptr rfl rfl ?_
  refine l_v rfl (q_eqlNilF rfl pt_24 rfl rfl) ?_
  refine l_nil ?_
  refine w_cond_f rfl ?_
  refine w_skip ?_
  refine w_seq ?_
  refine w_region ?_
  refine l_pptr rfl rfl ?_
  refine l_pptr rfl rfl ?_
  refine l_v rfl (q_fieldAddr rfl fo84_3 rfl) ?_
  refine l_v rfl (q_load1 rfl c1_22 rfl (H.cell i hi hp)) ?_
  refine l_v rfl (q_lenSlice rfl el_22 rfl) ?_
  refine l_pint rfl rfl ?_
  refine l_nil ?_
  refine w_ret ?_
  refine fin1 (v := .int _ _) rfl ?_
  exact ⟨rfl, rfl⟩
theorem At_ok {W w : World} {F : List Seg} {b : Nat} {st : NetS} (H : St W w (netL b st F)) (hfit : st.fit) (k : Int) :
    Ok Try.prog 27 [.pointer (some ⟨b, 0, none⟩), .int .i64 k].toArray w (fun v w' => ∃ q e, v = .tuple #[pkv q, .int .i64 e] ∧ AtR st.pool k q e ∧ St W w' (q.own :: netL b st F)) := by
  refine enter (n := 22) (rs := #[.cell 4 31, .tmp 5]) Try.func27 rfl rfl rfl rfl ?_
  refine w_seq ?_
  refine w_region ?_
  refine b_alloc rfl ze_31 rfl H (fun b4 w H => ?_)
  refine l_pint rfl rfl ?_
  refine l_nil ?_
  refine w_seq ?_
  refine w_seq ?_
  refine w_region ?_
  refine l_pptr rfl rfl ?_
  refine l_v rfl (q_eqlNilF rfl pt_24 rfl rfl) ?_
  refine l_nil ?_
  refine w_cond_f rfl ?_
  refine w_skip ?_
  refine w_seq ?_
  refine w_seq ?_
  refine w_region ?_
  refine l_pptr rfl rfl ?_
  refine l_pint rfl rfl ?_
  refine b_call rfl cb_50 rfl (there_ok (i := 1) H rfl rfl k) (fun v w hv => ?_)
  obtain ⟨rfl, rfl⟩ := hv
  refine l_pbool rfl rfl ?_
  refine l_nil ?_
  refine w_cond rfl (fun c1 => ?_) (fun c1 => ?_)
  · try simp only [decide_eq_true_eq, decide_eq_false_iff_not, Bool.not_eq_true', Bool.not_eq_false', beq_iff_eq, beq_eq_false_iff_ne, bne_iff_ne, bne_eq_false_iff_eq, ne_eq, Int.not_lt, Int.not_le] at c1
    refine w_seq ?_
    refine w_region ?_
    refine l_v rfl (q_build (cs := [.int _ _, .int _ _, .slice _ _ _]) rfl sp_31 rfl) ?_
    first | refine b_store (cs' := [_, _, _]) rfl sz_31 rfl rfl rfl rfl rfl H 0 rfl rfl rfl (fun w H => ?_) | refine b_store (cs' := [_, _, _]) rfl sz_31 rfl rfl rfl rfl rfl H 1 rfl rfl rfl (fun w H => ?_) | refine b_store (cs' := [_, _, _]) rfl sz_31 rfl rfl rfl rfl rfl H 2 rfl rfl rfl (fun w H => ?_) | refine b_store (cs' := [_, _, _]) rfl sz_31 rfl rfl rfl rfl rfl H 3 rfl rfl rfl (fun w H => ?_) | refine b_store (cs' := [_, _, _]) rfl sz_31 rfl rfl rfl rfl rfl H 4 rfl rfl rfl (fun w H => ?_) | refine b_store (cs' := [_, _, _]) rfl sz_31 rfl rfl rfl rfl rfl H 5 rfl rfl rfl (fun w H => ?_) | refine b_store (cs' := [_, _, _]) rfl sz_31 rfl rfl rfl rfl rfl H 6 rfl rfl rfl (fun w H => ?_) | refine b_store (cs' := [_, _, _]) rfl sz_31 rfl rfl rfl rfl rfl H 7 rfl rfl rfl (fun w H => ?_) | refine b_store (cs' := [_, _, _]) rfl sz_31 rfl rfl rfl rfl rfl H 8 rfl rfl rfl (fun w H => ?_) | refine b_store (cs' := [_, _, _]) rfl sz_31 rfl rfl rfl rfl rfl H 9 rfl rfl rfl (fun w H => ?_)
    refine l_pint rfl rfl ?_
    refine l_nil ?_
    refine w_ret ?_
    refine finc2 rfl ag_31 rfl (by first | exact H.cells 0 rfl | exact H.cells 1 rfl | exact H.cells 2 rfl | exact H.cells 3 rfl | exact H.cells 4 rfl | exact H.cells 5 rfl | exact H.cells 6 rfl | exact H.cells 7 rfl | exact H.cells 8 rfl | exact H.cells 9 rfl) rfl ?_
    refine ⟨⟨0, 0, none, 0, 0, []⟩, 141, rfl, .inl ⟨by simpa using c1, rfl, rfl⟩, ?_⟩
    exact (H.erase 0).newRow
  try simp only [decide_eq_true_eq, decide_eq_false_iff_not, Bool.not_eq_true', Bool.not_eq_false', beq_iff_eq, beq_eq_false_iff_ne, bne_iff_ne, bne_eq_false_iff_eq, ne_eq, Int.not_lt, Int.not_le] at c1
  have c1' : 0 ≤ k ∧ k < (st.pool.length : Int) := by simpa using c1
  obtain ⟨p, hp⟩ : ∃ p, st.pool[k.toNat]? = some p := ⟨_, List.getElem?_eq_getElem (by omega)⟩
  obtain ⟨b0, o0, hpa, hcs⟩ := pk_cells (H.rowInv (i := 2) rfl).2.2.2.2 hp
  obtain ⟨hl, hn1, hn2⟩ := pk_len H 3 rfl hp
  have hn : p.n ≤ 140737488355328 := by have := hfit.pool p (List.mem_of_getElem? hp); omega
  refine w_skip ?_
  refine w_seq ?_
  refine w_region ?_
  refine l_pptr rfl rfl ?_
  refine l_pptr rfl rfl ?_
  refine l_v rfl (q_fieldAddr rfl fo84_2 rfl) ?_
  refine l_v rfl (q_load1 rfl c1_22 rfl (by first | exact H.cell 0 rfl rfl | exact H.cell 1 rfl rfl | exact H.cell 2 rfl rfl | exact H.cell 3 rfl rfl | exact H.cell 4 rfl rfl | exact H.cell 5 rfl rfl | exact H.cell 6 rfl rfl | exact H.cell 7 rfl rfl | exact H.cell 8 rfl rfl | exact H.cell 9 rfl rfl)) ?_
  refine l_pint rfl rfl ?_
  refine l_v rfl (q_indexSliceA rfl el_22 rfl hpa rfl c1') ?_
  refine l_v rfl (q_loadN (vs := [_, _, _]) rfl ag_31 rfl rfl hcs) ?_
  refine b_call rfl cb_47 rfl (copied_ok H p.fr p.to (pk_own 3 rfl hp) hl hn) (fun v w hv => ?_)
  obtain ⟨b47, rfl, H⟩ := hv
  first | refine b_store (cs' := [_, _, _]) rfl sz_31 rfl rfl rfl rfl rfl H 0 rfl rfl rfl (fun w H => ?_) | refine b_store (cs' := [_, _, _]) rfl sz_31 rfl rfl rfl rfl rfl H 1 rfl rfl rfl (fun w H => ?_) | refine b_store (cs' := [_, _, _]) rfl sz_31 rfl rfl rfl rfl rfl H 2 rfl rfl rfl (fun w H => ?_) | refine b_store (cs' := [_, _, _]) rfl sz_31 rfl rfl rfl rfl rfl H 3 rfl rfl rfl (fun w H => ?_) | refine b_store (cs' := [_, _, _]) rfl sz_31 rfl rfl rfl rfl rfl H 4 rfl rfl rfl (fun w H => ?_) | refine b_store (cs' := [_, _, _]) rfl sz_31 rfl rfl rfl rfl rfl H 5 rfl rfl rfl (fun w H => ?_) | refine b_store (cs' := [_, _, _]) rfl sz_31 rfl rfl rfl rfl rfl H 6 rfl rfl rfl (fun w H => ?_) | refine b_store (cs' := [_, _, _]) rfl sz_31 rfl rfl rfl rfl rfl H 7 rfl rfl rfl (fun w H => ?_) | refine b_store (cs' := [_, _, _]) rfl sz_31 rfl rfl rfl rfl rfl H 8 rfl rfl rfl (fun w H => ?_) | refine b_store (cs' := [_, _, _]) rfl sz_31 rfl rfl rfl rfl rfl H 9 rfl rfl rfl (fun w H => ?_)
  refine l_pint rfl rfl ?_
  refine l_nil ?_
  refine w_ret ?_
  refine finc2 rfl ag_31 rfl (by first | exact H.cells 0 rfl | exact H.cells 1 rfl | exact H.cells 2 rfl | exact H.cells 3 rfl | exact H.cells 4 rfl | exact H.cells 5 rfl | exact H.cells 6 rfl | exact H.cells 7 rfl | exact H.cells 8 rfl | exact H.cells 9 rfl) rfl ?_
  refine ⟨⟨p.fr, p.to, _, p.n, p.n, p.bs⟩, 0, rfl, .inr ⟨p, c1'.1, c1'.2, hp, rfl, rfl⟩, ?_⟩
  exact H.erase 1
theorem Record_ok {W w : World} {F : List Seg} {b : Nat} {st : NetS} (H : St W w (netL b st F)) (hfit : st.fit) (k : Int) :
    Ok Try.prog 43 [.pointer (some ⟨b, 0, none⟩), .int .i64 k].toArray w (fun v w' => ∃ q e, v = .tuple #[pkv q, .int .i64 e] ∧ AtR st.record k q e ∧ St W w' (q.own :: netL b st F)) := by
  refine enter (n := 29) (rs := #[.cell 4 31, .tmp 5]) Try.func43 rfl rfl rfl rfl ?_
  refine w_seq ?_
  refine w_region ?_
  refine b_alloc rfl ze_31 rfl H (fun b4 w H => ?_)
  refine l_pint rfl rfl ?_
  refine l_nil ?_
  refine w_seq ?_
  refine w_seq ?_
  refine w_region ?_
  refine l_pptr rfl rfl ?_
  refine l_v rfl (q_eqlNilF rfl pt_24 rfl rfl) ?_
  refine l_nil ?_
  refine w_cond_f rfl ?_
  refine w_skip ?_
  refine w_seq ?_
  refine w_seq ?_
  refine w_region ?_
  refine l_pint rfl rfl ?_
  refine l_pbool rfl rfl ?_
  refine l_pbool rfl rfl ?_
  refine l_split 11 rfl (fun h11 => ?_) (fun h11 => ?_)
  · try simp only [decide_eq_true_eq, decide_eq_false_iff_not, Bool.not_eq_true', Bool.not_eq_false', beq_iff_eq, beq_eq_false_iff_ne, bne_iff_ne, bne_eq_false_iff_eq, ne_eq, Int.not_lt, Int.not_le] at h11
    refine l_no rfl ?_
    refine l_no rfl ?_
    refine l_no rfl ?_
    refine l_no rfl ?_
    refine l_no rfl ?_
    refine l_no rfl ?_
    refine l_no rfl ?_
    refine l_pickT (v := .bool _) rfl rfl rfl ?_
    refine l_nil ?_
    refine w_cond_t rfl ?_
    refine w_seq ?_
    refine w_region ?_
    refine l_v rfl (q_build (cs := [.int _ _, .int _ _, .slice _ _ _]) rfl sp_31 rfl) ?_
    first | refine b_store (cs' := [_, _, _]) rfl sz_31 rfl rfl rfl rfl rfl H 0 rfl rfl rfl (fun w H => ?_) | refine b_store (cs' := [_, _, _]) rfl sz_31 rfl rfl rfl rfl rfl H 1 rfl rfl rfl (fun w H => ?_) | refine b_store (cs' := [_, _, _]) rfl sz_31 rfl rfl rfl rfl rfl H 2 rfl rfl rfl (fun w H => ?_) | refine b_store (cs' := [_, _, _]) rfl sz_31 rfl rfl rfl rfl rfl H 3 rfl rfl rfl (fun w H => ?_) | refine b_store (cs' := [_, _, _]) rfl sz_31 rfl rfl rfl rfl rfl H 4 rfl rfl rfl (fun w H => ?_) | refine b_store (cs' := [_, _, _]) rfl sz_31 rfl rfl rfl rfl rfl H 5 rfl rfl rfl (fun w H => ?_) | refine b_store (cs' := [_, _, _]) rfl sz_31 rfl rfl rfl rfl rfl H 6 rfl rfl rfl (fun w H => ?_) | refine b_store (cs' := [_, _, _]) rfl sz_31 rfl rfl rfl rfl rfl H 7 rfl rfl rfl (fun w H => ?_) | refine b_store (cs' := [_, _, _]) rfl sz_31 rfl rfl rfl rfl rfl H 8 rfl rfl rfl (fun w H => ?_) | refine b_store (cs' := [_, _, _]) rfl sz_31 rfl rfl rfl rfl rfl H 9 rfl rfl rfl (fun w H => ?_)
    refine l_pint rfl rfl ?_
    refine l_nil ?_
    refine w_ret ?_
    refine finc2 rfl ag_31 rfl (by first | exact H.cells 0 rfl | exact H.cells 1 rfl | exact H.cells 2 rfl | exact H.cells 3 rfl | exact H.cells 4 rfl | exact H.cells 5 rfl | exact H.cells 6 rfl | exact H.cells 7 rfl | exact H.cells 8 rfl | exact H.cells 9 rfl) rfl ?_
    refine ⟨⟨0, 0, none, 0, 0, []⟩, 141, rfl, .inl ⟨by omega, rfl, rfl⟩, ?_⟩
    exact (H.erase 0).newRow
  try simp only [decide_eq_true_eq, decide_eq_false_iff_not, Bool.not_eq_true', Bool.not_eq_false', beq_iff_eq, beq_eq_false_iff_ne, bne_iff_ne, bne_eq_false_iff_eq, ne_eq, Int.not_lt, Int.not_le] at h11
  refine l_pint rfl rfl ?_
  refine l_pptr rfl rfl ?_
  refine l_pptr rfl rfl ?_
  refine l_v rfl (q_fieldAddr rfl fo84_3 rfl) ?_
  refine l_v rfl (q_load1 rfl c1_22 rfl (by first | exact H.cell 0 rfl rfl | exact H.cell 1 rfl rfl | exact H.cell 2 rfl rfl | exact H.cell 3 rfl rfl | exact H.cell 4 rfl rfl | exact H.cell 5 rfl rfl | exact H.cell 6 rfl rfl | exact H.cell 7 rfl rfl | exact H.cell 8 rfl rfl | exact H.cell 9 rfl rfl)) ?_
  refine l_v rfl (q_lenSlice rfl el_22 rfl) ?_
  refine l_pbool rfl rfl ?_
  refine l_pickF (v := .bool _) rfl rfl rfl ?_
  refine l_nil ?_
  refine w_cond rfl (fun c1 => ?_) (fun c1 => ?_)
  · try simp only [decide_eq_true_eq, decide_eq_false_iff_not, Bool.not_eq_true', Bool.not_eq_false', beq_iff_eq, beq_eq_false_iff_ne, bne_iff_ne, bne_eq_false_iff_eq, ne_eq, Int.not_lt, Int.not_le] at c1
    refine w_seq ?_
    refine w_region ?_
    refine l_v rfl (q_build (cs := [.int _ _, .int _ _, .slice _ _ _]) rfl sp_31 rfl) ?_
    first | refine b_store (cs' := [_, _, _]) rfl sz_31 rfl rfl rfl rfl rfl H 0 rfl rfl rfl (fun w H => ?_) | refine b_store (cs' := [_, _, _]) rfl sz_31 rfl rfl rfl rfl rfl H 1 rfl rfl rfl (fun w H => ?_) | refine b_store (cs' := [_, _, _]) rfl sz_31 rfl rfl rfl rfl rfl H 2 rfl rfl rfl (fun w H => ?_) | refine b_store (cs' := [_, _, _]) rfl sz_31 rfl rfl rfl rfl rfl H 3 rfl rfl rfl (fun w H => ?_) | refine b_store (cs' := [_, _, _]) rfl sz_31 rfl rfl rfl rfl rfl H 4 rfl rfl rfl (fun w H => ?_) | refine b_store (cs' := [_, _, _]) rfl sz_31 rfl rfl rfl rfl rfl H 5 rfl rfl rfl (fun w H => ?_) | refine b_store (cs' := [_, _, _]) rfl sz_31 rfl rfl rfl rfl rfl H 6 rfl rfl rfl (fun w H => ?_) | refine b_store (cs' := [_, _, _]) rfl sz_31 rfl rfl rfl rfl rfl H 7 rfl rfl rfl (fun w H => ?_) | refine b_store (cs' := [_, _, _]) rfl sz_31 rfl rfl rfl rfl rfl H 8 rfl rfl rfl (fun w H => ?_) | refine b_store (cs' := [_, _, _]) rfl sz_31 rfl rfl rfl rfl rfl H 9 rfl rfl rfl (fun w H => ?_)
    refine l_pint rfl rfl ?_
    refine l_nil ?_
    refine w_ret ?_
    refine finc2 rfl ag_31 rfl (by first | exact H.cells 0 rfl | exact H.cells 1 rfl | exact H.cells 2 rfl | exact H.cells 3 rfl | exact H.cells 4 rfl | exact H.cells 5 rfl | exact H.cells 6 rfl | exact H.cells 7 rfl | exact H.cells 8 rfl | exact H.cells 9 rfl) rfl ?_
    refine ⟨⟨0, 0, none, 0, 0, []⟩, 141, rfl, .inl ⟨by omega, rfl, rfl⟩, ?_⟩
    exact (H.erase 0).newRow
  try simp only [decide_eq_true_eq, decide_eq_false_iff_not, Bool.not_eq_true', Bool.not_eq_false', beq_iff_eq, beq_eq_false_iff_ne, bne_iff_ne, bne_eq_false_iff_eq, ne_eq, Int.not_lt, Int.not_le] at c1
  have c1' : 0 ≤ k ∧ k < (st.record.length : Int) := ⟨by simpa using h11, by simpa using c1⟩
  obtain ⟨p, hp⟩ : ∃ p, st.record[k.toNat]? = some p := ⟨_, List.getElem?_eq_getElem (by omega)⟩
  obtain ⟨b0, o0, hpa, hcs⟩ := pk_cells (H.rowInv (i := 4) rfl).2.2.2.2 hp
  obtain ⟨hl, hn1, hn2⟩ := pk_len H 5 rfl hp
  have hn : p.n ≤ 140737488355328 := by have := hfit.record p (List.mem_of_getElem? hp); omega
  refine w_skip ?_
  refine w_seq ?_
  refine w_region ?_
  refine l_pptr rfl rfl ?_
  refine l_pptr rfl rfl ?_
  refine l_v rfl (q_fieldAddr rfl fo84_3 rfl) ?_
  refine l_v rfl (q_load1 rfl c1_22 rfl (by first | exact H.cell 0 rfl rfl | exact H.cell 1 rfl rfl | exact H.cell 2 rfl rfl | exact H.cell 3 rfl rfl | exact H.cell 4 rfl rfl | exact H.cell 5 rfl rfl | exact H.cell 6 rfl rfl | exact H.cell 7 rfl rfl | exact H.cell 8 rfl rfl | exact H.cell 9 rfl rfl)) ?_
  refine l_pint rfl rfl ?_
  refine l_v rfl (q_indexSliceA rfl el_22 rfl hpa rfl c1') ?_
  refine l_v rfl (q_loadN (vs := [_, _, _]) rfl ag_31 rfl rfl hcs) ?_
  refine b_call rfl cb_47 rfl (copied_ok H p.fr p.to (pk_own 5 rfl hp) hl hn) (fun v w hv => ?_)
  obtain ⟨b47, rfl, H⟩ := hv
  first | refine b_store (cs' := [_, _, _]) rfl sz_31 rfl rfl rfl rfl rfl H 0 rfl rfl rfl (fun w H => ?_) | refine b_store (cs' := [_, _, _]) rfl sz_31 rfl rfl rfl rfl rfl H 1 rfl rfl rfl (fun w H => ?_) | refine b_store (cs' := [_, _, _]) rfl sz_31 rfl rfl rfl rfl rfl H 2 rfl rfl rfl (fun w H => ?_) | refine b_store (cs' := [_, _, _]) rfl sz_31 rfl rfl rfl rfl rfl H 3 rfl rfl rfl (fun w H => ?_) | refine b_store (cs' := [_, _, _]) rfl sz_31 rfl rfl rfl rfl rfl H 4 rfl rfl rfl (fun w H => ?_) | refine b_store (cs' := [_, _, _]) rfl sz_31 rfl rfl rfl rfl rfl H 5 rfl rfl rfl (fun w H => ?_) | refine b_store (cs' := [_, _, _]) rfl sz_31 rfl rfl rfl rfl rfl H 6 rfl rfl rfl (fun w H => ?_) | refine b_store (cs' := [_, _, _]) rfl sz_31 rfl rfl rfl rfl rfl H 7 rfl rfl rfl (fun w H => ?_) | refine b_store (cs' := [_, _, _]) rfl sz_31 rfl rfl rfl rfl rfl H 8 rfl rfl rfl (fun w H => ?_) | refine b_store (cs' := [_, _, _]) rfl sz_31 rfl rfl rfl rfl rfl H 9 rfl rfl rfl (fun w H => ?_)
  refine l_pint rfl rfl ?_
  refine l_nil ?_
  refine w_ret ?_
  refine finc2 rfl ag_31 rfl (by first | exact H.cells 0 rfl | exact H.cells 1 rfl | exact H.cells 2 rfl | exact H.cells 3 rfl | exact H.cells 4 rfl | exact H.cells 5 rfl | exact H.cells 6 rfl | exact H.cells 7 rfl | exact H.cells 8 rfl | exact H.cells 9 rfl) rfl ?_
  refine ⟨⟨p.fr, p.to, _, p.n, p.n, p.bs⟩, 0, rfl, .inr ⟨p, c1'.1, c1'.2, hp, rfl, rfl⟩, ?_⟩
  exact H.erase 1
end Go.Proofs.Ytmgcmgfjaimlnaa
