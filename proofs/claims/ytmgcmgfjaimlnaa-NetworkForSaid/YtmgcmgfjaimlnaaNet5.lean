/- The laws' helpers: copies, comparisons, addresses. -/
import Derived.Test.YtmgcmgfjaimlnaaNet4
import Derived.Test.YtmgcmgfjaimlnaaBaseAll
namespace Go.Proofs.Ytmgcmgfjaimlnaa
open Go.EW
attribute [local irreducible] EW.W EW.L EW.fin
set_option linter.unusedVariables false
set_option linter.unusedSimpArgs false
def sameB (p q : Pk) : Bool := decide (p.fr = q.fr ∧ p.to = q.to ∧ p.bs = q.bs)
theorem Same_ok {W w : World} {F : List Seg} (H : St W w F) {p q : Pk} (hp : RdIn W F p.a (p.bs.map B)) (hpl : p.bs.length = p.n) (hq : RdIn W F q.a (q.bs.map B)) (hql : q.bs.length = q.n) :
    Ok Try.prog 15 [pkv p, pkv q].toArray w (fun v w' => v = .bool (sameB p q) ∧ St W w' F) := by
  refine enter (n := 26) (rs := #[.tmp 4]) Try.func15 rfl rfl rfl rfl ?_
  refine w_seq ?_
  refine w_region ?_
  refine b_box rfl rfl rfl H (fun b2 w H => ?_)
  refine b_box rfl rfl rfl H (fun b3 w H => ?_)
  refine l_pbool rfl rfl ?_
  refine l_nil ?_
  refine w_seq ?_
  refine w_region ?_
  refine l_v rfl (q_fieldAddr rfl fo31_0 rfl) ?_
  refine l_v rfl (q_load1 rfl c1_3 rfl (by first | exact H.cell 0 rfl rfl | exact H.cell 1 rfl rfl | exact H.cell 2 rfl rfl | exact H.cell 3 rfl rfl | exact H.cell 4 rfl rfl | exact H.cell 5 rfl rfl | exact H.cell 6 rfl rfl | exact H.cell 7 rfl rfl | exact H.cell 8 rfl rfl | exact H.cell 9 rfl rfl)) ?_
  refine l_v rfl (q_fieldAddr rfl fo31_0 rfl) ?_
  refine l_v rfl (q_load1 rfl c1_3 rfl (by first | exact H.cell 0 rfl rfl | exact H.cell 1 rfl rfl | exact H.cell 2 rfl rfl | exact H.cell 3 rfl rfl | exact H.cell 4 rfl rfl | exact H.cell 5 rfl rfl | exact H.cell 6 rfl rfl | exact H.cell 7 rfl rfl | exact H.cell 8 rfl rfl | exact H.cell 9 rfl rfl)) ?_
  refine l_pbool rfl rfl ?_
  refine l_pbool rfl rfl ?_
  refine l_split 10 rfl (fun h10 => ?_) (fun h10 => ?_)
  · try simp only [decide_eq_true_eq, decide_eq_false_iff_not, Bool.not_eq_true', Bool.not_eq_false', beq_iff_eq, beq_eq_false_iff_ne, bne_iff_ne, bne_eq_false_iff_eq, ne_eq, Int.not_lt, Int.not_le] at h10
    refine l_v rfl (q_fieldAddr rfl fo31_1 rfl) ?_
    refine l_v rfl (q_load1 rfl c1_3 rfl (by first | exact H.cell 0 rfl rfl | exact H.cell 1 rfl rfl | exact H.cell 2 rfl rfl | exact H.cell 3 rfl rfl | exact H.cell 4 rfl rfl | exact H.cell 5 rfl rfl | exact H.cell 6 rfl rfl | exact H.cell 7 rfl rfl | exact H.cell 8 rfl rfl | exact H.cell 9 rfl rfl)) ?_
    refine l_v rfl (q_fieldAddr rfl fo31_1 rfl) ?_
    refine l_v rfl (q_load1 rfl c1_3 rfl (by first | exact H.cell 0 rfl rfl | exact H.cell 1 rfl rfl | exact H.cell 2 rfl rfl | exact H.cell 3 rfl rfl | exact H.cell 4 rfl rfl | exact H.cell 5 rfl rfl | exact H.cell 6 rfl rfl | exact H.cell 7 rfl rfl | exact H.cell 8 rfl rfl | exact H.cell 9 rfl rfl)) ?_
    refine l_pbool rfl rfl ?_
    refine l_pickT (v := .bool _) rfl rfl rfl ?_
    refine l_pbool rfl rfl ?_
    refine l_split 17 rfl (fun h17 => ?_) (fun h17 => ?_)
    · try simp only [decide_eq_true_eq, decide_eq_false_iff_not, Bool.not_eq_true', Bool.not_eq_false', beq_iff_eq, beq_eq_false_iff_ne, bne_iff_ne, bne_eq_false_iff_eq, ne_eq, Int.not_lt, Int.not_le] at h17
      refine l_v rfl (q_fieldAddr rfl fo31_2 rfl) ?_
      refine l_v rfl (q_load1 rfl c1_29 rfl (by first | exact H.cell 0 rfl rfl | exact H.cell 1 rfl rfl | exact H.cell 2 rfl rfl | exact H.cell 3 rfl rfl | exact H.cell 4 rfl rfl | exact H.cell 5 rfl rfl | exact H.cell 6 rfl rfl | exact H.cell 7 rfl rfl | exact H.cell 8 rfl rfl | exact H.cell 9 rfl rfl)) ?_
      refine l_v rfl (q_bytesStr rfl by_29 st_9 rfl ((hp.up 2 rfl).use H 0 rfl) hpl) ?_
      refine l_v rfl (q_fieldAddr rfl fo31_2 rfl) ?_
      refine l_v rfl (q_load1 rfl c1_29 rfl (by first | exact H.cell 0 rfl rfl | exact H.cell 1 rfl rfl | exact H.cell 2 rfl rfl | exact H.cell 3 rfl rfl | exact H.cell 4 rfl rfl | exact H.cell 5 rfl rfl | exact H.cell 6 rfl rfl | exact H.cell 7 rfl rfl | exact H.cell 8 rfl rfl | exact H.cell 9 rfl rfl)) ?_
      refine l_v rfl (q_bytesStr rfl by_29 st_9 rfl ((hq.up 2 rfl).use H 0 rfl) hql) ?_
      refine l_pbool rfl rfl ?_
      refine l_pickT (v := .bool _) rfl rfl rfl ?_
      refine l_pbool rfl rfl ?_
      refine l_nil ?_
      refine w_ret ?_
      refine fin1 (v := .bool _) rfl ?_
      refine ⟨congrArg Value.bool ?_, (H.erase 0).erase 0⟩
      rw [Bool.eq_iff_iff]
      simp only [sameB, decide_eq_true_eq, ByteArray.toList_eq, beq_iff_eq]
      exact ⟨fun h => ⟨h10, h17, h⟩, fun h => h.2.2⟩
    try simp only [decide_eq_true_eq, decide_eq_false_iff_not, Bool.not_eq_true', Bool.not_eq_false', beq_iff_eq, beq_eq_false_iff_ne, bne_iff_ne, bne_eq_false_iff_eq, ne_eq, Int.not_lt, Int.not_le] at h17
    refine l_no rfl ?_
    refine l_no rfl ?_
    refine l_no rfl ?_
    refine l_no rfl ?_
    refine l_no rfl ?_
    refine l_no rfl ?_
    refine l_no rfl ?_
    refine l_pickF (v := .bool _) rfl rfl rfl ?_
    refine l_pbool rfl rfl ?_
    refine l_nil ?_
    refine w_ret ?_
    refine fin1 (v := .bool _) rfl ?_
    refine ⟨congrArg Value.bool ?_, (H.erase 0).erase 0⟩
    rw [Bool.eq_iff_iff]
    simp only [sameB, decide_eq_true_eq]
    exact ⟨fun h => absurd h (by simp), fun h => absurd h.2.1 h17⟩
  try simp only [decide_eq_true_eq, decide_eq_false_iff_not, Bool.not_eq_true', Bool.not_eq_false', beq_iff_eq, beq_eq_false_iff_ne, bne_iff_ne, bne_eq_false_iff_eq, ne_eq, Int.not_lt, Int.not_le] at h10
  refine l_no rfl ?_
  refine l_no rfl ?_
  refine l_no rfl ?_
  refine l_no rfl ?_
  refine l_no rfl ?_
  refine l_pickF (v := .bool _) rfl rfl rfl ?_
  refine l_pbool rfl rfl ?_
  refine l_no rfl ?_
  refine l_no rfl ?_
  refine l_no rfl ?_
  refine l_no rfl ?_
  refine l_no rfl ?_
  refine l_no rfl ?_
  refine l_no rfl ?_
  refine l_pickF (v := .bool _) rfl rfl rfl ?_
  refine l_pbool rfl rfl ?_
  refine l_nil ?_
  refine w_ret ?_
  refine fin1 (v := .bool _) rfl ?_
  refine ⟨congrArg Value.bool ?_, (H.erase 0).erase 0⟩
  rw [Bool.eq_iff_iff]
  simp only [sameB, decide_eq_true_eq]
  exact ⟨fun h => absurd h (by simp), fun h => absurd h.1 h10⟩
theorem tmod_bd (x : Int) {m : Int} (hm : 0 < m) : - m < x.tmod m ∧ x.tmod m < m := by
  have h1 := Int.tmod_lt_of_pos x hm
  have h2 := Int.tmod_lt_of_pos (-x) hm
  rw [Int.neg_tmod] at h2
  omega
def adr (a : Int) : Prop := 0 ≤ a ∧ a < 3 ∨ 7 ≤ a ∧ a < 9
theorem address5_ok {w : World} (x : Int) :
    Ok Try.prog 49 [.int .i64 x].toArray w (fun v w' => ∃ a, v = .int .i64 a ∧ w' = w ∧ (0 ≤ a ∧ a < 3 ∨ 7 ≤ a ∧ a < 9)) := by
  obtain ⟨hx1, hx2⟩ := tmod_bd x (show (0:Int) < 5 by omega)
  refine enter (n := 15) (rs := #[.tmp 2]) Try.func49 rfl rfl rfl rfl ?_
  refine w_seq ?_
  refine w_region ?_
  refine l_pint rfl rfl ?_
  refine l_nil ?_
  refine w_seq ?_
  refine w_region ?_
  refine l_pint rfl rfl ?_
  refine l_v rfl (q_rem rfl rfl rfl (by omega)) ?_
  refine l_pint rfl rfl ?_
  refine l_nil ?_
  refine w_seq ?_
  refine w_seq ?_
  refine w_region ?_
  refine l_pint rfl rfl ?_
  refine l_pbool rfl rfl ?_
  refine l_nil ?_
  refine w_cond rfl (fun c1 => ?_) (fun c1 => ?_)
  · try simp only [decide_eq_true_eq, decide_eq_false_iff_not, Bool.not_eq_true', Bool.not_eq_false', beq_iff_eq, beq_eq_false_iff_ne, bne_iff_ne, bne_eq_false_iff_eq, ne_eq, Int.not_lt, Int.not_le] at c1
    refine w_region ?_
    refine l_pint rfl rfl ?_
    first | refine l_v rfl (q_add rfl rfl rfl (by simp only [inK]; omega)) ?_ | refine l_pint rfl rfl ?_
    refine l_pint rfl rfl ?_
    refine l_nil ?_
    refine w_seq ?_
    refine w_seq ?_
    refine w_region ?_
    refine l_pint rfl rfl ?_
    refine l_pbool rfl rfl ?_
    refine l_nil ?_
    refine w_cond rfl (fun c2 => ?_) (fun c2 => ?_)
    · try simp only [decide_eq_true_eq, decide_eq_false_iff_not, Bool.not_eq_true', Bool.not_eq_false', beq_iff_eq, beq_eq_false_iff_ne, bne_iff_ne, bne_eq_false_iff_eq, ne_eq, Int.not_lt, Int.not_le] at c2
      refine w_seq ?_
      refine w_region ?_
      refine l_pint rfl rfl ?_
      first | refine l_v rfl (q_add rfl rfl rfl (by simp only [inK]; omega)) ?_ | refine l_pint rfl rfl ?_
      first | refine l_v rfl (q_sub rfl rfl rfl (by simp only [inK]; omega)) ?_ | refine l_pint rfl rfl ?_
      refine l_pint rfl rfl ?_
      refine l_nil ?_
      refine w_ret ?_
      refine fin1 (v := .int _ _) rfl ?_
      exact ⟨_, rfl, rfl, by omega⟩
    try simp only [decide_eq_true_eq, decide_eq_false_iff_not, Bool.not_eq_true', Bool.not_eq_false', beq_iff_eq, beq_eq_false_iff_ne, bne_iff_ne, bne_eq_false_iff_eq, ne_eq, Int.not_lt, Int.not_le] at c2
    refine w_skip ?_
    refine w_seq ?_
    refine w_region ?_
    refine l_pint rfl rfl ?_
    refine l_pint rfl rfl ?_
    refine l_nil ?_
    refine w_ret ?_
    refine fin1 (v := .int _ _) rfl ?_
    exact ⟨_, rfl, rfl, by omega⟩
  try simp only [decide_eq_true_eq, decide_eq_false_iff_not, Bool.not_eq_true', Bool.not_eq_false', beq_iff_eq, beq_eq_false_iff_ne, bne_iff_ne, bne_eq_false_iff_eq, ne_eq, Int.not_lt, Int.not_le] at c1
  refine w_skip ?_
  refine w_seq ?_
  refine w_seq ?_
  refine w_region ?_
  refine l_pint rfl rfl ?_
  refine l_pbool rfl rfl ?_
  refine l_nil ?_
  refine w_cond rfl (fun c3 => ?_) (fun c3 => ?_)
  · try simp only [decide_eq_true_eq, decide_eq_false_iff_not, Bool.not_eq_true', Bool.not_eq_false', beq_iff_eq, beq_eq_false_iff_ne, bne_iff_ne, bne_eq_false_iff_eq, ne_eq, Int.not_lt, Int.not_le] at c3
    refine w_seq ?_
    refine w_region ?_
    refine l_pint rfl rfl ?_
    first | refine l_v rfl (q_add rfl rfl rfl (by simp only [inK]; omega)) ?_ | refine l_pint rfl rfl ?_
    first | refine l_v rfl (q_sub rfl rfl rfl (by simp only [inK]; omega)) ?_ | refine l_pint rfl rfl ?_
    refine l_pint rfl rfl ?_
    refine l_nil ?_
    refine w_ret ?_
    refine fin1 (v := .int _ _) rfl ?_
    exact ⟨_, rfl, rfl, by omega⟩
  try simp only [decide_eq_true_eq, decide_eq_false_iff_not, Bool.not_eq_true', Bool.not_eq_false', beq_iff_eq, beq_eq_false_iff_ne, bne_iff_ne, bne_eq_false_iff_eq, ne_eq, Int.not_lt, Int.not_le] at c3
  refine w_skip ?_
  refine w_seq ?_
  refine w_region ?_
  refine l_pint rfl rfl ?_
  refine l_pint rfl rfl ?_
  refine l_nil ?_
  refine w_ret ?_
  refine fin1 (v := .int _ _) rfl ?_
  exact ⟨_, rfl, rfl, by omega⟩
theorem made_ok {W w : World} {F : List Seg} (H : St W w F) :
    Ok Try.prog 28 [].toArray w (fun v w' => ∃ b pm cm, v = .pointer (some ⟨b, 0, none⟩) ∧ St W w' (netL b (newS 3 2 pm cm) F)) := by
  refine enter (n := 10) (rs := #[.tmp 0]) Try.func28 rfl rfl rfl rfl ?_
  refine w_seq ?_
  refine w_region ?_
  refine l_pptr rfl rfl ?_
  refine l_nil ?_
  refine w_seq ?_
  refine w_region ?_
  refine b_call rfl cb_34 rfl (New_ok H 3 2) (fun v w hv => ?_)
  obtain ⟨b, pm, cm, rfl, H⟩ := (hv.resolve_left (fun h => h.1 (by omega))).2
  refine l_ptup rfl rfl ?_
  refine l_pptr rfl rfl ?_
  refine l_pint rfl rfl ?_
  refine l_pptr rfl rfl ?_
  refine l_pint rfl rfl ?_
  refine l_nil ?_
  refine w_seq ?_
  refine w_seq ?_
  refine w_region ?_
  refine l_pint rfl rfl ?_
  refine l_pbool rfl rfl ?_
  refine l_nil ?_
  refine w_cond rfl (fun c1 => ?_) (fun c1 => ?_)
  · try simp only [decide_eq_true_eq, decide_eq_false_iff_not, Bool.not_eq_true', Bool.not_eq_false', beq_iff_eq, beq_eq_false_iff_ne, bne_iff_ne, bne_eq_false_iff_eq, ne_eq, Int.not_lt, Int.not_le] at c1
    refine w_seq ?_
    refine w_region ?_
    refine l_pptr rfl rfl ?_
    refine l_nil ?_
    refine w_ret ?_
    refine fin1 (v := .pointer _) rfl ?_
    exact absurd c1 (by decide)
  try simp only [decide_eq_true_eq, decide_eq_false_iff_not, Bool.not_eq_true', Bool.not_eq_false', beq_iff_eq, beq_eq_false_iff_ne, bne_iff_ne, bne_eq_false_iff_eq, ne_eq, Int.not_lt, Int.not_le] at c1
  refine w_skip ?_
  refine w_seq ?_
  refine w_region ?_
  refine l_pptr rfl rfl ?_
  refine l_pptr rfl rfl ?_
  refine l_nil ?_
  refine w_ret ?_
  refine fin1 (v := .pointer _) rfl ?_
  exact ⟨b, pm, cm, rfl, H⟩
theorem Twin_ok {W w : World} {F : List Seg} (H : St W w F) (fr to : Int) {a : Option Addr} {n cap : Nat} {bs : List UInt8} (hr : RdIn W F a (bs.map B)) (hl : bs.length = n) (hn : n ≤ 140737488355328) :
    Ok Try.prog 48 [.agg #[.int .i64 fr, .int .i64 to, .slice a n cap]].toArray w (fun v w' => ∃ a' cap', v = .agg #[.int .i64 fr, .int .i64 to, .slice a' n cap'] ∧ St W w' (row 5 1 a' n cap' (bs.map B) :: F)) := by
  refine enter (n := 10) (rs := #[.cell 2 31]) Try.func48 rfl rfl rfl rfl ?_
  refine w_seq ?_
  refine w_region ?_
  refine b_box rfl rfl rfl H (fun b1 w H => ?_)
  refine b_alloc rfl ze_31 rfl H (fun b2 w H => ?_)
  refine l_nil ?_
  refine w_seq ?_
  refine w_region ?_
  refine l_pslice rfl rfl ?_
  refine l_nil ?_
  refine w_seq ?_
  refine w_region ?_
  refine l_pslice rfl rfl ?_
  refine l_v rfl (q_fieldAddr rfl fo31_2 rfl) ?_
  refine l_v rfl (q_load1 rfl c1_29 rfl (by first | exact H.cell 0 rfl rfl | exact H.cell 1 rfl rfl | exact H.cell 2 rfl rfl | exact H.cell 3 rfl rfl | exact H.cell 4 rfl rfl | exact H.cell 5 rfl rfl | exact H.cell 6 rfl rfl | exact H.cell 7 rfl rfl | exact H.cell 8 rfl rfl | exact H.cell 9 rfl rfl)) ?_
  refine b_append rfl el_29 ze_5 rfl rfl rfl (St.newRow H) 0 rfl ((hr.up 2 rfl).use H 0 rfl) (by simp [hl]) (oneB _) ⟨by omega, by simp only [maxLen]; omega⟩ (fun a7 c7 w H => ?_)
  refine l_v rfl (q_fieldAddr rfl fo31_2 rfl) ?_
  first | refine b_store (cs' := [_, _, _]) rfl sz_29 rfl rfl rfl rfl rfl H 0 rfl rfl rfl (fun w H => ?_) | refine b_store (cs' := [_, _, _]) rfl sz_29 rfl rfl rfl rfl rfl H 1 rfl rfl rfl (fun w H => ?_) | refine b_store (cs' := [_, _, _]) rfl sz_29 rfl rfl rfl rfl rfl H 2 rfl rfl rfl (fun w H => ?_) | refine b_store (cs' := [_, _, _]) rfl sz_29 rfl rfl rfl rfl rfl H 3 rfl rfl rfl (fun w H => ?_) | refine b_store (cs' := [_, _, _]) rfl sz_29 rfl rfl rfl rfl rfl H 4 rfl rfl rfl (fun w H => ?_) | refine b_store (cs' := [_, _, _]) rfl sz_29 rfl rfl rfl rfl rfl H 5 rfl rfl rfl (fun w H => ?_) | refine b_store (cs' := [_, _, _]) rfl sz_29 rfl rfl rfl rfl rfl H 6 rfl rfl rfl (fun w H => ?_) | refine b_store (cs' := [_, _, _]) rfl sz_29 rfl rfl rfl rfl rfl H 7 rfl rfl rfl (fun w H => ?_) | refine b_store (cs' := [_, _, _]) rfl sz_29 rfl rfl rfl rfl rfl H 8 rfl rfl rfl (fun w H => ?_) | refine b_store (cs' := [_, _, _]) rfl sz_29 rfl rfl rfl rfl rfl H 9 rfl rfl rfl (fun w H => ?_)
  refine l_nil ?_
  refine w_seq ?_
  refine w_region ?_
  refine l_v rfl (q_loadN (vs := [_, _, _]) rfl ag_31 rfl rfl (by first | exact H.cells 0 rfl | exact H.cells 1 rfl | exact H.cells 2 rfl | exact H.cells 3 rfl | exact H.cells 4 rfl | exact H.cells 5 rfl | exact H.cells 6 rfl | exact H.cells 7 rfl | exact H.cells 8 rfl | exact H.cells 9 rfl)) ?_
  first | refine b_store (cs' := [_, _, _]) rfl sz_31 rfl rfl rfl rfl rfl H 0 rfl rfl rfl (fun w H => ?_) | refine b_store (cs' := [_, _, _]) rfl sz_31 rfl rfl rfl rfl rfl H 1 rfl rfl rfl (fun w H => ?_) | refine b_store (cs' := [_, _, _]) rfl sz_31 rfl rfl rfl rfl rfl H 2 rfl rfl rfl (fun w H => ?_) | refine b_store (cs' := [_, _, _]) rfl sz_31 rfl rfl rfl rfl rfl H 3 rfl rfl rfl (fun w H => ?_) | refine b_store (cs' := [_, _, _]) rfl sz_31 rfl rfl rfl rfl rfl H 4 rfl rfl rfl (fun w H => ?_) | refine b_store (cs' := [_, _, _]) rfl sz_31 rfl rfl rfl rfl rfl H 5 rfl rfl rfl (fun w H => ?_) | refine b_store (cs' := [_, _, _]) rfl sz_31 rfl rfl rfl rfl rfl H 6 rfl rfl rfl (fun w H => ?_) | refine b_store (cs' := [_, _, _]) rfl sz_31 rfl rfl rfl rfl rfl H 7 rfl rfl rfl (fun w H => ?_) | refine b_store (cs' := [_, _, _]) rfl sz_31 rfl rfl rfl rfl rfl H 8 rfl rfl rfl (fun w H => ?_) | refine b_store (cs' := [_, _, _]) rfl sz_31 rfl rfl rfl rfl rfl H 9 rfl rfl rfl (fun w H => ?_)
  refine l_nil ?_
  refine w_ret ?_
  refine finc rfl ag_31 rfl (by first | exact H.cells 0 rfl | exact H.cells 1 rfl | exact H.cells 2 rfl | exact H.cells 3 rfl | exact H.cells 4 rfl | exact H.cells 5 rfl | exact H.cells 6 rfl | exact H.cells 7 rfl | exact H.cells 8 rfl | exact H.cells 9 rfl) ?_
  refine ⟨a7, c7, congrArg (fun x => Value.agg #[.int .i64 fr, .int .i64 to, .slice a7 x c7]) (Nat.zero_add n), ?_⟩
  have H : St W w (row 5 1 a7 (0 + n) c7 ([] ++ bs.map B) :: F) := (H.erase 1).erase 1
  simpa using H
theorem fit_ok {W w : World} {F : List Seg} (H : St W w F) (fr to : Int) {a : Option Addr} {n cap : Nat} {bs : List UInt8} (hr : RdIn W F a (bs.map B)) (hl : bs.length = n) (hn : n ≤ 140737488355328) :
    Ok Try.prog 20 [.agg #[.int .i64 fr, .int .i64 to, .slice a n cap]].toArray w (fun v w' => ∃ q, v = pkv q ∧ adr q.fr ∧ adr q.to ∧ q.n ≤ 32768 ∧ q.bs.length = q.n ∧ q.bs = bs.take 32768 ∧ St W w' (q.own :: F)) := by
  refine enter (n := 22) (rs := #[.cell 2 31]) Try.func20 rfl rfl rfl rfl ?_
  refine w_seq ?_
  refine w_region ?_
  refine b_box rfl rfl rfl H (fun b1 w H => ?_)
  refine b_alloc rfl ze_31 rfl H (fun b2 w H => ?_)
  refine l_nil ?_
  refine w_seq ?_
  refine w_region ?_
  refine l_v rfl (q_loadN (vs := [_, _, _]) rfl ag_31 rfl rfl (by first | exact H.cells 0 rfl | exact H.cells 1 rfl | exact H.cells 2 rfl | exact H.cells 3 rfl | exact H.cells 4 rfl | exact H.cells 5 rfl | exact H.cells 6 rfl | exact H.cells 7 rfl | exact H.cells 8 rfl | exact H.cells 9 rfl)) ?_
  refine b_call rfl cb_48 rfl (Twin_ok H fr to (hr.up 2 rfl) hl hn) (fun v w hv => ?_)
  obtain ⟨a5, c5, rfl, H⟩ := hv
  have hcap := (H.rowInv (i := 0) rfl).2.1
  first | refine b_store (cs' := [_, _, _]) rfl sz_31 rfl rfl rfl rfl rfl H 0 rfl rfl rfl (fun w H => ?_) | refine b_store (cs' := [_, _, _]) rfl sz_31 rfl rfl rfl rfl rfl H 1 rfl rfl rfl (fun w H => ?_) | refine b_store (cs' := [_, _, _]) rfl sz_31 rfl rfl rfl rfl rfl H 2 rfl rfl rfl (fun w H => ?_) | refine b_store (cs' := [_, _, _]) rfl sz_31 rfl rfl rfl rfl rfl H 3 rfl rfl rfl (fun w H => ?_) | refine b_store (cs' := [_, _, _]) rfl sz_31 rfl rfl rfl rfl rfl H 4 rfl rfl rfl (fun w H => ?_) | refine b_store (cs' := [_, _, _]) rfl sz_31 rfl rfl rfl rfl rfl H 5 rfl rfl rfl (fun w H => ?_) | refine b_store (cs' := [_, _, _]) rfl sz_31 rfl rfl rfl rfl rfl H 6 rfl rfl rfl (fun w H => ?_) | refine b_store (cs' := [_, _, _]) rfl sz_31 rfl rfl rfl rfl rfl H 7 rfl rfl rfl (fun w H => ?_) | refine b_store (cs' := [_, _, _]) rfl sz_31 rfl rfl rfl rfl rfl H 8 rfl rfl rfl (fun w H => ?_) | refine b_store (cs' := [_, _, _]) rfl sz_31 rfl rfl rfl rfl rfl H 9 rfl rfl rfl (fun w H => ?_)
  refine l_nil ?_
  refine w_seq ?_
  refine w_region ?_
  refine l_v rfl (q_fieldAddr rfl fo31_0 rfl) ?_
  refine l_v rfl (q_load1 rfl c1_3 rfl (by first | exact H.cell 0 rfl rfl | exact H.cell 1 rfl rfl | exact H.cell 2 rfl rfl | exact H.cell 3 rfl rfl | exact H.cell 4 rfl rfl | exact H.cell 5 rfl rfl | exact H.cell 6 rfl rfl | exact H.cell 7 rfl rfl | exact H.cell 8 rfl rfl | exact H.cell 9 rfl rfl)) ?_
  refine b_call rfl cb_49 rfl (address5_ok fr) (fun v w hv => ?_)
  obtain ⟨fr', rfl, rfl, hfr⟩ := hv
  refine l_v rfl (q_fieldAddr rfl fo31_0 rfl) ?_
  first | refine b_store (cs' := [_, _, _]) rfl sz_3 rfl rfl rfl rfl rfl H 0 rfl rfl rfl (fun w H => ?_) | refine b_store (cs' := [_, _, _]) rfl sz_3 rfl rfl rfl rfl rfl H 1 rfl rfl rfl (fun w H => ?_) | refine b_store (cs' := [_, _, _]) rfl sz_3 rfl rfl rfl rfl rfl H 2 rfl rfl rfl (fun w H => ?_) | refine b_store (cs' := [_, _, _]) rfl sz_3 rfl rfl rfl rfl rfl H 3 rfl rfl rfl (fun w H => ?_) | refine b_store (cs' := [_, _, _]) rfl sz_3 rfl rfl rfl rfl rfl H 4 rfl rfl rfl (fun w H => ?_) | refine b_store (cs' := [_, _, _]) rfl sz_3 rfl rfl rfl rfl rfl H 5 rfl rfl rfl (fun w H => ?_) | refine b_store (cs' := [_, _, _]) rfl sz_3 rfl rfl rfl rfl rfl H 6 rfl rfl rfl (fun w H => ?_) | refine b_store (cs' := [_, _, _]) rfl sz_3 rfl rfl rfl rfl rfl H 7 rfl rfl rfl (fun w H => ?_) | refine b_store (cs' := [_, _, _]) rfl sz_3 rfl rfl rfl rfl rfl H 8 rfl rfl rfl (fun w H => ?_) | refine b_store (cs' := [_, _, _]) rfl sz_3 rfl rfl rfl rfl rfl H 9 rfl rfl rfl (fun w H => ?_)
  refine l_nil ?_
  refine w_seq ?_
  refine w_region ?_
  refine l_v rfl (q_fieldAddr rfl fo31_1 rfl) ?_
  refine l_v rfl (q_load1 rfl c1_3 rfl (by first | exact H.cell 0 rfl rfl | exact H.cell 1 rfl rfl | exact H.cell 2 rfl rfl | exact H.cell 3 rfl rfl | exact H.cell 4 rfl rfl | exact H.cell 5 rfl rfl | exact H.cell 6 rfl rfl | exact H.cell 7 rfl rfl | exact H.cell 8 rfl rfl | exact H.cell 9 rfl rfl)) ?_
  refine b_call rfl cb_49 rfl (address5_ok to) (fun v w hv => ?_)
  obtain ⟨to', rfl, rfl, hto⟩ := hv
  refine l_v rfl (q_fieldAddr rfl fo31_1 rfl) ?_
  first | refine b_store (cs' := [_, _, _]) rfl sz_3 rfl rfl rfl rfl rfl H 0 rfl rfl rfl (fun w H => ?_) | refine b_store (cs' := [_, _, _]) rfl sz_3 rfl rfl rfl rfl rfl H 1 rfl rfl rfl (fun w H => ?_) | refine b_store (cs' := [_, _, _]) rfl sz_3 rfl rfl rfl rfl rfl H 2 rfl rfl rfl (fun w H => ?_) | refine b_store (cs' := [_, _, _]) rfl sz_3 rfl rfl rfl rfl rfl H 3 rfl rfl rfl (fun w H => ?_) | refine b_store (cs' := [_, _, _]) rfl sz_3 rfl rfl rfl rfl rfl H 4 rfl rfl rfl (fun w H => ?_) | refine b_store (cs' := [_, _, _]) rfl sz_3 rfl rfl rfl rfl rfl H 5 rfl rfl rfl (fun w H => ?_) | refine b_store (cs' := [_, _, _]) rfl sz_3 rfl rfl rfl rfl rfl H 6 rfl rfl rfl (fun w H => ?_) | refine b_store (cs' := [_, _, _]) rfl sz_3 rfl rfl rfl rfl rfl H 7 rfl rfl rfl (fun w H => ?_) | refine b_store (cs' := [_, _, _]) rfl sz_3 rfl rfl rfl rfl rfl H 8 rfl rfl rfl (fun w H => ?_) | refine b_store (cs' := [_, _, _]) rfl sz_3 rfl rfl rfl rfl rfl H 9 rfl rfl rfl (fun w H => ?_)
  refine l_nil ?_
  refine w_seq ?_
  refine w_seq ?_
  refine w_region ?_
  refine l_v rfl (q_fieldAddr rfl fo31_2 rfl) ?_
  refine l_v rfl (q_load1 rfl c1_29 rfl (by first | exact H.cell 0 rfl rfl | exact H.cell 1 rfl rfl | exact H.cell 2 rfl rfl | exact H.cell 3 rfl rfl | exact H.cell 4 rfl rfl | exact H.cell 5 rfl rfl | exact H.cell 6 rfl rfl | exact H.cell 7 rfl rfl | exact H.cell 8 rfl rfl | exact H.cell 9 rfl rfl)) ?_
  refine l_v rfl (q_lenSlice rfl el_29 rfl) ?_
  refine l_pbool rfl rfl ?_
  refine l_nil ?_
  refine w_cond rfl (fun c1 => ?_) (fun c1 => ?_)
  · try simp only [decide_eq_true_eq, decide_eq_false_iff_not, Bool.not_eq_true', Bool.not_eq_false', beq_iff_eq, beq_eq_false_iff_ne, bne_iff_ne, bne_eq_false_iff_eq, ne_eq, Int.not_lt, Int.not_le] at c1
    refine w_region ?_
    refine l_v rfl (q_fieldAddr rfl fo31_2 rfl) ?_
    refine l_v rfl (q_load1 rfl c1_29 rfl (by first | exact H.cell 0 rfl rfl | exact H.cell 1 rfl rfl | exact H.cell 2 rfl rfl | exact H.cell 3 rfl rfl | exact H.cell 4 rfl rfl | exact H.cell 5 rfl rfl | exact H.cell 6 rfl rfl | exact H.cell 7 rfl rfl | exact H.cell 8 rfl rfl | exact H.cell 9 rfl rfl)) ?_
    refine l_v rfl (q_slice rfl el_29 rfl Bnd.none (by first | exact Bnd.nat (by omega) | exact Bnd.mk ⟨by omega, by omega⟩) Bnd.none (by simp)) ?_
    refine l_v rfl (q_fieldAddr rfl fo31_2 rfl) ?_
    first | refine b_store (cs' := [_, _, _]) rfl sz_29 rfl rfl rfl rfl rfl H 0 rfl rfl rfl (fun w H => ?_) | refine b_store (cs' := [_, _, _]) rfl sz_29 rfl rfl rfl rfl rfl H 1 rfl rfl rfl (fun w H => ?_) | refine b_store (cs' := [_, _, _]) rfl sz_29 rfl rfl rfl rfl rfl H 2 rfl rfl rfl (fun w H => ?_) | refine b_store (cs' := [_, _, _]) rfl sz_29 rfl rfl rfl rfl rfl H 3 rfl rfl rfl (fun w H => ?_) | refine b_store (cs' := [_, _, _]) rfl sz_29 rfl rfl rfl rfl rfl H 4 rfl rfl rfl (fun w H => ?_) | refine b_store (cs' := [_, _, _]) rfl sz_29 rfl rfl rfl rfl rfl H 5 rfl rfl rfl (fun w H => ?_) | refine b_store (cs' := [_, _, _]) rfl sz_29 rfl rfl rfl rfl rfl H 6 rfl rfl rfl (fun w H => ?_) | refine b_store (cs' := [_, _, _]) rfl sz_29 rfl rfl rfl rfl rfl H 7 rfl rfl rfl (fun w H => ?_) | refine b_store (cs' := [_, _, _]) rfl sz_29 rfl rfl rfl rfl rfl H 8 rfl rfl rfl (fun w H => ?_) | refine b_store (cs' := [_, _, _]) rfl sz_29 rfl rfl rfl rfl rfl H 9 rfl rfl rfl (fun w H => ?_)
    refine l_nil ?_
    refine w_seq ?_
    refine w_region ?_
    refine l_v rfl (q_loadN (vs := [_, _, _]) rfl ag_31 rfl rfl (by first | exact H.cells 0 rfl | exact H.cells 1 rfl | exact H.cells 2 rfl | exact H.cells 3 rfl | exact H.cells 4 rfl | exact H.cells 5 rfl | exact H.cells 6 rfl | exact H.cells 7 rfl | exact H.cells 8 rfl | exact H.cells 9 rfl)) ?_
    first | refine b_store (cs' := [_, _, _]) rfl sz_31 rfl rfl rfl rfl rfl H 0 rfl rfl rfl (fun w H => ?_) | refine b_store (cs' := [_, _, _]) rfl sz_31 rfl rfl rfl rfl rfl H 1 rfl rfl rfl (fun w H => ?_) | refine b_store (cs' := [_, _, _]) rfl sz_31 rfl rfl rfl rfl rfl H 2 rfl rfl rfl (fun w H => ?_) | refine b_store (cs' := [_, _, _]) rfl sz_31 rfl rfl rfl rfl rfl H 3 rfl rfl rfl (fun w H => ?_) | refine b_store (cs' := [_, _, _]) rfl sz_31 rfl rfl rfl rfl rfl H 4 rfl rfl rfl (fun w H => ?_) | refine b_store (cs' := [_, _, _]) rfl sz_31 rfl rfl rfl rfl rfl H 5 rfl rfl rfl (fun w H => ?_) | refine b_store (cs' := [_, _, _]) rfl sz_31 rfl rfl rfl rfl rfl H 6 rfl rfl rfl (fun w H => ?_) | refine b_store (cs' := [_, _, _]) rfl sz_31 rfl rfl rfl rfl rfl H 7 rfl rfl rfl (fun w H => ?_) | refine b_store (cs' := [_, _, _]) rfl sz_31 rfl rfl rfl rfl rfl H 8 rfl rfl rfl (fun w H => ?_) | refine b_store (cs' := [_, _, _]) rfl sz_31 rfl rfl rfl rfl rfl H 9 rfl rfl rfl (fun w H => ?_)
    refine l_nil ?_
    refine w_ret ?_
    refine finc rfl ag_31 rfl (by first | exact H.cells 0 rfl | exact H.cells 1 rfl | exact H.cells 2 rfl | exact H.cells 3 rfl | exact H.cells 4 rfl | exact H.cells 5 rfl | exact H.cells 6 rfl | exact H.cells 7 rfl | exact H.cells 8 rfl | exact H.cells 9 rfl) ?_
    refine ⟨⟨fr', to', a5, 32768, c5, bs.take 32768⟩, congrArg (fun x => Value.agg #[.int .i64 fr', .int .i64 to', .slice x 32768 c5]) (subA_z a5 1 c5), hfr, hto, Nat.le_refl _, by simp only [List.length_take]; omega, rfl, ?_⟩
    have H := ((H.erase 1).erase 1).imp (row_shrink (k := 32768) (by omega))
    rw [← List.map_take] at H
    exact H
  try simp only [decide_eq_true_eq, decide_eq_false_iff_not, Bool.not_eq_true', Bool.not_eq_false', beq_iff_eq, beq_eq_false_iff_ne, bne_iff_ne, bne_eq_false_iff_eq, ne_eq, Int.not_lt, Int.not_le] at c1
  refine w_skip ?_
  refine w_seq ?_
  refine w_region ?_
  refine l_v rfl (q_loadN (vs := [_, _, _]) rfl ag_31 rfl rfl (by first | exact H.cells 0 rfl | exact H.cells 1 rfl | exact H.cells 2 rfl | exact H.cells 3 rfl | exact H.cells 4 rfl | exact H.cells 5 rfl | exact H.cells 6 rfl | exact H.cells 7 rfl | exact H.cells 8 rfl | exact H.cells 9 rfl)) ?_
  first | refine b_store (cs' := [_, _, _]) rfl sz_31 rfl rfl rfl rfl rfl H 0 rfl rfl rfl (fun w H => ?_) | refine b_store (cs' := [_, _, _]) rfl sz_31 rfl rfl rfl rfl rfl H 1 rfl rfl rfl (fun w H => ?_) | refine b_store (cs' := [_, _, _]) rfl sz_31 rfl rfl rfl rfl rfl H 2 rfl rfl rfl (fun w H => ?_) | refine b_store (cs' := [_, _, _]) rfl sz_31 rfl rfl rfl rfl rfl H 3 rfl rfl rfl (fun w H => ?_) | refine b_store (cs' := [_, _, _]) rfl sz_31 rfl rfl rfl rfl rfl H 4 rfl rfl rfl (fun w H => ?_) | refine b_store (cs' := [_, _, _]) rfl sz_31 rfl rfl rfl rfl rfl H 5 rfl rfl rfl (fun w H => ?_) | refine b_store (cs' := [_, _, _]) rfl sz_31 rfl rfl rfl rfl rfl H 6 rfl rfl rfl (fun w H => ?_) | refine b_store (cs' := [_, _, _]) rfl sz_31 rfl rfl rfl rfl rfl H 7 rfl rfl rfl (fun w H => ?_) | refine b_store (cs' := [_, _, _]) rfl sz_31 rfl rfl rfl rfl rfl H 8 rfl rfl rfl (fun w H => ?_) | refine b_store (cs' := [_, _, _]) rfl sz_31 rfl rfl rfl rfl rfl H 9 rfl rfl rfl (fun w H => ?_)
  refine l_nil ?_
  refine w_ret ?_
  refine finc rfl ag_31 rfl (by first | exact H.cells 0 rfl | exact H.cells 1 rfl | exact H.cells 2 rfl | exact H.cells 3 rfl | exact H.cells 4 rfl | exact H.cells 5 rfl | exact H.cells 6 rfl | exact H.cells 7 rfl | exact H.cells 8 rfl | exact H.cells 9 rfl) ?_
  refine ⟨⟨fr', to', a5, n, c5, bs⟩, rfl, hfr, hto, by show n ≤ 32768; omega, hl, (List.take_of_length_le (by show bs.length ≤ 32768; omega)).symm, (H.erase 1).erase 1⟩
end Go.Proofs.Ytmgcmgfjaimlnaa
