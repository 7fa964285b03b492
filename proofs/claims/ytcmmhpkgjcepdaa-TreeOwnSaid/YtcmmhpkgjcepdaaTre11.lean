/- The laws' helper clash answers true of unlike logs with one head. -/
import Derived.Test.YtcmmhpkgjcepdaaTre10
namespace Go.Proofs.Ytcmmhpkgjcepdaa
open Go.EW
attribute [local irreducible] EW.W EW.L EW.fin block8 outB shaL
set_option linter.unusedVariables false
set_option linter.unusedSimpArgs false
attribute [local irreducible] swp headH leafH nodeH inclN sidesN bothN lenN incR incdR extR

theorem fill_pair {a b : List UInt8} (ha : a.length = 32) (hb : b.length = 32) : fillL (fun i => [(0, 32), (32, 32)][i]?) (List.replicate 64 (Value.int .u8 0)) [(0, Value.agg (a.map B).toArray), (1, Value.agg (b.map B).toArray)] = some ((a ++ b).map B) := by
  have h1 : (Value.agg (a.map B).toArray).cells = (a.map B).toArray := rfl
  have h2 : (Value.agg (b.map B).toArray).cells = (b.map B).toArray := rfl
  have e1 : putL (List.replicate 64 (Value.int .u8 0)) 0 (a.map B) = a.map B ++ List.replicate 32 (Value.int .u8 0) := by
    rw [putL_eq _ _ _ (by simp [ha])]
    simp [ha]
  have e2 : putL (a.map B ++ List.replicate 32 (Value.int .u8 0)) 32 (b.map B) = (a ++ b).map B := by
    rw [putL_eq _ _ _ (by simp [ha, hb]), List.take_left' (by simp [ha]), List.drop_eq_nil_of_le (by simp [ha, hb])]
    simp
  simp only [fillL, h1, h2, List.size_toArray, List.length_map, ha, hb, List.getElem?_cons_zero, List.getElem?_cons_succ, List.length_replicate, Nat.zero_add]
  rw [e1]
  simp only [List.length_append, List.length_map, ha, List.length_replicate]
  rw [e2]
  rfl
theorem pair_fst {w : World} {b : Nat} {p : Pair} (hp : PairOk p) (h : Cells w b 0 p.cells) : Cells w b 0 (p.1.map B) := by
  have := h.sub 0 32
  unfold Pair.cells at this
  rw [List.drop_zero, List.map_append, List.take_left' (by rw [List.length_map, hp.1])] at this
  exact this
theorem pair_snd {w : World} {b : Nat} {p : Pair} (hp : PairOk p) (h : Cells w b 0 p.cells) : Cells w b (0 + 32) (p.2.map B) := by
  have := h.sub 32 32
  unfold Pair.cells at this
  rw [List.map_append, List.drop_left' (by rw [List.length_map, hp.1]), List.take_of_length_le (by rw [List.length_map, hp.2]; omega)] at this
  exact this
theorem pair_len {p : Pair} (hp : PairOk p) : p.cells.length = 64 := by unfold Pair.cells; rw [List.length_map, List.length_append, hp.1, hp.2]

theorem halves_ok2 {W w : World} {F : List Seg} (H : St W w F) {a : Option Addr} {n c : Nat} {es : List Ent} (hr : RdIn W F a (entsV es)) (hl : es.length = n) (hnc : n ≤ c) (hok : EntsOk es) (h2 : 2 ≤ n) (hnb : n ≤ 140737488355328) :
    Ok Try.prog 75 [.slice a n c].toArray w (fun r w' => r = .agg (halvesP es).cells.toArray ∧ St W w' F) := by
  have hsp := splitN_spec (n := n) h2
  obtain ⟨P, hP⟩ : ∃ P : Pair, P = (headH (es.take (splitN n)), headH (es.drop (splitN n))) := ⟨_, rfl⟩
  have hPo : PairOk P := by rw [hP]; exact ⟨headH_len _, headH_len _⟩
  have hPe : halvesP es = P := by rw [hP]; unfold halvesP; rw [hl]
  refine enter (n := 16) (rs := #[.cell 2 116]) Try.func75 rfl rfl rfl rfl ?_
  refine w_seq ?_
  refine w_region ?_
  refine b_alloc rfl ze_116 rfl H (fun b2 w H => ?_)
  refine l_nil ?_
  refine w_seq ?_
  refine w_region ?_
  refine l_pslice rfl rfl ?_
  refine l_v rfl (q_lenSlice rfl el_22 rfl) ?_
  refine b_call rfl cb_73 rfl (split2_ok (n := n) ⟨by omega, by omega⟩) (fun v w hv => ?_)
  obtain ⟨rfl, rfl⟩ := hv
  refine l_pint rfl rfl ?_
  refine l_nil ?_
  refine w_seq ?_
  refine w_drawT [3, 7, 9] [] [(0, 0), (1, 0), (2, 0), (4, 0), (5, 0), (6, 0), (3, 2), (7, 2), (8, 0), (9, 2)] mixed (by kernel_rfl) (fun _ _ _ h => fin_panic h) H (fun H => ?_)
  refine r_pslice rfl rfl rfl ?_
  refine r_pint rfl rfl rfl ?_
  refine r_w rfl rfl (fun w => q_slice (h := splitN n) rfl el_22 rfl Bnd.none (Bnd.nat (by omega)) Bnd.none (by simp)) ?_
  refine r_pslice rfl rfl rfl ?_
  refine r_pint rfl rfl rfl ?_
  refine r_w rfl rfl (fun w => q_slice (l := splitN n) rfl el_22 rfl Bnd.none Bnd.none (Bnd.nat (by omega)) (by simp)) ?_
  refine r_do rfl ?_
  refine b_call rfl cb_14 rfl (Head_ok (splitN n) (n := splitN n) (es := es.take (splitN n)) H (rdin_take5 (hr.up 1 rfl) (splitN n) c) (by rw [List.length_take]; omega) (by omega) (hok.take _) rfl (by omega)) (fun v w hv => ?_)
  obtain ⟨rfl, H⟩ := hv
  refine l_nil ⟨(fun h => nomatch h), ?_⟩
  refine r_do rfl ?_
  refine b_call rfl cb_14 rfl (Head_ok (n - splitN n) (n := n - splitN n) (es := es.drop (splitN n)) H (rdin_drop5 (hr.up 1 rfl) (by omega)) (by rw [List.length_drop]; omega) (by omega) (hok.drop _) rfl (by omega)) (fun v w hv => ?_)
  obtain ⟨rfl, H⟩ := hv
  refine l_nil ⟨(fun h => nomatch h), ?_⟩
  refine r_w rfl rfl (fun w => q_build (cs := P.cells) rfl sp_116 (by rw [hP]; exact fill_pair (headH_len _) (headH_len _))) ?_
  refine r_do rfl ?_
  refine b_store (vs := P.cells) rfl sz_116 rfl rfl rfl (by rw [pair_len hPo]; rfl) (all1 _) H 0 rfl (by rw [pair_len hPo]; rfl) (putL_all (by rw [pair_len hPo]; rfl)) (fun w H => ?_)
  refine l_nil ⟨(fun h => nomatch h), ?_⟩
  refine r_nil ?_
  refine w_ret ?_
  refine finc (vs := P.cells) rfl ag_116 (by rw [pair_len hPo]; rfl) (H.cells 0 rfl) ?_
  exact ⟨by rw [hPe], H.erase 0⟩

theorem one_ok {W w : World} {F : List Seg} (H : St W w F) {p q : Pair} (hp : PairOk p) (hq : PairOk q) :
    Ok Try.prog 74 [.agg p.cells.toArray, .agg q.cells.toArray].toArray w (fun r w' => r = .bool (oneB p q) ∧ St W w' F) := by
  refine enter (n := 21) (rs := #[.tmp 4]) Try.func74 rfl rfl rfl rfl ?_
  refine w_seq ?_
  refine w_region ?_
  refine b_box rfl rfl rfl H (fun b2 w H => ?_)
  refine b_box rfl rfl rfl H (fun b3 w H => ?_)
  refine l_pbool rfl rfl ?_
  refine l_nil ?_
  refine w_seq ?_
  refine w_drawT [] [0, 1, 5, 7, 10, 12] [(0, 1), (1, 1), (2, 0), (3, 0), (4, 0), (5, 1), (6, 0), (7, 1), (9, 0), (10, 1), (11, 0), (12, 1), (8, 2), (13, 2), (14, 0), (15, 0), (16, 0)] mixed (by kernel_rfl) (fun _ _ _ h => fin_panic h) H (fun H => ?_)
  refine r_v rfl rfl (fun w hS => q_loadN (vs := p.cells) rfl ag_116 rfl (pair_len hp) (hS.cells 1 rfl)) ?_
  refine r_v rfl rfl (fun w hS => q_loadN (vs := q.cells) rfl ag_116 rfl (pair_len hq) (hS.cells 0 rfl)) ?_
  refine r_w rfl rfl (fun w => q_neqPair hp hq rfl rfl rfl) ?_
  refine r_pbool rfl rfl rfl ?_
  refine r_split 8 rfl (fun h8 => ?_) (fun h8 => ?_)
  · try simp only [decide_eq_true_eq, decide_eq_false_iff_not, Bool.not_eq_true', Bool.not_eq_false', beq_iff_eq, beq_eq_false_iff_ne, bne_iff_ne, bne_eq_false_iff_eq, ne_eq, Int.not_lt, Int.not_le] at h8
    refine r_w rfl rfl (fun w => q_fieldAddr rfl fo116_0 rfl) ?_
    refine r_v rfl rfl (fun w hS => q_loadN (vs := p.1.map B) rfl ag_24 rfl (by simp [hp.1]) (pair_fst hp (hS.cells 1 rfl))) ?_
    refine r_w rfl rfl (fun w => q_fieldAddr rfl fo116_1 rfl) ?_
    refine r_v rfl rfl (fun w hS => q_loadN (vs := p.2.map B) rfl ag_24 rfl (by simp [hp.2]) (pair_snd hp (hS.cells 1 rfl))) ?_
    refine r_w rfl rfl (fun w => q_fieldAddr rfl fo116_0 rfl) ?_
    refine r_v rfl rfl (fun w hS => q_loadN (vs := q.1.map B) rfl ag_24 rfl (by simp [hq.1]) (pair_fst hq (hS.cells 0 rfl))) ?_
    refine r_w rfl rfl (fun w => q_fieldAddr rfl fo116_1 rfl) ?_
    refine r_v rfl rfl (fun w hS => q_loadN (vs := q.2.map B) rfl ag_24 rfl (by simp [hq.2]) (pair_snd hq (hS.cells 0 rfl))) ?_
    refine r_do rfl ?_
    refine b_call rfl cb_17 rfl (Node_ok H hp.1 hp.2) (fun v w hv => ?_)
    obtain ⟨rfl, H⟩ := hv
    refine l_nil ⟨fun _ _ => (by first | exact H | exact H.drop1 | exact H.drop1.drop1 | exact H.drop1.drop1.drop1), ?_⟩
    refine r_do rfl ?_
    refine b_call rfl cb_17 rfl (Node_ok H hq.1 hq.2) (fun v w hv => ?_)
    obtain ⟨rfl, H⟩ := hv
    refine l_nil ⟨fun _ _ => (by first | exact H | exact H.drop1 | exact H.drop1.drop1 | exact H.drop1.drop1.drop1), ?_⟩
    refine r_w rfl rfl (fun w => q_eqlHash rfl rfl rfl (nodeH_len _ _) (nodeH_len _ _)) ?_
    refine r_pickT (v := .bool _) rfl rfl rfl rfl ?_
    refine r_pbool rfl rfl rfl ?_
    refine r_nil ?_
    refine w_ret ?_
    refine fin1 (v := .bool _) rfl ?_
    refine ⟨congrArg Value.bool ?_, (H.erase 0).erase 0⟩
    unfold oneB
    rw [show decide (p = q) = false from decide_eq_false (by first | exact h8 | simpa using h8)]; rfl
  · try simp only [decide_eq_true_eq, decide_eq_false_iff_not, Bool.not_eq_true', Bool.not_eq_false', beq_iff_eq, beq_eq_false_iff_ne, bne_iff_ne, bne_eq_false_iff_eq, ne_eq, Int.not_lt, Int.not_le] at h8
    refine r_no rfl rfl ?_
    refine r_no1 rfl rfl ?_
    refine r_no rfl rfl ?_
    refine r_no1 rfl rfl ?_
    refine r_no rfl rfl ?_
    refine r_no1 rfl rfl ?_
    refine r_no rfl rfl ?_
    refine r_no1 rfl rfl ?_
    refine r_do rfl (l_no rfl (l_nil ⟨fun _ _ => (by first | exact H | exact H.drop1 | exact H.drop1.drop1), ?_⟩))
    refine r_do rfl (l_no rfl (l_nil ⟨fun _ _ => (by first | exact H | exact H.drop1 | exact H.drop1.drop1), ?_⟩))
    refine r_no rfl rfl ?_
    refine r_pickF (v := .bool _) rfl rfl rfl rfl ?_
    refine r_pbool rfl rfl rfl ?_
    refine r_nil ?_
    refine w_ret ?_
    refine fin1 (v := .bool _) rfl ?_
    refine ⟨congrArg Value.bool ?_, (H.erase 0).erase 0⟩
    unfold oneB
    rw [show decide (p = q) = true from decide_eq_true (by first | exact h8 | simpa using h8)]; rfl

set_option maxRecDepth 8000 in
set_option maxHeartbeats 1000000 in
theorem clash_ok (k : Nat) : ∀ {W w : World} {F : List Seg} {a a2 : Option Addr} {n c cc2 : Nat} {x y : List Ent}, St W w F → RdIn W F a (entsV x) → RdIn W F a2 (entsV y) → x.length = n → y.length = n → n ≤ c → n ≤ cc2 → EntsOk x → EntsOk y → n = k → 1 ≤ n → n ≤ 140737488355328 → headH x = headH y → unlikeN x y = true →
    Ok Try.prog 35 [.slice a n c, .slice a2 n cc2].toArray w (fun r w' => r = .bool true ∧ St W w' F) := by
  induction k using Nat.strongRecOn with
  | _ k ih =>
    intro W w F a a2 n c cc2 x y H hrx hry hlx hly hnc hnc2 hox hoy hnk hn1 hnb hhd hun
    subst hnk
    refine enter (n := 56) (rs := #[.tmp 4]) Try.func35 rfl rfl rfl rfl ?_
    refine w_seq ?_
    refine w_region ?_
    refine l_pbool rfl rfl ?_
    refine l_nil ?_
    refine w_seq ?_
    refine w_seq ?_
    refine w_region ?_
    refine l_pslice rfl rfl ?_
    refine l_v rfl (q_lenSlice rfl el_22 rfl) ?_
    refine l_pbool rfl rfl ?_
    refine l_nil ?_
    refine w_cond rfl (fun c1 => ?_) (fun c1 => ?_)
    · try simp only [decide_eq_true_eq, decide_eq_false_iff_not, Bool.not_eq_true', Bool.not_eq_false', beq_iff_eq, beq_eq_false_iff_ne, bne_iff_ne, bne_eq_false_iff_eq, ne_eq, Int.not_lt, Int.not_le] at c1
      have hx0 : 0 < x.length := by omega
      have hy0 : 0 < y.length := by omega
      obtain ⟨bx, ox, hax, _⟩ := ent_cells (hrx.use H 0 rfl) hx0
      obtain ⟨bY, oY, hay, _⟩ := ent_cells (hry.use H 0 rfl) hy0
      rw [headH_single hx0 (by omega), headH_single hy0 (by omega)] at hhd
      have hne : entEq x[0] y[0] = false := by
        cases hb : entEq x[0] y[0] with
        | false => rfl
        | true =>
          exfalso
          have h3 : unlikeN x y = !entEq x[0] y[0] := by
            match x, y, hlx, hly with
            | [p], [q], _, _ => simp [unlikeN]
            | [], _, h, _ => simp at h; omega
            | _ :: _ :: _, _, h, _ => simp at h; omega
            | [_], [], _, h => simp at h; omega
            | [_], _ :: _ :: _, h, h4 => simp at h h4; omega
          rw [h3, hb] at hun
          cases hun
      refine w_seq ?_
      refine w_drawT [] [2, 5, 10, 14] [(0, 0), (1, 0), (2, 1), (3, 0), (4, 0), (5, 1), (6, 0), (7, 0), (8, 0), (9, 0), (10, 1), (12, 0), (13, 0), (14, 1), (11, 2), (15, 2), (16, 0), (17, 0), (18, 0)] mixed (by kernel_rfl) (fun _ _ _ h => fin_panic h) H (fun H => ?_)
      refine r_pslice rfl rfl rfl ?_
      refine r_w rfl rfl (fun w => q_indexSliceE 0 rfl el_22 rfl hax rfl rfl (by omega)) ?_
      refine r_v rfl rfl (fun w hS => q_loadN (vs := x[0].cells) rfl ag_28 rfl rfl (ent_at2 hax (hrx.use hS 0 rfl) hx0)) ?_
      refine r_pslice rfl rfl rfl ?_
      refine r_w rfl rfl (fun w => q_indexSliceE 0 rfl el_22 rfl hay rfl rfl (by omega)) ?_
      refine r_v rfl rfl (fun w hS => q_loadN (vs := y[0].cells) rfl ag_28 rfl rfl (ent_at2 hay (hry.use hS 0 rfl) hy0)) ?_
      refine r_w rfl rfl (fun w => q_neqEnt rfl rfl rfl) ?_
      refine r_pbool rfl rfl rfl ?_
      refine r_split 16 rfl (fun h16 => ?_) (fun h16 => absurd h16 (by rw [hne]; decide))
      try simp only [decide_eq_true_eq, decide_eq_false_iff_not, Bool.not_eq_true', Bool.not_eq_false', beq_iff_eq, beq_eq_false_iff_ne, bne_iff_ne, bne_eq_false_iff_eq, ne_eq, Int.not_lt, Int.not_le] at h16
      refine r_pslice rfl rfl rfl ?_
      refine r_w rfl rfl (fun w => q_indexSliceE 0 rfl el_22 rfl hax rfl rfl (by omega)) ?_
      refine r_v rfl rfl (fun w hS => q_loadN (vs := x[0].cells) rfl ag_28 rfl rfl (ent_at2 hax (hrx.use hS 0 rfl) hx0)) ?_
      refine r_pslice rfl rfl rfl ?_
      refine r_w rfl rfl (fun w => q_indexSliceE 0 rfl el_22 rfl hay rfl rfl (by omega)) ?_
      refine r_v rfl rfl (fun w hS => q_loadN (vs := y[0].cells) rfl ag_28 rfl rfl (ent_at2 hay (hry.use hS 0 rfl) hy0)) ?_
      refine r_do rfl ?_
      refine b_call rfl cb_19 rfl (Leaf_ok H x[0] (hox _ (List.getElem_mem hx0))) (fun v w hv => ?_)
      obtain ⟨rfl, H⟩ := hv
      refine l_nil ⟨fun _ _ => (by first | exact H | exact H.drop1 | exact H.drop1.drop1 | exact H.drop1.drop1.drop1), ?_⟩
      refine r_do rfl ?_
      refine b_call rfl cb_19 rfl (Leaf_ok H y[0] (hoy _ (List.getElem_mem hy0))) (fun v w hv => ?_)
      obtain ⟨rfl, H⟩ := hv
      refine l_nil ⟨fun _ _ => (by first | exact H | exact H.drop1 | exact H.drop1.drop1 | exact H.drop1.drop1.drop1), ?_⟩
      refine r_w rfl rfl (fun w => q_eqlHash rfl rfl rfl (leafH_len _) (leafH_len _)) ?_
      refine r_pickT (v := .bool _) rfl rfl rfl rfl ?_
      refine r_pbool rfl rfl rfl ?_
      refine r_nil ?_
      refine w_ret ?_
      refine fin1 (v := .bool _) rfl ?_
      exact ⟨congrArg Value.bool (decide_eq_true hhd), H⟩
    · try simp only [decide_eq_true_eq, decide_eq_false_iff_not, Bool.not_eq_true', Bool.not_eq_false', beq_iff_eq, beq_eq_false_iff_ne, bne_iff_ne, bne_eq_false_iff_eq, ne_eq, Int.not_lt, Int.not_le] at c1
      have h2 : 2 ≤ n := by omega
      have hsp := splitN_spec h2
      have hhx := headH_two (es := x) (by omega)
      have hhy := headH_two (es := y) (by omega)
      refine w_skip ?_
      refine w_seq ?_
      refine w_seq ?_
      refine w_region ?_
      refine l_pslice rfl rfl ?_
      refine b_call rfl cb_75 rfl (halves_ok2 H hrx hlx hnc hox (by omega) hnb) (fun v w hv => ?_)
      obtain ⟨rfl, H⟩ := hv
      refine l_pslice rfl rfl ?_
      refine b_call rfl cb_75 rfl (halves_ok2 H hry hly hnc2 hoy (by omega) hnb) (fun v w hv => ?_)
      obtain ⟨rfl, H⟩ := hv
      refine b_call rfl cb_74 rfl (one_ok H (halvesP_ok x) (halvesP_ok y)) (fun v w hv => ?_)
      obtain ⟨rfl, H⟩ := hv
      refine l_nil ?_
      refine w_cond rfl (fun c2 => ?_) (fun c2 => ?_)
      · try simp only [decide_eq_true_eq, decide_eq_false_iff_not, Bool.not_eq_true', Bool.not_eq_false', beq_iff_eq, beq_eq_false_iff_ne, bne_iff_ne, bne_eq_false_iff_eq, ne_eq, Int.not_lt, Int.not_le] at c2
        refine w_seq ?_
        refine w_region ?_
        refine l_pbool rfl rfl ?_
        refine l_nil ?_
        refine w_ret ?_
        refine fin1 (v := .bool _) rfl ?_
        exact ⟨rfl, H⟩
      · try simp only [decide_eq_true_eq, decide_eq_false_iff_not, Bool.not_eq_true', Bool.not_eq_false', beq_iff_eq, beq_eq_false_iff_ne, bne_iff_ne, bne_eq_false_iff_eq, ne_eq, Int.not_lt, Int.not_le] at c2
        have hpe : halvesP x = halvesP y := by
          have c2' : oneB (halvesP x) (halvesP y) = false := c2
          unfold oneB at c2'
          rw [show decide (nodeH (halvesP x).1 (halvesP x).2 = nodeH (halvesP y).1 (halvesP y).2) = true from decide_eq_true (by show nodeH _ _ = nodeH _ _; unfold halvesP; rw [← hhx, ← hhy]; exact hhd), Bool.and_true] at c2'
          simpa using c2'
        have hhd1 : headH (x.take (splitN n)) = headH (y.take (splitN n)) := by
          have := congrArg Prod.fst hpe
          unfold halvesP at this
          rw [hlx, hly] at this; exact this
        have hhd2 : headH (x.drop (splitN n)) = headH (y.drop (splitN n)) := by
          have := congrArg Prod.snd hpe
          unfold halvesP at this
          rw [hlx, hly] at this; exact this
        have hlx2 : (x.take (splitN n)).length = splitN n := by rw [List.length_take]; omega
        have hly2 : (y.take (splitN n)).length = splitN n := by rw [List.length_take]; omega
        refine w_skip ?_
        refine w_seq ?_
        refine w_region ?_
        refine l_pslice rfl rfl ?_
        refine l_v rfl (q_lenSlice rfl el_22 rfl) ?_
        refine b_call rfl cb_73 rfl (split2_ok (n := n) ⟨by omega, by omega⟩) (fun v w hv => ?_)
        obtain ⟨rfl, rfl⟩ := hv
        refine l_pint rfl rfl ?_
        refine l_nil ?_
        refine w_seq ?_
        refine w_seq ?_
        refine w_drawT [] [] [(0, 0), (1, 0), (2, 0), (3, 0), (4, 0), (5, 0), (6, 2)] mixed (by kernel_rfl) (fun _ _ _ h => fin_panic h) H (fun H => ?_)
        refine r_pslice rfl rfl rfl ?_
        refine r_pint rfl rfl rfl ?_
        refine r_w rfl rfl (fun w => q_slice (h := splitN n) rfl el_22 rfl Bnd.none (Bnd.nat (by omega)) Bnd.none (by simp)) ?_
        refine r_pslice rfl rfl rfl ?_
        refine r_pint rfl rfl rfl ?_
        refine r_w rfl rfl (fun w => q_slice (h := splitN n) rfl el_22 rfl Bnd.none (Bnd.nat (by omega)) Bnd.none (by simp)) ?_
        refine r_do rfl ?_
        refine b_call rfl cb_34 rfl (unlike_ok H (rdin_take5 hrx (splitN n) c) (rdin_take5 hry (splitN n) cc2) hlx2 (by rw [hly2]; exact Nat.le_refl _) hly2 (by omega)) (fun v w hv => ?_)
        obtain ⟨rfl, H⟩ := hv
        refine l_nil ⟨fun _ _ => (by first | exact H | exact H.drop1 | exact H.drop1.drop1 | exact H.drop1.drop1.drop1), ?_⟩
        refine r_nil ?_
        refine w_cond rfl (fun c3 => ?_) (fun c3 => ?_)
        · try simp only [decide_eq_true_eq, decide_eq_false_iff_not, Bool.not_eq_true', Bool.not_eq_false', beq_iff_eq, beq_eq_false_iff_ne, bne_iff_ne, bne_eq_false_iff_eq, ne_eq, Int.not_lt, Int.not_le] at c3
          refine w_seq ?_
          refine w_drawT [] [] [(0, 0), (1, 0), (2, 0), (3, 0), (4, 0), (5, 0), (6, 2), (7, 0)] mixed (by kernel_rfl) (fun _ _ _ h => fin_panic h) H (fun H => ?_)
          refine r_pslice rfl rfl rfl ?_
          refine r_pint rfl rfl rfl ?_
          refine r_w rfl rfl (fun w => q_slice (h := splitN n) rfl el_22 rfl Bnd.none (Bnd.nat (by omega)) Bnd.none (by simp)) ?_
          refine r_pslice rfl rfl rfl ?_
          refine r_pint rfl rfl rfl ?_
          refine r_w rfl rfl (fun w => q_slice (h := splitN n) rfl el_22 rfl Bnd.none (Bnd.nat (by omega)) Bnd.none (by simp)) ?_
          refine r_do rfl ?_
          refine b_call rfl cb_35 rfl (ih (splitN n) (by omega) (n := splitN n) (x := x.take (splitN n)) (y := y.take (splitN n)) H (rdin_take5 hrx (splitN n) c) (rdin_take5 hry (splitN n) cc2) hlx2 hly2 (by omega) (by omega) (hox.take _) (hoy.take _) rfl (by omega) (by omega) hhd1 c3) (fun v w hv => ?_)
          obtain ⟨rfl, H⟩ := hv
          refine l_nil ⟨fun _ _ => (by first | exact H | exact H.drop1 | exact H.drop1.drop1 | exact H.drop1.drop1.drop1), ?_⟩
          refine r_pbool rfl rfl rfl ?_
          refine r_nil ?_
          refine w_ret ?_
          refine fin1 (v := .bool _) rfl ?_
          exact ⟨rfl, H⟩
        · try simp only [decide_eq_true_eq, decide_eq_false_iff_not, Bool.not_eq_true', Bool.not_eq_false', beq_iff_eq, beq_eq_false_iff_ne, bne_iff_ne, bne_eq_false_iff_eq, ne_eq, Int.not_lt, Int.not_le] at c3
          have hun2 : unlikeN (x.drop (splitN n)) (y.drop (splitN n)) = true := by
            rw [unlike_take_drop (splitN n), show unlikeN (x.take (splitN n)) (y.take (splitN n)) = false from c3, Bool.false_or] at hun
            exact hun
          refine w_skip ?_
          refine w_seq ?_
          refine w_drawT [] [] [(0, 0), (1, 0), (2, 0), (3, 0), (4, 0), (5, 0), (6, 2), (7, 0)] mixed (by kernel_rfl) (fun _ _ _ h => fin_panic h) H (fun H => ?_)
          refine r_pslice rfl rfl rfl ?_
          refine r_pint rfl rfl rfl ?_
          refine r_w rfl rfl (fun w => q_slice (l := splitN n) rfl el_22 rfl Bnd.none Bnd.none (Bnd.nat (by omega)) (by simp)) ?_
          refine r_pslice rfl rfl rfl ?_
          refine r_pint rfl rfl rfl ?_
          refine r_w rfl rfl (fun w => q_slice (l := splitN n) rfl el_22 rfl Bnd.none Bnd.none (Bnd.nat (by omega)) (by simp)) ?_
          refine r_do rfl ?_
          refine b_call rfl cb_35 rfl (ih (n - splitN n) (by omega) (n := n - splitN n) (x := x.drop (splitN n)) (y := y.drop (splitN n)) H (rdin_drop5 hrx (by omega)) (rdin_drop5 hry (by omega)) (by rw [List.length_drop]; omega) (by rw [List.length_drop]; omega) (by omega) (by omega) (hox.drop _) (hoy.drop _) rfl (by omega) (by omega) hhd2 hun2) (fun v w hv => ?_)
          obtain ⟨rfl, H⟩ := hv
          refine l_nil ⟨fun _ _ => (by first | exact H | exact H.drop1 | exact H.drop1.drop1 | exact H.drop1.drop1.drop1), ?_⟩
          refine r_pbool rfl rfl rfl ?_
          refine r_nil ?_
          refine w_ret ?_
          refine fin1 (v := .bool _) rfl ?_
          exact ⟨rfl, H⟩


end Go.Proofs.Ytcmmhpkgjcepdaa
