/- The laws' helpers same, lent and kept do what their contracts say. -/
import Derived.Test.YtcmmhpkgjcepdaaTre20
namespace Go.Proofs.Ytcmmhpkgjcepdaa
open Go.EW
attribute [local irreducible] EW.W EW.L EW.fin block8 outB shaL
set_option linter.unusedVariables false
set_option linter.unusedSimpArgs false
attribute [local irreducible] swp headH leafH nodeH inclN sidesN bothN lenN splitN upN incdR extR

theorem oneP (p : List (List UInt8)) : ∀ v ∈ pathV p, v.oneCell' = true := by
  intro v hv
  obtain ⟨l, _, h⟩ := List.mem_flatMap.1 hv
  exact Go.EW.oneB l v h
def markL : List UInt8 := 7 :: 7 :: 7 :: List.replicate 29 0
theorem markL_len : markL.length = 32 := rfl
theorem PathOk.mark {p : List (List UInt8)} (h : PathOk p) : PathOk (p ++ [markL]) := h.snoc rfl
theorem path_ext {p q : List (List UInt8)} (hl : p.length = q.length) (h : ∀ i (hp : i < p.length) (hq : i < q.length), p[i] = q[i]) : p = q := List.ext_getElem hl h
theorem take_eq_succ {p q : List (List UInt8)} {i : Nat} (hp : i < p.length) (hq : i < q.length) (h : p.take i = q.take i) (he : p[i] = q[i]) : p.take (i + 1) = q.take (i + 1) := by
  rw [List.take_succ_eq_append_getElem hp, List.take_succ_eq_append_getElem hq, h, he]

theorem same_ok {W w : World} {F : List Seg} (H : St W w F) {pa qa : Option Addr} {pc qc : Nat} {p q : List (List UInt8)} (hpo : PathOk p) (hqo : PathOk q) (hpr : RdIn W F pa (pathV p)) (hqr : RdIn W F qa (pathV q)) (hpb : p.length ≤ 140737488355328) :
    Ok Try.prog 32 [.slice pa p.length pc, .slice qa q.length qc].toArray w (fun r w' => r = .bool (decide (p = q)) ∧ St W w' F) := by
  refine enter (n := 26) (rs := #[.tmp 4]) Try.func32 rfl rfl rfl rfl ?_
  refine w_seq ?_
  refine w_region ?_
  refine l_pbool rfl rfl ?_
  refine l_nil ?_
  refine w_seq ?_
  refine w_seq ?_
  refine w_region ?_
  refine l_pslice rfl rfl ?_
  refine l_v rfl (q_lenSlice rfl el_42 rfl) ?_
  refine l_pslice rfl rfl ?_
  refine l_v rfl (q_lenSlice rfl el_42 rfl) ?_
  refine l_pbool rfl rfl ?_
  refine l_nil ?_
  refine w_cond rfl (fun c1 => ?_) (fun c1 => ?_)
  · try simp only [decide_eq_true_eq, decide_eq_false_iff_not, Bool.not_eq_true', Bool.not_eq_false', beq_iff_eq, beq_eq_false_iff_ne, bne_iff_ne, bne_eq_false_iff_eq, ne_eq, Int.not_lt, Int.not_le] at c1
    refine w_seq ?_
    refine w_region ?_
    refine l_pbool rfl rfl ?_
    refine l_nil ?_
    refine w_ret ?_
    refine fin1 (v := .bool _) rfl ?_
    refine ⟨congrArg Value.bool (Eq.symm ?_), H⟩
    simp only [decide_eq_false_iff_not]
    intro e
    subst e
    omega
  · try simp only [decide_eq_true_eq, decide_eq_false_iff_not, Bool.not_eq_true', Bool.not_eq_false', beq_iff_eq, beq_eq_false_iff_ne, bne_iff_ne, bne_eq_false_iff_eq, ne_eq, Int.not_lt, Int.not_le] at c1
    have hlen : p.length = q.length := by omega
    refine w_skip ?_
    refine w_seq ?_
    refine w_seq ?_
    refine w_region ?_
    refine l_pint rfl rfl ?_
    refine l_nil ?_
    refine w_block ?_
    refine w_loopG (G := Nat) [4, 5, 11, 12, 13, 14, 15, 16, 17, 18, 19, 20, 21, 22, 23, 24, 25] (fun i => [(5, .int .i64 ((i : Nat) : Int))]) (fun m i w => (m + i = p.length ∧ p.take i = q.take i) ∧ St W w F) (fun _ => rfl) ?_ ?_
    · exact ⟨p.length, 0, ⟨rfl, trivial⟩, ⟨by omega, rfl⟩, H⟩
    · rintro m i ρ1 w ⟨⟨hmi, htk⟩, H⟩
      refine w_seq ?_
      refine w_seq ?_
      refine w_region ?_
      refine l_pint rfl rfl ?_
      refine l_pslice rfl rfl ?_
      refine l_v rfl (q_lenSlice rfl el_42 rfl) ?_
      refine l_pbool rfl rfl ?_
      refine l_nil ?_
      refine w_cond rfl (fun c2 => ?_) (fun c2 => ?_)
      · try simp only [decide_eq_true_eq, decide_eq_false_iff_not, Bool.not_eq_true', Bool.not_eq_false', beq_iff_eq, beq_eq_false_iff_ne, bne_iff_ne, bne_eq_false_iff_eq, ne_eq, Int.not_lt, Int.not_le] at c2
        have hip : i < p.length := by omega
        have hiq : i < q.length := by omega
        obtain ⟨bp, op, hap, _⟩ := path_cells hpo (hpr.use H 0 rfl) hip
        obtain ⟨bq, oq, haq, _⟩ := path_cells hqo (hqr.use H 0 rfl) hiq
        refine w_skip ?_
        refine w_seq ?_
        refine w_block ?_
        refine w_seq ?_
        refine w_drawT [] [3, 7] [(0, 0), (1, 0), (2, 0), (3, 1), (4, 0), (5, 0), (6, 0), (7, 1), (8, 0)] mixed (by kernel_rfl) (fun _ _ _ h => fin_panic h) H (fun H => ?_)
        refine r_pslice rfl rfl rfl ?_
        refine r_pint rfl rfl rfl ?_
        refine r_w rfl rfl (fun w => q_indexSliceE i rfl el_42 rfl hap rfl rfl (by omega)) ?_
        refine r_v rfl rfl (fun w hS => q_loadN (vs := (p[i]).map B) rfl ag_24 rfl (by simp [hpo _ (List.getElem_mem hip)]) (path_at2 hap hpo (hpr.use hS 0 rfl) hip)) ?_
        refine r_pslice rfl rfl rfl ?_
        refine r_pint rfl rfl rfl ?_
        refine r_w rfl rfl (fun w => q_indexSliceE i rfl el_42 rfl haq rfl rfl (by omega)) ?_
        refine r_v rfl rfl (fun w hS => q_loadN (vs := (q[i]).map B) rfl ag_24 rfl (by simp [hqo _ (List.getElem_mem hiq)]) (path_at2 haq hqo (hqr.use hS 0 rfl) hiq)) ?_
        refine r_w rfl rfl (fun w => q_neqHash rfl rfl rfl (hpo _ (List.getElem_mem hip)) (hqo _ (List.getElem_mem hiq))) ?_
        refine r_nil ?_
        refine w_cond rfl (fun c3 => ?_) (fun c3 => ?_)
        · try simp only [decide_eq_true_eq, decide_eq_false_iff_not, Bool.not_eq_true', Bool.not_eq_false', beq_iff_eq, beq_eq_false_iff_ne, bne_iff_ne, bne_eq_false_iff_eq, ne_eq, Int.not_lt, Int.not_le] at c3
          refine w_seq ?_
          refine w_region ?_
          refine l_pbool rfl rfl ?_
          refine l_nil ?_
          refine w_ret ?_
          refine fin1 (v := .bool _) rfl ?_
          refine ⟨congrArg Value.bool (Eq.symm ?_), H⟩
          simp only [decide_eq_false_iff_not]
          intro e
          subst e
          simp at c3
        · try simp only [decide_eq_true_eq, decide_eq_false_iff_not, Bool.not_eq_true', Bool.not_eq_false', beq_iff_eq, beq_eq_false_iff_ne, bne_iff_ne, bne_eq_false_iff_eq, ne_eq, Int.not_lt, Int.not_le] at c3
          refine w_skip ?_
          refine w_region ?_
          refine l_pint rfl rfl ?_
          first | refine l_v rfl (q_add rfl rfl rfl (by simp only [inK]; omega)) ?_ | refine l_pint rfl rfl ?_
          refine l_pint rfl rfl ?_
          refine l_nil ?_
          refine ⟨by repeat' first | exact Agr.mix _ _ _ | exact Agr.refl _ _ | refine Agr.inner rfl ?_ | refine Agr.upd rfl ?_ | refine Agr.updL' rfl ?_, ?_⟩
          exact ⟨m - 1, i + 1, by omega, ⟨by exact congrArg (Value.int IntKind.i64) (Int.natCast_succ i).symm, trivial⟩, ⟨by omega, take_eq_succ hip hiq htk (by simpa using c3)⟩, H⟩
      · try simp only [decide_eq_true_eq, decide_eq_false_iff_not, Bool.not_eq_true', Bool.not_eq_false', beq_iff_eq, beq_eq_false_iff_ne, bne_iff_ne, bne_eq_false_iff_eq, ne_eq, Int.not_lt, Int.not_le] at c2
        refine w_exit ?_
        refine w_seq ?_
        refine w_region ?_
        refine l_pbool rfl rfl ?_
        refine l_nil ?_
        refine w_ret ?_
        refine fin1 (v := .bool _) rfl ?_
        refine ⟨congrArg Value.bool (Eq.symm ?_), H⟩
        simp only [decide_eq_true_eq]
        rwa [List.take_of_length_le (by omega), List.take_of_length_le (by omega)] at htk

theorem lent_ok {W w : World} {F : List Seg} (H : St W w F) {pa : Option Addr} {pc : Nat} {p : List (List UInt8)} (hpo : PathOk p) (hpr : RdIn W F pa (pathV p)) (hpb : p.length ≤ 4398046511000) :
    Ok Try.prog 23 [.slice pa p.length pc].toArray w (fun r w' => ∃ a c, r = .slice a p.length c ∧ p.length + 1 ≤ c ∧ St W w' (row 24 32 a (p.length + 1) c (pathV (p ++ [markL])) :: F)) := by
  refine enter (n := 15) (rs := #[.tmp 2]) Try.func23 rfl rfl rfl rfl ?_
  refine w_seq ?_
  refine w_region ?_
  refine l_pslice rfl rfl ?_
  refine l_nil ?_
  refine w_seq ?_
  refine w_region ?_
  refine l_pslice rfl rfl ?_
  refine l_nil ?_
  refine w_seq ?_
  refine w_region ?_
  refine l_pslice rfl rfl ?_
  refine l_pslice rfl rfl ?_
  have H := St.newRow (T := 24) (sz := 32) H
  refine b_append rfl el_42 ze_24 rfl rfl rfl H 0 rfl (ys := pathV p) (hpr.use H 1 rfl) (by rw [pathV_len _ hpo]; omega) (oneP _) ⟨by omega, by simp only [maxLen]; omega⟩ (fun a6 c6 w H => ?_)
  refine l_pslice rfl rfl ?_
  refine l_nil ?_
  refine w_seq ?_
  refine w_region ?_
  refine l_pslice rfl rfl ?_
  refine l_v rfl (q_buildArr (cs := markL.map B) rfl ar_24 ze_24 rfl) ?_
  refine b_buildSlice (cs := markL.map B) rfl el_42 ze_24 rfl rfl (fill_hash markL_len) H (fun b9 w H => ?_)
  refine b_append rfl el_42 ze_24 rfl rfl rfl H 1 rfl (ys := markL.map B) (Rd.mk (H.cells0 0 rfl)) (by simp [markL_len]) (Go.EW.oneB _) ⟨by omega, by simp only [maxLen]; omega⟩ (fun a10 c10 w H => ?_)
  have hrc := (H.rowInv (i := 1) rfl).2.1
  refine l_pslice rfl rfl ?_
  refine l_nil ?_
  refine w_seq ?_
  refine w_region ?_
  refine l_pslice rfl rfl ?_
  refine l_pslice rfl rfl ?_
  refine l_v rfl (q_lenSlice rfl el_42 rfl) ?_
  refine l_v rfl (q_slice (h := p.length) rfl el_42 rfl Bnd.none (Bnd.nat (by omega)) Bnd.none (by simp)) ?_
  refine l_pslice rfl rfl ?_
  refine l_nil ?_
  refine w_ret ?_
  refine fin1 (v := .slice _ _ _) rfl ?_
  refine ⟨a10, c10, ?_, by omega, ?_⟩
  · rw [subA_z]; rfl
  · rw [pathV_append, pathV_one, show p.length + 1 = 0 + p.length + 1 by omega]
    exact H.erase 0

theorem kept_ok {W w : World} {F : List Seg} (H : St W w F) {pa a : Option Addr} {pc c : Nat} {p : List (List UInt8)} (hpo : PathOk p) (hpr : RdIn W F pa (pathV p)) (hpb : p.length ≤ 4398046511000) (hor2 : RdIn W F a (pathV (p ++ [markL]))) (hc : p.length + 1 ≤ c) :
    Ok Try.prog 26 [.slice a p.length c, .slice pa p.length pc].toArray w (fun r w' => r = .bool true ∧ St W w' F) := by
  have hlp : p.length < (p ++ [markL]).length := by simp
  have hor : RdIn W F a (pathV p) := by
    have := hor2.subA (sz := 32) (l := 0) (m := c) (j := p.length * 32) (fun _ => .inr rfl)
    rw [subA_z] at this
    have e : (((pathV (p ++ [markL])).drop (0 * 32)).take (p.length * 32)) = pathV p := by
      rw [Nat.zero_mul, List.drop_zero, ← pathV_take hpo.mark]
      simp
    rwa [e] at this
  obtain ⟨bp, op, hap, _⟩ := path_cells hpo.mark (hor2.use H 0 rfl) hlp
  refine enter (n := 21) (rs := #[.tmp 4]) Try.func26 rfl rfl rfl rfl ?_
  refine w_seq ?_
  refine w_region ?_
  refine l_pbool rfl rfl ?_
  refine l_nil ?_
  refine w_seq ?_
  refine w_region ?_
  refine l_pslice rfl rfl ?_
  refine l_pslice rfl rfl ?_
  refine b_call rfl cb_32 rfl (same_ok H hpo hpo hor hpr (by omega)) (fun v w hv => ?_)
  obtain ⟨rfl, H⟩ := hv
  refine l_pbool rfl rfl ?_
  refine l_split 8 rfl (fun h8 => ?_) (fun h8 => absurd h8 (by simp))
  try simp only [decide_eq_true_eq, decide_eq_false_iff_not, Bool.not_eq_true', Bool.not_eq_false', beq_iff_eq, beq_eq_false_iff_ne, bne_iff_ne, bne_eq_false_iff_eq, ne_eq, Int.not_lt, Int.not_le] at h8
  refine l_pslice rfl rfl ?_
  refine l_pslice rfl rfl ?_
  refine l_v rfl (q_lenSlice rfl el_42 rfl) ?_
  first | refine l_v rfl (q_add rfl rfl rfl (by simp only [inK]; omega)) ?_ | refine l_pint rfl rfl ?_
  refine l_v rfl (q_slice (h := p.length + 1) rfl el_42 rfl Bnd.none (Bnd.nat (by omega)) Bnd.none (by simp)) ?_
  refine l_pslice rfl rfl ?_
  refine l_v rfl (q_lenSlice rfl el_42 rfl) ?_
  refine l_v rfl (q_indexSliceE p.length rfl el_42 rfl (by rw [subA_z]; exact hap) rfl rfl (by omega)) ?_
  refine l_v rfl (q_loadN (vs := markL.map B) rfl ag_24 rfl (by simp [markL_len]) (by have := path_at2 hap hpo.mark (hor2.use H 0 rfl) hlp; simpa using this)) ?_
  refine l_v rfl (q_buildArr (cs := markL.map B) rfl ar_24 ze_24 rfl) ?_
  refine l_v rfl (q_eqlHash rfl rfl rfl markL_len markL_len) ?_
  refine l_pickT (v := .bool _) rfl rfl rfl ?_
  refine l_pbool rfl rfl ?_
  refine l_nil ?_
  refine w_ret ?_
  refine fin1 (v := .bool _) rfl ?_
  exact ⟨congrArg Value.bool (by simp), H⟩

end Go.Proofs.Ytcmmhpkgjcepdaa
