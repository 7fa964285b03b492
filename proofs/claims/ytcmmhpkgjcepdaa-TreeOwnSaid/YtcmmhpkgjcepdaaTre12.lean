/- The law TreeSame answers true, of every two logs. -/
import Derived.Test.YtcmmhpkgjcepdaaTre11
namespace Go.Proofs.Ytcmmhpkgjcepdaa
open Go.EW
attribute [local irreducible] EW.W EW.L EW.fin block8 outB shaL
set_option linter.unusedVariables false
set_option linter.unusedSimpArgs false
attribute [local irreducible] swp headH leafH nodeH inclN sidesN bothN lenN incR incdR extR unlikeN
theorem unlike_pos {a b : List Ent} (h : unlikeN a b = true) : 0 < a.length := by
  match a with
  | [] => unfold unlikeN at h; simp at h
  | _ :: _ => simp

theorem TreeSame_ok {W w : World} {F : List Seg} (H : St W w F) {aa ab : Option Addr} {m1 m2 cp1 cc2 : Nat} {e1 e2 : List Ent} (hr1 : RdIn W F aa (entsV e1)) (hr2 : RdIn W F ab (entsV e2)) (hl1 : e1.length = m1) (hl2 : e2.length = m2) (hc1 : m1 ≤ cp1) (hc2 : m2 ≤ cc2) (hb1 : m1 ≤ 140737488355328) (hb2 : m2 ≤ 140737488355328) (ho1 : EntsOk e1) (ho2 : EntsOk e2) :
    Ok Try.prog 7 [.slice aa m1 cp1, .slice ab m2 cc2].toArray w (fun r w' => r = .bool true ∧ ∃ S, St W w' S) := by
  refine enter (n := 44) (rs := #[.tmp 4]) Try.func7 rfl rfl rfl rfl ?_
  refine w_seq ?_
  refine w_region ?_
  refine l_pbool rfl rfl ?_
  refine l_nil ?_
  refine w_seq ?_
  refine w_region ?_
  refine l_pslice rfl rfl ?_
  refine b_call rfl cb_29 rfl (few_ok hr1 hl1 hc1 hb1) (fun v w hv => ?_)
  obtain ⟨n1, a1, rfl, hq1, hm1, hd1, h2001, _, rfl⟩ := hv
  refine l_pslice rfl rfl ?_
  refine l_nil ?_
  refine w_seq ?_
  refine w_region ?_
  refine l_pslice rfl rfl ?_
  refine b_call rfl cb_29 rfl (few_ok hr2 hl2 hc2 hb2) (fun v w hv => ?_)
  obtain ⟨n2, a2, rfl, hq2, hm2, hd2, h2002, _, rfl⟩ := hv
  have hx1 := rdin_take5 hq1 (min n1 n2) cp1
  have hx2 := rdin_take5 hq2 (min n1 n2) cc2
  have hlx : ((e1.take 200).take (min n1 n2)).length = (min n1 n2) := by rw [List.length_take]; omega
  have hly : ((e2.take 200).take (min n1 n2)).length = (min n1 n2) := by rw [List.length_take]; omega
  refine l_pslice rfl rfl ?_
  refine l_nil ?_
  refine w_seq ?_
  refine w_region ?_
  refine l_pslice rfl rfl ?_
  refine l_v rfl (q_lenSlice rfl el_22 rfl) ?_
  refine l_pslice rfl rfl ?_
  refine l_v rfl (q_lenSlice rfl el_22 rfl) ?_
  refine l_v rfl (q_min (((min n1 n2) : Nat) : Int) rfl rfl rfl (by split <;> omega)) ?_
  refine l_pint rfl rfl ?_
  refine l_nil ?_
  refine w_seq ?_
  refine w_region ?_
  refine l_pslice rfl rfl ?_
  refine l_pint rfl rfl ?_
  refine l_v rfl (q_slice (h := (min n1 n2)) rfl el_22 rfl Bnd.none (Bnd.nat (j := (min n1 n2)) (by omega)) Bnd.none (by simp)) ?_
  refine l_pslice rfl rfl ?_
  refine l_nil ?_
  refine w_seq ?_
  refine w_region ?_
  refine l_pslice rfl rfl ?_
  refine l_pint rfl rfl ?_
  refine l_v rfl (q_slice (h := (min n1 n2)) rfl el_22 rfl Bnd.none (Bnd.nat (j := (min n1 n2)) (by omega)) Bnd.none (by simp)) ?_
  refine l_pslice rfl rfl ?_
  refine l_nil ?_
  refine w_seq ?_
  refine w_seq ?_
  refine w_region ?_
  refine l_pslice rfl rfl ?_
  refine b_call rfl cb_14 rfl (Head_ok (min n1 n2) (n := (min n1 n2)) (es := ((e1.take 200).take (min n1 n2))) H hx1 hlx (by omega) ((ho1.take _).take _) rfl (by omega)) (fun v w hv => ?_)
  obtain ⟨rfl, H⟩ := hv
  refine l_pslice rfl rfl ?_
  refine b_call rfl cb_14 rfl (Head_ok (min n1 n2) (n := (min n1 n2)) (es := ((e2.take 200).take (min n1 n2))) H hx2 hly (by omega) ((ho2.take _).take _) rfl (by omega)) (fun v w hv => ?_)
  obtain ⟨rfl, H⟩ := hv
  refine l_v rfl (q_neqHash rfl rfl rfl (headH_len _) (headH_len _)) ?_
  refine l_nil ?_
  refine w_cond rfl (fun c1 => ?_) (fun c1 => ?_)
  · try simp only [decide_eq_true_eq, decide_eq_false_iff_not, Bool.not_eq_true', Bool.not_eq_false', beq_iff_eq, beq_eq_false_iff_ne, bne_iff_ne, bne_eq_false_iff_eq, ne_eq, Int.not_lt, Int.not_le] at c1
    have hun : unlikeN ((e1.take 200).take (min n1 n2)) ((e2.take 200).take (min n1 n2)) = true := by
      cases h : unlikeN ((e1.take 200).take (min n1 n2)) ((e2.take 200).take (min n1 n2)) with
      | true => rfl
      | false =>
        have := unlike_eq (by rw [hlx, hly]) h
        exact absurd (congrArg headH this) (by simpa using c1)
    refine w_seq ?_
    refine w_region ?_
    refine l_pslice rfl rfl ?_
    refine l_pslice rfl rfl ?_
    refine b_call rfl cb_34 rfl (unlike_ok H hx1 hx2 hlx (by rw [hly]; exact Nat.le_refl _) hly (by omega)) (fun v w hv => ?_)
    obtain ⟨rfl, H⟩ := hv
    refine l_pbool rfl rfl ?_
    refine l_split 29 rfl (fun h29 => ?_) (fun h29 => absurd h29 (by rw [hun]; simp))
    try simp only [decide_eq_true_eq, decide_eq_false_iff_not, Bool.not_eq_true', Bool.not_eq_false', beq_iff_eq, beq_eq_false_iff_ne, bne_iff_ne, bne_eq_false_iff_eq, ne_eq, Int.not_lt, Int.not_le] at h29
    refine b_call rfl cb_22 rfl (works_ok H) (fun v w hv => ?_)
    obtain ⟨rfl, H⟩ := hv
    refine l_pickT (v := .bool _) rfl rfl rfl ?_
    refine l_pbool rfl rfl ?_
    refine l_nil ?_
    refine w_ret ?_
    refine fin1 (v := .bool _) rfl ?_
    exact ⟨rfl, _, H⟩
  · try simp only [decide_eq_true_eq, decide_eq_false_iff_not, Bool.not_eq_true', Bool.not_eq_false', beq_iff_eq, beq_eq_false_iff_ne, bne_iff_ne, bne_eq_false_iff_eq, ne_eq, Int.not_lt, Int.not_le] at c1
    have heq : headH ((e1.take 200).take (min n1 n2)) = headH ((e2.take 200).take (min n1 n2)) := by simpa using c1
    refine w_skip ?_
    refine w_seq ?_
    refine w_region ?_
    refine b_call rfl cb_22 rfl (works_ok H) (fun v w hv => ?_)
    obtain ⟨rfl, H⟩ := hv
    refine l_pbool rfl rfl ?_
    refine l_split 33 rfl (fun h33 => ?_) (fun h33 => absurd h33 (by simp))
    try simp only [decide_eq_true_eq, decide_eq_false_iff_not, Bool.not_eq_true', Bool.not_eq_false', beq_iff_eq, beq_eq_false_iff_ne, bne_iff_ne, bne_eq_false_iff_eq, ne_eq, Int.not_lt, Int.not_le] at h33
    refine l_pslice rfl rfl ?_
    refine l_pslice rfl rfl ?_
    refine b_call rfl cb_34 rfl (unlike_ok H hx1 hx2 hlx (by rw [hly]; exact Nat.le_refl _) hly (by omega)) (fun v w hv => ?_)
    obtain ⟨rfl, H⟩ := hv
    refine l_pbool rfl rfl ?_
    refine l_pbool rfl rfl ?_
    refine l_split 38 rfl (fun h38 => ?_) (fun h38 => ?_)
    · try simp only [decide_eq_true_eq, decide_eq_false_iff_not, Bool.not_eq_true', Bool.not_eq_false', beq_iff_eq, beq_eq_false_iff_ne, bne_iff_ne, bne_eq_false_iff_eq, ne_eq, Int.not_lt, Int.not_le] at h38
      refine l_no rfl ?_
      refine l_no rfl ?_
      refine l_no rfl ?_
      refine l_pickT (v := .bool _) rfl rfl rfl ?_
      refine l_pickT (v := .bool _) rfl rfl rfl ?_
      refine l_pbool rfl rfl ?_
      refine l_nil ?_
      refine w_ret ?_
      refine fin1 (v := .bool _) rfl ?_
      exact ⟨rfl, _, H⟩
    · try simp only [decide_eq_true_eq, decide_eq_false_iff_not, Bool.not_eq_true', Bool.not_eq_false', beq_iff_eq, beq_eq_false_iff_ne, bne_iff_ne, bne_eq_false_iff_eq, ne_eq, Int.not_lt, Int.not_le] at h38
      refine l_pslice rfl rfl ?_
      refine l_pslice rfl rfl ?_
      refine b_call rfl cb_35 rfl (clash_ok (min n1 n2) H hx1 hx2 hlx hly (by omega) (by omega) ((ho1.take _).take _) ((ho2.take _).take _) rfl (by have := unlike_pos (show unlikeN ((e1.take 200).take (min n1 n2)) ((e2.take 200).take (min n1 n2)) = true by simpa using h38); omega) (by omega) heq (by simpa using h38)) (fun v w hv => ?_)
      obtain ⟨rfl, H⟩ := hv
      refine l_pickF (v := .bool _) rfl rfl rfl ?_
      refine l_pickT (v := .bool _) rfl rfl rfl ?_
      refine l_pbool rfl rfl ?_
      refine l_nil ?_
      refine w_ret ?_
      refine fin1 (v := .bool _) rfl ?_
      exact ⟨rfl, _, H⟩

end Go.Proofs.Ytcmmhpkgjcepdaa
