/- The law TreePaths answers true, of every log, place and size. -/
import Derived.Test.YtcmmhpkgjcepdaaTre25
namespace Go.Proofs.Ytcmmhpkgjcepdaa
open Go.EW
attribute [local irreducible] EW.W EW.L EW.fin block8 outB shaL
set_option linter.unusedVariables false
set_option linter.unusedSimpArgs false
attribute [local irreducible] swp headH leafH nodeH inclN sidesN bothN lenN splitN upN incdR extR consN incR conR pathV
set_option maxRecDepth 8000 in
set_option maxHeartbeats 1000000 in
theorem TreePaths_ok {W w : World} {F : List Seg} (H : St W w F) {pa : Option Addr} {n pc : Nat} {es : List Ent} (hr : RdIn W F pa (entsV es)) (hl : es.length = n) (hc : n ≤ pc) (hn : n * 48 ≤ 140737488351232) (hok : EntsOk es) (x y : Int) :
    Ok Try.prog 8 [.slice pa n pc, .int .i64 x, .int .i64 y].toArray w (fun r w' => r = .bool true ∧ ∃ S, St W w' S) := by
  refine enter (n := 67) (rs := #[.tmp 6]) Try.func8 rfl rfl rfl rfl ?_
  refine w_seq ?_
  refine w_region ?_
  refine l_pbool rfl rfl ?_
  refine l_nil ?_
  refine w_seq ?_
  refine w_region ?_
  refine b_alloc rfl ze_35 rfl H (fun b7 w H => ?_)
  refine l_nil ?_
  refine w_seq ?_
  refine w_region ?_
  refine l_pslice rfl rfl ?_
  refine b_call rfl cb_15 rfl (Entries_ok H hr hl (by omega)) (fun v w hv => ?_)
  obtain ⟨o1, o2, a1, a2, c1, c2, p1, p2, rfl, H⟩ := hv
  have hp1 := (H.rowInv (i := 3) rfl).2.1
  refine l_pslice rfl rfl ?_
  refine l_nil ?_
  refine w_seq ?_
  refine w_region ?_
  refine l_pslice rfl rfl ?_
  refine l_pint rfl rfl ?_
  refine b_call rfl cb_31 rfl (Inclusion_ok H (rdin_mark (RdIn.row 3 rfl)) hl (by omega) hok (by omega) x) (fun v w hv => ?_)
  obtain ⟨q1, d1, rfl, H⟩ := hv
  refine l_ptup rfl rfl ?_
  refine l_pslice rfl rfl ?_
  refine l_pint rfl rfl ?_
  refine l_pslice rfl rfl ?_
  refine l_pint rfl rfl ?_
  refine l_nil ?_
  refine w_seq ?_
  refine w_region ?_
  refine l_pslice rfl rfl ?_
  refine l_pint rfl rfl ?_
  refine b_call rfl cb_36 rfl (rInclusion_ok n H (hr.up 6 rfl) hl hc hok rfl (by omega) x) (fun v w hv => ?_)
  obtain ⟨q2, d2, rfl, H⟩ := hv
  refine l_ptup rfl rfl ?_
  refine l_pslice rfl rfl ?_
  refine l_pint rfl rfl ?_
  refine l_pslice rfl rfl ?_
  refine l_pint rfl rfl ?_
  refine l_nil ?_
  refine w_seq ?_
  refine w_region ?_
  refine l_pslice rfl rfl ?_
  refine l_pint rfl rfl ?_
  refine b_call rfl cb_37 rfl (Consistency_ok H (rdin_mark (RdIn.row 5 rfl)) hl (by omega) hok (by omega) y) (fun v w hv => ?_)
  obtain ⟨q3, d3, rfl, H⟩ := hv
  refine l_ptup rfl rfl ?_
  refine l_pslice rfl rfl ?_
  refine l_pint rfl rfl ?_
  refine l_pslice rfl rfl ?_
  refine l_pint rfl rfl ?_
  refine l_nil ?_
  refine w_seq ?_
  refine w_region ?_
  refine l_pslice rfl rfl ?_
  refine l_pint rfl rfl ?_
  refine b_call rfl cb_38 rfl (rConsistency_ok H (hr.up 8 rfl) hl hc hok (by omega) y) (fun v w hv => ?_)
  obtain ⟨q4, d4, rfl, H⟩ := hv
  have hi1 := incR_ok es x
  have hi2 := conR_ok es y
  refine l_ptup rfl rfl ?_
  refine l_pslice rfl rfl ?_
  refine l_pint rfl rfl ?_
  refine l_pslice rfl rfl ?_
  refine l_pint rfl rfl ?_
  refine l_nil ?_
  refine w_seq ?_
  refine w_region ?_
  refine l_pint rfl rfl ?_
  refine l_pint rfl rfl ?_
  refine l_pbool rfl rfl ?_
  refine l_pbool rfl rfl ?_
  refine l_split 46 rfl (fun h46 => ?_) (fun h46 => absurd h46 (by simp))
  try simp only [decide_eq_true_eq, decide_eq_false_iff_not, Bool.not_eq_true', Bool.not_eq_false', beq_iff_eq, beq_eq_false_iff_ne, bne_iff_ne, bne_eq_false_iff_eq, ne_eq, Int.not_lt, Int.not_le] at h46
  refine l_pslice rfl rfl ?_
  refine l_pslice rfl rfl ?_
  refine b_call rfl cb_32 rfl (same_ok H hi1.1 hi1.1 (RdIn.row 3 rfl) (RdIn.row 2 rfl) (by omega)) (fun v w hv => ?_)
  obtain ⟨rfl, H⟩ := hv
  refine l_pickT (v := .bool _) rfl rfl rfl ?_
  refine l_pbool rfl rfl ?_
  refine l_split 51 rfl (fun h51 => ?_) (fun h51 => absurd h51 (by simp))
  try simp only [decide_eq_true_eq, decide_eq_false_iff_not, Bool.not_eq_true', Bool.not_eq_false', beq_iff_eq, beq_eq_false_iff_ne, bne_iff_ne, bne_eq_false_iff_eq, ne_eq, Int.not_lt, Int.not_le] at h51
  refine l_pint rfl rfl ?_
  refine l_pint rfl rfl ?_
  refine l_pbool rfl rfl ?_
  refine l_pickT (v := .bool _) rfl rfl rfl ?_
  refine l_pbool rfl rfl ?_
  refine l_split 56 rfl (fun h56 => ?_) (fun h56 => absurd h56 (by simp))
  try simp only [decide_eq_true_eq, decide_eq_false_iff_not, Bool.not_eq_true', Bool.not_eq_false', beq_iff_eq, beq_eq_false_iff_ne, bne_iff_ne, bne_eq_false_iff_eq, ne_eq, Int.not_lt, Int.not_le] at h56
  refine l_pslice rfl rfl ?_
  refine l_pslice rfl rfl ?_
  refine b_call rfl cb_32 rfl (same_ok H hi2.1 hi2.1 (RdIn.row 1 rfl) (RdIn.row 0 rfl) (by omega)) (fun v w hv => ?_)
  obtain ⟨rfl, H⟩ := hv
  refine l_pickT (v := .bool _) rfl rfl rfl ?_
  refine l_pbool rfl rfl ?_
  refine l_split 61 rfl (fun h61 => ?_) (fun h61 => absurd h61 (by simp))
  try simp only [decide_eq_true_eq, decide_eq_false_iff_not, Bool.not_eq_true', Bool.not_eq_false', beq_iff_eq, beq_eq_false_iff_ne, bne_iff_ne, bne_eq_false_iff_eq, ne_eq, Int.not_lt, Int.not_le] at h61
  refine b_call rfl cb_21 rfl (Ok_perm (pickP [4, 5, 6, 7, 8, 0, 1, 2, 3] (pre := [_, _, _, _, _, _, _, _, _]) rfl rfl) (fun H => Intact_ok H (by omega)) H) (fun v w hv => ?_)
  obtain ⟨rfl, H⟩ := hv
  refine l_pickT (v := .bool _) rfl rfl rfl ?_
  refine l_pbool rfl rfl ?_
  refine l_split 64 rfl (fun h64 => ?_) (fun h64 => absurd h64 (by simp))
  try simp only [decide_eq_true_eq, decide_eq_false_iff_not, Bool.not_eq_true', Bool.not_eq_false', beq_iff_eq, beq_eq_false_iff_ne, bne_iff_ne, bne_eq_false_iff_eq, ne_eq, Int.not_lt, Int.not_le] at h64
  refine b_call rfl cb_22 rfl (works_ok H) (fun v w hv => ?_)
  obtain ⟨rfl, H⟩ := hv
  refine l_pickT (v := .bool _) rfl rfl rfl ?_
  refine l_pbool rfl rfl ?_
  refine l_nil ?_
  refine w_ret ?_
  refine fin1 (v := .bool _) rfl ?_
  exact ⟨congrArg Value.bool (by simp), _, H⟩

end Go.Proofs.Ytcmmhpkgjcepdaa
