/- The laws TreeIncludes and TreeExtends answer true, of every head, size, place, entry and path. -/
import Derived.Test.YtcmmhpkgjcepdaaTre21
namespace Go.Proofs.Ytcmmhpkgjcepdaa
open Go.EW
attribute [local irreducible] EW.W EW.L EW.fin block8 outB shaL
set_option linter.unusedVariables false
set_option linter.unusedSimpArgs false
attribute [local irreducible] swp headH leafH nodeH inclN sidesN bothN lenN splitN upN incdR extR pathV

theorem rdin_pre {W : World} {F : List Seg} {a : Option Addr} {p : List (List UInt8)} {x : List UInt8} (c : Nat) (hpo : PathOk (p ++ [x])) (h : RdIn W F a (pathV (p ++ [x]))) : RdIn W F a (pathV p) := by
  have := h.subA (sz := 32) (l := 0) (m := c) (j := p.length * 32) (fun _ => .inr rfl)
  rw [subA_z] at this
  have e : (((pathV (p ++ [x])).drop (0 * 32)).take (p.length * 32)) = pathV p := by
    rw [Nat.zero_mul, List.drop_zero, ← pathV_take hpo]
    simp
  rwa [e] at this

set_option maxRecDepth 8000 in
set_option maxHeartbeats 1000000 in
theorem TreeIncludes_ok {W w : World} {F : List Seg} (H : St W w F) {hd : List UInt8} (hhd : hd.length = 32) (sz pl : Int) (hszb : sz ≤ 9223372036854775807) (e : Ent) (hva : e.va.size ≤ 140737488351232) {pa : Option Addr} {pc : Nat} {p : List (List UInt8)} (hpo : PathOk p) (hpr : RdIn W F pa (pathV p)) (hpc : p.length ≤ pc) (hpb : p.length ≤ 4398046511000) :
    Ok Try.prog 4 [.agg (hd.map B).toArray, .int .i64 sz, .int .i64 pl, .agg e.cells.toArray, .slice pa p.length pc].toArray w (fun r w' => r = .bool true ∧ ∃ S, St W w' S) := by
  refine enter (n := 35) (rs := #[.tmp 10]) Try.func4 rfl rfl rfl rfl ?_
  refine w_seq ?_
  refine w_region ?_
  refine b_box rfl rfl rfl H (fun b5 w H => ?_)
  refine b_box rfl rfl rfl H (fun b8 w H => ?_)
  refine l_pbool rfl rfl ?_
  refine l_nil ?_
  refine w_seq ?_
  refine w_region ?_
  refine l_pslice rfl rfl ?_
  refine b_call rfl cb_23 rfl (lent_ok H hpo (hpr.up 2 rfl) hpb) (fun v w hv => ?_)
  obtain ⟨a13, c13, rfl, hc13, H⟩ := hv
  refine l_pslice rfl rfl ?_
  refine l_nil ?_
  refine w_seq ?_
  refine w_drawT [] [0, 3, 6, 9] [(0, 1), (1, 0), (2, 0), (3, 1), (4, 0), (6, 1), (7, 0), (8, 0), (9, 1), (10, 0), (5, 2), (11, 2), (12, 0), (13, 0), (14, 0), (15, 0), (16, 2), (17, 0), (18, 0), (19, 2), (20, 0), (21, 0)] mixed (by kernel_rfl) (fun _ _ _ h => fin_panic h) H (fun H => ?_)
  refine r_v rfl rfl (fun w hS => q_loadN (vs := hd.map B) rfl ag_24 rfl (by simp [hhd]) (hS.cells 2 rfl)) ?_
  refine r_pint rfl rfl rfl ?_
  refine r_pint rfl rfl rfl ?_
  refine r_v rfl rfl (fun w hS => q_loadN (vs := e.cells) rfl ag_28 rfl rfl (hS.cells 1 rfl)) ?_
  refine r_pslice rfl rfl rfl ?_
  refine r_v rfl rfl (fun w hS => q_loadN (vs := hd.map B) rfl ag_24 rfl (by simp [hhd]) (hS.cells 2 rfl)) ?_
  refine r_pint rfl rfl rfl ?_
  refine r_pint rfl rfl rfl ?_
  refine r_v rfl rfl (fun w hS => q_loadN (vs := e.cells) rfl ag_28 rfl rfl (hS.cells 1 rfl)) ?_
  refine r_pslice rfl rfl rfl ?_
  refine r_do rfl ?_
  refine b_call rfl cb_24 rfl (Included_ok (path := p) H hhd sz pl e hva hpo (rdin_pre c13 hpo.mark (RdIn.row 0 rfl)) (by omega) hszb) (fun v w hv => ?_)
  obtain ⟨rfl, H⟩ := hv
  refine l_nil ⟨fun _ _ => (by first | exact H | exact H.drop1 | exact H.drop1.drop1 | exact H.drop1.drop1.drop1), ?_⟩
  refine r_do rfl ?_
  refine b_call rfl cb_25 rfl (rIncluded_ok (path := p) H hhd sz pl e hva hpo (hpr.up 3 rfl) hpc (by omega) hszb) (fun v w hv => ?_)
  obtain ⟨rfl, H⟩ := hv
  refine l_nil ⟨fun _ _ => (by first | exact H | exact H.drop1 | exact H.drop1.drop1 | exact H.drop1.drop1.drop1), ?_⟩
  refine r_pbool rfl rfl rfl ?_
  refine r_pbool rfl rfl rfl ?_
  refine r_split 27 rfl (fun h27 => ?_) (fun h27 => absurd h27 (by simp))
  try simp only [decide_eq_true_eq, decide_eq_false_iff_not, Bool.not_eq_true', Bool.not_eq_false', beq_iff_eq, beq_eq_false_iff_ne, bne_iff_ne, bne_eq_false_iff_eq, ne_eq, Int.not_lt, Int.not_le] at h27
  refine r_pslice rfl rfl rfl ?_
  refine r_pslice rfl rfl rfl ?_
  refine r_do rfl ?_
  refine b_call rfl cb_26 rfl (kept_ok (p := p) H hpo (hpr.up 3 rfl) hpb (RdIn.row 0 rfl) hc13) (fun v w hv => ?_)
  obtain ⟨rfl, H⟩ := hv
  refine l_nil ⟨fun _ _ => (by first | exact H | exact H.drop1 | exact H.drop1.drop1 | exact H.drop1.drop1.drop1), ?_⟩
  refine r_pickT (v := .bool _) rfl rfl rfl rfl ?_
  refine r_pbool rfl rfl rfl ?_
  refine r_split 32 rfl (fun h32 => ?_) (fun h32 => absurd h32 (by simp))
  try simp only [decide_eq_true_eq, decide_eq_false_iff_not, Bool.not_eq_true', Bool.not_eq_false', beq_iff_eq, beq_eq_false_iff_ne, bne_iff_ne, bne_eq_false_iff_eq, ne_eq, Int.not_lt, Int.not_le] at h32
  refine r_do rfl ?_
  refine b_call rfl cb_22 rfl (works_ok H) (fun v w hv => ?_)
  obtain ⟨rfl, H⟩ := hv
  refine l_nil ⟨fun _ _ => (by first | exact H | exact H.drop1 | exact H.drop1.drop1 | exact H.drop1.drop1.drop1), ?_⟩
  refine r_pickT (v := .bool _) rfl rfl rfl rfl ?_
  refine r_pbool rfl rfl rfl ?_
  refine r_nil ?_
  refine w_ret ?_
  refine fin1 (v := .bool _) rfl ?_
  exact ⟨congrArg Value.bool (by simp), _, H⟩

set_option maxRecDepth 8000 in
set_option maxHeartbeats 1000000 in
theorem TreeExtends_ok {W w : World} {F : List Seg} (H : St W w F) {old hd : List UInt8} (hold : old.length = 32) (hhd : hd.length = 32) (x y : Int) (hyb : y ≤ 9223372036854775807) {pa : Option Addr} {pc : Nat} {p : List (List UInt8)} (hpo : PathOk p) (hpr : RdIn W F pa (pathV p)) (hpc : p.length ≤ pc) (hpb : p.length ≤ 4398046511000) :
    Ok Try.prog 5 [.agg (old.map B).toArray, .int .i64 x, .agg (hd.map B).toArray, .int .i64 y, .slice pa p.length pc].toArray w (fun r w' => r = .bool true ∧ ∃ S, St W w' S) := by
  refine enter (n := 35) (rs := #[.tmp 10]) Try.func5 rfl rfl rfl rfl ?_
  refine w_seq ?_
  refine w_region ?_
  refine b_box rfl rfl rfl H (fun b5 w H => ?_)
  refine b_box rfl rfl rfl H (fun b7 w H => ?_)
  refine l_pbool rfl rfl ?_
  refine l_nil ?_
  refine w_seq ?_
  refine w_region ?_
  refine l_pslice rfl rfl ?_
  refine b_call rfl cb_23 rfl (lent_ok H hpo (hpr.up 2 rfl) hpb) (fun v w hv => ?_)
  obtain ⟨a13, c13, rfl, hc13, H⟩ := hv
  refine l_pslice rfl rfl ?_
  refine l_nil ?_
  refine w_seq ?_
  refine w_drawT [] [0, 2, 6, 8] [(0, 1), (1, 0), (2, 1), (3, 0), (4, 0), (6, 1), (7, 0), (8, 1), (9, 0), (10, 0), (5, 2), (11, 2), (12, 0), (13, 0), (14, 0), (15, 0), (16, 2), (17, 0), (18, 0), (19, 2), (20, 0), (21, 0)] mixed (by kernel_rfl) (fun _ _ _ h => fin_panic h) H (fun H => ?_)
  refine r_v rfl rfl (fun w hS => q_loadN (vs := old.map B) rfl ag_24 rfl (by simp [hold]) (hS.cells 2 rfl)) ?_
  refine r_pint rfl rfl rfl ?_
  refine r_v rfl rfl (fun w hS => q_loadN (vs := hd.map B) rfl ag_24 rfl (by simp [hhd]) (hS.cells 1 rfl)) ?_
  refine r_pint rfl rfl rfl ?_
  refine r_pslice rfl rfl rfl ?_
  refine r_v rfl rfl (fun w hS => q_loadN (vs := old.map B) rfl ag_24 rfl (by simp [hold]) (hS.cells 2 rfl)) ?_
  refine r_pint rfl rfl rfl ?_
  refine r_v rfl rfl (fun w hS => q_loadN (vs := hd.map B) rfl ag_24 rfl (by simp [hhd]) (hS.cells 1 rfl)) ?_
  refine r_pint rfl rfl rfl ?_
  refine r_pslice rfl rfl rfl ?_
  refine r_do rfl ?_
  refine b_call rfl cb_27 rfl (Extends_ok (path := p) H hold hhd x y hpo (rdin_pre c13 hpo.mark (RdIn.row 0 rfl)) (by omega) (by omega) hyb) (fun v w hv => ?_)
  obtain ⟨rfl, H⟩ := hv
  refine l_nil ⟨fun _ _ => (by first | exact H | exact H.drop1 | exact H.drop1.drop1 | exact H.drop1.drop1.drop1), ?_⟩
  refine r_do rfl ?_
  refine b_call rfl cb_28 rfl (rExtends_ok (path := p) H hold hhd x y hpo (hpr.up 3 rfl) hpc (by omega) hyb) (fun v w hv => ?_)
  obtain ⟨rfl, H⟩ := hv
  refine l_nil ⟨fun _ _ => (by first | exact H | exact H.drop1 | exact H.drop1.drop1 | exact H.drop1.drop1.drop1), ?_⟩
  refine r_pbool rfl rfl rfl ?_
  refine r_pbool rfl rfl rfl ?_
  refine r_split 27 rfl (fun h27 => ?_) (fun h27 => absurd h27 (by simp))
  try simp only [decide_eq_true_eq, decide_eq_false_iff_not, Bool.not_eq_true', Bool.not_eq_false', beq_iff_eq, beq_eq_false_iff_ne, bne_iff_ne, bne_eq_false_iff_eq, ne_eq, Int.not_lt, Int.not_le] at h27
  refine r_pslice rfl rfl rfl ?_
  refine r_pslice rfl rfl rfl ?_
  refine r_do rfl ?_
  refine b_call rfl cb_26 rfl (kept_ok (p := p) H hpo (hpr.up 3 rfl) hpb (RdIn.row 0 rfl) hc13) (fun v w hv => ?_)
  obtain ⟨rfl, H⟩ := hv
  refine l_nil ⟨fun _ _ => (by first | exact H | exact H.drop1 | exact H.drop1.drop1 | exact H.drop1.drop1.drop1), ?_⟩
  refine r_pickT (v := .bool _) rfl rfl rfl rfl ?_
  refine r_pbool rfl rfl rfl ?_
  refine r_split 32 rfl (fun h32 => ?_) (fun h32 => absurd h32 (by simp))
  try simp only [decide_eq_true_eq, decide_eq_false_iff_not, Bool.not_eq_true', Bool.not_eq_false', beq_iff_eq, beq_eq_false_iff_ne, bne_iff_ne, bne_eq_false_iff_eq, ne_eq, Int.not_lt, Int.not_le] at h32
  refine r_do rfl ?_
  refine b_call rfl cb_22 rfl (works_ok H) (fun v w hv => ?_)
  obtain ⟨rfl, H⟩ := hv
  refine l_nil ⟨fun _ _ => (by first | exact H | exact H.drop1 | exact H.drop1.drop1 | exact H.drop1.drop1.drop1), ?_⟩
  refine r_pickT (v := .bool _) rfl rfl rfl rfl ?_
  refine r_pbool rfl rfl rfl ?_
  refine r_nil ?_
  refine w_ret ?_
  refine fin1 (v := .bool _) rfl ?_
  exact ⟨congrArg Value.bool (by simp), _, H⟩

end Go.Proofs.Ytcmmhpkgjcepdaa
