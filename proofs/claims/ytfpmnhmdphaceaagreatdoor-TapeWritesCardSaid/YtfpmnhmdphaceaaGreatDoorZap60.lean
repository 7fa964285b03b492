/- The walk of the law TapeWrites ends in true for a setup that may not be. -/
import Derived.Test.YtfpmnhmdphaceaaGreatDoorZap59
namespace Go.Proofs.YtfpmnhmdphaceaaGreatDoor
open Go.EW
attribute [local irreducible] EW.W EW.L EW.fin block8 outB shaL
set_option linter.unusedVariables false
set_option linter.unusedSimpArgs false
attribute [local irreducible] crcN crcB crcL sealL openR sealR putEv getEv
set_option maxRecDepth 8000 in
set_option maxHeartbeats 1000000 in
theorem TapeWrites_no {W w : World} {F : List Seg} (hN : NibOk W) (H : St W w F) (s : Stp) (hso : StpOk s) (hc : chkS s ≠ 0) {a : Option Addr} {c : Nat} (hr : RdIn W F a (intsV s.cls)) (hcl : s.cls.length ≤ 17592186043904) {va : Option Addr} {n vc : Nat} {es : List EvM} (hel : es.length = n) :
    Ok Tryz.prog 3 [.agg (s.cells a c).toArray, .slice va n vc].toArray w (fun r w' => r = .bool true ∧ ∃ S, St W w' S) := by
  subst hel
  refine enter (n := 142) (rs := #[.tmp 4]) Tryz.func3 rfl rfl rfl rfl ?_
  refine w_seq ?_
  refine w_region ?_
  refine b_box (cs := s.cells a c) rfl rfl rfl H (fun b2 w H => ?_)
  refine l_pbool rfl rfl ?_
  refine l_nil ?_
  refine w_seq ?_
  refine w_region ?_
  refine l_v rfl (q_loadN (vs := s.cells a c) rfl ag_26 rfl rfl (H.cells 0 rfl)) ?_
  refine b_call rfl cb_5 rfl (CopySetup_ok H s (hr.up 1 rfl) (by omega)) (fun v w hv => ?_)
  obtain ⟨oa, oc, rfl, H⟩ := hv
  refine b_alloc (cs := stp0.cells none 0) rfl ze_26 rfl H (fun b5 w H => ?_)
  refine b_store (cs' := s.cells oa oc) rfl sz_26 rfl rfl rfl rfl rfl H 0 rfl rfl (putL_all rfl) (fun w H => ?_)
  refine l_nil ?_
  refine w_seq ?_
  refine w_region ?_
  refine l_v rfl (q_loadN (vs := s.cells oa oc) rfl ag_26 rfl rfl (H.cells 0 rfl)) ?_
  refine b_call rfl cb_6 rfl (TNew_ok hN H s hso (RdIn.row 1 rfl)) (fun v w hv => ?_)
  obtain ⟨_, rfl, H⟩ | ⟨h0, _⟩ := hv
  rotate_left
  · exact absurd h0 hc
  refine l_ptup rfl rfl ?_
  refine l_pptr rfl rfl ?_
  refine l_pint rfl rfl ?_
  refine l_pptr rfl rfl ?_
  refine l_pint rfl rfl ?_
  refine l_nil ?_
  refine w_seq ?_
  refine w_seq ?_
  refine w_region ?_
  refine l_pint rfl rfl ?_
  refine l_v rfl (q_loadN (vs := s.cells a c) rfl ag_26 rfl rfl (H.cells 2 rfl)) ?_
  refine b_call rfl cb_7 rfl (Setup_r H s (hr.up 3 rfl)) (fun v w hv => ?_)
  obtain ⟨rfl, H⟩ := hv
  refine l_pbool rfl rfl ?_
  refine l_pbool rfl rfl ?_
  refine l_split 32 rfl (fun h32 => absurd h32 (by simp)) (fun h32 => ?_)
  try simp only [sH] at h32
  refine l_pptr rfl rfl ?_
  refine l_v rfl (q_eqlNilT rfl pt_29 rfl rfl) ?_
  refine l_pint rfl rfl ?_
  refine l_pbool rfl rfl ?_
  refine l_v rfl (q_neqBool rfl bo_4 rfl rfl) ?_
  refine l_pickF (v := .bool _) rfl rfl rfl ?_
  refine l_nil ?_
  refine w_cond rfl (fun c1 => ?_) (fun c1 => ?_)
  · try simp only [sH] at c1
    exact absurd c1 (by simp; omega)
  try simp only [sH] at c1
  refine w_skip ?_
  refine w_seq ?_
  refine w_seq ?_
  refine w_region ?_
  refine l_pptr rfl rfl ?_
  refine l_v rfl (q_eqlNilT rfl pt_29 rfl rfl) ?_
  refine l_nil ?_
  refine w_cond_t rfl ?_
  refine w_seq ?_
  refine w_region ?_
  refine b_call rfl cb_8 rfl (works_ok hN H) (fun v w hv => ?_)
  obtain ⟨rfl, H⟩ := hv
  refine l_pbool rfl rfl ?_
  refine l_nil ?_
  refine w_ret ?_
  refine fin1 (v := .bool _) rfl ?_
  exact ⟨rfl, _, H⟩
end Go.Proofs.YtfpmnhmdphaceaaGreatDoor
