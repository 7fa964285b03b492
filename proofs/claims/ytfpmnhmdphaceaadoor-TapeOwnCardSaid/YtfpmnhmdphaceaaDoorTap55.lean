/- The walk of the law TapeOwn ends in true for a setup that may not be, where the table of nibbles is laid. -/
import Derived.Test.YtfpmnhmdphaceaaDoorTap54
namespace Go.Proofs.YtfpmnhmdphaceaaDoor
open Go.EW
attribute [local irreducible] EW.W EW.L EW.fin block8 outB shaL
set_option linter.unusedVariables false
set_option linter.unusedSimpArgs false
attribute [local irreducible] crcN crcB crcL sealL openR sealR putEv getEv runR readR fileT usedE seekR addRT chkS
set_option maxRecDepth 8000 in
set_option maxHeartbeats 1000000 in
theorem TapeOwn_no {W w : World} {F : List Seg} (hN : NibOk W) (H : St W w F) (s : Stp) (hso : StpOk s) {a : Option Addr} {c : Nat} (hr : RdIn W F a (intsV s.cls)) {es us : List EvM} {ea ua : Option Addr} {n ec m uc : Nat} (hre : RdIn W F ea (evsV es)) (hl : es.length = n) (hes : EvsIn W F es) (hn : n ≤ 140737488351232) (hru : RdIn W F ua (evsV us)) (hlu : us.length = m) (hus : EvsIn W F us) (hm : m ≤ 140737488351232) (hc : chkS s ≠ 0) :
    Ok Tryd.prog 10 [.agg (s.cells a c).toArray, .slice ea n ec, .slice ua m uc].toArray w (fun r w' => r = .bool true ∧ ∃ S, St W w' S) := by
  subst hl; subst hlu
  refine enter (n := 286) (rs := #[.tmp 6]) Tryd.func10 rfl rfl rfl rfl ?_
  refine w_seq ?_
  refine w_region ?_
  refine b_box (cs := s.cells a c) rfl rfl rfl H (fun b3 w H => ?_)
  refine l_pbool rfl rfl ?_
  refine l_nil ?_
  refine w_seq ?_
  refine w_region ?_
  refine l_v rfl (q_loadN (vs := s.cells a c) rfl ag_56 rfl rfl (H.cells 0 rfl)) ?_
  refine l_pslice rfl rfl ?_
  refine b_call rfl cb_22 rfl (made_no hN H s hso (hr.up 1 rfl) (hre.up 1 rfl) rfl (hes.up 1 rfl) (by omega) hc) (fun v w hv => ?_)
  obtain ⟨rfl, H⟩ := hv
  refine l_ptup rfl rfl ?_
  refine l_pptr rfl rfl ?_
  refine l_pslice rfl rfl ?_
  refine l_pptr rfl rfl ?_
  refine l_pslice rfl rfl ?_
  refine l_nil ?_
  refine w_seq ?_
  refine w_region ?_
  refine l_v rfl (q_loadN (vs := s.cells a c) rfl ag_56 rfl rfl (H.cells 0 rfl)) ?_
  refine l_pslice rfl rfl ?_
  refine b_call rfl cb_22 rfl (made_no hN H s hso (hr.up 1 rfl) (hru.up 1 rfl) rfl (hus.up 1 rfl) (by omega) hc) (fun v w hv => ?_)
  obtain ⟨rfl, H⟩ := hv
  refine l_ptup rfl rfl ?_
  refine l_pptr rfl rfl ?_
  refine l_pslice rfl rfl ?_
  refine l_pptr rfl rfl ?_
  refine l_pslice rfl rfl ?_
  refine l_nil ?_
  refine w_seq ?_
  refine w_seq ?_
  refine w_region ?_
  refine l_pptr rfl rfl ?_
  refine l_v rfl (q_eqlNilT rfl pt_61 rfl rfl) ?_
  refine l_pbool rfl rfl ?_
  refine l_no rfl ?_
  refine l_no rfl ?_
  refine l_pickT (v := .bool _) rfl rfl rfl ?_
  refine l_nil ?_
  refine w_cond_t rfl ?_
  refine w_seq ?_
  refine w_region ?_
  refine b_call rfl cb_19 rfl (works_ok hN H) (fun v w hv => ?_)
  obtain ⟨rfl, H⟩ := hv
  refine l_pbool rfl rfl ?_
  refine l_split 62 rfl (fun h62 => ?_) (fun h62 => absurd h62 (by simp))
  try simp only [sH] at h62
  refine l_pptr rfl rfl ?_
  refine l_v rfl (q_eqlNilT rfl pt_61 rfl rfl) ?_
  refine l_pickT (v := .bool _) rfl rfl rfl ?_
  refine l_pbool rfl rfl ?_
  refine l_pptr rfl rfl ?_
  refine l_v rfl (q_eqlNilT rfl pt_61 rfl rfl) ?_
  refine l_pickT (v := .bool _) rfl rfl rfl ?_
  refine l_pbool rfl rfl ?_
  refine l_nil ?_
  refine w_ret ?_
  refine fin1 (v := .bool _) rfl ?_
  exact ⟨rfl, _, H⟩
end Go.Proofs.YtfpmnhmdphaceaaDoor
