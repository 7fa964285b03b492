/- CopySetup of the plain package answers a copy with clients of its own. -/
import Derived.Test.YtfpmnhmdphaceaaGreatDoorZap55
import Derived.Test.YtfpmnhmdphaceaaGreatDoorZap31
import Derived.Test.YtfpmnhmdphaceaaGreatDoorZap38
import Derived.Test.YtfpmnhmdphaceaaGreatDoorZap30
import Derived.Test.YtfpmnhmdphaceaaGreatDoorZap29
import Derived.Test.YtfpmnhmdphaceaaGreatDoorZapP5
import Derived.Test.YtfpmnhmdphaceaaGreatDoorZapPAll
namespace Go.Proofs.YtfpmnhmdphaceaaGreatDoor
open Go.EW
attribute [local irreducible] EW.W EW.L EW.fin block8 outB shaL
set_option linter.unusedVariables false
set_option linter.unusedSimpArgs false
attribute [local irreducible] crcN crcB crcL sealL openR sealR bodyR headR tailR eventsR chunkR numberR
theorem oneInt (l : List Int) : ∀ u ∈ intsV l, u.oneCell' = true := fun u hu => by
  obtain ⟨t, _, rfl⟩ := List.mem_map.1 hu; rfl
theorem CopySetup_ok {W w : World} {F : List Seg} (H : St W w F) (s : Stp) {a : Option Addr} {c : Nat} (hr : RdIn W F a (intsV s.cls)) (hcl : s.cls.length ≤ 17592186043904) :
    Ok Tryz.prog 5 [.agg (s.cells a c).toArray].toArray w (fun r w' => ∃ a' c', r = .agg (s.cells a' c').toArray ∧ St W w' (row 36 1 a' s.cls.length c' (intsV s.cls) :: F)) := by
  refine enter (n := 8) (rs := #[.cell 2 26]) Tryz.func5 rfl rfl rfl rfl ?_
  refine w_seq ?_
  refine w_region ?_
  refine b_box (cs := s.cells a c) rfl rfl rfl H (fun b1 w H => ?_)
  refine b_alloc (cs := stp0.cells none 0) rfl ze_26 rfl H (fun b2 w H => ?_)
  refine l_nil ?_
  refine w_seq ?_
  refine w_region ?_
  refine l_v rfl (q_fieldAddr rfl fo26_1 rfl) ?_
  refine l_v rfl (q_load1 rfl c1_24 rfl (by first | exact H.cell 0 rfl rfl | exact H.cell 1 rfl rfl | exact H.cell 2 rfl rfl)) ?_
  have H := St.newRow (T := 36) (sz := 1) H
  have hcll : (intsV s.cls).length = s.cls.length := List.length_map _
  refine b_append rfl el_24 ze_36 rfl rfl rfl H 0 rfl (hr.use H 3 rfl) (by rw [hcll, Nat.mul_one]) (oneInt _) ⟨by omega, by simp only [maxLen]; omega⟩ (fun a5 c5 w H => ?_)
  rw [Nat.zero_add s.cls.length]
  rw [Nat.zero_add s.cls.length] at H
  have H : St W w (row 36 1 a5 s.cls.length c5 (intsV s.cls) :: blk b2 (stp0.cells none 0) 26 :: blk b1 (s.cells a c) 26 :: F) := H
  refine l_v rfl (q_fieldAddr rfl fo26_1 rfl) ?_
  refine b_store (cs' := s.cells a5 c5) rfl sz_24 rfl rfl rfl rfl rfl H 2 rfl rfl (by unfold Stp.cells; rfl) (fun w H => ?_)
  refine l_nil ?_
  refine w_seq ?_
  refine w_region ?_
  refine l_v rfl (q_loadN (vs := s.cells a5 c5) rfl ag_26 rfl rfl (H.cells 2 rfl)) ?_
  refine b_store (cs' := s.cells a5 c5) rfl sz_26 rfl rfl rfl rfl rfl H 1 rfl rfl (putL_all rfl) (fun w H => ?_)
  refine l_nil ?_
  refine w_ret ?_
  refine finc rfl ag_26 rfl (by first | exact H.cells 0 rfl | exact H.cells 1 rfl | exact H.cells 2 rfl) ?_
  exact ⟨a5, c5, rfl, St.pick [0] (pre := [_, _, _]) rfl H rfl⟩
end Go.Proofs.YtfpmnhmdphaceaaGreatDoor
