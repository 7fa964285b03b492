/- The law TapeCut holds of every argument: its row, and the card that ties it to the program of its seat; no conditions beyond the card's own. -/
import Derived.Test.YtfpmnhmdphaceaaDoorTap48
import Derived.Test.YtfpmnhmdphaceaaDoorTapArgAll
import Derived.Test.YtfpmnhmdphaceaaDoorTapLaid
import Derived.Test.YtfpmnhmdphaceaaDoorTie
import Derived.Test.YtfpmnhmdphaceaaDoorCards
import Derived.SevenTiedAt
namespace Go.Proofs.YtfpmnhmdphaceaaDoor
open Go.EW
theorem cut_walk (W : World) (args : List Value) (hL : laidMetH Tryd.prog nibD W) (h : argsOk W [stpSh, evsSh, .int .i64] args) : Ok Tryd.prog 5 args.toArray W (fun v w' => v = .bool true ∧ ∃ S, St W w' S) := by
  obtain ⟨v0, args, rfl, h0, ⟨c0, e0⟩, h⟩ := argsOk_cons h
  obtain ⟨v1, args, rfl, h1, ⟨a1, n1, k1, e1⟩, h⟩ := argsOk_cons h
  obtain ⟨v2, args, rfl, h2, ⟨n2, e2⟩, h⟩ := argsOk_cons h
  obtain rfl := argsOk_nil h
  subst e0
  subst e1
  subst e2
  have hreach : reachBytes = 140737488351232 := rfl
  obtain ⟨s0, sa0, sc0, rfl, hso0, hsr0, hsl0⟩ := stp_val h0
  obtain ⟨ea1, en1, ec1, es1, q, hel1, hec1, hecr1, her1, hes1⟩ := evs_of h1
  simp only [Value.cells, List.cons.injEq, Value.slice.injEq, and_true] at q
  obtain ⟨rfl, rfl, rfl⟩ := q
  obtain ⟨x2, q, hw2⟩ := h2
  simp only [Value.cells, List.cons.injEq, Value.int.injEq, and_true, true_and] at q
  subst q
  have hx2 := i64_wf hw2
  by_cases hc : chkS s0 = 0
  · exact TapeCut_yes (nib_of_laid hL) (St.refl W) s0 hso0 (RdIn.rdro hsr0) (RdIn.rdro her1) hel1 (evs_in (F := []) hes1) (by omega) hc
  exact TapeCut_no (nib_of_laid hL) (St.refl W) s0 hso0 (RdIn.rdro hsr0) (RdIn.rdro her1) hel1 (evs_in (F := []) hes1) (by omega) hc
set_option maxRecDepth 100000 in
theorem cut_lifted (os : Os) (started : os.Started) (H : Type) (enc : TypeId × Value → H) :
    ReturnsInHanded {} Tryd.checked os 5 .any (fun w args => (Rows.tapeCutSpec.pre enc Tryd.prog Tryd.f5 [] false w args ∧ laidMetH Tryd.prog nibD w) ∧ sizedMet enc Tryd.prog Tryd.f5 (OpenSpec.ofChange Rows.tapeCutSpec) false w args) (Rows.tapeCutSpec.post enc Tryd.prog Tryd.f5 false true false false) :=
  lifted_laid (C := Tryd.checked) (tb := 4) [stpSh, evsSh, .int .i64] tap_own started (by kernel_rfl) Tryd.func5
    (ChangeSpec.witness_shaped (enc := enc) (C := Tryd.checked) (os := os) (X := fun w _ => laidMetH Tryd.prog nibD w) false (World.doorLaid Tryd.prog 400 os) #[.agg #[.int .i64 0, .int .i64 0, .int .i64 0, .bool false, .slice none 0 0], .slice none 0 0, .int .i64 0] 8 rfl (World.shaped_of_RefB (by kernel_rfl) (by kernel_rfl)) (by kernel_rfl) (by kernel_rfl) (by kernel_rfl) (door_met os _))
    rfl (fun ds h => by match ds, h with | [_, _, _], _ => rfl) rfl (by kernel_rfl) tap_laid (by kernel_rfl) (by kernel_rfl) cut_walk
theorem tapeCut_row : Rows.TapeCutSaid :=
  OpenClaim.holds_of_wide 5 Tryd.f5 rfl rfl rfl rfl rfl rfl rfl ⟨rfl, rfl, rfl, rfl, rfl⟩ rfl rfl rfl rfl rfl (by kernel_rfl) Tryd.func5 (by kernel_rfl)
    (of_decide_eq_true (by kernel_rfl)) (by unfold Func.isWrapper; first | (rw [if_pos (by decide +kernel)]; kernel_rfl) | (rw [if_neg (by decide +kernel)]; exact ⟨rfl, rfl⟩))
    (fun os started H enc _ => cut_lifted os started H enc)
theorem tapeCut_proved : Rows.TapeCutCardSaid :=
  Claim7.holds_tied_plain_at .later [] [.data] true (true, "9192e3ffcfef51d96e1515d981582076e87353550fca6c0bf38a903a1ec79fbb") false
    tapeCut_row (fun _ h => by cases h) (by kernel_rfl) (fun _ h => by cases h) tapeCut_row_tie rfl ⟨rfl, rfl⟩ (by kernel_rfl) rfl
    (fun f fn hf hfn => by
      obtain rfl : f = 5 := Option.some.inj ((show Tryd.prog.funcNamed "amnesia/amnesialaw22.TapeCut" = some 5 by kernel_rfl).symm.trans hf) |>.symm
      obtain rfl : fn = Tryd.f5 := (Option.some.inj (Tryd.func5.symm.trans hfn)).symm
      exact ⟨by kernel_rfl, fun j t ht => by
        rw [Tryd.params5] at ht
        have hm : t ∈ [56, 57, 3] := by simpa using Array.mem_of_getElem? ht
        have hall : ([56, 57, 3].all fun u => !Tryd.prog.wantsStandIn u) = true := by kernel_rfl
        exact (show Tryd.prog.wantsStandIn t = false by simpa using List.all_eq_true.1 hall t hm)⟩)
    (by kernel_rfl)
#print axioms tapeCut_proved
end Go.Proofs.YtfpmnhmdphaceaaDoor
