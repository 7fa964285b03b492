/- The law TapeFull holds of every argument: its row, and the card that ties it to the program of its seat; no conditions beyond the card's own. -/
import Derived.Test.YtfpmnhmdphaceaaDoorTap49
import Derived.Test.YtfpmnhmdphaceaaDoorTapArgAll
import Derived.Test.YtfpmnhmdphaceaaDoorTapLaid
import Derived.Test.YtfpmnhmdphaceaaDoorTie
import Derived.Test.YtfpmnhmdphaceaaDoorCards
import Derived.SevenTiedAt
namespace Go.Proofs.YtfpmnhmdphaceaaDoor
open Go.EW
theorem ful_walk (W : World) (args : List Value) (hL : laidMetH Tryd.prog nibD W) (h : argsOk W [stpSh, evtSh] args) : Ok Tryd.prog 6 args.toArray W (fun v w' => v = .bool true ∧ ∃ S, St W w' S) := by
  obtain ⟨v0, args, rfl, h0, ⟨c0, e0⟩, h⟩ := argsOk_cons h
  obtain ⟨v1, args, rfl, h1, ⟨c1, e1⟩, h⟩ := argsOk_cons h
  obtain rfl := argsOk_nil h
  subst e0
  subst e1
  have hreach : reachBytes = 140737488351232 := rfl
  obtain ⟨s0, sa0, sc0, rfl, hso0, hsr0, hsl0⟩ := stp_val h0
  obtain ⟨e1, va1, vc1, rfl, he1, hvc1, hvr1⟩ := evt_val h1
  by_cases hb : (putEv e1).2 ≠ 0 ∨ chkS s0 ≠ 0 ∨ 100 < (putEv e1).1.length
  · exact TapeFull_bad (nib_of_laid hL) (St.refl W) s0 hso0 (RdIn.rdro hsr0) e1 he1 (RdIn.rdro hvr1) hb
  exact TapeFull_good (nib_of_laid hL) (St.refl W) s0 hso0 (RdIn.rdro hsr0) e1 he1 (RdIn.rdro hvr1) (by omega) (by omega) (by omega)
set_option maxRecDepth 100000 in
theorem ful_lifted (os : Os) (started : os.Started) (H : Type) (enc : TypeId × Value → H) :
    ReturnsInHanded {} Tryd.checked os 6 .any (fun w args => (Rows.tapeFullSpec.pre enc Tryd.prog Tryd.f6 [] false w args ∧ laidMetH Tryd.prog nibD w) ∧ sizedMet enc Tryd.prog Tryd.f6 (OpenSpec.ofChange Rows.tapeFullSpec) false w args) (Rows.tapeFullSpec.post enc Tryd.prog Tryd.f6 false true false false) :=
  lifted_laid (C := Tryd.checked) (tb := 4) [stpSh, evtSh] tap_own started (by kernel_rfl) Tryd.func6
    (ChangeSpec.witness_shaped (enc := enc) (C := Tryd.checked) (os := os) (X := fun w _ => laidMetH Tryd.prog nibD w) false (World.doorLaid Tryd.prog 400 os) #[.agg #[.int .i64 0, .int .i64 0, .int .i64 0, .bool false, .slice none 0 0], .agg #[.int .i64 0, .int .i64 0, .int .i64 0, .int .i64 0, .int .i64 0, .int .i64 0, .int .i64 0, .int .u64 0, .int .u64 0, .int .i64 0, .int .i64 0, .string ⟨#[]⟩, .slice none 0 0]] 8 rfl (World.shaped_of_RefB (by kernel_rfl) (by kernel_rfl)) (by kernel_rfl) (by kernel_rfl) (by kernel_rfl) (door_met os _))
    rfl (fun ds h => by match ds, h with | [_, _], _ => rfl) rfl (by kernel_rfl) tap_laid (by kernel_rfl) (by kernel_rfl) ful_walk
theorem tapeFull_row : Rows.TapeFullSaid :=
  OpenClaim.holds_of_wide 6 Tryd.f6 rfl rfl rfl rfl rfl rfl rfl ⟨rfl, rfl, rfl, rfl, rfl⟩ rfl rfl rfl rfl rfl (by kernel_rfl) Tryd.func6 (by kernel_rfl)
    (of_decide_eq_true (by kernel_rfl)) (by unfold Func.isWrapper; first | (rw [if_pos (by decide +kernel)]; kernel_rfl) | (rw [if_neg (by decide +kernel)]; exact ⟨rfl, rfl⟩))
    (fun os started H enc _ => ful_lifted os started H enc)
theorem tapeFull_proved : Rows.TapeFullCardSaid :=
  Claim7.holds_tied_plain_at .later [] [.data] true (true, "9192e3ffcfef51d96e1515d981582076e87353550fca6c0bf38a903a1ec79fbb") false
    tapeFull_row (fun _ h => by cases h) (by kernel_rfl) (fun _ h => by cases h) tapeFull_row_tie rfl ⟨rfl, rfl⟩ (by kernel_rfl) rfl
    (fun f fn hf hfn => by
      obtain rfl : f = 6 := Option.some.inj ((show Tryd.prog.funcNamed "amnesia/amnesialaw22.TapeFull" = some 6 by kernel_rfl).symm.trans hf) |>.symm
      obtain rfl : fn = Tryd.f6 := (Option.some.inj (Tryd.func6.symm.trans hfn)).symm
      exact ⟨by kernel_rfl, fun j t ht => by
        rw [Tryd.params6] at ht
        have hm : t ∈ [56, 30] := by simpa using Array.mem_of_getElem? ht
        have hall : ([56, 30].all fun u => !Tryd.prog.wantsStandIn u) = true := by kernel_rfl
        exact (show Tryd.prog.wantsStandIn t = false by simpa using List.all_eq_true.1 hall t hm)⟩)
    (by kernel_rfl)
#print axioms tapeFull_proved
end Go.Proofs.YtfpmnhmdphaceaaDoor
