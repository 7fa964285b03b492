/- The law TapeWrites holds of every argument: its row, and the card that ties it to the program of its seat; no conditions beyond the card's own. -/
import Derived.Test.YtfpmnhmdphaceaaGreatDoorZap60
import Derived.Test.YtfpmnhmdphaceaaGreatDoorZapArgAll
import Derived.Test.YtfpmnhmdphaceaaGreatDoorZapLaid
import Derived.Test.YtfpmnhmdphaceaaGreatDoorTie
import Derived.Test.YtfpmnhmdphaceaaGreatDoorCards
import Derived.SevenTiedAt
namespace Go.Proofs.YtfpmnhmdphaceaaGreatDoor
open Go.EW
theorem wrs_walk (W : World) (args : List Value) (hL : laidMetH Tryz.prog nibD W) (h : argsOk W [stpSh, evsSh] args) : Ok Tryz.prog 3 args.toArray W (fun v w' => v = .bool true ∧ ∃ S, St W w' S) := by
  obtain ⟨v0, args, rfl, h0, ⟨c0, e0⟩, h⟩ := argsOk_cons h
  obtain ⟨v1, args, rfl, h1, ⟨a1, n1, k1, e1⟩, h⟩ := argsOk_cons h
  obtain rfl := argsOk_nil h
  subst e0
  subst e1
  have hreach : reachBytes = 140737488351232 := rfl
  obtain ⟨s0, sa0, sc0, rfl, hso0, hsr0, hsl0⟩ := stp_val h0
  obtain ⟨ea1, en1, ec1, es1, q, hel1, hec1, hecr1, her1, hes1⟩ := evs_of h1
  simp only [Value.cells, List.cons.injEq, Value.slice.injEq, and_true] at q
  obtain ⟨rfl, rfl, rfl⟩ := q
  by_cases hc : chkS s0 = 0
  · exact TapeWrites_yes (nib_of_laid hL) (St.refl W) s0 hso0 hc (RdIn.rdro hsr0) (by omega) (RdIn.rdro her1) hel1 (evs_in (F := []) hes1) (by omega)
  exact TapeWrites_no (nib_of_laid hL) (St.refl W) s0 hso0 hc (RdIn.rdro hsr0) (by omega) (va := a1) (vc := k1) hel1
set_option maxRecDepth 100000 in
theorem wrs_lifted (os : Os) (started : os.Started) (H : Type) (enc : TypeId × Value → H) :
    ReturnsInHanded {} Tryz.checked os 3 .any (fun w args => (Rows.tapeWritesSpec.pre enc Tryz.prog Tryz.f3 [] false w args ∧ laidMetH Tryz.prog nibD w) ∧ sizedMet enc Tryz.prog Tryz.f3 (OpenSpec.ofChange Rows.tapeWritesSpec) false w args) (Rows.tapeWritesSpec.post enc Tryz.prog Tryz.f3 false true false false) :=
  lifted_laid (C := Tryz.checked) (tb := 4) [stpSh, evsSh] tap_own started (by kernel_rfl) Tryz.func3
    (ChangeSpec.witness_shaped (enc := enc) (C := Tryz.checked) (os := os) (X := fun w _ => laidMetH Tryz.prog nibD w) false (World.doorLaid Tryz.prog 400 os) #[.agg #[.int .i64 0, .int .i64 0, .int .i64 0, .bool false, .slice none 0 0], .slice none 0 0] 8 rfl (World.shaped_of_RefB (by kernel_rfl) (by kernel_rfl)) (by kernel_rfl) (by kernel_rfl) (by kernel_rfl) (door_met os _))
    rfl (fun ds h => by match ds, h with | [_, _], _ => rfl) rfl (by kernel_rfl) tap_laid (by kernel_rfl) (by kernel_rfl) wrs_walk
theorem tapeWrites_row : Rows.TapeWritesSaid :=
  OpenClaim.holds_of_wide 3 Tryz.f3 rfl rfl rfl rfl rfl rfl rfl ⟨rfl, rfl, rfl, rfl, rfl⟩ rfl rfl rfl rfl rfl (by kernel_rfl) Tryz.func3 (by kernel_rfl)
    (of_decide_eq_true (by kernel_rfl)) (by unfold Func.isWrapper; first | (rw [if_pos (by decide +kernel)]; kernel_rfl) | (rw [if_neg (by decide +kernel)]; exact ⟨rfl, rfl⟩))
    (fun os started H enc _ => wrs_lifted os started H enc)
theorem tapeWrites_proved : Rows.TapeWritesCardSaid :=
  Claim7.holds_tied_plain_at .later [] [.data] true (true, "01c283be443598bb3c14acf73334c75f2c1745bfbf1760aa0da600acbea3676e") false
    tapeWrites_row (fun _ h => by cases h) (by kernel_rfl) (fun _ h => by cases h) tapeWrites_row_tie rfl ⟨rfl, rfl⟩ (by kernel_rfl) rfl
    (fun f fn hf hfn => by
      obtain rfl : f = 3 := Option.some.inj ((show Tryz.prog.funcNamed "amnesia/amnesialaw22.TapeWrites" = some 3 by kernel_rfl).symm.trans hf) |>.symm
      obtain rfl : fn = Tryz.f3 := (Option.some.inj (Tryz.func3.symm.trans hfn)).symm
      exact ⟨by kernel_rfl, fun j t ht => by
        rw [Tryz.params3] at ht
        have hm : t ∈ [26, 27] := by simpa using Array.mem_of_getElem? ht
        have hall : ([26, 27].all fun u => !Tryz.prog.wantsStandIn u) = true := by kernel_rfl
        exact (show Tryz.prog.wantsStandIn t = false by simpa using List.all_eq_true.1 hall t hm)⟩)
    (by kernel_rfl)
#print axioms tapeWrites_proved
end Go.Proofs.YtfpmnhmdphaceaaGreatDoor
