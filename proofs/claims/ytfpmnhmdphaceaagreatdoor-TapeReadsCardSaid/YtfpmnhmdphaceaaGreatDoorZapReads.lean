/- The law TapeReads holds of every argument: its row, and the card that ties it to the program of its seat; no conditions beyond the card's own. -/
import Derived.Test.YtfpmnhmdphaceaaGreatDoorZap57
import Derived.Test.YtfpmnhmdphaceaaGreatDoorZapArgAll
import Derived.Test.YtfpmnhmdphaceaaGreatDoorZapLaid
import Derived.Test.YtfpmnhmdphaceaaGreatDoorTie
import Derived.Test.YtfpmnhmdphaceaaGreatDoorCards
import Derived.SevenTiedAt
namespace Go.Proofs.YtfpmnhmdphaceaaGreatDoor
open Go.EW
theorem rds_walk (W : World) (args : List Value) (hL : laidMetH Tryz.prog nibD W) (h : argsOk W [bytesSh] args) : Ok Tryz.prog 4 args.toArray W (fun v w' => v = .bool true ∧ ∃ S, St W w' S) := by
  obtain ⟨v0, args, rfl, h0, ⟨a0, n0, k0, e0⟩, h⟩ := argsOk_cons h
  obtain rfl := argsOk_nil h
  subst e0
  have hreach : reachBytes = 140737488351232 := rfl
  obtain ⟨ba0, bn0, bc0, bs0, q, hbl0, hbc0, hbN0, hbr0⟩ := bytes_of h0
  simp only [Value.cells, List.cons.injEq, Value.slice.injEq, and_true] at q
  obtain ⟨rfl, rfl, rfl⟩ := q
  exact TapeReads_ok (nib_of_laid hL) (St.refl W) (RdIn.rdro hbr0) hbl0 (by omega) (by omega)
set_option maxRecDepth 100000 in
theorem rds_lifted (os : Os) (started : os.Started) (H : Type) (enc : TypeId × Value → H) :
    ReturnsInHanded {} Tryz.checked os 4 .any (fun w args => (Rows.tapeReadsSpec.pre enc Tryz.prog Tryz.f4 [] false w args ∧ laidMetH Tryz.prog nibD w) ∧ sizedMet enc Tryz.prog Tryz.f4 (OpenSpec.ofChange Rows.tapeReadsSpec) false w args) (Rows.tapeReadsSpec.post enc Tryz.prog Tryz.f4 false true false false) :=
  lifted_laid (C := Tryz.checked) (tb := 4) [bytesSh] tap_own started (by kernel_rfl) Tryz.func4
    (ChangeSpec.witness_shaped (enc := enc) (C := Tryz.checked) (os := os) (X := fun w _ => laidMetH Tryz.prog nibD w) false (World.doorLaid Tryz.prog 400 os) #[.slice none 0 0] 8 rfl (World.shaped_of_RefB (by kernel_rfl) (by kernel_rfl)) (by kernel_rfl) (by kernel_rfl) (by kernel_rfl) (door_met os _))
    rfl (fun ds h => by match ds, h with | [_], _ => rfl) rfl (by kernel_rfl) tap_laid (by kernel_rfl) (by kernel_rfl) rds_walk
theorem tapeReads_row : Rows.TapeReadsSaid :=
  OpenClaim.holds_of_wide 4 Tryz.f4 rfl rfl rfl rfl rfl rfl rfl ⟨rfl, rfl, rfl, rfl, rfl⟩ rfl rfl rfl rfl rfl (by kernel_rfl) Tryz.func4 (by kernel_rfl)
    (of_decide_eq_true (by kernel_rfl)) (by unfold Func.isWrapper; first | (rw [if_pos (by decide +kernel)]; kernel_rfl) | (rw [if_neg (by decide +kernel)]; exact ⟨rfl, rfl⟩))
    (fun os started H enc _ => rds_lifted os started H enc)
theorem tapeReads_proved : Rows.TapeReadsCardSaid :=
  Claim7.holds_tied_plain_at .later [] [.data] true (true, "01c283be443598bb3c14acf73334c75f2c1745bfbf1760aa0da600acbea3676e") false
    tapeReads_row (fun _ h => by cases h) (by kernel_rfl) (fun _ h => by cases h) tapeReads_row_tie rfl ⟨rfl, rfl⟩ (by kernel_rfl) rfl
    (fun f fn hf hfn => by
      obtain rfl : f = 4 := Option.some.inj ((show Tryz.prog.funcNamed "amnesia/amnesialaw22.TapeReads" = some 4 by kernel_rfl).symm.trans hf) |>.symm
      obtain rfl : fn = Tryz.f4 := (Option.some.inj (Tryz.func4.symm.trans hfn)).symm
      exact ⟨by kernel_rfl, fun j t ht => by
        rw [Tryz.params4] at ht
        have hm : t ∈ [50] := by simpa using Array.mem_of_getElem? ht
        have hall : ([50].all fun u => !Tryz.prog.wantsStandIn u) = true := by kernel_rfl
        exact (show Tryz.prog.wantsStandIn t = false by simpa using List.all_eq_true.1 hall t hm)⟩)
    (by kernel_rfl)
#print axioms tapeReads_proved
end Go.Proofs.YtfpmnhmdphaceaaGreatDoor
