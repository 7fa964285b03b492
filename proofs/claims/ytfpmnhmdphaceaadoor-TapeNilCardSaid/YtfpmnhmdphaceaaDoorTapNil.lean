/- The law TapeNil holds of every argument: its row, and the card that ties it to the program of its seat; no conditions beyond the card's own. -/
import Derived.Test.YtfpmnhmdphaceaaDoorTap37
import Derived.Test.YtfpmnhmdphaceaaDoorTapLaid
import Derived.Test.YtfpmnhmdphaceaaDoorTie
import Derived.Test.YtfpmnhmdphaceaaDoorCards
import Derived.SevenTiedAt
namespace Go.Proofs.YtfpmnhmdphaceaaDoor
open Go.EW
theorem tnl_walk (W : World) (args : List Value) (hL : laidMetH Tryd.prog nibD W) (h : argsOk W [] args) : Ok Tryd.prog 7 args.toArray W (fun v w' => v = .bool true ∧ ∃ S, St W w' S) := by
  obtain rfl := argsOk_nil h
  exact (TapeNil_ok (nib_of_laid hL) (St.refl W))
set_option maxRecDepth 100000 in
theorem tnl_lifted (os : Os) (started : os.Started) (H : Type) (enc : TypeId × Value → H) :
    ReturnsInHanded {} Tryd.checked os 7 .any (fun w args => (Rows.tapeNilSpec.pre enc Tryd.prog Tryd.f7 [] false w args ∧ laidMetH Tryd.prog nibD w) ∧ sizedMet enc Tryd.prog Tryd.f7 (OpenSpec.ofChange Rows.tapeNilSpec) false w args) (Rows.tapeNilSpec.post enc Tryd.prog Tryd.f7 false true false false) :=
  lifted_laid (C := Tryd.checked) (tb := 4) [] tap_own started (by kernel_rfl) Tryd.func7
    (ChangeSpec.witness_shaped (enc := enc) (C := Tryd.checked) (os := os) (X := fun w _ => laidMetH Tryd.prog nibD w) false (World.doorLaid Tryd.prog 400 os) #[] 8 rfl (World.shaped_of_RefB (by kernel_rfl) (by kernel_rfl)) (by kernel_rfl) (by kernel_rfl) (by kernel_rfl) (door_met os _))
    rfl (fun ds h => by match ds, h with | [], _ => rfl) rfl (by kernel_rfl) tap_laid (by kernel_rfl) (by kernel_rfl) tnl_walk
theorem tapeNil_row : Rows.TapeNilSaid :=
  OpenClaim.holds_of_wide 7 Tryd.f7 rfl rfl rfl rfl rfl rfl rfl ⟨rfl, rfl, rfl, rfl, rfl⟩ rfl rfl rfl rfl rfl (by kernel_rfl) Tryd.func7 (by kernel_rfl)
    (of_decide_eq_true (by kernel_rfl)) (by unfold Func.isWrapper; first | (rw [if_pos (by decide +kernel)]; kernel_rfl) | (rw [if_neg (by decide +kernel)]; exact ⟨rfl, rfl⟩))
    (fun os started H enc _ => tnl_lifted os started H enc)
theorem tapeNil_proved : Rows.TapeNilCardSaid :=
  Claim7.holds_tied_plain_at .later [] [.data] true (true, "9192e3ffcfef51d96e1515d981582076e87353550fca6c0bf38a903a1ec79fbb") false
    tapeNil_row (fun _ h => by cases h) (by kernel_rfl) (fun _ h => by cases h) tapeNil_row_tie rfl ⟨rfl, rfl⟩ (by kernel_rfl) rfl
    (fun f fn hf hfn => by
      obtain rfl : f = 7 := Option.some.inj ((show Tryd.prog.funcNamed "amnesia/amnesialaw22.TapeNil" = some 7 by kernel_rfl).symm.trans hf) |>.symm
      obtain rfl : fn = Tryd.f7 := (Option.some.inj (Tryd.func7.symm.trans hfn)).symm
      exact ⟨by kernel_rfl, fun j t ht => by
        rw [Tryd.params7] at ht
        have hm : t ∈ [] := by simpa using Array.mem_of_getElem? ht
        have hall : ([].all fun u => !Tryd.prog.wantsStandIn u) = true := by kernel_rfl
        exact (show Tryd.prog.wantsStandIn t = false by simpa using List.all_eq_true.1 hall t hm)⟩)
    (by kernel_rfl)
#print axioms tapeNil_proved
end Go.Proofs.YtfpmnhmdphaceaaDoor
