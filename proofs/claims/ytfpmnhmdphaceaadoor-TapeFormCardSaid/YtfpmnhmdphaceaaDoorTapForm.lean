/- The statement TapeFormCardSaid; without conditions of our own. -/
import Derived.Test.YtfpmnhmdphaceaaDoorTap34
import Derived.Test.YtfpmnhmdphaceaaDoorTapLaid
import Derived.Test.YtfpmnhmdphaceaaDoorTie
import Derived.Test.YtfpmnhmdphaceaaDoorCards
import Derived.SevenTiedAt
namespace Go.Proofs.YtfpmnhmdphaceaaDoor
open Go.EW
theorem frm_walk (W : World) (args : List Value) (hL : laidMetH Tryd.prog nibD W) (h : argsOk W [bytesSh, bytesSh] args) : Ok Tryd.prog 4 args.toArray W (fun v w' => v = .bool true ∧ ∃ S, St W w' S) := by
  obtain ⟨v0, args, rfl, h0, ⟨a0, n0, k0, e0⟩, h⟩ := argsOk_cons h
  obtain ⟨v1, args, rfl, h1, ⟨a1, n1, k1, e1⟩, h⟩ := argsOk_cons h
  obtain rfl := argsOk_nil h
  subst e0; subst e1
  have hreach : reachBytes = 140737488351232 := rfl
  obtain ⟨a, n, cap, bs, q, hl, hc, hN, hr⟩ := bytes_of h0
  simp only [Value.cells, List.cons.injEq, Value.slice.injEq, and_true] at q
  obtain ⟨rfl, rfl, rfl⟩ := q
  obtain ⟨a2, n2, cap2, bs2, q, hl2, hc2, hN2, hr2⟩ := bytes_of h1
  simp only [Value.cells, List.cons.injEq, Value.slice.injEq, and_true] at q
  obtain ⟨rfl, rfl, rfl⟩ := q
  exact TapeForm_ok (nib_of_laid hL) (St.refl W) (RdIn.rdro hr) hl (by omega) (by omega) (RdIn.rdro hr2) hl2 (by omega) (by omega)
set_option maxRecDepth 100000 in
theorem frm_lifted (os : Os) (started : os.Started) (H : Type) (enc : TypeId × Value → H) :
    ReturnsInHanded {} Tryd.checked os 4 .any (fun w args => (Rows.tapeFormSpec.pre enc Tryd.prog Tryd.f4 [] false w args ∧ laidMetH Tryd.prog nibD w) ∧ sizedMet enc Tryd.prog Tryd.f4 (OpenSpec.ofChange Rows.tapeFormSpec) false w args) (Rows.tapeFormSpec.post enc Tryd.prog Tryd.f4 false true false false) :=
  lifted_laid (C := Tryd.checked) (tb := 4) [bytesSh, bytesSh] tap_own started (by kernel_rfl) Tryd.func4
    (ChangeSpec.witness_shaped (enc := enc) (C := Tryd.checked) (os := os) (X := fun w _ => laidMetH Tryd.prog nibD w) false (World.doorLaid Tryd.prog 400 os) #[.slice none 0 0, .slice none 0 0] 8 rfl (World.shaped_of_RefB (by kernel_rfl) (by kernel_rfl)) (by kernel_rfl) (by kernel_rfl) (by kernel_rfl) (door_met os _))
    rfl (fun ds h => by match ds, h with | [_, _], _ => rfl) rfl (by kernel_rfl) tap_laid (by kernel_rfl) (by kernel_rfl) frm_walk
theorem tapeForm_row : Rows.TapeFormSaid :=
  OpenClaim.holds_of_wide 4 Tryd.f4 rfl rfl rfl rfl rfl rfl rfl ⟨rfl, rfl, rfl, rfl, rfl⟩ rfl rfl rfl rfl rfl (by kernel_rfl) Tryd.func4 (by kernel_rfl)
    (of_decide_eq_true (by kernel_rfl)) (by unfold Func.isWrapper; first | (rw [if_pos (by decide +kernel)]; kernel_rfl) | (rw [if_neg (by decide +kernel)]; exact ⟨rfl, rfl⟩))
    (fun os started H enc _ => frm_lifted os started H enc)
theorem tapeForm_proved : Rows.TapeFormCardSaid :=
  Claim7.holds_tied_plain_at .later [] [.data] true (true, "9192e3ffcfef51d96e1515d981582076e87353550fca6c0bf38a903a1ec79fbb") false
    tapeForm_row (fun _ h => by cases h) (by kernel_rfl) (fun _ h => by cases h) tapeForm_row_tie rfl ⟨rfl, rfl⟩ (by kernel_rfl) rfl
    (fun f fn hf hfn => by
      obtain rfl : f = 4 := Option.some.inj ((show Tryd.prog.funcNamed "amnesia/amnesialaw22.TapeForm" = some 4 by kernel_rfl).symm.trans hf) |>.symm
      obtain rfl : fn = Tryd.f4 := (Option.some.inj (Tryd.func4.symm.trans hfn)).symm
      exact ⟨by kernel_rfl, fun j t ht => by
        rw [Tryd.params4] at ht
        have hm : t ∈ [28, 28] := by simpa using Array.mem_of_getElem? ht
        have hall : ([28, 28].all fun u => !Tryd.prog.wantsStandIn u) = true := by kernel_rfl
        exact (show Tryd.prog.wantsStandIn t = false by simpa using List.all_eq_true.1 hall t hm)⟩)
    (by kernel_rfl)
#print axioms tapeForm_proved
end Go.Proofs.YtfpmnhmdphaceaaDoor
