/- The law TapeSeeks holds of every argument: its row, and the card that ties it to the program of its seat; no conditions beyond the card's own. -/
import Derived.Test.YtfpmnhmdphaceaaDoorTap44
import Derived.Test.YtfpmnhmdphaceaaDoorTapArgAll
import Derived.Test.YtfpmnhmdphaceaaDoorTapLaid
import Derived.Test.YtfpmnhmdphaceaaDoorTie
import Derived.Test.YtfpmnhmdphaceaaDoorCards
import Derived.SevenTiedAt
namespace Go.Proofs.YtfpmnhmdphaceaaDoor
open Go.EW
theorem sks_walk (W : World) (args : List Value) (hL : laidMetH Tryd.prog nibD W) (h : argsOk W [bytesSh, .int .i64, .int .i64] args) : Ok Tryd.prog 8 args.toArray W (fun v w' => v = .bool true ∧ ∃ S, St W w' S) := by
  obtain ⟨v0, args, rfl, h0, ⟨a0, n0, k0, e0⟩, h⟩ := argsOk_cons h
  obtain ⟨v1, args, rfl, h1, ⟨n1, e1⟩, h⟩ := argsOk_cons h
  obtain ⟨v2, args, rfl, h2, ⟨n2, e2⟩, h⟩ := argsOk_cons h
  obtain rfl := argsOk_nil h
  subst e0
  subst e1
  subst e2
  have hreach : reachBytes = 140737488351232 := rfl
  obtain ⟨ba0, bn0, bc0, bs0, q, hbl0, hbc0, hbN0, hbr0⟩ := bytes_of h0
  simp only [Value.cells, List.cons.injEq, Value.slice.injEq, and_true] at q
  obtain ⟨rfl, rfl, rfl⟩ := q
  obtain ⟨x1, q, hw1⟩ := h1
  simp only [Value.cells, List.cons.injEq, Value.int.injEq, and_true, true_and] at q
  subst q
  have hx1 := i64_wf hw1
  obtain ⟨x2, q, hw2⟩ := h2
  simp only [Value.cells, List.cons.injEq, Value.int.injEq, and_true, true_and] at q
  subst q
  have hx2 := i64_wf hw2
  exact TapeSeeks_ok (nib_of_laid hL) (St.refl W) (RdIn.rdro hbr0) hbl0 (by omega) (by omega) hx1 hx2
set_option maxRecDepth 100000 in
theorem sks_lifted (os : Os) (started : os.Started) (H : Type) (enc : TypeId × Value → H) :
    ReturnsInHanded {} Tryd.checked os 8 .any (fun w args => (Rows.tapeSeeksSpec.pre enc Tryd.prog Tryd.f8 [] false w args ∧ laidMetH Tryd.prog nibD w) ∧ sizedMet enc Tryd.prog Tryd.f8 (OpenSpec.ofChange Rows.tapeSeeksSpec) false w args) (Rows.tapeSeeksSpec.post enc Tryd.prog Tryd.f8 false true false false) :=
  lifted_laid (C := Tryd.checked) (tb := 4) [bytesSh, .int .i64, .int .i64] tap_own started (by kernel_rfl) Tryd.func8
    (ChangeSpec.witness_shaped (enc := enc) (C := Tryd.checked) (os := os) (X := fun w _ => laidMetH Tryd.prog nibD w) false (World.doorLaid Tryd.prog 400 os) #[.slice none 0 0, .int .i64 0, .int .i64 0] 8 rfl (World.shaped_of_RefB (by kernel_rfl) (by kernel_rfl)) (by kernel_rfl) (by kernel_rfl) (by kernel_rfl) (door_met os _))
    rfl (fun ds h => by match ds, h with | [_, _, _], _ => rfl) rfl (by kernel_rfl) tap_laid (by kernel_rfl) (by kernel_rfl) sks_walk
theorem tapeSeeks_row : Rows.TapeSeeksSaid :=
  OpenClaim.holds_of_wide 8 Tryd.f8 rfl rfl rfl rfl rfl rfl rfl ⟨rfl, rfl, rfl, rfl, rfl⟩ rfl rfl rfl rfl rfl (by kernel_rfl) Tryd.func8 (by kernel_rfl)
    (of_decide_eq_true (by kernel_rfl)) (by unfold Func.isWrapper; first | (rw [if_pos (by decide +kernel)]; kernel_rfl) | (rw [if_neg (by decide +kernel)]; exact ⟨rfl, rfl⟩))
    (fun os started H enc _ => sks_lifted os started H enc)
theorem tapeSeeks_proved : Rows.TapeSeeksCardSaid :=
  Claim7.holds_tied_plain_at .later [] [.data] true (true, "9192e3ffcfef51d96e1515d981582076e87353550fca6c0bf38a903a1ec79fbb") false
    tapeSeeks_row (fun _ h => by cases h) (by kernel_rfl) (fun _ h => by cases h) tapeSeeks_row_tie rfl ⟨rfl, rfl⟩ (by kernel_rfl) rfl
    (fun f fn hf hfn => by
      obtain rfl : f = 8 := Option.some.inj ((show Tryd.prog.funcNamed "amnesia/amnesialaw22.TapeSeeks" = some 8 by kernel_rfl).symm.trans hf) |>.symm
      obtain rfl : fn = Tryd.f8 := (Option.some.inj (Tryd.func8.symm.trans hfn)).symm
      exact ⟨by kernel_rfl, fun j t ht => by
        rw [Tryd.params8] at ht
        have hm : t ∈ [28, 3, 3] := by simpa using Array.mem_of_getElem? ht
        have hall : ([28, 3, 3].all fun u => !Tryd.prog.wantsStandIn u) = true := by kernel_rfl
        exact (show Tryd.prog.wantsStandIn t = false by simpa using List.all_eq_true.1 hall t hm)⟩)
    (by kernel_rfl)
#print axioms tapeSeeks_proved
end Go.Proofs.YtfpmnhmdphaceaaDoor
