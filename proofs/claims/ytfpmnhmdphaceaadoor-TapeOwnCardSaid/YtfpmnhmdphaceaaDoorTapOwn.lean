/- The law TapeOwn holds of every argument: its row, and the card that ties it to the program of its seat; no conditions beyond the card's own. -/
import Derived.Test.YtfpmnhmdphaceaaDoorTap57
import Derived.Test.YtfpmnhmdphaceaaDoorTapArgAll
import Derived.Test.YtfpmnhmdphaceaaDoorTapLaid
import Derived.Test.YtfpmnhmdphaceaaDoorTie
import Derived.Test.YtfpmnhmdphaceaaDoorCards
import Derived.SevenTiedAt
namespace Go.Proofs.YtfpmnhmdphaceaaDoor
open Go.EW
theorem own_walk (W : World) (args : List Value) (hL : laidMetH Tryd.prog nibD W) (h : argsOk W [stpSh, evsSh, evsSh] args) : Ok Tryd.prog 10 args.toArray W (fun v w' => v = .bool true ∧ ∃ S, St W w' S) := by
  obtain ⟨v0, args, rfl, h0, ⟨c0, e0⟩, h⟩ := argsOk_cons h
  obtain ⟨v1, args, rfl, h1, ⟨a1, n1, k1, e1⟩, h⟩ := argsOk_cons h
  obtain ⟨v2, args, rfl, h2, ⟨a2, n2, k2, e2⟩, h⟩ := argsOk_cons h
  obtain rfl := argsOk_nil h
  subst e0
  subst e1
  subst e2
  have hreach : reachBytes = 140737488351232 := rfl
  obtain ⟨s0, sa0, sc0, rfl, hso0, hsr0, hsl0⟩ := stp_val h0
  obtain ⟨ea1, en1, ec1, es1, q, hel1, hec1, hecr1, her1, hes1⟩ := evs_of h1
  simp only [Value.cells, List.cons.injEq, Value.slice.injEq, and_true] at q
  obtain ⟨rfl, rfl, rfl⟩ := q
  obtain ⟨ea2, en2, ec2, es2, q, hel2, hec2, hecr2, her2, hes2⟩ := evs_of h2
  simp only [Value.cells, List.cons.injEq, Value.slice.injEq, and_true] at q
  obtain ⟨rfl, rfl, rfl⟩ := q
  by_cases hc : chkS s0 = 0
  · exact TapeOwn_yes (nib_of_laid hL) (St.refl W) s0 hso0 (RdIn.rdro hsr0) (RdIn.rdro her1) hel1 (evs_in (F := []) hes1) (by omega) (RdIn.rdro her2) hel2 (evs_in (F := []) hes2) (by omega) hc
  exact TapeOwn_no (nib_of_laid hL) (St.refl W) s0 hso0 (RdIn.rdro hsr0) (RdIn.rdro her1) hel1 (evs_in (F := []) hes1) (by omega) (RdIn.rdro her2) hel2 (evs_in (F := []) hes2) (by omega) hc
set_option maxRecDepth 100000 in
theorem own_lifted (os : Os) (started : os.Started) (H : Type) (enc : TypeId × Value → H) :
    ReturnsInHanded {} Tryd.checked os 10 .any (fun w args => (Rows.tapeOwnSpec.pre enc Tryd.prog Tryd.f10 [] false w args ∧ laidMetH Tryd.prog nibD w) ∧ sizedMet enc Tryd.prog Tryd.f10 (OpenSpec.ofChange Rows.tapeOwnSpec) false w args) (Rows.tapeOwnSpec.post enc Tryd.prog Tryd.f10 false true false false) :=
  lifted_laid (C := Tryd.checked) (tb := 4) [stpSh, evsSh, evsSh] tap_own started (by kernel_rfl) Tryd.func10
    (ChangeSpec.witness_shaped (enc := enc) (C := Tryd.checked) (os := os) (X := fun w _ => laidMetH Tryd.prog nibD w) false (World.doorLaid Tryd.prog 400 os) #[.agg #[.int .i64 0, .int .i64 0, .int .i64 0, .bool false, .slice none 0 0], .slice none 0 0, .slice none 0 0] 8 rfl (World.shaped_of_RefB (by kernel_rfl) (by kernel_rfl)) (by kernel_rfl) (by kernel_rfl) (by kernel_rfl) (door_met os _))
    rfl (fun ds h => by match ds, h with | [_, _, _], _ => rfl) rfl (by kernel_rfl) tap_laid (by kernel_rfl) (by kernel_rfl) own_walk
theorem tapeOwn_row : Rows.TapeOwnSaid :=
  OpenClaim.holds_of_wide 10 Tryd.f10 rfl rfl rfl rfl rfl rfl rfl ⟨rfl, rfl, rfl, rfl, rfl⟩ rfl rfl rfl rfl rfl (by kernel_rfl) Tryd.func10 (by kernel_rfl)
    (of_decide_eq_true (by kernel_rfl)) (by unfold Func.isWrapper; first | (rw [if_pos (by decide +kernel)]; kernel_rfl) | (rw [if_neg (by decide +kernel)]; exact ⟨rfl, rfl⟩))
    (fun os started H enc _ => own_lifted os started H enc)
theorem tapeOwn_proved : Rows.TapeOwnCardSaid :=
  Claim7.holds_tied_plain_at .later [] [.data] true (true, "9192e3ffcfef51d96e1515d981582076e87353550fca6c0bf38a903a1ec79fbb") false
    tapeOwn_row (fun _ h => by cases h) (by kernel_rfl) (fun _ h => by cases h) tapeOwn_row_tie rfl ⟨rfl, rfl⟩ (by kernel_rfl) rfl
    (fun f fn hf hfn => by
      obtain rfl : f = 10 := Option.some.inj ((show Tryd.prog.funcNamed "amnesia/amnesialaw22.TapeOwn" = some 10 by kernel_rfl).symm.trans hf) |>.symm
      obtain rfl : fn = Tryd.f10 := (Option.some.inj (Tryd.func10.symm.trans hfn)).symm
      exact ⟨by kernel_rfl, fun j t ht => by
        rw [Tryd.params10] at ht
        have hm : t ∈ [56, 57, 57] := by simpa using Array.mem_of_getElem? ht
        have hall : ([56, 57, 57].all fun u => !Tryd.prog.wantsStandIn u) = true := by kernel_rfl
        exact (show Tryd.prog.wantsStandIn t = false by simpa using List.all_eq_true.1 hall t hm)⟩)
    (by kernel_rfl)
#print axioms tapeOwn_proved
end Go.Proofs.YtfpmnhmdphaceaaDoor
