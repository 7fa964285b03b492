/- The statement TreeSameSaid: one length and one head are the same logs, or two unlike texts have one digest; without conditions of our own. -/
import Derived.Test.YtcmmhpkgjcepdaaTreArgs
import Derived.Test.YtcmmhpkgjcepdaaTre12
import Derived.Test.YtcmmhpkgjcepdaaRows
namespace Go.Proofs.Ytcmmhpkgjcepdaa
open Go.EW
theorem same_own : ownKnob Try.prog.godebug = none := by kernel_rfl
theorem same_laid : laidOutB Try.prog = true := by kernel_rfl
theorem same_walk (W : World) (args : List Value) (h : argsOk W [entsSh, entsSh] args) : Ok Try.prog 7 args.toArray W (fun v w' => v = .bool true ∧ ∃ S, St W w' S) := by
  obtain ⟨v0, args, rfl, h0, ⟨a0, n0, c0, e0⟩, h⟩ := argsOk_cons h
  obtain ⟨v1, args, rfl, h1, ⟨a1, n1, c1, e1⟩, h⟩ := argsOk_cons h
  obtain rfl := argsOk_nil h
  subst e0; subst e1
  have hreach : reachBytes = 140737488351232 := rfl
  obtain ⟨a, n, cap, l, e, hl, hc, hN, hr, ho⟩ := ents_of h0
  simp only [Value.cells, List.cons.injEq, Value.slice.injEq, and_true] at e
  obtain ⟨rfl, rfl, rfl⟩ := e
  obtain ⟨a', n', cap', l', e, hl', hc', hN', hr', ho'⟩ := ents_of h1
  simp only [Value.cells, List.cons.injEq, Value.slice.injEq, and_true] at e
  obtain ⟨rfl, rfl, rfl⟩ := e
  exact TreeSame_ok (St.refl W) (RdIn.rdro hr) (RdIn.rdro hr') hl hl' hc hc' (by omega) (by omega) ho ho'
set_option maxRecDepth 100000 in
theorem same_lifted (os : Os) (started : os.Started) (H : Type) (enc : TypeId × Value → H) :
    ReturnsInHanded {} Try.checked os 7 .any (Rows.treeSameSpec.pre6 enc Try.prog Try.f7 Rows.treeSameRow.domain false) (Rows.treeSameSpec.post enc Try.prog Try.f7 false true false false) :=
  lifted_true (C := Try.checked) (tb := 4) [entsSh, entsSh] same_own started (by kernel_rfl) Try.func7
    (ChangeSpec.witness6 (enc := enc) (C := Try.checked) false ⟨#[], #[.slice none 0 0, .slice none 0 0], []⟩ 8 (by kernel_rfl) (by kernel_rfl) (by kernel_rfl) (by kernel_rfl))
    rfl (fun ds h => by match ds, h with | [_, _], _ => rfl) rfl (by kernel_rfl) same_laid (by kernel_rfl) (by kernel_rfl) same_walk
theorem treeSame_proved : Rows.TreeSameSaid :=
  OpenClaim.holds_of_wide 7 Try.f7 rfl rfl rfl rfl rfl rfl rfl ⟨rfl, rfl, rfl, rfl, rfl⟩ rfl rfl rfl rfl rfl (by kernel_rfl) Try.func7 (by kernel_rfl)
    (of_decide_eq_true (by kernel_rfl)) (by unfold Func.isWrapper; first | (rw [if_pos (by decide +kernel)]; kernel_rfl) | (rw [if_neg (by decide +kernel)]; exact ⟨rfl, rfl⟩))
    (fun os started H enc _ => same_lifted os started H enc)
#print axioms treeSame_proved
end Go.Proofs.Ytcmmhpkgjcepdaa
