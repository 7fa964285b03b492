/- The statement TreePathsSaid; without conditions of our own. -/
import Derived.Test.YtcmmhpkgjcepdaaTreArgs2
import Derived.Test.YtcmmhpkgjcepdaaTre26
import Derived.Test.YtcmmhpkgjcepdaaRows
namespace Go.Proofs.Ytcmmhpkgjcepdaa
open Go.EW
theorem paths_own : ownKnob Try.prog.godebug = none := by kernel_rfl
theorem paths_laid : laidOutB Try.prog = true := by kernel_rfl
theorem paths_walk (W : World) (args : List Value) (h : argsOk W [entsSh, .int .i64, .int .i64] args) : Ok Try.prog 8 args.toArray W (fun v w' => v = .bool true ∧ ∃ S, St W w' S) := by
  obtain ⟨v0, args, rfl, h0, ⟨a0, n0, k0, e0⟩, h⟩ := argsOk_cons h
  obtain ⟨v1, args, rfl, h1, ⟨x, e1⟩, h⟩ := argsOk_cons h
  obtain ⟨v2, args, rfl, h2, ⟨y, e2⟩, h⟩ := argsOk_cons h
  obtain rfl := argsOk_nil h
  subst e0; subst e1; subst e2
  have hreach : reachBytes = 140737488351232 := rfl
  obtain ⟨a, n, cap, l, e, hl, hc, hN, hr, ho⟩ := ents_of h0
  simp only [Value.cells, List.cons.injEq, Value.slice.injEq, and_true] at e
  obtain ⟨rfl, rfl, rfl⟩ := e
  exact TreePaths_ok (St.refl W) (RdIn.rdro hr) hl hc (by omega) ho x y
set_option maxRecDepth 100000 in
theorem paths_lifted (os : Os) (started : os.Started) (H : Type) (enc : TypeId × Value → H) :
    ReturnsInHanded {} Try.checked os 8 .any (Rows.treePathsSpec.pre6 enc Try.prog Try.f8 Rows.treePathsRow.domain false) (Rows.treePathsSpec.post enc Try.prog Try.f8 false true false false) :=
  lifted_true (C := Try.checked) (tb := 4) [entsSh, .int .i64, .int .i64] paths_own started (by kernel_rfl) Try.func8
    (ChangeSpec.witness6 (enc := enc) (C := Try.checked) false ⟨#[], #[.slice none 0 0, .int .i64 0, .int .i64 0], []⟩ 8 (by kernel_rfl) (by kernel_rfl) (by kernel_rfl) (by kernel_rfl))
    rfl (fun ds h => by match ds, h with | [_, _, _], _ => rfl) rfl (by kernel_rfl) paths_laid (by kernel_rfl) (by kernel_rfl) paths_walk
theorem treePaths_proved : Rows.TreePathsSaid :=
  OpenClaim.holds_of_wide 8 Try.f8 rfl rfl rfl rfl rfl rfl rfl ⟨rfl, rfl, rfl, rfl, rfl⟩ rfl rfl rfl rfl rfl (by kernel_rfl) Try.func8 (by kernel_rfl)
    (of_decide_eq_true (by kernel_rfl)) (by unfold Func.isWrapper; first | (rw [if_pos (by decide +kernel)]; kernel_rfl) | (rw [if_neg (by decide +kernel)]; exact ⟨rfl, rfl⟩))
    (fun os started H enc _ => paths_lifted os started H enc)
#print axioms treePaths_proved
end Go.Proofs.Ytcmmhpkgjcepdaa
