/- The statement TreeJoinsSaid; without conditions of our own. -/
import Derived.Test.YtcmmhpkgjcepdaaTreArgs2
import Derived.Test.YtcmmhpkgjcepdaaTre31
import Derived.Test.YtcmmhpkgjcepdaaRows
namespace Go.Proofs.Ytcmmhpkgjcepdaa
open Go.EW
theorem joins_own : ownKnob Try.prog.godebug = none := by kernel_rfl
theorem joins_laid : laidOutB Try.prog = true := by kernel_rfl
theorem joins_walk (W : World) (args : List Value) (h : argsOk W [entsSh, entsSh, pathSh, .bool] args) : Ok Try.prog 10 args.toArray W (fun v w' => v = .bool true ∧ ∃ S, St W w' S) := by
  obtain ⟨v0, args, rfl, h0, ⟨a0, n0, k0, e0⟩, h⟩ := argsOk_cons h
  obtain ⟨v1, args, rfl, h1, ⟨a1, n1, k1, e1⟩, h⟩ := argsOk_cons h
  obtain ⟨v2, args, rfl, h2, ⟨a2, n2, k2, e2⟩, h⟩ := argsOk_cons h
  obtain ⟨v3, args, rfl, h3, ⟨mi, e3⟩, h⟩ := argsOk_cons h
  obtain rfl := argsOk_nil h
  subst e0; subst e1; subst e2; subst e3
  have hreach : reachBytes = 140737488351232 := rfl
  obtain ⟨ax, nx, capx, lx, eex, hlx, hcx, hNx, hrx, hox⟩ := ents_of h0
  simp only [Value.cells, List.cons.injEq, Value.slice.injEq, and_true] at eex
  obtain ⟨rfl, rfl, rfl⟩ := eex
  obtain ⟨ay, ny, capy, ly, eey, hly, hcy, hNy, hry, hoy⟩ := ents_of h1
  simp only [Value.cells, List.cons.injEq, Value.slice.injEq, and_true] at eey
  obtain ⟨rfl, rfl, rfl⟩ := eey
  obtain ⟨a, n, cap, l, e, hl, hc, hN, hr, ho⟩ := path_of h2
  simp only [Value.cells, List.cons.injEq, Value.slice.injEq, and_true] at e
  obtain ⟨rfl, rfl, rfl⟩ := e
  subst hl
  exact TreeJoins_ok (St.refl W) (RdIn.rdro hrx) (RdIn.rdro hry) hlx hly hcx hcy (by omega) (by omega) hox hoy ho (RdIn.rdro hr) hc (by omega) mi
set_option maxRecDepth 100000 in
theorem joins_lifted (os : Os) (started : os.Started) (H : Type) (enc : TypeId × Value → H) :
    ReturnsInHanded {} Try.checked os 10 .any (Rows.treeJoinsSpec.pre6 enc Try.prog Try.f10 Rows.treeJoinsRow.domain false) (Rows.treeJoinsSpec.post enc Try.prog Try.f10 false true false false) :=
  lifted_true (C := Try.checked) (tb := 4) [entsSh, entsSh, pathSh, .bool] joins_own started (by kernel_rfl) Try.func10
    (ChangeSpec.witness6 (enc := enc) (C := Try.checked) false ⟨#[], #[.slice none 0 0, .slice none 0 0, .slice none 0 0, .bool false], []⟩ 8 (by kernel_rfl) (by kernel_rfl) (by kernel_rfl) (by kernel_rfl))
    rfl (fun ds h => by match ds, h with | [_, _, _, _], _ => rfl) rfl (by kernel_rfl) joins_laid (by kernel_rfl) (by kernel_rfl) joins_walk
theorem treeJoins_proved : Rows.TreeJoinsSaid :=
  OpenClaim.holds_of_wide 10 Try.f10 rfl rfl rfl rfl rfl rfl rfl ⟨rfl, rfl, rfl, rfl, rfl⟩ rfl rfl rfl rfl rfl (by kernel_rfl) Try.func10 (by kernel_rfl)
    (of_decide_eq_true (by kernel_rfl)) (by unfold Func.isWrapper; first | (rw [if_pos (by decide +kernel)]; kernel_rfl) | (rw [if_neg (by decide +kernel)]; exact ⟨rfl, rfl⟩))
    (fun os started H enc _ => joins_lifted os started H enc)
#print axioms treeJoins_proved
end Go.Proofs.Ytcmmhpkgjcepdaa
