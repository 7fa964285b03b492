/- The statement TreeOwnSaid; without conditions of our own. -/
import Derived.Test.YtcmmhpkgjcepdaaArgsAll
import Derived.Test.YtcmmhpkgjcepdaaTre41
import Derived.Test.YtcmmhpkgjcepdaaRows
namespace Go.Proofs.Ytcmmhpkgjcepdaa
open Go.EW
theorem town_own : ownKnob Try.prog.godebug = none := by kernel_rfl
theorem town_laid : laidOutB Try.prog = true := by kernel_rfl
theorem town_walk (W : World) (args : List Value) (h : argsOk W [entsSh, entsSh, .int .i64] args) : Ok Try.prog 11 args.toArray W (fun v w' => v = .bool true ∧ ∃ S, St W w' S) := by
  obtain ⟨v0, args, rfl, h0, ⟨a0, n0, k0, e0⟩, h⟩ := argsOk_cons h
  obtain ⟨v1, args, rfl, h1, ⟨a1, n1, k1, e1⟩, h⟩ := argsOk_cons h
  obtain ⟨v2, args, rfl, h2, ⟨x, e2⟩, h⟩ := argsOk_cons h
  obtain rfl := argsOk_nil h
  subst e0; subst e1; subst e2
  have hreach : reachBytes = 140737488351232 := rfl
  obtain ⟨ax, nx, capx, lx, eex, hlx, hcx, hNx, hrx, hox⟩ := ents_of h0
  simp only [Value.cells, List.cons.injEq, Value.slice.injEq, and_true] at eex
  obtain ⟨rfl, rfl, rfl⟩ := eex
  obtain ⟨ay, ny, capy, ly, eey, hly, hcy, hNy, hry, hoy⟩ := ents_of h1
  simp only [Value.cells, List.cons.injEq, Value.slice.injEq, and_true] at eey
  obtain ⟨rfl, rfl, rfl⟩ := eey
  exact TreeOwn_ok (St.refl W) (RdIn.rdro hrx) hlx hcx (by omega) hox (RdIn.rdro hry) hly hcy (by omega) hoy x
set_option maxRecDepth 100000 in
theorem town_lifted (os : Os) (started : os.Started) (H : Type) (enc : TypeId × Value → H) :
    ReturnsInHanded {} Try.checked os 11 .any (Rows.treeOwnSpec.pre6 enc Try.prog Try.f11 Rows.treeOwnRow.domain false) (Rows.treeOwnSpec.post enc Try.prog Try.f11 false true false false) :=
  lifted_true (C := Try.checked) (tb := 4) [entsSh, entsSh, .int .i64] town_own started (by kernel_rfl) Try.func11
    (ChangeSpec.witness6 (enc := enc) (C := Try.checked) false ⟨#[], #[.slice none 0 0, .slice none 0 0, .int .i64 0], []⟩ 8 (by kernel_rfl) (by kernel_rfl) (by kernel_rfl) (by kernel_rfl))
    rfl (fun ds h => by match ds, h with | [_, _, _], _ => rfl) rfl (by kernel_rfl) town_laid (by kernel_rfl) (by kernel_rfl) town_walk
theorem treeOwn_proved : Rows.TreeOwnSaid :=
  OpenClaim.holds_of_wide 11 Try.f11 rfl rfl rfl rfl rfl rfl rfl ⟨rfl, rfl, rfl, rfl, rfl⟩ rfl rfl rfl rfl rfl (by kernel_rfl) Try.func11 (by kernel_rfl)
    (of_decide_eq_true (by kernel_rfl)) (by unfold Func.isWrapper; first | (rw [if_pos (by decide +kernel)]; kernel_rfl) | (rw [if_neg (by decide +kernel)]; exact ⟨rfl, rfl⟩))
    (fun os started H enc _ => town_lifted os started H enc)
#print axioms treeOwn_proved
end Go.Proofs.Ytcmmhpkgjcepdaa
