/- The statement TreeExtendsSaid; without conditions of our own. -/
import Derived.Test.YtcmmhpkgjcepdaaTreArgs2
import Derived.Test.YtcmmhpkgjcepdaaTre22
import Derived.Test.YtcmmhpkgjcepdaaRows
namespace Go.Proofs.Ytcmmhpkgjcepdaa
open Go.EW
theorem exts_own : ownKnob Try.prog.godebug = none := by kernel_rfl
theorem exts_laid : laidOutB Try.prog = true := by kernel_rfl
theorem exts_walk (W : World) (args : List Value) (h : argsOk W [hashSh, .int .i64, hashSh, .int .i64, pathSh] args) : Ok Try.prog 5 args.toArray W (fun v w' => v = .bool true ∧ ∃ S, St W w' S) := by
  obtain ⟨v0, args, rfl, h0, ⟨c0, e0⟩, h⟩ := argsOk_cons h
  obtain ⟨v1, args, rfl, h1, ⟨x, e1⟩, h⟩ := argsOk_cons h
  obtain ⟨v2, args, rfl, h2, ⟨c2, e2⟩, h⟩ := argsOk_cons h
  obtain ⟨v3, args, rfl, h3, ⟨y, e3⟩, h⟩ := argsOk_cons h
  obtain ⟨v4, args, rfl, h4, ⟨a4, n4, c4, e4⟩, h⟩ := argsOk_cons h
  obtain rfl := argsOk_nil h
  subst e0; subst e1; subst e2; subst e3; subst e4
  have hreach : reachBytes = 140737488351232 := rfl
  obtain ⟨od, rfl, hodl⟩ := hash_val h0
  obtain ⟨hd, rfl, hhdl⟩ := hash_val h2
  obtain ⟨a, n, cap, l, e, hl, hc, hN, hr, ho⟩ := path_of h4
  simp only [Value.cells, List.cons.injEq, Value.slice.injEq, and_true] at e
  obtain ⟨rfl, rfl, rfl⟩ := e
  subst hl
  exact TreeExtends_ok (St.refl W) hodl hhdl x y (int_le h3).2 ho (RdIn.rdro hr) hc (by omega)
set_option maxRecDepth 100000 in
theorem exts_lifted (os : Os) (started : os.Started) (H : Type) (enc : TypeId × Value → H) :
    ReturnsInHanded {} Try.checked os 5 .any (Rows.treeExtendsSpec.pre6 enc Try.prog Try.f5 Rows.treeExtendsRow.domain false) (Rows.treeExtendsSpec.post enc Try.prog Try.f5 false true false false) :=
  lifted_true (C := Try.checked) (tb := 4) [hashSh, .int .i64, hashSh, .int .i64, pathSh] exts_own started (by kernel_rfl) Try.func5
    (ChangeSpec.witness6 (enc := enc) (C := Try.checked) false ⟨#[], #[zhV, .int .i64 0, zhV, .int .i64 0, .slice none 0 0], []⟩ 8 (by kernel_rfl) (by kernel_rfl) (by kernel_rfl) (by kernel_rfl))
    rfl (fun ds h => by match ds, h with | [_, _, _, _, _], _ => rfl) rfl (by kernel_rfl) exts_laid (by kernel_rfl) (by kernel_rfl) exts_walk
theorem treeExtends_proved : Rows.TreeExtendsSaid :=
  OpenClaim.holds_of_wide 5 Try.f5 rfl rfl rfl rfl rfl rfl rfl ⟨rfl, rfl, rfl, rfl, rfl⟩ rfl rfl rfl rfl rfl (by kernel_rfl) Try.func5 (by kernel_rfl)
    (of_decide_eq_true (by kernel_rfl)) (by unfold Func.isWrapper; first | (rw [if_pos (by decide +kernel)]; kernel_rfl) | (rw [if_neg (by decide +kernel)]; exact ⟨rfl, rfl⟩))
    (fun os started H enc _ => exts_lifted os started H enc)
#print axioms treeExtends_proved
end Go.Proofs.Ytcmmhpkgjcepdaa
