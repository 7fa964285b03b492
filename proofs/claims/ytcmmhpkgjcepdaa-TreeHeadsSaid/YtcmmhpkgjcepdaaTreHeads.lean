/- The statement TreeHeadsSaid; without conditions of our own. -/
import Derived.Test.YtcmmhpkgjcepdaaTreArgs2
import Derived.Test.YtcmmhpkgjcepdaaTre24
import Derived.Test.YtcmmhpkgjcepdaaRows
namespace Go.Proofs.Ytcmmhpkgjcepdaa
open Go.EW
theorem heads_own : ownKnob Try.prog.godebug = none := by kernel_rfl
theorem heads_laid : laidOutB Try.prog = true := by kernel_rfl
theorem heads_walk (W : World) (args : List Value) (h : argsOk W [entsSh, hashSh, hashSh, entSh] args) : Ok Try.prog 3 args.toArray W (fun v w' => v = .bool true ∧ ∃ S, St W w' S) := by
  obtain ⟨v0, args, rfl, h0, ⟨a0, n0, k0, e0⟩, h⟩ := argsOk_cons h
  obtain ⟨v1, args, rfl, h1, ⟨c1, e1⟩, h⟩ := argsOk_cons h
  obtain ⟨v2, args, rfl, h2, ⟨c2, e2⟩, h⟩ := argsOk_cons h
  obtain ⟨v3, args, rfl, h3, ⟨c3, e3⟩, h⟩ := argsOk_cons h
  obtain rfl := argsOk_nil h
  subst e0; subst e1; subst e2; subst e3
  have hreach : reachBytes = 140737488351232 := rfl
  obtain ⟨x, rfl, hxl⟩ := hash_val h1
  obtain ⟨y, rfl, hyl⟩ := hash_val h2
  obtain ⟨e, rfl, he⟩ := ent_val h3
  obtain ⟨a, n, cap, l, ee, hl, hc, hN, hr, ho⟩ := ents_of h0
  simp only [Value.cells, List.cons.injEq, Value.slice.injEq, and_true] at ee
  obtain ⟨rfl, rfl, rfl⟩ := ee
  exact TreeHeads_ok (St.refl W) (RdIn.rdro hr) hl hc (by omega) ho hxl hyl e he
set_option maxRecDepth 100000 in
theorem heads_lifted (os : Os) (started : os.Started) (H : Type) (enc : TypeId × Value → H) :
    ReturnsInHanded {} Try.checked os 3 .any (Rows.treeHeadsSpec.pre6 enc Try.prog Try.f3 Rows.treeHeadsRow.domain false) (Rows.treeHeadsSpec.post enc Try.prog Try.f3 false true false false) :=
  lifted_true (C := Try.checked) (tb := 4) [entsSh, hashSh, hashSh, entSh] heads_own started (by kernel_rfl) Try.func3
    (ChangeSpec.witness6 (enc := enc) (C := Try.checked) false ⟨#[], #[.slice none 0 0, zhV, zhV, zeV], []⟩ 8 (by kernel_rfl) (by kernel_rfl) (by kernel_rfl) (by kernel_rfl))
    rfl (fun ds h => by match ds, h with | [_, _, _, _], _ => rfl) rfl (by kernel_rfl) heads_laid (by kernel_rfl) (by kernel_rfl) heads_walk
theorem treeHeads_proved : Rows.TreeHeadsSaid :=
  OpenClaim.holds_of_wide 3 Try.f3 rfl rfl rfl rfl rfl rfl rfl ⟨rfl, rfl, rfl, rfl, rfl⟩ rfl rfl rfl rfl rfl (by kernel_rfl) Try.func3 (by kernel_rfl)
    (of_decide_eq_true (by kernel_rfl)) (by unfold Func.isWrapper; first | (rw [if_pos (by decide +kernel)]; kernel_rfl) | (rw [if_neg (by decide +kernel)]; exact ⟨rfl, rfl⟩))
    (fun os started H enc _ => heads_lifted os started H enc)
#print axioms treeHeads_proved
end Go.Proofs.Ytcmmhpkgjcepdaa
