/- The statement TreeNilSaid; without conditions of our own. -/
import Derived.Test.YtcmmhpkgjcepdaaTreArgs2
import Derived.Test.YtcmmhpkgjcepdaaTre38
import Derived.Test.YtcmmhpkgjcepdaaRows
namespace Go.Proofs.Ytcmmhpkgjcepdaa
open Go.EW
theorem tnil_own : ownKnob Try.prog.godebug = none := by kernel_rfl
theorem tnil_laid : laidOutB Try.prog = true := by kernel_rfl
theorem tnil_walk (W : World) (args : List Value) (h : argsOk W [] args) : Ok Try.prog 12 args.toArray W (fun v w' => v = .bool true ∧ ∃ S, St W w' S) := by
  obtain rfl := argsOk_nil h
  exact TreeNil_ok (St.refl W)
set_option maxRecDepth 100000 in
theorem tnil_lifted (os : Os) (started : os.Started) (H : Type) (enc : TypeId × Value → H) :
    ReturnsInHanded {} Try.checked os 12 .any (Rows.treeNilSpec.pre6 enc Try.prog Try.f12 Rows.treeNilRow.domain false) (Rows.treeNilSpec.post enc Try.prog Try.f12 false true false false) :=
  lifted_true (C := Try.checked) (tb := 4) [] tnil_own started (by kernel_rfl) Try.func12
    (ChangeSpec.witness6 (enc := enc) (C := Try.checked) false ⟨#[], #[], []⟩ 8 (by kernel_rfl) (by kernel_rfl) (by kernel_rfl) (by kernel_rfl))
    rfl (fun ds h => by match ds, h with | [], _ => rfl) rfl (by kernel_rfl) tnil_laid (by kernel_rfl) (by kernel_rfl) tnil_walk
theorem treeNil_proved : Rows.TreeNilSaid :=
  OpenClaim.holds_of_wide 12 Try.f12 rfl rfl rfl rfl rfl rfl rfl ⟨rfl, rfl, rfl, rfl, rfl⟩ rfl rfl rfl rfl rfl (by kernel_rfl) Try.func12 (by kernel_rfl)
    (of_decide_eq_true (by kernel_rfl)) (by unfold Func.isWrapper; first | (rw [if_pos (by decide +kernel)]; kernel_rfl) | (rw [if_neg (by decide +kernel)]; exact ⟨rfl, rfl⟩))
    (fun os started H enc _ => tnil_lifted os started H enc)
#print axioms treeNil_proved
end Go.Proofs.Ytcmmhpkgjcepdaa
