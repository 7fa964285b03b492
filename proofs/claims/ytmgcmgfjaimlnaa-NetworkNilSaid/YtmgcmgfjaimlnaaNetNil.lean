/- The law NetworkNil holds: a closed statement; no conditions. -/
import Derived.Test.YtmgcmgfjaimlnaaNetArgs
import Derived.Test.YtmgcmgfjaimlnaaNet21
import Derived.Test.YtmgcmgfjaimlnaaRows
namespace Go.Proofs.Ytmgcmgfjaimlnaa
open Go.EW
theorem nil_own : ownKnob Try.prog.godebug = none := by kernel_rfl
theorem nil_laid : laidOutB Try.prog = true := by kernel_rfl
theorem nil_walk (W : World) (args : List Value) (h : argsOk W [] args) : Ok Try.prog 9 args.toArray W (fun v w' => v = .bool true ∧ ∃ S, St W w' S) := by
  obtain rfl := argsOk_nil h
  exact NetworkNil_ok (St.refl W)
set_option maxRecDepth 100000 in
theorem nil_lifted (os : Os) (started : os.Started) (H : Type) (enc : TypeId × Value → H) :
    ReturnsInHanded {} Try.checked os 9 .any (Rows.networkNilSpec.pre6 enc Try.prog Try.f9 Rows.networkNilRow.domain false) (Rows.networkNilSpec.post enc Try.prog Try.f9 false true false false) :=
  lifted_true (C := Try.checked) (tb := 4) [] nil_own started (by kernel_rfl) Try.func9
    (ChangeSpec.witness6 (enc := enc) (C := Try.checked) false ⟨#[], #[], []⟩ 8 (by kernel_rfl) (by kernel_rfl) (by kernel_rfl) (by kernel_rfl))
    rfl (fun ds h => by match ds, h with | [], _ => rfl) rfl (by kernel_rfl) nil_laid (by kernel_rfl) (by kernel_rfl) nil_walk
theorem networkNil_proved : Rows.NetworkNilSaid :=
  OpenClaim.holds_of_wide 9 Try.f9 rfl rfl rfl rfl rfl rfl rfl ⟨rfl, rfl, rfl, rfl, rfl⟩ rfl rfl rfl rfl rfl (by kernel_rfl) Try.func9 (by kernel_rfl)
    (of_decide_eq_true (by kernel_rfl)) (by unfold Func.isWrapper; first | (rw [if_pos (by decide +kernel)]; kernel_rfl) | (rw [if_neg (by decide +kernel)]; exact ⟨rfl, rfl⟩))
    (fun os started H enc _ => nil_lifted os started H enc)
#print axioms networkNil_proved
end Go.Proofs.Ytmgcmgfjaimlnaa
