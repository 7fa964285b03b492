/- The law NetworkFor holds of every argument; no conditions. -/
import Derived.Test.YtmgcmgfjaimlnaaNetArgs
import Derived.Test.YtmgcmgfjaimlnaaNet20
import Derived.Test.YtmgcmgfjaimlnaaRows
namespace Go.Proofs.Ytmgcmgfjaimlnaa
open Go.EW
theorem forr_own : ownKnob Try.prog.godebug = none := by kernel_rfl
theorem forr_laid : laidOutB Try.prog = true := by kernel_rfl
theorem forr_walk (W : World) (args : List Value) (h : argsOk W [pksSh, .int .i64] args) : Ok Try.prog 7 args.toArray W (fun v w' => v = .bool true ∧ ∃ S, St W w' S) := by
  obtain ⟨v0, args, rfl, h0, ⟨a0, n0, c0, e0⟩, h⟩ := argsOk_cons h
  obtain ⟨v1, args, rfl, _, ⟨x1, e1⟩, h⟩ := argsOk_cons h
  obtain rfl := argsOk_nil h
  subst e0; subst e1
  obtain ⟨a, n, cap, l, e, hl, hn, hc, hr, hg⟩ := pks_of h0
  simp only [Value.cells, List.cons.injEq, Value.slice.injEq, and_true] at e
  obtain ⟨rfl, rfl, rfl⟩ := e
  have hreach : reachBytes = 140737488351232 := rfl
  exact NetworkFor_ok (St.refl W) (RdIn.rdro hr) hl (good_args hg) (by omega) x1
set_option maxRecDepth 100000 in
theorem forr_lifted (os : Os) (started : os.Started) (H : Type) (enc : TypeId × Value → H) :
    ReturnsInHanded {} Try.checked os 7 .any (Rows.networkForSpec.pre6 enc Try.prog Try.f7 Rows.networkForRow.domain false) (Rows.networkForSpec.post enc Try.prog Try.f7 false true false false) :=
  lifted_true (C := Try.checked) (tb := 4) [pksSh, .int .i64] forr_own started (by kernel_rfl) Try.func7
    (ChangeSpec.witness6 (enc := enc) (C := Try.checked) false ⟨#[], #[.slice none 0 0, .int .i64 0], []⟩ 8 (by kernel_rfl) (by kernel_rfl) (by kernel_rfl) (by kernel_rfl))
    rfl (fun ds h => by match ds, h with | [_, _], _ => rfl) rfl (by kernel_rfl) forr_laid (by kernel_rfl) (by kernel_rfl) forr_walk
theorem networkFor_proved : Rows.NetworkForSaid :=
  OpenClaim.holds_of_wide 7 Try.f7 rfl rfl rfl rfl rfl rfl rfl ⟨rfl, rfl, rfl, rfl, rfl⟩ rfl rfl rfl rfl rfl (by kernel_rfl) Try.func7 (by kernel_rfl)
    (of_decide_eq_true (by kernel_rfl)) (by unfold Func.isWrapper; first | (rw [if_pos (by decide +kernel)]; kernel_rfl) | (rw [if_neg (by decide +kernel)]; exact ⟨rfl, rfl⟩))
    (fun os started H enc _ => forr_lifted os started H enc)
#print axioms networkFor_proved
end Go.Proofs.Ytmgcmgfjaimlnaa
