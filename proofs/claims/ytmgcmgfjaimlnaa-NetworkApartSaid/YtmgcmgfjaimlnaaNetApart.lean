/- The statement NetworkApartSaid: two nets have nothing in common; without conditions of our own. -/
import Derived.Test.YtmgcmgfjaimlnaaNetOps
import Derived.Test.YtmgcmgfjaimlnaaRows
namespace Go.Proofs.Ytmgcmgfjaimlnaa
open Go.EW
theorem apart_own : ownKnob Try.prog.godebug = none := by kernel_rfl
theorem apart_laid : laidOutB Try.prog = true := by kernel_rfl
theorem apart_walk (W : World) (args : List Value) (h : argsOk W [pksSh, opsSh] args) : Ok Try.prog 4 args.toArray W (fun v w' => v = .bool true ∧ ∃ S, St W w' S) := by
  obtain ⟨v0, args, rfl, h0, ⟨a0, n0, c0, e0⟩, h⟩ := argsOk_cons h
  obtain ⟨v1, args, rfl, h1, ⟨a1, n1, c1, e1⟩, h⟩ := argsOk_cons h
  obtain rfl := argsOk_nil h
  subst e0; subst e1
  obtain ⟨a, n, cap, l, e, hl, hn, hc, hr, hg⟩ := pks_of h0
  obtain ⟨oa, on, oc, xs, e', hl', hn', hc', hr', hg'⟩ := ops_of h1
  simp only [Value.cells, List.cons.injEq, Value.slice.injEq, and_true] at e e'
  obtain ⟨rfl, rfl, rfl⟩ := e
  obtain ⟨rfl, rfl, rfl⟩ := e'
  have hreach : reachBytes = 140737488351232 := rfl
  exact NetworkApart_ok (St.refl W) (RdIn.rdro hr) hl (good_args hg) (by omega) (RdIn.rdro hr') hl' (opgood_args hg') (by omega)
set_option maxRecDepth 100000 in
theorem apart_lifted (os : Os) (started : os.Started) (H : Type) (enc : TypeId × Value → H) :
    ReturnsInHanded {} Try.checked os 4 .any (Rows.networkApartSpec.pre6 enc Try.prog Try.f4 Rows.networkApartRow.domain false) (Rows.networkApartSpec.post enc Try.prog Try.f4 false true false false) :=
  lifted_true (C := Try.checked) (tb := 4) [pksSh, opsSh] apart_own started (by kernel_rfl) Try.func4
    (ChangeSpec.witness6 (enc := enc) (C := Try.checked) false ⟨#[], #[.slice none 0 0, .slice none 0 0], []⟩ 8 (by kernel_rfl) (by kernel_rfl) (by kernel_rfl) (by kernel_rfl))
    rfl (fun ds h => by match ds, h with | [_, _], _ => rfl) rfl (by kernel_rfl) apart_laid (by kernel_rfl) (by kernel_rfl) apart_walk
theorem networkApart_proved : Rows.NetworkApartSaid :=
  OpenClaim.holds_of_wide 4 Try.f4 rfl rfl rfl rfl rfl rfl rfl ⟨rfl, rfl, rfl, rfl, rfl⟩ rfl rfl rfl rfl rfl (by kernel_rfl) Try.func4 (by kernel_rfl)
    (of_decide_eq_true (by kernel_rfl)) (by unfold Func.isWrapper; first | (rw [if_pos (by decide +kernel)]; kernel_rfl) | (rw [if_neg (by decide +kernel)]; exact ⟨rfl, rfl⟩))
    (fun os started H enc _ => apart_lifted os started H enc)
#print axioms networkApart_proved
end Go.Proofs.Ytmgcmgfjaimlnaa
