/- The statement NetworkGenuineSaid: nothing comes from nowhere; without conditions of our own. -/
import Derived.Test.YtmgcmgfjaimlnaaNetOps
import Derived.Test.YtmgcmgfjaimlnaaNet16
import Derived.Test.YtmgcmgfjaimlnaaRows
namespace Go.Proofs.Ytmgcmgfjaimlnaa
open Go.EW
theorem gen_own : ownKnob Try.prog.godebug = none := by kernel_rfl
theorem gen_laid : laidOutB Try.prog = true := by kernel_rfl
theorem gen_walk (W : World) (args : List Value) (h : argsOk W [opsSh, pkSh] args) : Ok Try.prog 6 args.toArray W (fun v w' => v = .bool true ∧ ∃ S, St W w' S) := by
  obtain ⟨v0, args, rfl, h0, ⟨a0, n0, c0, e0⟩, h⟩ := argsOk_cons h
  obtain ⟨v1, args, rfl, h1, ⟨cs, e1⟩, h⟩ := argsOk_cons h
  obtain rfl := argsOk_nil h
  subst e0; subst e1
  obtain ⟨oa, on, oc, xs, e', hl', hn', hc', hr', hg'⟩ := ops_of h0
  obtain ⟨p, e, hp⟩ := pk_of h1
  simp only [Value.cells, List.cons.injEq, Value.slice.injEq, and_true] at e e'
  obtain ⟨rfl, rfl, rfl⟩ := e'
  have e2 : cs = #[.int .i64 p.fr, .int .i64 p.to, .slice p.a p.n p.cap] := by
    apply Array.ext'
    exact e
  subst e2
  have hreach : reachBytes = 140737488351232 := rfl
  exact NetworkGenuine_ok (St.refl W) (RdIn.rdro hr') hl' (opgood_args hg') (by omega) (po := p) (RdIn.rdro hp.1) hp.2.1 (by have := hp.2.2; omega)
set_option maxRecDepth 100000 in
theorem gen_lifted (os : Os) (started : os.Started) (H : Type) (enc : TypeId × Value → H) :
    ReturnsInHanded {} Try.checked os 6 .any (Rows.networkGenuineSpec.pre6 enc Try.prog Try.f6 Rows.networkGenuineRow.domain false) (Rows.networkGenuineSpec.post enc Try.prog Try.f6 false true false false) :=
  lifted_true (C := Try.checked) (tb := 4) [opsSh, pkSh] gen_own started (by kernel_rfl) Try.func6
    (ChangeSpec.witness6 (enc := enc) (C := Try.checked) false ⟨#[], #[.slice none 0 0, .agg #[.int .i64 0, .int .i64 0, .slice none 0 0]], []⟩ 8 (by kernel_rfl) (by kernel_rfl) (by kernel_rfl) (by kernel_rfl))
    rfl (fun ds h => by match ds, h with | [_, _], _ => rfl) rfl (by kernel_rfl) gen_laid (by kernel_rfl) (by kernel_rfl) gen_walk
theorem networkGenuine_proved : Rows.NetworkGenuineSaid :=
  OpenClaim.holds_of_wide 6 Try.f6 rfl rfl rfl rfl rfl rfl rfl ⟨rfl, rfl, rfl, rfl, rfl⟩ rfl rfl rfl rfl rfl (by kernel_rfl) Try.func6 (by kernel_rfl)
    (of_decide_eq_true (by kernel_rfl)) (by unfold Func.isWrapper; first | (rw [if_pos (by decide +kernel)]; kernel_rfl) | (rw [if_neg (by decide +kernel)]; exact ⟨rfl, rfl⟩))
    (fun os started H enc _ => gen_lifted os started H enc)
#print axioms networkGenuine_proved
end Go.Proofs.Ytmgcmgfjaimlnaa
