/- The statement NetworkOrdersSaid: packets can be taken in any order, each once; without conditions of our own. -/
import Derived.Test.YtmgcmgfjaimlnaaNetArgs
import Derived.Test.YtmgcmgfjaimlnaaRows
namespace Go.Proofs.Ytmgcmgfjaimlnaa
open Go.EW
theorem own_ : ownKnob Try.prog.godebug = none := by kernel_rfl
theorem laidOut_ : laidOutB Try.prog = true := by kernel_rfl
theorem orders_walk (W : World) (args : List Value) (h : argsOk W [pksSh, intsSh] args) : Ok Try.prog 3 args.toArray W (fun v w' => v = .bool true ∧ ∃ S, St W w' S) := by
  match args, h with
  | [v0, v1], ⟨⟨h0, a0, n0, c0, e0⟩, ⟨h1, a1, n1, c1, e1⟩, _⟩ =>
    subst e0; subst e1
    obtain ⟨a, n, cap, l, e, hl, hn, hc, hr, hg⟩ := pks_of h0
    obtain ⟨oa, on, oc, xs, e', hl', hn', hc', hr'⟩ := ints_of h1
    simp only [Value.cells, List.cons.injEq, Value.slice.injEq, and_true] at e e'
    obtain ⟨rfl, rfl, rfl⟩ := e
    obtain ⟨rfl, rfl, rfl⟩ := e'
    have hreach : reachBytes = 140737488351232 := rfl
    exact NetworkOrders_ok (St.refl W) (RdIn.rdro hr) hl (good_args hg) (by omega) (RdIn.rdro hr') hl'
set_option maxRecDepth 100000 in
theorem orders_lifted (os : Os) (started : os.Started) (H : Type) (enc : TypeId × Value → H) :
    ReturnsInHanded {} Try.checked os 3 .any (Rows.networkOrdersSpec.pre6 enc Try.prog Try.f3 Rows.networkOrdersRow.domain false) (Rows.networkOrdersSpec.post enc Try.prog Try.f3 false true false false) :=
  lifted_true (C := Try.checked) (tb := 4) [pksSh, intsSh] own_ started (by kernel_rfl) Try.func3
    (ChangeSpec.witness6 (enc := enc) (C := Try.checked) false ⟨#[], #[.slice none 0 0, .slice none 0 0], []⟩ 8 (by kernel_rfl) (by kernel_rfl) (by kernel_rfl) (by kernel_rfl))
    rfl (fun ds h => by match ds, h with | [_, _], _ => rfl) rfl (by kernel_rfl) laidOut_ (by kernel_rfl) (by kernel_rfl) orders_walk
theorem networkOrders_proved : Rows.NetworkOrdersSaid :=
  OpenClaim.holds_of_wide 3 Try.f3 rfl rfl rfl rfl rfl rfl rfl ⟨rfl, rfl, rfl, rfl, rfl⟩ rfl rfl rfl rfl rfl (by kernel_rfl) Try.func3 (by kernel_rfl)
    (of_decide_eq_true (by kernel_rfl)) (by unfold Func.isWrapper; first | (rw [if_pos (by decide +kernel)]; kernel_rfl) | (rw [if_neg (by decide +kernel)]; exact ⟨rfl, rfl⟩))
    (fun os started H enc _ => orders_lifted os started H enc)
#print axioms networkOrders_proved
end Go.Proofs.Ytmgcmgfjaimlnaa
