/- The statement NetworkHeapSaid: what adds, what takes away, what is undone; without conditions of our own. -/
import Derived.Test.YtmgcmgfjaimlnaaNetArgs
import Derived.Test.YtmgcmgfjaimlnaaNet13
import Derived.Test.YtmgcmgfjaimlnaaRows
namespace Go.Proofs.Ytmgcmgfjaimlnaa
open Go.EW
theorem heap_own : ownKnob Try.prog.godebug = none := by kernel_rfl
theorem heap_laid : laidOutB Try.prog = true := by kernel_rfl
theorem heap_walk (W : World) (args : List Value) (h : argsOk W [pksSh, .int .i64, .int .i64, .int .i64, .int .u8] args) : Ok Try.prog 5 args.toArray W (fun v w' => v = .bool true ∧ ∃ S, St W w' S) := by
  obtain ⟨v0, args, rfl, h0, ⟨a0, n0, c0, e0⟩, h⟩ := argsOk_cons h
  obtain ⟨v1, args, rfl, _, ⟨x1, e1⟩, h⟩ := argsOk_cons h
  obtain ⟨v2, args, rfl, _, ⟨x2, e2⟩, h⟩ := argsOk_cons h
  obtain ⟨v3, args, rfl, _, ⟨x3, e3⟩, h⟩ := argsOk_cons h
  obtain ⟨v4, args, rfl, h4, ⟨x4, e4⟩, h⟩ := argsOk_cons h
  obtain rfl := argsOk_nil h
  subst e0; subst e1; subst e2; subst e3; subst e4
  obtain ⟨a, n, cap, l, e, hl, hn, hc, hr, hg⟩ := pks_of h0
  simp only [Value.cells, List.cons.injEq, Value.slice.injEq, and_true] at e
  obtain ⟨rfl, rfl, rfl⟩ := e
  have hreach : reachBytes = 140737488351232 := rfl
  obtain ⟨y, ey, hw⟩ := h4
  simp only [Value.cells, List.cons.injEq, Value.int.injEq, true_and, and_true] at ey
  subst ey
  obtain ⟨u, hu⟩ := byte_of hw
  rw [← hu]
  exact NetworkHeap_ok (St.refl W) (RdIn.rdro hr) hl (good_args hg) (by omega) x1 x2 x3 u
set_option maxRecDepth 100000 in
theorem heap_lifted (os : Os) (started : os.Started) (H : Type) (enc : TypeId × Value → H) :
    ReturnsInHanded {} Try.checked os 5 .any (Rows.networkHeapSpec.pre6 enc Try.prog Try.f5 Rows.networkHeapRow.domain false) (Rows.networkHeapSpec.post enc Try.prog Try.f5 false true false false) :=
  lifted_true (C := Try.checked) (tb := 4) [pksSh, .int .i64, .int .i64, .int .i64, .int .u8] heap_own started (by kernel_rfl) Try.func5
    (ChangeSpec.witness6 (enc := enc) (C := Try.checked) false ⟨#[], #[.slice none 0 0, .int .i64 0, .int .i64 0, .int .i64 0, .int .u8 0], []⟩ 8 (by kernel_rfl) (by kernel_rfl) (by kernel_rfl) (by kernel_rfl))
    rfl (fun ds h => by match ds, h with | [_, _, _, _, _], _ => rfl) rfl (by kernel_rfl) heap_laid (by kernel_rfl) (by kernel_rfl) heap_walk
theorem networkHeap_proved : Rows.NetworkHeapSaid :=
  OpenClaim.holds_of_wide 5 Try.f5 rfl rfl rfl rfl rfl rfl rfl ⟨rfl, rfl, rfl, rfl, rfl⟩ rfl rfl rfl rfl rfl (by kernel_rfl) Try.func5 (by kernel_rfl)
    (of_decide_eq_true (by kernel_rfl)) (by unfold Func.isWrapper; first | (rw [if_pos (by decide +kernel)]; kernel_rfl) | (rw [if_neg (by decide +kernel)]; exact ⟨rfl, rfl⟩))
    (fun os started H enc _ => heap_lifted os started H enc)
#print axioms networkHeap_proved
end Go.Proofs.Ytmgcmgfjaimlnaa
