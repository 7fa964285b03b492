/- The statement DigestBackSaid: there and back, a text with a byte changed is refused there; without conditions of our own. -/
import Derived.Test.YtcmmbjplekgihaaArgs
import Derived.Test.YtcmmbjplekgihaaDig12
import Derived.Test.YtcmmbjplekgihaaRows
namespace Go.Proofs.Ytcmmbjplekgihaa
open Go.EW
theorem back_own : ownKnob Try.prog.godebug = none := by kernel_rfl
theorem back_laid : laidOutB Try.prog = true := by kernel_rfl
theorem back_walk (W : World) (args : List Value) (h : argsOk W [hashSh, .str, .int .i64, .int .u8] args) : Ok Try.prog 7 args.toArray W (fun v w' => v = .bool true ∧ ∃ S, St W w' S) := by
  obtain ⟨v0, args, rfl, h0, ⟨cs, e0⟩, h⟩ := argsOk_cons h
  obtain ⟨v1, args, rfl, h1, ⟨s, e1⟩, h⟩ := argsOk_cons h
  obtain ⟨v2, args, rfl, _, ⟨x, e2⟩, h⟩ := argsOk_cons h
  obtain ⟨v3, args, rfl, h3, ⟨y, e3⟩, h⟩ := argsOk_cons h
  obtain rfl := argsOk_nil h
  subst e0; subst e1; subst e2; subst e3
  obtain ⟨bs, e, hl⟩ := hash_of h0
  have e2 : cs = (bs.map B).toArray := by
    apply Array.ext'
    simpa [Value.cells] using e
  subst e2
  have hreach : reachBytes = 140737488351232 := rfl
  obtain ⟨s', es, hs⟩ := h1
  simp only [Value.cells, List.cons.injEq, Value.string.injEq, and_true] at es
  subst es
  obtain ⟨y', ey, hw⟩ := h3
  simp only [Value.cells, List.cons.injEq, Value.int.injEq, true_and, and_true] at ey
  subst ey
  obtain ⟨u, hu⟩ := byte_of hw
  rw [← hu]
  exact DigestBack_ok (St.refl W) hl s (by omega) x u
def zh : Value := .agg #[.int .u8 0, .int .u8 0, .int .u8 0, .int .u8 0, .int .u8 0, .int .u8 0, .int .u8 0, .int .u8 0, .int .u8 0, .int .u8 0, .int .u8 0, .int .u8 0, .int .u8 0, .int .u8 0, .int .u8 0, .int .u8 0, .int .u8 0, .int .u8 0, .int .u8 0, .int .u8 0, .int .u8 0, .int .u8 0, .int .u8 0, .int .u8 0, .int .u8 0, .int .u8 0, .int .u8 0, .int .u8 0, .int .u8 0, .int .u8 0, .int .u8 0, .int .u8 0]
set_option maxRecDepth 100000 in
theorem back_lifted (os : Os) (started : os.Started) (H : Type) (enc : TypeId × Value → H) :
    ReturnsInHanded {} Try.checked os 7 .any (Rows.digestBackSpec.pre6 enc Try.prog Try.f7 Rows.digestBackRow.domain false) (Rows.digestBackSpec.post enc Try.prog Try.f7 false true false false) :=
  lifted_true (C := Try.checked) (tb := 4) [hashSh, .str, .int .i64, .int .u8] back_own started (by kernel_rfl) Try.func7
    (ChangeSpec.witness6 (enc := enc) (C := Try.checked) false ⟨#[], #[zh, .string ⟨#[]⟩, .int .i64 0, .int .u8 0], []⟩ 8 (by kernel_rfl) (by kernel_rfl) (by kernel_rfl) (by kernel_rfl))
    rfl (fun ds h => by match ds, h with | [_, _, _, _], _ => rfl) rfl (by kernel_rfl) back_laid (by kernel_rfl) (by kernel_rfl) back_walk
theorem digestBack_proved : Rows.DigestBackSaid :=
  OpenClaim.holds_of_wide 7 Try.f7 rfl rfl rfl rfl rfl rfl rfl ⟨rfl, rfl, rfl, rfl, rfl⟩ rfl rfl rfl rfl rfl (by kernel_rfl) Try.func7 (by kernel_rfl)
    (of_decide_eq_true (by kernel_rfl)) (by unfold Func.isWrapper; first | (rw [if_pos (by decide +kernel)]; kernel_rfl) | (rw [if_neg (by decide +kernel)]; exact ⟨rfl, rfl⟩))
    (fun os started H enc _ => back_lifted os started H enc)
#print axioms digestBack_proved
end Go.Proofs.Ytcmmbjplekgihaa
