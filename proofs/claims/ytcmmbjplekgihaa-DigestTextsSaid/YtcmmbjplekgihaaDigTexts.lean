/- The statement DigestTextsSaid: Print of any hash, Parse of any text; without conditions of our own. -/
import Derived.Test.YtcmmbjplekgihaaArgs
import Derived.Test.YtcmmbjplekgihaaDig11
import Derived.Test.YtcmmbjplekgihaaRows
namespace Go.Proofs.Ytcmmbjplekgihaa
open Go.EW
theorem dig_own : ownKnob Try.prog.godebug = none := by kernel_rfl
theorem dig_laid : laidOutB Try.prog = true := by kernel_rfl
theorem texts_walk (W : World) (args : List Value) (h : argsOk W [hashSh, .str] args) : Ok Try.prog 6 args.toArray W (fun v w' => v = .bool true ∧ ∃ S, St W w' S) := by
  obtain ⟨v0, args, rfl, h0, ⟨cs, e0⟩, h⟩ := argsOk_cons h
  obtain ⟨v1, args, rfl, _, ⟨s, e1⟩, h⟩ := argsOk_cons h
  obtain rfl := argsOk_nil h
  subst e0; subst e1
  obtain ⟨bs, e, hl⟩ := hash_of h0
  have e2 : cs = (bs.map B).toArray := by
    apply Array.ext'
    simpa [Value.cells] using e
  subst e2
  exact DigestTexts_ok (St.refl W) hl s
def zh : Value := .agg #[.int .u8 0, .int .u8 0, .int .u8 0, .int .u8 0, .int .u8 0, .int .u8 0, .int .u8 0, .int .u8 0, .int .u8 0, .int .u8 0, .int .u8 0, .int .u8 0, .int .u8 0, .int .u8 0, .int .u8 0, .int .u8 0, .int .u8 0, .int .u8 0, .int .u8 0, .int .u8 0, .int .u8 0, .int .u8 0, .int .u8 0, .int .u8 0, .int .u8 0, .int .u8 0, .int .u8 0, .int .u8 0, .int .u8 0, .int .u8 0, .int .u8 0, .int .u8 0]
set_option maxRecDepth 100000 in
theorem texts_lifted (os : Os) (started : os.Started) (H : Type) (enc : TypeId × Value → H) :
    ReturnsInHanded {} Try.checked os 6 .any (Rows.digestTextsSpec.pre6 enc Try.prog Try.f6 Rows.digestTextsRow.domain false) (Rows.digestTextsSpec.post enc Try.prog Try.f6 false true false false) :=
  lifted_true (C := Try.checked) (tb := 4) [hashSh, .str] dig_own started (by kernel_rfl) Try.func6
    (ChangeSpec.witness6 (enc := enc) (C := Try.checked) false ⟨#[], #[zh, .string ⟨#[]⟩], []⟩ 8 (by kernel_rfl) (by kernel_rfl) (by kernel_rfl) (by kernel_rfl))
    rfl (fun ds h => by match ds, h with | [_, _], _ => rfl) rfl (by kernel_rfl) dig_laid (by kernel_rfl) (by kernel_rfl) texts_walk
theorem digestTexts_proved : Rows.DigestTextsSaid :=
  OpenClaim.holds_of_wide 6 Try.f6 rfl rfl rfl rfl rfl rfl rfl ⟨rfl, rfl, rfl, rfl, rfl⟩ rfl rfl rfl rfl rfl (by kernel_rfl) Try.func6 (by kernel_rfl)
    (of_decide_eq_true (by kernel_rfl)) (by unfold Func.isWrapper; first | (rw [if_pos (by decide +kernel)]; kernel_rfl) | (rw [if_neg (by decide +kernel)]; exact ⟨rfl, rfl⟩))
    (fun os started H enc _ => texts_lifted os started H enc)
#print axioms digestTexts_proved
end Go.Proofs.Ytcmmbjplekgihaa
