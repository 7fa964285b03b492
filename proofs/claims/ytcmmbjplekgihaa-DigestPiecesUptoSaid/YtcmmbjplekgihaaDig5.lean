/- Bytes taken piece by piece are bytes taken at once. -/
import Derived.Test.YtcmmbjplekgihaaDig4
namespace Go.Proofs.Ytcmmbjplekgihaa
open Go.EW
set_option linter.unusedVariables false
theorem write_base {s : S8} {all bs : List UInt8} (h : all.length < 64) : writeW s all bs = loopW s (all ++ bs) := by
  unfold writeW
  by_cases h0 : all.length > 0
  · rw [if_pos h0]
    have hlen : (all ++ bs.take (min (64 - all.length) bs.length)).length = all.length + min (64 - all.length) bs.length := by simp <;> omega
    by_cases h1 : all.length + bs.length < 64
    · have hm : min (64 - all.length) bs.length = bs.length := by omega
      rw [if_pos (by rw [hlen]; omega), hm, List.take_length, loopW_small (by simp; omega)]
    · have hm : min (64 - all.length) bs.length = 64 - all.length := by omega
      rw [if_neg (by rw [hlen]; omega), hm, loopW_big (l := all ++ bs) (by simp; omega)]
      rw [List.take_append, List.drop_append, List.take_of_length_le (show all.length ≤ 64 by omega), List.drop_eq_nil_of_le (show all.length ≤ 64 by omega), List.nil_append]
  · have : all = [] := List.eq_nil_of_length_eq_zero (by omega)
    subst this
    rw [if_neg (by simp)]; rfl
theorem write_law (bs : List UInt8) : ∀ (k : Nat) (s : S8) (all : List UInt8), all.length < 64 * (k + 1) → writeW (loopW s all).1 (loopW s all).2 bs = loopW s (all ++ bs)
  | 0, s, all, h => by
    rw [loopW_small (by omega)]; exact write_base (by omega)
  | k + 1, s, all, h => by
    by_cases h64 : all.length < 64
    · rw [loopW_small h64]; exact write_base h64
    · rw [loopW_big (by omega), loopW_big (l := all ++ bs) (by simp; omega), List.take_append_of_le_length (by omega), List.drop_append_of_le_length (by omega)]
      exact write_law bs k _ _ (by simp; omega)
/-- a hasher that has taken these bytes -/
structure HOk (h : HS) (all : List UInt8) : Prop where
  n : h.n = all.length
  s : (h.s, h.rest) = loopW begin8 all
theorem HOk.new : HOk newH [] := ⟨rfl, by rw [loopW_small (by simp)]; rfl⟩
theorem loopW_rest {s : S8} {l : List UInt8} : (loopW s l).2.length < 64 := by
  unfold loopW; simp; omega
theorem HOk.rest {h : HS} {all : List UInt8} (hk : HOk h all) : h.rest.length < 64 := by
  have := hk.s
  have h2 : h.rest = (loopW begin8 all).2 := congrArg Prod.snd this
  rw [h2]; exact loopW_rest
theorem HOk.write {h : HS} {all bs : List UInt8} (hk : HOk h all) (ra : Option Addr) (rcap : Nat) : HOk ⟨(writeW h.s h.rest bs).1, ra, rcap, (writeW h.s h.rest bs).2, h.n + bs.length⟩ (all ++ bs) := by
  refine ⟨by simp [hk.n], ?_⟩
  have h1 : h.s = (loopW begin8 all).1 := congrArg Prod.fst hk.s
  have h2 : h.rest = (loopW begin8 all).2 := congrArg Prod.snd hk.s
  simp only [h1, h2]
  rw [← write_law bs (all.length / 64) begin8 all (by omega)]
end Go.Proofs.Ytcmmbjplekgihaa
