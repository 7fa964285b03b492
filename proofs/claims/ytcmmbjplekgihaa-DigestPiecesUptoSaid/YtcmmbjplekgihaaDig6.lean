/- SHA-256 with its filling as a plain function. -/
import Derived.Test.YtcmmbjplekgihaaDig5
namespace Go.Proofs.Ytcmmbjplekgihaa
open Go.EW
attribute [local irreducible] EW.W EW.L EW.fin block8
set_option linter.unusedVariables false
set_option linter.unusedSimpArgs false

theorem loop_split (x : List UInt8) : ∀ (k : Nat) (s : S8) (all : List UInt8), all.length < 64 * (k + 1) → loopW (loopW s all).1 ((loopW s all).2 ++ x) = loopW s (all ++ x)
  | 0, s, all, h => by rw [loopW_small (s := s) (l := all) (by omega)]
  | k + 1, s, all, h => by
    by_cases h64 : all.length < 64
    · rw [loopW_small (s := s) (l := all) h64]
    · rw [loopW_big (s := s) (l := all) (by omega), loopW_big (s := s) (l := all ++ x) (by simp; omega), List.take_append_of_le_length (by omega), List.drop_append_of_le_length (by omega)]
      exact loop_split x k _ _ (by simp; omega)
/-- the filling: a one bit, zeros, the length -/
def lenB (n : Nat) (i : Nat) : UInt8 := UInt8.ofNat (8 * n / 2 ^ (56 - 8 * i))
def lens (n : Nat) : Nat → List UInt8
  | 0 => []
  | i + 1 => lens n i ++ [lenB n i]
def pad (n : Nat) : List UInt8 := 128 :: (List.replicate ((119 - n % 64) % 64) 0 ++ lens n 8)
def byteAt (s : S8) (c : Nat) : UInt8 := (s.list.getD (c / 4) 0 >>> UInt32.ofNat (24 - 8 * (c % 4))).toUInt8
def outB (s : S8) : Nat → List UInt8
  | 0 => List.replicate 32 0
  | c + 1 => (outB s c).set c (byteAt s c)
theorem outB_len (s : S8) : ∀ c, (outB s c).length = 32
  | 0 => by simp [outB]
  | c + 1 => by simp [outB, outB_len s c]
theorem lens_len (n : Nat) : ∀ i, (lens n i).length = i
  | 0 => rfl
  | i + 1 => by simp [lens, lens_len n i]
/-- SHA-256 -/
def shaL (all : List UInt8) : List UInt8 := outB (loopW begin8 (all ++ pad all.length)).1 32
theorem shaL_of {h : HS} {all : List UInt8} (hk : HOk h all) : shaL all = outB (loopW h.s (h.rest ++ pad all.length)).1 32 := by
  have h1 : h.s = (loopW begin8 all).1 := congrArg Prod.fst hk.s
  have h2 : h.rest = (loopW begin8 all).2 := congrArg Prod.snd hk.s
  unfold shaL
  rw [h1, h2, loop_split (pad all.length) (all.length / 64) begin8 all (by omega)]
theorem pad_div {h : HS} {all : List UInt8} (hk : HOk h all) : (h.rest ++ pad all.length).length % 64 = 0 := by
  have h2 : h.rest = (loopW begin8 all).2 := congrArg Prod.snd hk.s
  have h3 : h.rest.length = all.length % 64 := by rw [h2]; unfold loopW; simp; omega
  simp only [pad, List.length_append, List.length_cons, List.length_replicate, lens_len, h3]
  omega

end Go.Proofs.Ytcmmbjplekgihaa
