/- The checksum: bit by bit and by nibbles. -/
import Derived.Test.YtfpmnhmdphaceaaDoorTapL1
import Derived.Test.YtfpmnhmdphaceaaDoorWordAll
import Derived.Test.YtfpmnhmdphaceaaDoorTadAll
namespace Go.Proofs.YtfpmnhmdphaceaaDoor
open Go.EW
attribute [local irreducible] EW.W EW.L EW.fin block8 outB shaL
set_option linter.unusedVariables false
set_option linter.unusedSimpArgs false

/-! the sum -/
def c1N (n : Nat) : Nat := (n / 2) ^^^ (if n % 2 = 1 then 3988292384 else 0)
def ckN : Nat → Nat → Nat
  | 0, n => n
  | k + 1, n => ckN k (c1N n)
theorem c1N_xor (a b : Nat) : c1N (a ^^^ b) = c1N a ^^^ c1N b := by
  unfold c1N
  have h1 : (a ^^^ b) / 2 = a / 2 ^^^ b / 2 := Nat.xor_div_two
  have h2 : (a ^^^ b) % 2 = (a + b) % 2 := by
    have h := @Nat.xor_mod_two_eq_one a b
    have h3 : (a ^^^ b) % 2 < 2 := Nat.mod_lt _ (by decide)
    omega
  rw [h1, h2]
  rcases (show a % 2 = 0 ∨ a % 2 = 1 by omega) with ha | ha <;> rcases (show b % 2 = 0 ∨ b % 2 = 1 by omega) with hb | hb
  · rw [if_neg (by omega), if_neg (by omega), if_neg (by omega)]; simp
  · rw [if_pos (by omega), if_neg (by omega), if_pos (by omega), Nat.xor_zero, Nat.xor_assoc]
  · rw [if_pos (by omega), if_pos (by omega), if_neg (by omega), Nat.xor_zero, Nat.xor_assoc, Nat.xor_assoc, Nat.xor_comm (b / 2)]
  · rw [if_neg (by omega), if_pos (by omega), if_pos (by omega), Nat.xor_zero]
    rw [show a / 2 ^^^ 3988292384 ^^^ (b / 2 ^^^ 3988292384) = a / 2 ^^^ b / 2 ^^^ (3988292384 ^^^ 3988292384) by
      rw [Nat.xor_assoc, Nat.xor_assoc, ← Nat.xor_assoc 3988292384, Nat.xor_comm 3988292384 (b / 2), Nat.xor_assoc]]
    rw [Nat.xor_self, Nat.xor_zero]
theorem ckN_xor : ∀ (k a b : Nat), ckN k (a ^^^ b) = ckN k a ^^^ ckN k b
  | 0, a, b => rfl
  | k + 1, a, b => by rw [ckN, c1N_xor, ckN_xor k]; rfl
theorem ckN_high : ∀ (k h l : Nat), l < 2 ^ k → ckN k (2 ^ k * h + l) = h ^^^ ckN k l
  | 0, h, l, hl => by
    obtain rfl : l = 0 := by simp at hl; exact hl
    simp [ckN]
  | k + 1, h, l, hl => by
    have e1 : 2 ^ (k + 1) * h = 2 * (2 ^ k * h) := by rw [Nat.pow_succ]; ac_rfl
    have e2 : (2 ^ (k + 1) * h + l) / 2 = 2 ^ k * h + l / 2 := by rw [e1]; omega
    have e3 : (2 ^ (k + 1) * h + l) % 2 = l % 2 := by rw [e1]; omega
    have e4 : l / 2 < 2 ^ k := by rw [Nat.pow_succ] at hl; omega
    rw [ckN, ckN]
    unfold c1N
    rw [e2, e3, ckN_xor, ckN_high k h _ e4, ckN_xor, Nat.xor_assoc]
def nibL : List UInt32 := [0, 498536548, 997073096, 651767980, 1994146192, 1802195444, 1303535960, 1342533948, 3988292384, 4027552580, 3604390888, 3412177804, 2607071920, 2262029012, 2685067896, 3183342108]
def crc1 (s : UInt32) : UInt32 := if s.toNat % 2 = 1 then (s >>> 1) ^^^ 3988292384 else s >>> 1
def crcN : Nat → UInt32 → UInt32
  | 0, s => s
  | k + 1, s => crcN k (crc1 s)
def crcB (s : UInt32) (x : UInt8) : UInt32 := crcN 8 (s ^^^ x.toUInt32)
def crcL (l : List UInt8) : UInt32 := ~~~ (l.foldl crcB 4294967295)
theorem crc1_nat (s : UInt32) : (crc1 s).toNat = c1N s.toNat := by
  unfold crc1 c1N
  have h1 : (s >>> 1).toNat = s.toNat / 2 := by rw [UInt32.toNat_shiftRight]; show s.toNat >>> 1 = _; rw [Nat.shiftRight_eq_div_pow]
  split
  · rename_i h; rw [UInt32.toNat_xor, h1]; rfl
  · rename_i h; rw [h1]; simp
theorem crcN_nat : ∀ (k : Nat) (s : UInt32), (crcN k s).toNat = ckN k s.toNat
  | 0, s => rfl
  | k + 1, s => by rw [crcN, crcN_nat k, crc1_nat]; rfl
theorem crcN_add : ∀ (j k : Nat) (s : UInt32), crcN (j + k) s = crcN k (crcN j s)
  | 0, k, s => by rw [Nat.zero_add]; rfl
  | j + 1, k, s => by rw [show j + 1 + k = (j + k) + 1 by omega, crcN, crcN_add j k]; rfl
theorem nib_step (s : UInt32) : nibL.getD (s &&& 15).toNat 0 ^^^ (s >>> 4) = crcN 4 s := by
  apply UInt32.toNat_inj.1
  have h1 : (s >>> 4).toNat = s.toNat / 16 := by rw [UInt32.toNat_shiftRight]; show s.toNat >>> 4 = _; rw [Nat.shiftRight_eq_div_pow]
  have h2 : (s &&& 15).toNat = s.toNat % 16 := by rw [UInt32.toNat_and]; exact Nat.and_two_pow_sub_one_eq_mod s.toNat 4
  have h3 : ∀ l, l < 16 → (nibL.getD l 0).toNat = ckN 4 l := by decide
  rw [UInt32.toNat_xor, h1, h2, crcN_nat, h3 _ (by omega)]
  have h4 := ckN_high 4 (s.toNat / 16) (s.toNat % 16) (by omega)
  rw [show 2 ^ 4 * (s.toNat / 16) + s.toNat % 16 = s.toNat by omega] at h4
  rw [h4, Nat.xor_comm]
theorem nib_two (s : UInt32) (x : UInt8) : crcN 4 (crcN 4 (s ^^^ x.toUInt32)) = crcB s x := by
  rw [← crcN_add]; rfl
theorem crc_snoc (l : List UInt8) (x : UInt8) (s : UInt32) : (l ++ [x]).foldl crcB s = crcB (l.foldl crcB s) x := by rw [List.foldl_append]; rfl
theorem xor_ones (s : UInt32) : s ^^^ 4294967295 = ~~~ s := by
  apply UInt32.toBitVec_inj.1
  rw [UInt32.toBitVec_xor, UInt32.toBitVec_not]
  exact BitVec.xor_allOnes
/-- a number in four bytes, the highest first -/
def be4 (n : Nat) : List UInt8 := [UInt8.ofNat (n / 2 ^ 24), UInt8.ofNat (n / 2 ^ 16), UInt8.ofNat (n / 2 ^ 8), UInt8.ofNat n]
def le4 (s : UInt32) : List UInt8 := [UInt8.ofNat s.toNat, UInt8.ofNat (s.toNat / 2 ^ 8), UInt8.ofNat (s.toNat / 2 ^ 16), UInt8.ofNat (s.toNat / 2 ^ 24)]
def magicL : List UInt8 := [97, 109, 110, 49]
def frmL (b : List UInt8) : List UInt8 := magicL ++ be4 b.length ++ b
def sealL (b : List UInt8) : List UInt8 := frmL b ++ le4 (crcL (frmL b))
/-- the body's frame, or the error -/
def sealR (b : List UInt8) : List UInt8 × Nat := if 32756 < b.length then ([], 11) else (sealL b, 0)
def openR (f : List UInt8) : List UInt8 × Nat :=
  if 32768 < f.length then ([], 11) else if f.length < 12 then ([], 10) else if f.take 4 ≠ magicL then ([], 13)
  else if f.length < numB ((f.drop 4).take 4) + 12 then ([], 10) else if numB ((f.drop 4).take 4) + 12 < f.length then ([], 15)
  else if f.drop (f.length - 4) ≠ le4 (crcL (f.take (f.length - 4))) then ([], 14) else ((f.drop 8).take (f.length - 12), 0)
theorem crcN_zero (s : UInt32) : crcN 0 s = s := rfl
theorem crcN_succ (k : Nat) (s : UInt32) : crcN (k + 1) s = crc1 (crcN k s) := by rw [crcN_add k 1]; rfl
theorem crcB_eq (s : UInt32) (x : UInt8) : crcB s x = crcN 8 (s ^^^ x.toUInt32) := rfl
theorem seal_len (b : List UInt8) : (sealL b).length = b.length + 12 := by
  unfold sealL frmL
  simp only [List.length_append]
  have h1 : magicL.length = 4 := rfl
  have h2 : (be4 b.length).length = 4 := rfl
  have h3 : (le4 (crcL (magicL ++ be4 b.length ++ b))).length = 4 := rfl
  rw [h1, h2, h3]; omega

end Go.Proofs.YtfpmnhmdphaceaaDoor
