/- A block of SHA-256 as a plain function on words. -/
import Derived.Test.YtcmmbjplekgihaaDig1
namespace Go.Proofs.Ytcmmbjplekgihaa
open Go.EW
attribute [local irreducible] EW.W EW.L EW.fin
set_option linter.unusedVariables false
set_option linter.unusedSimpArgs false

def word (b : List UInt8) (i : Nat) : UInt32 := (b.getD (4 * i) 0).toUInt32 <<< UInt32.ofNat 24 ||| (b.getD (4 * i + 1) 0).toUInt32 <<< UInt32.ofNat 16 ||| (b.getD (4 * i + 2) 0).toUInt32 <<< UInt32.ofNat 8 ||| (b.getD (4 * i + 3) 0).toUInt32
def sch1 (b : List UInt8) : Nat → List UInt32
  | 0 => List.replicate 64 0
  | i + 1 => (sch1 b i).set i (word b i)
def mixw (p q r s : UInt32) : UInt32 := p + (ror q 7 ^^^ ror q 18 ^^^ q >>> UInt32.ofNat 3) + r + (ror s 17 ^^^ ror s 19 ^^^ s >>> UInt32.ofNat 10)
def sch2 (b : List UInt8) : Nat → List UInt32
  | 0 => sch1 b 16
  | i + 1 => (sch2 b i).set (16 + i) (mixw ((sch2 b i).getD i 0) ((sch2 b i).getD (i + 1) 0) ((sch2 b i).getD (i + 9) 0) ((sch2 b i).getD (i + 14) 0))
def rnd (k w : UInt32) (t : S8) : S8 :=
  let t1 := t.h + (ror t.e 6 ^^^ ror t.e 11 ^^^ ror t.e 25) + (t.e &&& t.f ^^^ ~~~t.e &&& t.g) + k + w
  let t2 := (ror t.a 2 ^^^ ror t.a 13 ^^^ ror t.a 22) + (t.a &&& t.b ^^^ t.a &&& t.c ^^^ t.b &&& t.c)
  ⟨t1 + t2, t.a, t.b, t.c, t.d + t1, t.e, t.f, t.g⟩
def rnds (ws : List UInt32) (s : S8) : Nat → S8
  | 0 => s
  | i + 1 => rnd (keysL.getD i 0) (ws.getD i 0) (rnds ws s i)
def S8.add (s t : S8) : S8 := ⟨s.a + t.a, s.b + t.b, s.c + t.c, s.d + t.d, s.e + t.e, s.f + t.f, s.g + t.g, s.h + t.h⟩
/-- the state behind a block -/
def block8 (s : S8) (b : List UInt8) : S8 := s.add (rnds (sch2 b 48) s 64)
theorem sch1_len (b : List UInt8) : ∀ i, (sch1 b i).length = 64
  | 0 => by simp [sch1]
  | i + 1 => by simp [sch1, sch1_len b i]
theorem sch2_len (b : List UInt8) : ∀ i, (sch2 b i).length = 64
  | 0 => sch1_len b 16
  | i + 1 => by simp [sch2, sch2_len b i]
theorem putL_U {l : List UInt32} {i : Nat} {x : UInt32} : putL (l.map U) (0 + i * 1) [U x] = (l.set i x).map U := by
  rw [Nat.zero_add, Nat.mul_one]
  show (l.map U).set i (U x) = _
  rw [List.map_set]
theorem get_U {l : List UInt32} {i : Nat} (h : i < l.length) : (l.map U)[i]? = some (U (l.getD i 0)) := by
  rw [List.getElem?_map, List.getElem?_eq_getElem h]; simp [List.getD, h]
theorem get_B {l : List UInt8} {i : Nat} (h : i < l.length) : (l.map B)[i]? = some (B (l.getD i 0)) := by
  rw [List.getElem?_map, List.getElem?_eq_getElem h]; simp [List.getD, h]
theorem byte_cell {w : World} {a : Option Addr} {b o : Nat} {bs : List UInt8} {j : Nat} (ha : a = some ⟨b, o, none⟩) (h : Rd w a (bs.map B)) (hj : j < bs.length) : w.cell? ⟨b, o + j * 1, none⟩ = some (B (bs.getD j 0)) := by
  obtain ⟨b', o', h1, h2⟩ := h j (B (bs.getD j 0)) (get_B hj)
  rw [ha] at h1; cases h1
  rw [Nat.mul_one]; exact h2
theorem byte_addr {w : World} {a : Option Addr} {bs : List UInt8} {j : Nat} (h : Rd w a (bs.map B)) (hj : j < bs.length) : ∃ b o, a = some ⟨b, o, none⟩ := by
  obtain ⟨b', o', h1, _⟩ := h j (B (bs.getD j 0)) (get_B hj)
  exact ⟨b', o', h1⟩

end Go.Proofs.Ytcmmbjplekgihaa
