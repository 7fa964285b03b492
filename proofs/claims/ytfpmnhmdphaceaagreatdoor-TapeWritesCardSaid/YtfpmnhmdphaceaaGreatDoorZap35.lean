/- A part of this claim: laws of the tape's functions and of plain lists; no conditions beyond those that the theorems name. -/
import Derived.Test.YtfpmnhmdphaceaaGreatDoorZapP3
import Derived.Test.YtfpmnhmdphaceaaGreatDoorZap29
namespace Go.Proofs.YtfpmnhmdphaceaaGreatDoor
open Go.EW
attribute [local irreducible] EW.W EW.L EW.fin block8 outB shaL
set_option linter.unusedVariables false
set_option linter.unusedSimpArgs false
attribute [local irreducible] crcN crcB crcL sealL openR sealR
/-- are places in order, from 1 on and below a bound? the first i of them -/
def plGo (l : List Nat) (m : Nat) : Nat → Bool
  | 0 => true
  | i + 1 => plGo l m i && (decide (1 ≤ l.getD i 0) && decide (l.getD i 0 < m) && (decide (i = 0) || decide (l.getD (i - 1) 0 < l.getD i 0)))
/-- the foot's length, its frame -/
def idxN (bs : List UInt8) : Nat := numB (bs.drop (bs.length - 4))
def idxT (bs : List UInt8) : List UInt8 := (bs.drop (bs.length - 4 - idxN bs)).take (idxN bs)
def footBad (f : Nat × List Nat × Bool) (m : Nat) : Prop := f.2.2 = false ∨ ¬ (f.1 = 0 ↔ f.2.1.length = 0) ∨ plGo f.2.1 m f.2.1.length = false
instance (f : Nat × List Nat × Bool) (m : Nat) : Decidable (footBad f m) := by unfold footBad; infer_instance
/-- how many events a file's foot tells, their chunks' places; the error -/
def indexR (bs : List UInt8) : Nat × List Nat × Nat :=
  if bs.length < 4 ∨ bs.length - 4 < idxN bs then (0, [], 222) else if (openR (idxT bs)).2 ≠ 0 ∨ footBad (footR (openR (idxT bs)).1) (bs.length - 4 - idxN bs) then (0, [], 221)
  else ((footR (openR (idxT bs)).1).1, (footR (openR (idxT bs)).1).2.1, 0)
end Go.Proofs.YtfpmnhmdphaceaaGreatDoor
