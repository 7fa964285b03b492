/- The tape's Seek does what the plain function seekR says, of any bytes in memory and any two numbers. -/
import Derived.Test.YtfpmnhmdphaceaaDoorTap35
import Derived.Test.YtfpmnhmdphaceaaDoorTapP5
namespace Go.Proofs.YtfpmnhmdphaceaaDoor
open Go.EW
attribute [local irreducible] EW.W EW.L EW.fin block8 outB shaL
set_option linter.unusedVariables false
set_option linter.unusedSimpArgs false
attribute [local irreducible] crcN crcB crcL sealL openR sealR indexR
/-- the event chunk at a place -/
def chunkAtR (bs : List UInt8) (p : Nat) : Option (Nat × List Evt) := if (bodyR bs p).2.2 ≠ 0 ∨ (eventsR (bodyR bs p).1).2.2.2 = false then none else some ((eventsR (bodyR bs p).1).1, (eventsR (bodyR bs p).1).2.1)
/-- the last chunk, of the first j, that begins at or ahead of an event -/
def downR (bs : List UInt8) (l : List Nat) (fr : Nat) : Nat → Option (Nat × Nat)
  | 0 => none
  | j + 1 => match chunkAtR bs (l.getD j 0) with
    | none => none
    | some (f, _) => if f ≤ fr then some (j, f) else downR bs l fr j
/-- chunks from the i-th on, until there are enough events; m are left -/
def upR (bs : List UInt8) (l : List Nat) (f need : Nat) : Nat → Nat → List Evt → Option (List Evt)
  | 0, _, hv => if need ≤ hv.length then some hv else none
  | m + 1, i, hv => if need ≤ hv.length then some hv else match chunkAtR bs (l.getD i 0) with
    | none => none
    | some (g, more) => if g ≠ f + hv.length then none else upR bs l f need m (i + 1) (hv ++ more)
/-- some events of a file; the error -/
def seekR (bs : List UInt8) (fr cn : Int) : List Evt × Nat :=
  if (indexR bs).2.2 ≠ 0 then ([], (indexR bs).2.2) else if fr < 0 ∨ cn < 0 ∨ ((indexR bs).1 : Int) < fr ∨ ((indexR bs).1 : Int) - fr < cn then ([], 3) else if cn = 0 then ([], 0)
  else match downR bs (indexR bs).2.1 fr.toNat (indexR bs).2.1.length with
    | none => ([], 220)
    | some (j, f) => match upR bs (indexR bs).2.1 f (fr.toNat + cn.toNat - f) ((indexR bs).2.1.length - j) j [] with
      | none => ([], 220)
      | some l => ((l.drop (fr.toNat - f)).take cn.toNat, 0)
end Go.Proofs.YtfpmnhmdphaceaaDoor
