/- A part of this claim: laws of the tape's functions and of plain lists; no conditions beyond those that the theorems name. -/
import Derived.Test.YtfpmnhmdphaceaaGreatDoorZap9
namespace Go.Proofs.YtfpmnhmdphaceaaGreatDoor
open Go.EW
attribute [local irreducible] EW.W EW.L EW.fin block8 outB shaL
set_option linter.unusedVariables false
set_option linter.unusedSimpArgs false
def usedSet (e : Evt) (j : Nat) (x : Evt) : Evt :=
  match j with
  | 0 => { x with nd := e.nd }
  | 1 => { x with cl := e.cl }
  | 2 => { x with ix := e.ix }
  | 3 => { x with pl := e.pl }
  | 4 => { x with ct := e.ct }
  | 5 => { x with cu := e.cu }
  | 6 => { x with hi := e.hi, lo := e.lo }
  | 7 => { x with ok := e.ok, os := e.os, ov := e.ov }
  | _ => { x with bs := e.bs }
def usedTo (e : Evt) (u : Nat) : Nat → Evt
  | 0 => { evt0 with k := e.k }
  | j + 1 => if bitN u j = true then usedSet e j (usedTo e u j) else usedTo e u j
/-- an event in which what its kind does not use is zero -/
def usedE (e : Evt) : Evt := usedTo e (usesN e.k) 9
end Go.Proofs.YtfpmnhmdphaceaaGreatDoor
