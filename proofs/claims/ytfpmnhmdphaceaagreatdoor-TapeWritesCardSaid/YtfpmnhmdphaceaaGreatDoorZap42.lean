/- A part of this claim: laws of the tape's functions and of plain lists; no conditions beyond those that the theorems name. -/
import Derived.Test.YtfpmnhmdphaceaaGreatDoorZap41
namespace Go.Proofs.YtfpmnhmdphaceaaGreatDoor
open Go.EW
attribute [local irreducible] EW.W EW.L EW.fin block8 outB shaL
set_option linter.unusedVariables false
set_option linter.unusedSimpArgs false
attribute [local irreducible] crcN crcB crcL sealL openR sealR
theorem nat_c {w : World} {a : Option Addr} {b o : Nat} {l : List Nat} {i : Nat} (ha : a = some ⟨b, o, none⟩) (h : Rd w a (natsV l)) (hi : i < l.length) : w.cell? ⟨b, o + i * 1, none⟩ = some (I (l[i] : Int)) :=
  rd_at ha h (by unfold natsV; rw [List.getElem?_map, List.getElem?_eq_getElem hi]; rfl)
end Go.Proofs.YtfpmnhmdphaceaaGreatDoor
