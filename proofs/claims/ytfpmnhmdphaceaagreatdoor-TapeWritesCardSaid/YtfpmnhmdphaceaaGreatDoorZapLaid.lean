/- A part of this claim: laws of the tape's functions and of plain lists; no conditions beyond those that the theorems name. -/
import Derived.Test.YtfpmnhmdphaceaaGreatDoorZap30
import Derived.Test.YtfpmnhmdphaceaaGreatDoorZapArgAll
import Derived.Test.YtfpmnhmdphaceaaGreatDoorGlueAll
import Derived.Test.YtfpmnhmdphaceaaGreatDoorRows
namespace Go.Proofs.YtfpmnhmdphaceaaGreatDoor
open Go.EW
open Go.ChangeShapes Go.WideShapes Go.RowKit
def nibD : List (String × DataW Unit) := [("amnesia/wire.nibbles", Rows.laid_amnesia_wire_nibbles)]
theorem gNib : Tryz.prog.globalNamed "amnesia/wire.nibbles" = some 0 := by kernel_rfl
theorem tNib : (Tryz.prog.globals[0]?).map (·.type) = some 191 := by kernel_rfl
theorem nib_of_laid {W : World} (h : laidMetH Tryz.prog nibD W) : NibOk W :=
  table_of_laid (xs := [0, 498536548, 997073096, 651767980, 1994146192, 1802195444, 1303535960, 1342533948, 3988292384, 4027552580, 3604390888, 3412177804, 2607071920, 2262029012, 2685067896, 3183342108]) (m := 16) (ty := 191) (e := 164) 0 gNib tNib (by kernel_rfl) (by kernel_rfl) (by kernel_rfl) rfl h
theorem door_met (os : Os) (args : Array Value) : laidMetH Tryz.prog nibD ((World.doorLaid Tryz.prog 400 os).forCall (fun _ _ => 0) ⟨#[], args, []⟩).memory :=
  laidMetH_of_parts3 (fuel := 8) (laidMet_of_run' 8 (by kernel_rfl) (by kernel_rfl)) (by kernel_rfl) (by kernel_rfl)
theorem tap_own : ownKnob Tryz.prog.godebug = none := by kernel_rfl
theorem tap_laid : laidOutB Tryz.prog = true := by kernel_rfl
end Go.Proofs.YtfpmnhmdphaceaaGreatDoor
