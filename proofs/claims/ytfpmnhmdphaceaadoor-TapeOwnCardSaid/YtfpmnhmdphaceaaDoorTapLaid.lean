/- The table of nibbles, read from what the row lays. -/
import Derived.Test.YtfpmnhmdphaceaaDoorTap30
import Derived.Test.YtfpmnhmdphaceaaDoorTapArgAll
import Derived.Test.YtfpmnhmdphaceaaDoorGlueAll
import Derived.Test.YtfpmnhmdphaceaaDoorRows
namespace Go.Proofs.YtfpmnhmdphaceaaDoor
open Go.EW
open Go.ChangeShapes Go.WideShapes Go.RowKit
def nibD : List (String × DataW Unit) := [("amnesia/wire.nibbles", Rows.laid_amnesia_wire_nibbles)]
theorem gNib : Tryd.prog.globalNamed "amnesia/wire.nibbles" = some 0 := by kernel_rfl
theorem tNib : (Tryd.prog.globals[0]?).map (·.type) = some 244 := by kernel_rfl
theorem nib_of_laid {W : World} (h : laidMetH Tryd.prog nibD W) : NibOk W :=
  table_of_laid (xs := [0, 498536548, 997073096, 651767980, 1994146192, 1802195444, 1303535960, 1342533948, 3988292384, 4027552580, 3604390888, 3412177804, 2607071920, 2262029012, 2685067896, 3183342108]) (m := 16) (ty := 244) (e := 235) 0 gNib tNib (by kernel_rfl) (by kernel_rfl) (by kernel_rfl) rfl h
theorem door_met (os : Os) (args : Array Value) : laidMetH Tryd.prog nibD ((World.doorLaid Tryd.prog 400 os).forCall (fun _ _ => 0) ⟨#[], args, []⟩).memory :=
  laidMetH_of_parts3 (fuel := 8) (laidMet_of_run' 8 (by kernel_rfl) (by kernel_rfl)) (by kernel_rfl) (by kernel_rfl)
theorem tap_own : ownKnob Tryd.prog.godebug = none := by kernel_rfl
theorem tap_laid : laidOutB Tryd.prog = true := by kernel_rfl
end Go.Proofs.YtfpmnhmdphaceaaDoor
