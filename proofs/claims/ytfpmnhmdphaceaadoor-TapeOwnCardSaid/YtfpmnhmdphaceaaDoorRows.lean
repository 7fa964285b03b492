/-
  NARROWER THAN 'FOR EVERY INPUT', by the rows' own cells (each row's printed sentence says how): TapeEvents: laid · TapeForm: laid · TapeCut: laid · TapeFull: laid · TapeNil: laid · TapeSeeks: laid · TapeBack: laid · TapeOwn: laid.
  DERIVED. THE GIVEN ROWS OF THIS SEAT. 8 by the template 'for every input the law returns true; each argument reads behind the call as it read before'; 0 by the template 'total and deterministic' (their statements: YtfpmnhmdphaceaaDoorTotals.lean).
  GIVEN WITH THE SEED: the statements are not yours to turn. If you find one false, say at which input.
  Laid BY PROGRAM, IN A SANDBOX (cutbox-rows.mjs): the forced cells as the released guide's own fill.sh prints them over the translation 05e1e95100824466… (all of the seat's roots in one cut). By AI agents, Wed Nov 11 2026. No macro, syntax, notation, axiom, sorry.
-/
import Derived.Test.YtfpmnhmdphaceaaDoorChecked
import GoSem.Claim
import GoSem.ClaimJoined
import GoSem.ClaimMapViews
import Derived.JoinedTies
import Derived.KernelRfl
namespace Go.Proofs.YtfpmnhmdphaceaaDoor
/- THE CELL 'sum', in the pinned program and in every row, IS THE sha256 OF THE DUMP (.gsa) THAT YtfpmnhmdphaceaaDoorProg.lean LOADS. Nothing in Lean hashes anything: it is a label: what it is worth is what the hold of that sum in a sandbox is worth. -/
noncomputable def Tryd.pinned : Pinned := { name := "ytfpmnhmdphaceaadoor", sum := "05e1e95100824466fbc09f61c84f86d0c9f0bf0c61ea55073a346d8a646b0189", checked := Tryd.checked }
namespace Rows
def none {H : Type} : Left H := { results := [], args := [] }

/- WHAT THE LISTED PACKAGE-LEVEL VARIABLES READ AS WHEN THE CALL BEGINS. Each datum BY PROGRAM (the guide's laid-datum.mjs) off the statement by which the dump's own 'gosem.cut.vars' lays the variable. In a bare row this is a premise. The card (YtfpmnhmdphaceaaDoorCards.lean) ties it to the program's text. -/
def laid_amnesia_wire_nibbles {H : Type} : DataW H := .agg [.lit (.int .u32 0), .lit (.int .u32 498536548), .lit (.int .u32 997073096), .lit (.int .u32 651767980), .lit (.int .u32 1994146192), .lit (.int .u32 1802195444), .lit (.int .u32 1303535960), .lit (.int .u32 1342533948), .lit (.int .u32 3988292384), .lit (.int .u32 4027552580), .lit (.int .u32 3604390888), .lit (.int .u32 3412177804), .lit (.int .u32 2607071920), .lit (.int .u32 2262029012), .lit (.int .u32 2685067896), .lit (.int .u32 3183342108)]

/-- 'amnesialaw22.TapeEvents': WHATEVER THE INPUT: true; the input reads as it did. -/
def tapeEventsSpec : ChangeSpec := { name := "tapeEvents", fn := fun _ => fun
  | [d1, d2] => { results := [.lit (.bool true)], args := [d1, d2] }
  | _ => none }
def tapeEventsRow : OpenClaim := { program := "ytfpmnhmdphaceaadoor", sum := "05e1e95100824466fbc09f61c84f86d0c9f0bf0c61ea55073a346d8a646b0189", func := "amnesia/amnesialaw22.TapeEvents", spec := "tapeEvents", named := ["amnesia/wire.nibbles"], apart := false, laid := [("amnesia/wire.nibbles", laid_amnesia_wire_nibbles)] }
def TapeEventsSaid : Prop := tapeEventsRow.holds Tryd.pinned (OpenSpec.ofChange tapeEventsSpec)

/-- ITS FALSE NEIGHBOUR: 'it returns false'. Refute it at one input. -/
def tapeEventsWrong : ChangeSpec := { name := "tapeEvents", fn := fun _ => fun
  | [d1, d2] => { results := [.lit (.bool false)], args := [d1, d2] }
  | _ => none }
def TapeEventsWrongFalsely : Prop := tapeEventsRow.holds Tryd.pinned (OpenSpec.ofChange tapeEventsWrong)

/-- 'amnesialaw22.TapeForm': WHATEVER THE INPUT: true; the input reads as it did. -/
def tapeFormSpec : ChangeSpec := { name := "tapeForm", fn := fun _ => fun
  | [d1, d2] => { results := [.lit (.bool true)], args := [d1, d2] }
  | _ => none }
def tapeFormRow : OpenClaim := { program := "ytfpmnhmdphaceaadoor", sum := "05e1e95100824466fbc09f61c84f86d0c9f0bf0c61ea55073a346d8a646b0189", func := "amnesia/amnesialaw22.TapeForm", spec := "tapeForm", named := ["amnesia/wire.nibbles"], apart := false, laid := [("amnesia/wire.nibbles", laid_amnesia_wire_nibbles)] }
def TapeFormSaid : Prop := tapeFormRow.holds Tryd.pinned (OpenSpec.ofChange tapeFormSpec)

/-- ITS FALSE NEIGHBOUR: 'it returns false'. Refute it at one input. -/
def tapeFormWrong : ChangeSpec := { name := "tapeForm", fn := fun _ => fun
  | [d1, d2] => { results := [.lit (.bool false)], args := [d1, d2] }
  | _ => none }
def TapeFormWrongFalsely : Prop := tapeFormRow.holds Tryd.pinned (OpenSpec.ofChange tapeFormWrong)

/-- 'amnesialaw22.TapeCut': WHATEVER THE INPUT: true; the input reads as it did. -/
def tapeCutSpec : ChangeSpec := { name := "tapeCut", fn := fun _ => fun
  | [d1, d2, d3] => { results := [.lit (.bool true)], args := [d1, d2, d3] }
  | _ => none }
def tapeCutRow : OpenClaim := { program := "ytfpmnhmdphaceaadoor", sum := "05e1e95100824466fbc09f61c84f86d0c9f0bf0c61ea55073a346d8a646b0189", func := "amnesia/amnesialaw22.TapeCut", spec := "tapeCut", named := ["amnesia/wire.nibbles"], apart := false, laid := [("amnesia/wire.nibbles", laid_amnesia_wire_nibbles)] }
def TapeCutSaid : Prop := tapeCutRow.holds Tryd.pinned (OpenSpec.ofChange tapeCutSpec)

/-- ITS FALSE NEIGHBOUR: 'it returns false'. Refute it at one input. -/
def tapeCutWrong : ChangeSpec := { name := "tapeCut", fn := fun _ => fun
  | [d1, d2, d3] => { results := [.lit (.bool false)], args := [d1, d2, d3] }
  | _ => none }
def TapeCutWrongFalsely : Prop := tapeCutRow.holds Tryd.pinned (OpenSpec.ofChange tapeCutWrong)

/-- 'amnesialaw22.TapeFull': WHATEVER THE INPUT: true; the input reads as it did. -/
def tapeFullSpec : ChangeSpec := { name := "tapeFull", fn := fun _ => fun
  | [d1, d2] => { results := [.lit (.bool true)], args := [d1, d2] }
  | _ => none }
def tapeFullRow : OpenClaim := { program := "ytfpmnhmdphaceaadoor", sum := "05e1e95100824466fbc09f61c84f86d0c9f0bf0c61ea55073a346d8a646b0189", func := "amnesia/amnesialaw22.TapeFull", spec := "tapeFull", named := ["amnesia/wire.nibbles"], apart := false, laid := [("amnesia/wire.nibbles", laid_amnesia_wire_nibbles)] }
def TapeFullSaid : Prop := tapeFullRow.holds Tryd.pinned (OpenSpec.ofChange tapeFullSpec)

/-- ITS FALSE NEIGHBOUR: 'it returns false'. Refute it at one input. -/
def tapeFullWrong : ChangeSpec := { name := "tapeFull", fn := fun _ => fun
  | [d1, d2] => { results := [.lit (.bool false)], args := [d1, d2] }
  | _ => none }
def TapeFullWrongFalsely : Prop := tapeFullRow.holds Tryd.pinned (OpenSpec.ofChange tapeFullWrong)

/-- 'amnesialaw22.TapeNil': WHATEVER THE INPUT: true; the input reads as it did. -/
def tapeNilSpec : ChangeSpec := { name := "tapeNil", fn := fun _ => fun
  | [] => { results := [.lit (.bool true)], args := [] }
  | _ => none }
def tapeNilRow : OpenClaim := { program := "ytfpmnhmdphaceaadoor", sum := "05e1e95100824466fbc09f61c84f86d0c9f0bf0c61ea55073a346d8a646b0189", func := "amnesia/amnesialaw22.TapeNil", spec := "tapeNil", named := ["amnesia/wire.nibbles"], apart := false, laid := [("amnesia/wire.nibbles", laid_amnesia_wire_nibbles)] }
def TapeNilSaid : Prop := tapeNilRow.holds Tryd.pinned (OpenSpec.ofChange tapeNilSpec)

/-- ITS FALSE NEIGHBOUR: 'it returns false'. Refute it at one input. -/
def tapeNilWrong : ChangeSpec := { name := "tapeNil", fn := fun _ => fun
  | [] => { results := [.lit (.bool false)], args := [] }
  | _ => none }
def TapeNilWrongFalsely : Prop := tapeNilRow.holds Tryd.pinned (OpenSpec.ofChange tapeNilWrong)

/-- 'amnesialaw22.TapeSeeks': WHATEVER THE INPUT: true; the input reads as it did. -/
def tapeSeeksSpec : ChangeSpec := { name := "tapeSeeks", fn := fun _ => fun
  | [d1, d2, d3] => { results := [.lit (.bool true)], args := [d1, d2, d3] }
  | _ => none }
def tapeSeeksRow : OpenClaim := { program := "ytfpmnhmdphaceaadoor", sum := "05e1e95100824466fbc09f61c84f86d0c9f0bf0c61ea55073a346d8a646b0189", func := "amnesia/amnesialaw22.TapeSeeks", spec := "tapeSeeks", named := ["amnesia/wire.nibbles"], apart := false, laid := [("amnesia/wire.nibbles", laid_amnesia_wire_nibbles)] }
def TapeSeeksSaid : Prop := tapeSeeksRow.holds Tryd.pinned (OpenSpec.ofChange tapeSeeksSpec)

/-- ITS FALSE NEIGHBOUR: 'it returns false'. Refute it at one input. -/
def tapeSeeksWrong : ChangeSpec := { name := "tapeSeeks", fn := fun _ => fun
  | [d1, d2, d3] => { results := [.lit (.bool false)], args := [d1, d2, d3] }
  | _ => none }
def TapeSeeksWrongFalsely : Prop := tapeSeeksRow.holds Tryd.pinned (OpenSpec.ofChange tapeSeeksWrong)

/-- 'amnesialaw22.TapeBack': WHATEVER THE INPUT: true; the input reads as it did. -/
def tapeBackSpec : ChangeSpec := { name := "tapeBack", fn := fun _ => fun
  | [d1, d2, d3, d4, d5] => { results := [.lit (.bool true)], args := [d1, d2, d3, d4, d5] }
  | _ => none }
def tapeBackRow : OpenClaim := { program := "ytfpmnhmdphaceaadoor", sum := "05e1e95100824466fbc09f61c84f86d0c9f0bf0c61ea55073a346d8a646b0189", func := "amnesia/amnesialaw22.TapeBack", spec := "tapeBack", named := ["amnesia/wire.nibbles"], apart := false, laid := [("amnesia/wire.nibbles", laid_amnesia_wire_nibbles)] }
def TapeBackSaid : Prop := tapeBackRow.holds Tryd.pinned (OpenSpec.ofChange tapeBackSpec)

/-- ITS FALSE NEIGHBOUR: 'it returns false'. Refute it at one input. -/
def tapeBackWrong : ChangeSpec := { name := "tapeBack", fn := fun _ => fun
  | [d1, d2, d3, d4, d5] => { results := [.lit (.bool false)], args := [d1, d2, d3, d4, d5] }
  | _ => none }
def TapeBackWrongFalsely : Prop := tapeBackRow.holds Tryd.pinned (OpenSpec.ofChange tapeBackWrong)

/-- 'amnesialaw22.TapeOwn': WHATEVER THE INPUT: true; the input reads as it did. -/
def tapeOwnSpec : ChangeSpec := { name := "tapeOwn", fn := fun _ => fun
  | [d1, d2, d3] => { results := [.lit (.bool true)], args := [d1, d2, d3] }
  | _ => none }
def tapeOwnRow : OpenClaim := { program := "ytfpmnhmdphaceaadoor", sum := "05e1e95100824466fbc09f61c84f86d0c9f0bf0c61ea55073a346d8a646b0189", func := "amnesia/amnesialaw22.TapeOwn", spec := "tapeOwn", named := ["amnesia/wire.nibbles"], apart := false, laid := [("amnesia/wire.nibbles", laid_amnesia_wire_nibbles)] }
def TapeOwnSaid : Prop := tapeOwnRow.holds Tryd.pinned (OpenSpec.ofChange tapeOwnSpec)

/-- ITS FALSE NEIGHBOUR: 'it returns false'. Refute it at one input. -/
def tapeOwnWrong : ChangeSpec := { name := "tapeOwn", fn := fun _ => fun
  | [d1, d2, d3] => { results := [.lit (.bool false)], args := [d1, d2, d3] }
  | _ => none }
def TapeOwnWrongFalsely : Prop := tapeOwnRow.holds Tryd.pinned (OpenSpec.ofChange tapeOwnWrong)

/- THE SECOND FORM. 'bulk': how many values and letters a reading holds, each counted each time it is reached (what is shared counts as often as it is met; a slice's spare places count too). A statement '..UptoSaid' is the law's where the arguments, and the package variables that the reading takes, are together of bulk at most 1048576: NARROWER than '..Said'. Prove '..Said' where nothing that the law and all that it calls make is longer than what came in: it says more and counts as full. Else prove '..UptoSaid'. A law counts once. -/
mutual
def uptoBulk {H : Type} : DataW H → Nat
  | .lit (.string bytes) => bytes.length + 1
  | .lit _ => 1
  | .nil => 1
  | .ptr d => uptoBulk d + 1
  | .slice elems spare => uptoBulkAll elems + uptoBulkAll spare + 1
  | .agg parts => uptoBulkAll parts + 1
  | .iface _ d => uptoBulk d + 1
  | .map entries => uptoBulkEntries entries + 1
  | .held _ => 1
def uptoBulkAll {H : Type} : List (DataW H) → Nat
  | [] => 0
  | d :: r => uptoBulk d + uptoBulkAll r
def uptoBulkEntries {H : Type} : List (Lit × DataW H) → Nat
  | [] => 0
  | x :: r => uptoBulkEntry x + uptoBulkEntries r
def uptoBulkEntry {H : Type} : Lit × DataW H → Nat
  | (.string bytes, d) => bytes.length + uptoBulk d + 1
  | (_, d) => uptoBulk d + 1
 end
def uptoSmall : (H : Type) → List (DataW H) → Bool := fun _ ds => decide (uptoBulkAll ds ≤ 1048576)
def OpenSpec.upto (s : _root_.Go.ChangeSpec) : _root_.Go.OpenSpec := { _root_.Go.OpenSpec.ofChange s with cond := some uptoSmall }

/-- 'amnesialaw22.TapeEvents', WHERE WHAT IT READS IS OF BULK AT MOST 1048576: true; the input reads as it did. -/
def tapeEventsUptoRow : OpenClaim := { program := "ytfpmnhmdphaceaadoor", sum := "05e1e95100824466fbc09f61c84f86d0c9f0bf0c61ea55073a346d8a646b0189", func := "amnesia/amnesialaw22.TapeEvents", spec := "tapeEvents", named := ["amnesia/wire.nibbles"], apart := false, laid := [("amnesia/wire.nibbles", laid_amnesia_wire_nibbles)], narrowed := true }
def TapeEventsUptoSaid : Prop := tapeEventsUptoRow.holds Tryd.pinned (OpenSpec.upto tapeEventsSpec)

/-- 'amnesialaw22.TapeForm', WHERE WHAT IT READS IS OF BULK AT MOST 1048576: true; the input reads as it did. -/
def tapeFormUptoRow : OpenClaim := { program := "ytfpmnhmdphaceaadoor", sum := "05e1e95100824466fbc09f61c84f86d0c9f0bf0c61ea55073a346d8a646b0189", func := "amnesia/amnesialaw22.TapeForm", spec := "tapeForm", named := ["amnesia/wire.nibbles"], apart := false, laid := [("amnesia/wire.nibbles", laid_amnesia_wire_nibbles)], narrowed := true }
def TapeFormUptoSaid : Prop := tapeFormUptoRow.holds Tryd.pinned (OpenSpec.upto tapeFormSpec)

/-- 'amnesialaw22.TapeCut', WHERE WHAT IT READS IS OF BULK AT MOST 1048576: true; the input reads as it did. -/
def tapeCutUptoRow : OpenClaim := { program := "ytfpmnhmdphaceaadoor", sum := "05e1e95100824466fbc09f61c84f86d0c9f0bf0c61ea55073a346d8a646b0189", func := "amnesia/amnesialaw22.TapeCut", spec := "tapeCut", named := ["amnesia/wire.nibbles"], apart := false, laid := [("amnesia/wire.nibbles", laid_amnesia_wire_nibbles)], narrowed := true }
def TapeCutUptoSaid : Prop := tapeCutUptoRow.holds Tryd.pinned (OpenSpec.upto tapeCutSpec)

/-- 'amnesialaw22.TapeFull', WHERE WHAT IT READS IS OF BULK AT MOST 1048576: true; the input reads as it did. -/
def tapeFullUptoRow : OpenClaim := { program := "ytfpmnhmdphaceaadoor", sum := "05e1e95100824466fbc09f61c84f86d0c9f0bf0c61ea55073a346d8a646b0189", func := "amnesia/amnesialaw22.TapeFull", spec := "tapeFull", named := ["amnesia/wire.nibbles"], apart := false, laid := [("amnesia/wire.nibbles", laid_amnesia_wire_nibbles)], narrowed := true }
def TapeFullUptoSaid : Prop := tapeFullUptoRow.holds Tryd.pinned (OpenSpec.upto tapeFullSpec)

/-- 'amnesialaw22.TapeNil', WHERE WHAT IT READS IS OF BULK AT MOST 1048576: true; the input reads as it did. -/
def tapeNilUptoRow : OpenClaim := { program := "ytfpmnhmdphaceaadoor", sum := "05e1e95100824466fbc09f61c84f86d0c9f0bf0c61ea55073a346d8a646b0189", func := "amnesia/amnesialaw22.TapeNil", spec := "tapeNil", named := ["amnesia/wire.nibbles"], apart := false, laid := [("amnesia/wire.nibbles", laid_amnesia_wire_nibbles)], narrowed := true }
def TapeNilUptoSaid : Prop := tapeNilUptoRow.holds Tryd.pinned (OpenSpec.upto tapeNilSpec)

/-- 'amnesialaw22.TapeSeeks', WHERE WHAT IT READS IS OF BULK AT MOST 1048576: true; the input reads as it did. -/
def tapeSeeksUptoRow : OpenClaim := { program := "ytfpmnhmdphaceaadoor", sum := "05e1e95100824466fbc09f61c84f86d0c9f0bf0c61ea55073a346d8a646b0189", func := "amnesia/amnesialaw22.TapeSeeks", spec := "tapeSeeks", named := ["amnesia/wire.nibbles"], apart := false, laid := [("amnesia/wire.nibbles", laid_amnesia_wire_nibbles)], narrowed := true }
def TapeSeeksUptoSaid : Prop := tapeSeeksUptoRow.holds Tryd.pinned (OpenSpec.upto tapeSeeksSpec)

/-- 'amnesialaw22.TapeBack', WHERE WHAT IT READS IS OF BULK AT MOST 1048576: true; the input reads as it did. -/
def tapeBackUptoRow : OpenClaim := { program := "ytfpmnhmdphaceaadoor", sum := "05e1e95100824466fbc09f61c84f86d0c9f0bf0c61ea55073a346d8a646b0189", func := "amnesia/amnesialaw22.TapeBack", spec := "tapeBack", named := ["amnesia/wire.nibbles"], apart := false, laid := [("amnesia/wire.nibbles", laid_amnesia_wire_nibbles)], narrowed := true }
def TapeBackUptoSaid : Prop := tapeBackUptoRow.holds Tryd.pinned (OpenSpec.upto tapeBackSpec)

/-- 'amnesialaw22.TapeOwn', WHERE WHAT IT READS IS OF BULK AT MOST 1048576: true; the input reads as it did. -/
def tapeOwnUptoRow : OpenClaim := { program := "ytfpmnhmdphaceaadoor", sum := "05e1e95100824466fbc09f61c84f86d0c9f0bf0c61ea55073a346d8a646b0189", func := "amnesia/amnesialaw22.TapeOwn", spec := "tapeOwn", named := ["amnesia/wire.nibbles"], apart := false, laid := [("amnesia/wire.nibbles", laid_amnesia_wire_nibbles)], narrowed := true }
def TapeOwnUptoSaid : Prop := tapeOwnUptoRow.holds Tryd.pinned (OpenSpec.upto tapeOwnSpec)

end Rows
end Go.Proofs.YtfpmnhmdphaceaaDoor
