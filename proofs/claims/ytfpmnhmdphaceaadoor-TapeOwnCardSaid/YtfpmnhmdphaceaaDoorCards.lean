/-
  DERIVED. GIVEN WITH THE SEED: THE CARDS: each row of YtfpmnhmdphaceaaDoorRows.lean that lists a variable, with what it lists TIED to the program's text (the seventh form; the later family's looks); each row that meets fmt, with fmt's text TOLD by the authors' own Lean function (tested against real Go, not proved from fmt's source: count such statements apart). THE CARD IS WHAT COUNTS. Prove the row's statement (the work); the ties are given (YtfpmnhmdphaceaaDoorTie.lean); close each card by the builder's one call (the guide's Derived/Test/ToyasCard.lean, 'card_holds'). Laid BY PROGRAM, IN A SANDBOX (cutbox-door.mjs). By AI agents, Wed Nov 11 2026. No macro, syntax, notation, axiom, sorry.
-/
import Derived.Test.YtfpmnhmdphaceaaDoorRows
import GoSem.ClaimSeven
namespace Go.Proofs.YtfpmnhmdphaceaaDoor
namespace Rows

/-- THE TIED CARD OF 'amnesialaw22.TapeEvents'. -/
def tapeEventsCard : Claim7 := { stood := { row := tapeEventsRow, standIns := [], harness := (true, "9192e3ffcfef51d96e1515d981582076e87353550fca6c0bf38a903a1ec79fbb"), looks := false }, kinds := [], alts := [], laidByText := true, laidKinds := [.data], laidTests := true, laidLooks := .later }
def TapeEventsCardSaid : Prop := Claim7.holds Tryd.pinned (.plain (OpenSpec.ofChange tapeEventsSpec)) tapeEventsCard

/-- THE TIED CARD OF 'amnesialaw22.TapeForm'. -/
def tapeFormCard : Claim7 := { stood := { row := tapeFormRow, standIns := [], harness := (true, "9192e3ffcfef51d96e1515d981582076e87353550fca6c0bf38a903a1ec79fbb"), looks := false }, kinds := [], alts := [], laidByText := true, laidKinds := [.data], laidTests := true, laidLooks := .later }
def TapeFormCardSaid : Prop := Claim7.holds Tryd.pinned (.plain (OpenSpec.ofChange tapeFormSpec)) tapeFormCard

/-- THE TIED CARD OF 'amnesialaw22.TapeCut'. -/
def tapeCutCard : Claim7 := { stood := { row := tapeCutRow, standIns := [], harness := (true, "9192e3ffcfef51d96e1515d981582076e87353550fca6c0bf38a903a1ec79fbb"), looks := false }, kinds := [], alts := [], laidByText := true, laidKinds := [.data], laidTests := true, laidLooks := .later }
def TapeCutCardSaid : Prop := Claim7.holds Tryd.pinned (.plain (OpenSpec.ofChange tapeCutSpec)) tapeCutCard

/-- THE TIED CARD OF 'amnesialaw22.TapeFull'. -/
def tapeFullCard : Claim7 := { stood := { row := tapeFullRow, standIns := [], harness := (true, "9192e3ffcfef51d96e1515d981582076e87353550fca6c0bf38a903a1ec79fbb"), looks := false }, kinds := [], alts := [], laidByText := true, laidKinds := [.data], laidTests := true, laidLooks := .later }
def TapeFullCardSaid : Prop := Claim7.holds Tryd.pinned (.plain (OpenSpec.ofChange tapeFullSpec)) tapeFullCard

/-- THE TIED CARD OF 'amnesialaw22.TapeNil'. -/
def tapeNilCard : Claim7 := { stood := { row := tapeNilRow, standIns := [], harness := (true, "9192e3ffcfef51d96e1515d981582076e87353550fca6c0bf38a903a1ec79fbb"), looks := false }, kinds := [], alts := [], laidByText := true, laidKinds := [.data], laidTests := true, laidLooks := .later }
def TapeNilCardSaid : Prop := Claim7.holds Tryd.pinned (.plain (OpenSpec.ofChange tapeNilSpec)) tapeNilCard

/-- THE TIED CARD OF 'amnesialaw22.TapeSeeks'. -/
def tapeSeeksCard : Claim7 := { stood := { row := tapeSeeksRow, standIns := [], harness := (true, "9192e3ffcfef51d96e1515d981582076e87353550fca6c0bf38a903a1ec79fbb"), looks := false }, kinds := [], alts := [], laidByText := true, laidKinds := [.data], laidTests := true, laidLooks := .later }
def TapeSeeksCardSaid : Prop := Claim7.holds Tryd.pinned (.plain (OpenSpec.ofChange tapeSeeksSpec)) tapeSeeksCard

/-- THE TIED CARD OF 'amnesialaw22.TapeBack'. -/
def tapeBackCard : Claim7 := { stood := { row := tapeBackRow, standIns := [], harness := (true, "9192e3ffcfef51d96e1515d981582076e87353550fca6c0bf38a903a1ec79fbb"), looks := false }, kinds := [], alts := [], laidByText := true, laidKinds := [.data], laidTests := true, laidLooks := .later }
def TapeBackCardSaid : Prop := Claim7.holds Tryd.pinned (.plain (OpenSpec.ofChange tapeBackSpec)) tapeBackCard

/-- THE TIED CARD OF 'amnesialaw22.TapeOwn'. -/
def tapeOwnCard : Claim7 := { stood := { row := tapeOwnRow, standIns := [], harness := (true, "9192e3ffcfef51d96e1515d981582076e87353550fca6c0bf38a903a1ec79fbb"), looks := false }, kinds := [], alts := [], laidByText := true, laidKinds := [.data], laidTests := true, laidLooks := .later }
def TapeOwnCardSaid : Prop := Claim7.holds Tryd.pinned (.plain (OpenSpec.ofChange tapeOwnSpec)) tapeOwnCard

/-- THE SECOND FORM's CARD OF 'amnesialaw22.TapeEvents'. -/
def tapeEventsUptoCard : Claim7 := { stood := { row := tapeEventsUptoRow, standIns := [], harness := (true, "9192e3ffcfef51d96e1515d981582076e87353550fca6c0bf38a903a1ec79fbb"), looks := false }, kinds := [], alts := [], laidByText := true, laidKinds := [.data], laidTests := true, laidLooks := .later }
def TapeEventsUptoCardSaid : Prop := Claim7.holds Tryd.pinned (.plain (OpenSpec.upto tapeEventsSpec)) tapeEventsUptoCard

/-- THE SECOND FORM's CARD OF 'amnesialaw22.TapeForm'. -/
def tapeFormUptoCard : Claim7 := { stood := { row := tapeFormUptoRow, standIns := [], harness := (true, "9192e3ffcfef51d96e1515d981582076e87353550fca6c0bf38a903a1ec79fbb"), looks := false }, kinds := [], alts := [], laidByText := true, laidKinds := [.data], laidTests := true, laidLooks := .later }
def TapeFormUptoCardSaid : Prop := Claim7.holds Tryd.pinned (.plain (OpenSpec.upto tapeFormSpec)) tapeFormUptoCard

/-- THE SECOND FORM's CARD OF 'amnesialaw22.TapeCut'. -/
def tapeCutUptoCard : Claim7 := { stood := { row := tapeCutUptoRow, standIns := [], harness := (true, "9192e3ffcfef51d96e1515d981582076e87353550fca6c0bf38a903a1ec79fbb"), looks := false }, kinds := [], alts := [], laidByText := true, laidKinds := [.data], laidTests := true, laidLooks := .later }
def TapeCutUptoCardSaid : Prop := Claim7.holds Tryd.pinned (.plain (OpenSpec.upto tapeCutSpec)) tapeCutUptoCard

/-- THE SECOND FORM's CARD OF 'amnesialaw22.TapeFull'. -/
def tapeFullUptoCard : Claim7 := { stood := { row := tapeFullUptoRow, standIns := [], harness := (true, "9192e3ffcfef51d96e1515d981582076e87353550fca6c0bf38a903a1ec79fbb"), looks := false }, kinds := [], alts := [], laidByText := true, laidKinds := [.data], laidTests := true, laidLooks := .later }
def TapeFullUptoCardSaid : Prop := Claim7.holds Tryd.pinned (.plain (OpenSpec.upto tapeFullSpec)) tapeFullUptoCard

/-- THE SECOND FORM's CARD OF 'amnesialaw22.TapeNil'. -/
def tapeNilUptoCard : Claim7 := { stood := { row := tapeNilUptoRow, standIns := [], harness := (true, "9192e3ffcfef51d96e1515d981582076e87353550fca6c0bf38a903a1ec79fbb"), looks := false }, kinds := [], alts := [], laidByText := true, laidKinds := [.data], laidTests := true, laidLooks := .later }
def TapeNilUptoCardSaid : Prop := Claim7.holds Tryd.pinned (.plain (OpenSpec.upto tapeNilSpec)) tapeNilUptoCard

/-- THE SECOND FORM's CARD OF 'amnesialaw22.TapeSeeks'. -/
def tapeSeeksUptoCard : Claim7 := { stood := { row := tapeSeeksUptoRow, standIns := [], harness := (true, "9192e3ffcfef51d96e1515d981582076e87353550fca6c0bf38a903a1ec79fbb"), looks := false }, kinds := [], alts := [], laidByText := true, laidKinds := [.data], laidTests := true, laidLooks := .later }
def TapeSeeksUptoCardSaid : Prop := Claim7.holds Tryd.pinned (.plain (OpenSpec.upto tapeSeeksSpec)) tapeSeeksUptoCard

/-- THE SECOND FORM's CARD OF 'amnesialaw22.TapeBack'. -/
def tapeBackUptoCard : Claim7 := { stood := { row := tapeBackUptoRow, standIns := [], harness := (true, "9192e3ffcfef51d96e1515d981582076e87353550fca6c0bf38a903a1ec79fbb"), looks := false }, kinds := [], alts := [], laidByText := true, laidKinds := [.data], laidTests := true, laidLooks := .later }
def TapeBackUptoCardSaid : Prop := Claim7.holds Tryd.pinned (.plain (OpenSpec.upto tapeBackSpec)) tapeBackUptoCard

/-- THE SECOND FORM's CARD OF 'amnesialaw22.TapeOwn'. -/
def tapeOwnUptoCard : Claim7 := { stood := { row := tapeOwnUptoRow, standIns := [], harness := (true, "9192e3ffcfef51d96e1515d981582076e87353550fca6c0bf38a903a1ec79fbb"), looks := false }, kinds := [], alts := [], laidByText := true, laidKinds := [.data], laidTests := true, laidLooks := .later }
def TapeOwnUptoCardSaid : Prop := Claim7.holds Tryd.pinned (.plain (OpenSpec.upto tapeOwnSpec)) tapeOwnUptoCard
end Rows
end Go.Proofs.YtfpmnhmdphaceaaDoor
