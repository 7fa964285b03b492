/-
  No cell of these rows narrows 'for every input' (looked for: loops, veiled, ifaces, maps, wideKeys, modest, calm, conditions, laid).
  DERIVED. THE GIVEN ROWS OF THIS SEAT. 7 by the template 'for every input the law returns true; each argument reads behind the call as it read before'; 0 by the template 'total and deterministic' (their statements: YtmgcmgfjaimlnaaTotals.lean).
  GIVEN WITH THE SEED: the statements are not yours to turn. If you find one false, say at which input.
  Laid BY PROGRAM, IN A SANDBOX (cutbox-rows.mjs): the forced cells as the released guide's own fill.sh prints them over the translation 1dcb8dea8e920fe7… (all of the seat's roots in one cut). By AI agents, Wed Nov 11 2026. No macro, syntax, notation, axiom, sorry.
-/
import Derived.Test.YtmgcmgfjaimlnaaChecked
import GoSem.Claim
import GoSem.ClaimJoined
import GoSem.ClaimMapViews
import Derived.JoinedTies
import Derived.KernelRfl
namespace Go.Proofs.Ytmgcmgfjaimlnaa
/- THE CELL 'sum', in the pinned program and in every row, IS THE sha256 OF THE DUMP (.gsa) THAT YtmgcmgfjaimlnaaProg.lean LOADS. Nothing in Lean hashes anything: it is a label: what it is worth is what the hold of that sum in a sandbox is worth. -/
noncomputable def Try.pinned : Pinned := { name := "ytmgcmgfjaimlnaa", sum := "1dcb8dea8e920fe7884c85119bd400c849891bf6bc0f8a032b7a73a1ac5bff81", checked := Try.checked }
namespace Rows
def none {H : Type} : Left H := { results := [], args := [] }

/-- 'amnesialaw14.NetworkOrders': WHATEVER THE INPUT: true; the input reads as it did. -/
def networkOrdersSpec : ChangeSpec := { name := "networkOrders", fn := fun _ => fun
  | [d1, d2] => { results := [.lit (.bool true)], args := [d1, d2] }
  | _ => none }
def networkOrdersRow : OpenClaim := { program := "ytmgcmgfjaimlnaa", sum := "1dcb8dea8e920fe7884c85119bd400c849891bf6bc0f8a032b7a73a1ac5bff81", func := "amnesia/amnesialaw14.NetworkOrders", spec := "networkOrders", plainKeys := false, apart := false }
def NetworkOrdersSaid : Prop := networkOrdersRow.holds Try.pinned (OpenSpec.ofChange networkOrdersSpec)

/-- ITS FALSE NEIGHBOUR: 'it returns false'. Refute it at one input. -/
def networkOrdersWrong : ChangeSpec := { name := "networkOrders", fn := fun _ => fun
  | [d1, d2] => { results := [.lit (.bool false)], args := [d1, d2] }
  | _ => none }
def NetworkOrdersWrongFalsely : Prop := networkOrdersRow.holds Try.pinned (OpenSpec.ofChange networkOrdersWrong)

/-- 'amnesialaw14.NetworkApart': WHATEVER THE INPUT: true; the input reads as it did. -/
def networkApartSpec : ChangeSpec := { name := "networkApart", fn := fun _ => fun
  | [d1, d2] => { results := [.lit (.bool true)], args := [d1, d2] }
  | _ => none }
def networkApartRow : OpenClaim := { program := "ytmgcmgfjaimlnaa", sum := "1dcb8dea8e920fe7884c85119bd400c849891bf6bc0f8a032b7a73a1ac5bff81", func := "amnesia/amnesialaw14.NetworkApart", spec := "networkApart", plainKeys := false, apart := false }
def NetworkApartSaid : Prop := networkApartRow.holds Try.pinned (OpenSpec.ofChange networkApartSpec)

/-- ITS FALSE NEIGHBOUR: 'it returns false'. Refute it at one input. -/
def networkApartWrong : ChangeSpec := { name := "networkApart", fn := fun _ => fun
  | [d1, d2] => { results := [.lit (.bool false)], args := [d1, d2] }
  | _ => none }
def NetworkApartWrongFalsely : Prop := networkApartRow.holds Try.pinned (OpenSpec.ofChange networkApartWrong)

/-- 'amnesialaw14.NetworkHeap': WHATEVER THE INPUT: true; the input reads as it did. -/
def networkHeapSpec : ChangeSpec := { name := "networkHeap", fn := fun _ => fun
  | [d1, d2, d3, d4, d5] => { results := [.lit (.bool true)], args := [d1, d2, d3, d4, d5] }
  | _ => none }
def networkHeapRow : OpenClaim := { program := "ytmgcmgfjaimlnaa", sum := "1dcb8dea8e920fe7884c85119bd400c849891bf6bc0f8a032b7a73a1ac5bff81", func := "amnesia/amnesialaw14.NetworkHeap", spec := "networkHeap", plainKeys := false, apart := false }
def NetworkHeapSaid : Prop := networkHeapRow.holds Try.pinned (OpenSpec.ofChange networkHeapSpec)

/-- ITS FALSE NEIGHBOUR: 'it returns false'. Refute it at one input. -/
def networkHeapWrong : ChangeSpec := { name := "networkHeap", fn := fun _ => fun
  | [d1, d2, d3, d4, d5] => { results := [.lit (.bool false)], args := [d1, d2, d3, d4, d5] }
  | _ => none }
def NetworkHeapWrongFalsely : Prop := networkHeapRow.holds Try.pinned (OpenSpec.ofChange networkHeapWrong)

/-- 'amnesialaw14.NetworkGenuine': WHATEVER THE INPUT: true; the input reads as it did. -/
def networkGenuineSpec : ChangeSpec := { name := "networkGenuine", fn := fun _ => fun
  | [d1, d2] => { results := [.lit (.bool true)], args := [d1, d2] }
  | _ => none }
def networkGenuineRow : OpenClaim := { program := "ytmgcmgfjaimlnaa", sum := "1dcb8dea8e920fe7884c85119bd400c849891bf6bc0f8a032b7a73a1ac5bff81", func := "amnesia/amnesialaw14.NetworkGenuine", spec := "networkGenuine", plainKeys := false, apart := false }
def NetworkGenuineSaid : Prop := networkGenuineRow.holds Try.pinned (OpenSpec.ofChange networkGenuineSpec)

/-- ITS FALSE NEIGHBOUR: 'it returns false'. Refute it at one input. -/
def networkGenuineWrong : ChangeSpec := { name := "networkGenuine", fn := fun _ => fun
  | [d1, d2] => { results := [.lit (.bool false)], args := [d1, d2] }
  | _ => none }
def NetworkGenuineWrongFalsely : Prop := networkGenuineRow.holds Try.pinned (OpenSpec.ofChange networkGenuineWrong)

/-- 'amnesialaw14.NetworkFor': WHATEVER THE INPUT: true; the input reads as it did. -/
def networkForSpec : ChangeSpec := { name := "networkFor", fn := fun _ => fun
  | [d1, d2] => { results := [.lit (.bool true)], args := [d1, d2] }
  | _ => none }
def networkForRow : OpenClaim := { program := "ytmgcmgfjaimlnaa", sum := "1dcb8dea8e920fe7884c85119bd400c849891bf6bc0f8a032b7a73a1ac5bff81", func := "amnesia/amnesialaw14.NetworkFor", spec := "networkFor", unfollowed := true, recurses := true, plainKeys := false, apart := false }
def NetworkForSaid : Prop := networkForRow.holds Try.pinned (OpenSpec.ofChange networkForSpec)

/-- ITS FALSE NEIGHBOUR: 'it returns false'. Refute it at one input. -/
def networkForWrong : ChangeSpec := { name := "networkFor", fn := fun _ => fun
  | [d1, d2] => { results := [.lit (.bool false)], args := [d1, d2] }
  | _ => none }
def NetworkForWrongFalsely : Prop := networkForRow.holds Try.pinned (OpenSpec.ofChange networkForWrong)

/-- 'amnesialaw14.NetworkPlays': WHATEVER THE INPUT: true; the input reads as it did. -/
def networkPlaysSpec : ChangeSpec := { name := "networkPlays", fn := fun _ => fun
  | [d1, d2, d3, d4] => { results := [.lit (.bool true)], args := [d1, d2, d3, d4] }
  | _ => none }
def networkPlaysRow : OpenClaim := { program := "ytmgcmgfjaimlnaa", sum := "1dcb8dea8e920fe7884c85119bd400c849891bf6bc0f8a032b7a73a1ac5bff81", func := "amnesia/amnesialaw14.NetworkPlays", spec := "networkPlays", unfollowed := true, recurses := true, plainKeys := false, apart := false }
def NetworkPlaysSaid : Prop := networkPlaysRow.holds Try.pinned (OpenSpec.ofChange networkPlaysSpec)

/-- ITS FALSE NEIGHBOUR: 'it returns false'. Refute it at one input. -/
def networkPlaysWrong : ChangeSpec := { name := "networkPlays", fn := fun _ => fun
  | [d1, d2, d3, d4] => { results := [.lit (.bool false)], args := [d1, d2, d3, d4] }
  | _ => none }
def NetworkPlaysWrongFalsely : Prop := networkPlaysRow.holds Try.pinned (OpenSpec.ofChange networkPlaysWrong)

/-- 'amnesialaw14.NetworkNil': WHATEVER THE INPUT: true; the input reads as it did. -/
def networkNilSpec : ChangeSpec := { name := "networkNil", fn := fun _ => fun
  | [] => { results := [.lit (.bool true)], args := [] }
  | _ => none }
def networkNilRow : OpenClaim := { program := "ytmgcmgfjaimlnaa", sum := "1dcb8dea8e920fe7884c85119bd400c849891bf6bc0f8a032b7a73a1ac5bff81", func := "amnesia/amnesialaw14.NetworkNil", spec := "networkNil", unfollowed := true, recurses := true, plainKeys := false, apart := false }
def NetworkNilSaid : Prop := networkNilRow.holds Try.pinned (OpenSpec.ofChange networkNilSpec)

/-- ITS FALSE NEIGHBOUR: 'it returns false'. Refute it at one input. -/
def networkNilWrong : ChangeSpec := { name := "networkNil", fn := fun _ => fun
  | [] => { results := [.lit (.bool false)], args := [] }
  | _ => none }
def NetworkNilWrongFalsely : Prop := networkNilRow.holds Try.pinned (OpenSpec.ofChange networkNilWrong)

/- THE SECOND FORM. 'bulk': how many values and letters a reading holds, each counted each time it is reached (what is shared counts as often as it is met; a slice's spare places count too). A statement '..UptoSaid' is the law's where the arguments, and the package variables that the reading takes, are together of bulk at most 1048576: NARROWER than '..Said'. Prove '..Said' where nothing that the law and all that it calls make is longer than what came in: it says more and counts as full. Else prove '..UptoSaid'. A law counts once. -/
mutual
def uptoBulk {H : Type} : DataW H → Nat
  | .lit (.string bytes) => bytes.length + 1
  | .lit _ => 1
  | .nil => 1
  | .ptr d => uptoBulk d + 1
  | .slice elems spare => uptoBulkAll elems + uptoBulkAll spare + 1
  | .agg parts => uptoBulkAll parts + 1
  | .iface _ d => uptoBulk d + 1
  | .map entries => uptoBulkEntries entries + 1
  | .held _ => 1
def uptoBulkAll {H : Type} : List (DataW H) → Nat
  | [] => 0
  | d :: r => uptoBulk d + uptoBulkAll r
def uptoBulkEntries {H : Type} : List (Lit × DataW H) → Nat
  | [] => 0
  | x :: r => uptoBulkEntry x + uptoBulkEntries r
def uptoBulkEntry {H : Type} : Lit × DataW H → Nat
  | (.string bytes, d) => bytes.length + uptoBulk d + 1
  | (_, d) => uptoBulk d + 1
 end
def uptoSmall : (H : Type) → List (DataW H) → Bool := fun _ ds => decide (uptoBulkAll ds ≤ 1048576)
def OpenSpec.upto (s : _root_.Go.ChangeSpec) : _root_.Go.OpenSpec := { _root_.Go.OpenSpec.ofChange s with cond := some uptoSmall }

/-- 'amnesialaw14.NetworkOrders', WHERE WHAT IT READS IS OF BULK AT MOST 1048576: true; the input reads as it did. -/
def networkOrdersUptoRow : OpenClaim := { program := "ytmgcmgfjaimlnaa", sum := "1dcb8dea8e920fe7884c85119bd400c849891bf6bc0f8a032b7a73a1ac5bff81", func := "amnesia/amnesialaw14.NetworkOrders", spec := "networkOrders", plainKeys := false, apart := false, narrowed := true }
def NetworkOrdersUptoSaid : Prop := networkOrdersUptoRow.holds Try.pinned (OpenSpec.upto networkOrdersSpec)

/-- 'amnesialaw14.NetworkApart', WHERE WHAT IT READS IS OF BULK AT MOST 1048576: true; the input reads as it did. -/
def networkApartUptoRow : OpenClaim := { program := "ytmgcmgfjaimlnaa", sum := "1dcb8dea8e920fe7884c85119bd400c849891bf6bc0f8a032b7a73a1ac5bff81", func := "amnesia/amnesialaw14.NetworkApart", spec := "networkApart", plainKeys := false, apart := false, narrowed := true }
def NetworkApartUptoSaid : Prop := networkApartUptoRow.holds Try.pinned (OpenSpec.upto networkApartSpec)

/-- 'amnesialaw14.NetworkHeap', WHERE WHAT IT READS IS OF BULK AT MOST 1048576: true; the input reads as it did. -/
def networkHeapUptoRow : OpenClaim := { program := "ytmgcmgfjaimlnaa", sum := "1dcb8dea8e920fe7884c85119bd400c849891bf6bc0f8a032b7a73a1ac5bff81", func := "amnesia/amnesialaw14.NetworkHeap", spec := "networkHeap", plainKeys := false, apart := false, narrowed := true }
def NetworkHeapUptoSaid : Prop := networkHeapUptoRow.holds Try.pinned (OpenSpec.upto networkHeapSpec)

/-- 'amnesialaw14.NetworkGenuine', WHERE WHAT IT READS IS OF BULK AT MOST 1048576: true; the input reads as it did. -/
def networkGenuineUptoRow : OpenClaim := { program := "ytmgcmgfjaimlnaa", sum := "1dcb8dea8e920fe7884c85119bd400c849891bf6bc0f8a032b7a73a1ac5bff81", func := "amnesia/amnesialaw14.NetworkGenuine", spec := "networkGenuine", plainKeys := false, apart := false, narrowed := true }
def NetworkGenuineUptoSaid : Prop := networkGenuineUptoRow.holds Try.pinned (OpenSpec.upto networkGenuineSpec)

/-- 'amnesialaw14.NetworkFor', WHERE WHAT IT READS IS OF BULK AT MOST 1048576: true; the input reads as it did. -/
def networkForUptoRow : OpenClaim := { program := "ytmgcmgfjaimlnaa", sum := "1dcb8dea8e920fe7884c85119bd400c849891bf6bc0f8a032b7a73a1ac5bff81", func := "amnesia/amnesialaw14.NetworkFor", spec := "networkFor", unfollowed := true, recurses := true, plainKeys := false, apart := false, narrowed := true }
def NetworkForUptoSaid : Prop := networkForUptoRow.holds Try.pinned (OpenSpec.upto networkForSpec)

/-- 'amnesialaw14.NetworkPlays', WHERE WHAT IT READS IS OF BULK AT MOST 1048576: true; the input reads as it did. -/
def networkPlaysUptoRow : OpenClaim := { program := "ytmgcmgfjaimlnaa", sum := "1dcb8dea8e920fe7884c85119bd400c849891bf6bc0f8a032b7a73a1ac5bff81", func := "amnesia/amnesialaw14.NetworkPlays", spec := "networkPlays", unfollowed := true, recurses := true, plainKeys := false, apart := false, narrowed := true }
def NetworkPlaysUptoSaid : Prop := networkPlaysUptoRow.holds Try.pinned (OpenSpec.upto networkPlaysSpec)

/-- 'amnesialaw14.NetworkNil', WHERE WHAT IT READS IS OF BULK AT MOST 1048576: true; the input reads as it did. -/
def networkNilUptoRow : OpenClaim := { program := "ytmgcmgfjaimlnaa", sum := "1dcb8dea8e920fe7884c85119bd400c849891bf6bc0f8a032b7a73a1ac5bff81", func := "amnesia/amnesialaw14.NetworkNil", spec := "networkNil", unfollowed := true, recurses := true, plainKeys := false, apart := false, narrowed := true }
def NetworkNilUptoSaid : Prop := networkNilUptoRow.holds Try.pinned (OpenSpec.upto networkNilSpec)

end Rows
end Go.Proofs.Ytmgcmgfjaimlnaa
