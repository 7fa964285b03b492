/-
  No cell of these rows narrows 'for every input' (looked for: loops, veiled, ifaces, maps, wideKeys, modest, calm, conditions, laid).
  DERIVED. THE GIVEN ROWS OF THIS SEAT. 11 by the template 'for every input the law returns true; each argument reads behind the call as it read before'; 0 by the template 'total and deterministic' (their statements: YtcmmhpkgjcepdaaTotals.lean).
  GIVEN WITH THE SEED: the statements are not yours to turn. If you find one false, say at which input.
  Laid BY PROGRAM, IN A SANDBOX (cutbox-rows.mjs): the forced cells as the released guide's own fill.sh prints them over the translation 0e6c87c9a1ef2397… (all of the seat's roots in one cut). By AI agents, Wed Nov 11 2026. No macro, syntax, notation, axiom, sorry.
-/
import Derived.Test.YtcmmhpkgjcepdaaChecked
import GoSem.Claim
import GoSem.ClaimJoined
import GoSem.ClaimMapViews
import Derived.JoinedTies
import Derived.KernelRfl
namespace Go.Proofs.Ytcmmhpkgjcepdaa
/- THE CELL 'sum', in the pinned program and in every row, IS THE sha256 OF THE DUMP (.gsa) THAT YtcmmhpkgjcepdaaProg.lean LOADS. Nothing in Lean hashes anything: it is a label: what it is worth is what the hold of that sum in a sandbox is worth. -/
noncomputable def Try.pinned : Pinned := { name := "ytcmmhpkgjcepdaa", sum := "0e6c87c9a1ef23973568d7553fe8a440b4584ea86531a1cfeb77e86222161e52", checked := Try.checked }
namespace Rows
def none {H : Type} : Left H := { results := [], args := [] }

/-- 'amnesialaw20.TreeHeads': WHATEVER THE INPUT: true; the input reads as it did. -/
def treeHeadsSpec : ChangeSpec := { name := "treeHeads", fn := fun _ => fun
  | [d1, d2, d3, d4] => { results := [.lit (.bool true)], args := [d1, d2, d3, d4] }
  | _ => none }
def treeHeadsRow : OpenClaim := { program := "ytcmmhpkgjcepdaa", sum := "0e6c87c9a1ef23973568d7553fe8a440b4584ea86531a1cfeb77e86222161e52", func := "amnesia/amnesialaw20.TreeHeads", spec := "treeHeads", recurses := true, apart := false }
def TreeHeadsSaid : Prop := treeHeadsRow.holds Try.pinned (OpenSpec.ofChange treeHeadsSpec)

/-- ITS FALSE NEIGHBOUR: 'it returns false'. Refute it at one input. -/
def treeHeadsWrong : ChangeSpec := { name := "treeHeads", fn := fun _ => fun
  | [d1, d2, d3, d4] => { results := [.lit (.bool false)], args := [d1, d2, d3, d4] }
  | _ => none }
def TreeHeadsWrongFalsely : Prop := treeHeadsRow.holds Try.pinned (OpenSpec.ofChange treeHeadsWrong)

/-- 'amnesialaw20.TreeIncludes': WHATEVER THE INPUT: true; the input reads as it did. -/
def treeIncludesSpec : ChangeSpec := { name := "treeIncludes", fn := fun _ => fun
  | [d1, d2, d3, d4, d5] => { results := [.lit (.bool true)], args := [d1, d2, d3, d4, d5] }
  | _ => none }
def treeIncludesRow : OpenClaim := { program := "ytcmmhpkgjcepdaa", sum := "0e6c87c9a1ef23973568d7553fe8a440b4584ea86531a1cfeb77e86222161e52", func := "amnesia/amnesialaw20.TreeIncludes", spec := "treeIncludes", recurses := true, apart := false }
def TreeIncludesSaid : Prop := treeIncludesRow.holds Try.pinned (OpenSpec.ofChange treeIncludesSpec)

/-- ITS FALSE NEIGHBOUR: 'it returns false'. Refute it at one input. -/
def treeIncludesWrong : ChangeSpec := { name := "treeIncludes", fn := fun _ => fun
  | [d1, d2, d3, d4, d5] => { results := [.lit (.bool false)], args := [d1, d2, d3, d4, d5] }
  | _ => none }
def TreeIncludesWrongFalsely : Prop := treeIncludesRow.holds Try.pinned (OpenSpec.ofChange treeIncludesWrong)

/-- 'amnesialaw20.TreeExtends': WHATEVER THE INPUT: true; the input reads as it did. -/
def treeExtendsSpec : ChangeSpec := { name := "treeExtends", fn := fun _ => fun
  | [d1, d2, d3, d4, d5] => { results := [.lit (.bool true)], args := [d1, d2, d3, d4, d5] }
  | _ => none }
def treeExtendsRow : OpenClaim := { program := "ytcmmhpkgjcepdaa", sum := "0e6c87c9a1ef23973568d7553fe8a440b4584ea86531a1cfeb77e86222161e52", func := "amnesia/amnesialaw20.TreeExtends", spec := "treeExtends", recurses := true, apart := false }
def TreeExtendsSaid : Prop := treeExtendsRow.holds Try.pinned (OpenSpec.ofChange treeExtendsSpec)

/-- ITS FALSE NEIGHBOUR: 'it returns false'. Refute it at one input. -/
def treeExtendsWrong : ChangeSpec := { name := "treeExtends", fn := fun _ => fun
  | [d1, d2, d3, d4, d5] => { results := [.lit (.bool false)], args := [d1, d2, d3, d4, d5] }
  | _ => none }
def TreeExtendsWrongFalsely : Prop := treeExtendsRow.holds Try.pinned (OpenSpec.ofChange treeExtendsWrong)

/-- 'amnesialaw20.TreeBinds': WHATEVER THE INPUT: true; the input reads as it did. -/
def treeBindsSpec : ChangeSpec := { name := "treeBinds", fn := fun _ => fun
  | [d1, d2, d3] => { results := [.lit (.bool true)], args := [d1, d2, d3] }
  | _ => none }
def treeBindsRow : OpenClaim := { program := "ytcmmhpkgjcepdaa", sum := "0e6c87c9a1ef23973568d7553fe8a440b4584ea86531a1cfeb77e86222161e52", func := "amnesia/amnesialaw20.TreeBinds", spec := "treeBinds", recurses := true, apart := false }
def TreeBindsSaid : Prop := treeBindsRow.holds Try.pinned (OpenSpec.ofChange treeBindsSpec)

/-- ITS FALSE NEIGHBOUR: 'it returns false'. Refute it at one input. -/
def treeBindsWrong : ChangeSpec := { name := "treeBinds", fn := fun _ => fun
  | [d1, d2, d3] => { results := [.lit (.bool false)], args := [d1, d2, d3] }
  | _ => none }
def TreeBindsWrongFalsely : Prop := treeBindsRow.holds Try.pinned (OpenSpec.ofChange treeBindsWrong)

/-- 'amnesialaw20.TreeSame': WHATEVER THE INPUT: true; the input reads as it did. -/
def treeSameSpec : ChangeSpec := { name := "treeSame", fn := fun _ => fun
  | [d1, d2] => { results := [.lit (.bool true)], args := [d1, d2] }
  | _ => none }
def treeSameRow : OpenClaim := { program := "ytcmmhpkgjcepdaa", sum := "0e6c87c9a1ef23973568d7553fe8a440b4584ea86531a1cfeb77e86222161e52", func := "amnesia/amnesialaw20.TreeSame", spec := "treeSame", recurses := true, apart := false }
def TreeSameSaid : Prop := treeSameRow.holds Try.pinned (OpenSpec.ofChange treeSameSpec)

/-- ITS FALSE NEIGHBOUR: 'it returns false'. Refute it at one input. -/
def treeSameWrong : ChangeSpec := { name := "treeSame", fn := fun _ => fun
  | [d1, d2] => { results := [.lit (.bool false)], args := [d1, d2] }
  | _ => none }
def TreeSameWrongFalsely : Prop := treeSameRow.holds Try.pinned (OpenSpec.ofChange treeSameWrong)

/-- 'amnesialaw20.TreePaths': WHATEVER THE INPUT: true; the input reads as it did. -/
def treePathsSpec : ChangeSpec := { name := "treePaths", fn := fun _ => fun
  | [d1, d2, d3] => { results := [.lit (.bool true)], args := [d1, d2, d3] }
  | _ => none }
def treePathsRow : OpenClaim := { program := "ytcmmhpkgjcepdaa", sum := "0e6c87c9a1ef23973568d7553fe8a440b4584ea86531a1cfeb77e86222161e52", func := "amnesia/amnesialaw20.TreePaths", spec := "treePaths", recurses := true, apart := false }
def TreePathsSaid : Prop := treePathsRow.holds Try.pinned (OpenSpec.ofChange treePathsSpec)

/-- ITS FALSE NEIGHBOUR: 'it returns false'. Refute it at one input. -/
def treePathsWrong : ChangeSpec := { name := "treePaths", fn := fun _ => fun
  | [d1, d2, d3] => { results := [.lit (.bool false)], args := [d1, d2, d3] }
  | _ => none }
def TreePathsWrongFalsely : Prop := treePathsRow.holds Try.pinned (OpenSpec.ofChange treePathsWrong)

/-- 'amnesialaw20.TreeTakes': WHATEVER THE INPUT: true; the input reads as it did. -/
def treeTakesSpec : ChangeSpec := { name := "treeTakes", fn := fun _ => fun
  | [d1, d2, d3] => { results := [.lit (.bool true)], args := [d1, d2, d3] }
  | _ => none }
def treeTakesRow : OpenClaim := { program := "ytcmmhpkgjcepdaa", sum := "0e6c87c9a1ef23973568d7553fe8a440b4584ea86531a1cfeb77e86222161e52", func := "amnesia/amnesialaw20.TreeTakes", spec := "treeTakes", recurses := true, apart := false }
def TreeTakesSaid : Prop := treeTakesRow.holds Try.pinned (OpenSpec.ofChange treeTakesSpec)

/-- ITS FALSE NEIGHBOUR: 'it returns false'. Refute it at one input. -/
def treeTakesWrong : ChangeSpec := { name := "treeTakes", fn := fun _ => fun
  | [d1, d2, d3] => { results := [.lit (.bool false)], args := [d1, d2, d3] }
  | _ => none }
def TreeTakesWrongFalsely : Prop := treeTakesRow.holds Try.pinned (OpenSpec.ofChange treeTakesWrong)

/-- 'amnesialaw20.TreeJoins': WHATEVER THE INPUT: true; the input reads as it did. -/
def treeJoinsSpec : ChangeSpec := { name := "treeJoins", fn := fun _ => fun
  | [d1, d2, d3, d4] => { results := [.lit (.bool true)], args := [d1, d2, d3, d4] }
  | _ => none }
def treeJoinsRow : OpenClaim := { program := "ytcmmhpkgjcepdaa", sum := "0e6c87c9a1ef23973568d7553fe8a440b4584ea86531a1cfeb77e86222161e52", func := "amnesia/amnesialaw20.TreeJoins", spec := "treeJoins", recurses := true, apart := false }
def TreeJoinsSaid : Prop := treeJoinsRow.holds Try.pinned (OpenSpec.ofChange treeJoinsSpec)

/-- ITS FALSE NEIGHBOUR: 'it returns false'. Refute it at one input. -/
def treeJoinsWrong : ChangeSpec := { name := "treeJoins", fn := fun _ => fun
  | [d1, d2, d3, d4] => { results := [.lit (.bool false)], args := [d1, d2, d3, d4] }
  | _ => none }
def TreeJoinsWrongFalsely : Prop := treeJoinsRow.holds Try.pinned (OpenSpec.ofChange treeJoinsWrong)

/-- 'amnesialaw20.TreeOwn': WHATEVER THE INPUT: true; the input reads as it did. -/
def treeOwnSpec : ChangeSpec := { name := "treeOwn", fn := fun _ => fun
  | [d1, d2, d3] => { results := [.lit (.bool true)], args := [d1, d2, d3] }
  | _ => none }
def treeOwnRow : OpenClaim := { program := "ytcmmhpkgjcepdaa", sum := "0e6c87c9a1ef23973568d7553fe8a440b4584ea86531a1cfeb77e86222161e52", func := "amnesia/amnesialaw20.TreeOwn", spec := "treeOwn", recurses := true, apart := false }
def TreeOwnSaid : Prop := treeOwnRow.holds Try.pinned (OpenSpec.ofChange treeOwnSpec)

/-- ITS FALSE NEIGHBOUR: 'it returns false'. Refute it at one input. -/
def treeOwnWrong : ChangeSpec := { name := "treeOwn", fn := fun _ => fun
  | [d1, d2, d3] => { results := [.lit (.bool false)], args := [d1, d2, d3] }
  | _ => none }
def TreeOwnWrongFalsely : Prop := treeOwnRow.holds Try.pinned (OpenSpec.ofChange treeOwnWrong)

/-- 'amnesialaw20.TreeNil': WHATEVER THE INPUT: true; the input reads as it did. -/
def treeNilSpec : ChangeSpec := { name := "treeNil", fn := fun _ => fun
  | [] => { results := [.lit (.bool true)], args := [] }
  | _ => none }
def treeNilRow : OpenClaim := { program := "ytcmmhpkgjcepdaa", sum := "0e6c87c9a1ef23973568d7553fe8a440b4584ea86531a1cfeb77e86222161e52", func := "amnesia/amnesialaw20.TreeNil", spec := "treeNil", recurses := true, apart := false }
def TreeNilSaid : Prop := treeNilRow.holds Try.pinned (OpenSpec.ofChange treeNilSpec)

/-- ITS FALSE NEIGHBOUR: 'it returns false'. Refute it at one input. -/
def treeNilWrong : ChangeSpec := { name := "treeNil", fn := fun _ => fun
  | [] => { results := [.lit (.bool false)], args := [] }
  | _ => none }
def TreeNilWrongFalsely : Prop := treeNilRow.holds Try.pinned (OpenSpec.ofChange treeNilWrong)

/-- 'amnesialaw20.TreeGrows': WHATEVER THE INPUT: true; the input reads as it did. -/
def treeGrowsSpec : ChangeSpec := { name := "treeGrows", fn := fun _ => fun
  | [d] => { results := [.lit (.bool true)], args := [d] }
  | _ => none }
def treeGrowsRow : OpenClaim := { program := "ytcmmhpkgjcepdaa", sum := "0e6c87c9a1ef23973568d7553fe8a440b4584ea86531a1cfeb77e86222161e52", func := "amnesia/amnesialaw20.TreeGrows", spec := "treeGrows", recurses := true, apart := false }
def TreeGrowsSaid : Prop := treeGrowsRow.holds Try.pinned (OpenSpec.ofChange treeGrowsSpec)

/-- ITS FALSE NEIGHBOUR: 'it returns false'. Refute it at one input. -/
def treeGrowsWrong : ChangeSpec := { name := "treeGrows", fn := fun _ => fun
  | [d] => { results := [.lit (.bool false)], args := [d] }
  | _ => none }
def TreeGrowsWrongFalsely : Prop := treeGrowsRow.holds Try.pinned (OpenSpec.ofChange treeGrowsWrong)

/- THE SECOND FORM. 'bulk': how many values and letters a reading holds, each counted each time it is reached (what is shared counts as often as it is met; a slice's spare places count too). A statement '..UptoSaid' is the law's where the arguments, and the package variables that the reading takes, are together of bulk at most 1048576: NARROWER than '..Said'. Prove '..Said' where nothing that the law and all that it calls make is longer than what came in: it says more and counts as full. Else prove '..UptoSaid'. A law counts once. -/
mutual
def uptoBulk {H : Type} : DataW H → Nat
  | .lit (.string bytes) => bytes.length + 1
  | .lit _ => 1
  | .nil => 1
  | .ptr d => uptoBulk d + 1
  | .slice elems spare => uptoBulkAll elems + uptoBulkAll spare + 1
  | .agg parts => uptoBulkAll parts + 1
  | .iface _ d => uptoBulk d + 1
  | .map entries => uptoBulkEntries entries + 1
  | .held _ => 1
def uptoBulkAll {H : Type} : List (DataW H) → Nat
  | [] => 0
  | d :: r => uptoBulk d + uptoBulkAll r
def uptoBulkEntries {H : Type} : List (Lit × DataW H) → Nat
  | [] => 0
  | x :: r => uptoBulkEntry x + uptoBulkEntries r
def uptoBulkEntry {H : Type} : Lit × DataW H → Nat
  | (.string bytes, d) => bytes.length + uptoBulk d + 1
  | (_, d) => uptoBulk d + 1
 end
def uptoSmall : (H : Type) → List (DataW H) → Bool := fun _ ds => decide (uptoBulkAll ds ≤ 1048576)
def OpenSpec.upto (s : _root_.Go.ChangeSpec) : _root_.Go.OpenSpec := { _root_.Go.OpenSpec.ofChange s with cond := some uptoSmall }

/-- 'amnesialaw20.TreeHeads', WHERE WHAT IT READS IS OF BULK AT MOST 1048576: true; the input reads as it did. -/
def treeHeadsUptoRow : OpenClaim := { program := "ytcmmhpkgjcepdaa", sum := "0e6c87c9a1ef23973568d7553fe8a440b4584ea86531a1cfeb77e86222161e52", func := "amnesia/amnesialaw20.TreeHeads", spec := "treeHeads", recurses := true, apart := false, narrowed := true }
def TreeHeadsUptoSaid : Prop := treeHeadsUptoRow.holds Try.pinned (OpenSpec.upto treeHeadsSpec)

/-- 'amnesialaw20.TreeIncludes', WHERE WHAT IT READS IS OF BULK AT MOST 1048576: true; the input reads as it did. -/
def treeIncludesUptoRow : OpenClaim := { program := "ytcmmhpkgjcepdaa", sum := "0e6c87c9a1ef23973568d7553fe8a440b4584ea86531a1cfeb77e86222161e52", func := "amnesia/amnesialaw20.TreeIncludes", spec := "treeIncludes", recurses := true, apart := false, narrowed := true }
def TreeIncludesUptoSaid : Prop := treeIncludesUptoRow.holds Try.pinned (OpenSpec.upto treeIncludesSpec)

/-- 'amnesialaw20.TreeExtends', WHERE WHAT IT READS IS OF BULK AT MOST 1048576: true; the input reads as it did. -/
def treeExtendsUptoRow : OpenClaim := { program := "ytcmmhpkgjcepdaa", sum := "0e6c87c9a1ef23973568d7553fe8a440b4584ea86531a1cfeb77e86222161e52", func := "amnesia/amnesialaw20.TreeExtends", spec := "treeExtends", recurses := true, apart := false, narrowed := true }
def TreeExtendsUptoSaid : Prop := treeExtendsUptoRow.holds Try.pinned (OpenSpec.upto treeExtendsSpec)

/-- 'amnesialaw20.TreeBinds', WHERE WHAT IT READS IS OF BULK AT MOST 1048576: true; the input reads as it did. -/
def treeBindsUptoRow : OpenClaim := { program := "ytcmmhpkgjcepdaa", sum := "0e6c87c9a1ef23973568d7553fe8a440b4584ea86531a1cfeb77e86222161e52", func := "amnesia/amnesialaw20.TreeBinds", spec := "treeBinds", recurses := true, apart := false, narrowed := true }
def TreeBindsUptoSaid : Prop := treeBindsUptoRow.holds Try.pinned (OpenSpec.upto treeBindsSpec)

/-- 'amnesialaw20.TreeSame', WHERE WHAT IT READS IS OF BULK AT MOST 1048576: true; the input reads as it did. -/
def treeSameUptoRow : OpenClaim := { program := "ytcmmhpkgjcepdaa", sum := "0e6c87c9a1ef23973568d7553fe8a440b4584ea86531a1cfeb77e86222161e52", func := "amnesia/amnesialaw20.TreeSame", spec := "treeSame", recurses := true, apart := false, narrowed := true }
def TreeSameUptoSaid : Prop := treeSameUptoRow.holds Try.pinned (OpenSpec.upto treeSameSpec)

/-- 'amnesialaw20.TreePaths', WHERE WHAT IT READS IS OF BULK AT MOST 1048576: true; the input reads as it did. -/
def treePathsUptoRow : OpenClaim := { program := "ytcmmhpkgjcepdaa", sum := "0e6c87c9a1ef23973568d7553fe8a440b4584ea86531a1cfeb77e86222161e52", func := "amnesia/amnesialaw20.TreePaths", spec := "treePaths", recurses := true, apart := false, narrowed := true }
def TreePathsUptoSaid : Prop := treePathsUptoRow.holds Try.pinned (OpenSpec.upto treePathsSpec)

/-- 'amnesialaw20.TreeTakes', WHERE WHAT IT READS IS OF BULK AT MOST 1048576: true; the input reads as it did. -/
def treeTakesUptoRow : OpenClaim := { program := "ytcmmhpkgjcepdaa", sum := "0e6c87c9a1ef23973568d7553fe8a440b4584ea86531a1cfeb77e86222161e52", func := "amnesia/amnesialaw20.TreeTakes", spec := "treeTakes", recurses := true, apart := false, narrowed := true }
def TreeTakesUptoSaid : Prop := treeTakesUptoRow.holds Try.pinned (OpenSpec.upto treeTakesSpec)

/-- 'amnesialaw20.TreeJoins', WHERE WHAT IT READS IS OF BULK AT MOST 1048576: true; the input reads as it did. -/
def treeJoinsUptoRow : OpenClaim := { program := "ytcmmhpkgjcepdaa", sum := "0e6c87c9a1ef23973568d7553fe8a440b4584ea86531a1cfeb77e86222161e52", func := "amnesia/amnesialaw20.TreeJoins", spec := "treeJoins", recurses := true, apart := false, narrowed := true }
def TreeJoinsUptoSaid : Prop := treeJoinsUptoRow.holds Try.pinned (OpenSpec.upto treeJoinsSpec)

/-- 'amnesialaw20.TreeOwn', WHERE WHAT IT READS IS OF BULK AT MOST 1048576: true; the input reads as it did. -/
def treeOwnUptoRow : OpenClaim := { program := "ytcmmhpkgjcepdaa", sum := "0e6c87c9a1ef23973568d7553fe8a440b4584ea86531a1cfeb77e86222161e52", func := "amnesia/amnesialaw20.TreeOwn", spec := "treeOwn", recurses := true, apart := false, narrowed := true }
def TreeOwnUptoSaid : Prop := treeOwnUptoRow.holds Try.pinned (OpenSpec.upto treeOwnSpec)

/-- 'amnesialaw20.TreeNil', WHERE WHAT IT READS IS OF BULK AT MOST 1048576: true; the input reads as it did. -/
def treeNilUptoRow : OpenClaim := { program := "ytcmmhpkgjcepdaa", sum := "0e6c87c9a1ef23973568d7553fe8a440b4584ea86531a1cfeb77e86222161e52", func := "amnesia/amnesialaw20.TreeNil", spec := "treeNil", recurses := true, apart := false, narrowed := true }
def TreeNilUptoSaid : Prop := treeNilUptoRow.holds Try.pinned (OpenSpec.upto treeNilSpec)

/-- 'amnesialaw20.TreeGrows', WHERE WHAT IT READS IS OF BULK AT MOST 1048576: true; the input reads as it did. -/
def treeGrowsUptoRow : OpenClaim := { program := "ytcmmhpkgjcepdaa", sum := "0e6c87c9a1ef23973568d7553fe8a440b4584ea86531a1cfeb77e86222161e52", func := "amnesia/amnesialaw20.TreeGrows", spec := "treeGrows", recurses := true, apart := false, narrowed := true }
def TreeGrowsUptoSaid : Prop := treeGrowsUptoRow.holds Try.pinned (OpenSpec.upto treeGrowsSpec)

end Rows
end Go.Proofs.Ytcmmhpkgjcepdaa
