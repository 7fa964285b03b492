/- Walks through the tape's functions. -/
import Derived.Test.YtfpmnhmdphaceaaDoorTap30
namespace Go.Proofs.YtfpmnhmdphaceaaDoor
open Go.EW
attribute [local irreducible] EW.W EW.L EW.fin block8 outB shaL
set_option linter.unusedVariables false
set_option linter.unusedSimpArgs false
attribute [local irreducible] crcN crcB crcL sealL openR sealR
/-- what is handed in: where it lies, where its likeness lies -/
structure GP where
  ga : Option Addr
  gc : Nat
  wa : Option Addr
  wc : Nat
  gs : List Tx
  ws : List Tx
theorem rdin_head {W : World} {S : List Seg} {a : Option Addr} {c : Nat} {bs : List UInt8} {n : Nat} (h : RdIn W S a (bs.map B)) : RdIn W S (subA a 1 0 c) ((bs.take n).map B) := by
  have h2 := h.subA (sz := 1) (l := 0) (m := c) (j := n) (fun _ => .inr rfl)
  rw [Nat.zero_mul, List.drop_zero, ← List.map_take] at h2
  exact h2
end Go.Proofs.YtfpmnhmdphaceaaDoor
