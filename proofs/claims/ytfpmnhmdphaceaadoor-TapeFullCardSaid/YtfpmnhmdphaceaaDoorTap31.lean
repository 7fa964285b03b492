/- Walks through the tape's functions. -/
import Derived.Test.YtfpmnhmdphaceaaDoorTap30
namespace Go.Proofs.YtfpmnhmdphaceaaDoor
open Go.EW
attribute [local irreducible] EW.W EW.L EW.fin block8 outB shaL
set_option linter.unusedVariables false
set_option linter.unusedSimpArgs false
attribute [local irreducible] crcN crcB crcL sealL openR sealR
/-- what is handed in: where it lies, where its likeness lies -/
structure GP where
  ga : Option Addr
  gc : Nat
  wa : Option Addr
  wc : Nat
  gs : List Tx
  ws : List Tx
end Go.Proofs.YtfpmnhmdphaceaaDoor
