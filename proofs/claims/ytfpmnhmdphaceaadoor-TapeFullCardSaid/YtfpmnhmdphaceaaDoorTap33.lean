/- Walks through the tape's functions. -/
import Derived.Test.YtfpmnhmdphaceaaDoorTap30
import Derived.Test.YtfpmnhmdphaceaaDoorTap10
namespace Go.Proofs.YtfpmnhmdphaceaaDoor
open Go.EW
attribute [local irreducible] EW.W EW.L EW.fin block8 outB shaL
set_option linter.unusedVariables false
set_option linter.unusedSimpArgs false
attribute [local irreducible] crcN crcB crcL sealL openR sealR addRT chkS usedE
theorem newT_nil (s : Stp) : (newT s).texts = [] := rfl
def EvsIn (W : World) (F : List Seg) (l : List EvM) : Prop := ∀ x ∈ l, RdIn W F x.a (x.e.bs.map B) ∧ EvOk x.e
end Go.Proofs.YtfpmnhmdphaceaaDoor
