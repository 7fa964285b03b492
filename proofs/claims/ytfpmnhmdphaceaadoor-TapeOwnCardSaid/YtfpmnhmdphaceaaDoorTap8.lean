/- Walks through the tape's functions. -/
import Derived.Test.YtfpmnhmdphaceaaDoorTap7
namespace Go.Proofs.YtfpmnhmdphaceaaDoor
open Go.EW
attribute [local irreducible] EW.W EW.L EW.fin block8 outB shaL
set_option linter.unusedVariables false
set_option linter.unusedSimpArgs false
end Go.Proofs.YtfpmnhmdphaceaaDoor
