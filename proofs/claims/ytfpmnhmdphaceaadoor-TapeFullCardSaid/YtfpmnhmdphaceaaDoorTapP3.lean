/- One form: what is read is what would be written, in plain lists. -/
import Derived.Test.YtfpmnhmdphaceaaDoorTapLAll
import Derived.Test.YtfpmnhmdphaceaaDoorTap27
namespace Go.Proofs.YtfpmnhmdphaceaaDoor
open Go.EW
set_option linter.unusedVariables false
set_option linter.unusedSimpArgs false
end Go.Proofs.YtfpmnhmdphaceaaDoor
