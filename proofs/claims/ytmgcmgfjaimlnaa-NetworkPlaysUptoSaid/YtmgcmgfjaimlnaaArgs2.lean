/- What a law is handed as bytes and as parts, with a bound. -/
import Derived.Test.YtmgcmgfjaimlnaaArgs
import Derived.Test.YtmgcmgfjaimlnaaGlueAll
namespace Go.EW
set_option linter.unusedVariables false
/-! what a law is handed, with a bound -/
end Go.EW
