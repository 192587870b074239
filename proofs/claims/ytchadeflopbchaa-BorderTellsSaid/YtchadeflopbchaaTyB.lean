/- Types as plain structures, and how their values lie in cells. No condition. -/
import Derived.Test.YtchadeflopbchaaExMem
namespace Go.Proofs.Ytchadeflopbchaa.B
open Go Go.RowKit Go.Proofs.Ytchadeflopbchaa.Sx
set_option linter.unusedVariables false
end Go.Proofs.Ytchadeflopbchaa.B
