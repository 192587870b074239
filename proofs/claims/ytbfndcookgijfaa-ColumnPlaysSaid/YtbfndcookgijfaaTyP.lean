/- Types as plain structures, and how their values lie in cells. No condition. -/
import Derived.Test.YtbfndcookgijfaaExMem
namespace Go.Proofs.Ytbfndcookgijfaa.P
open Go Go.RowKit Go.Proofs.Ytbfndcookgijfaa.Sx
set_option linter.unusedVariables false
end Go.Proofs.Ytbfndcookgijfaa.P
