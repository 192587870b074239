/- Types as plain structures, and how their values lie in cells. No condition. -/
import Derived.Test.YthcniadbdjoecaaExMem
namespace Go.Proofs.Ythcniadbdjoecaa.S
open Go Go.RowKit Go.Proofs.Ythcniadbdjoecaa.Sx
set_option linter.unusedVariables false
end Go.Proofs.Ythcniadbdjoecaa.S
