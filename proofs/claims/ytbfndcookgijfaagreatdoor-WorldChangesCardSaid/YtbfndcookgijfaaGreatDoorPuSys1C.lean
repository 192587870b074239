/- The plain law of systems, first part: lists of kinds, and the reference's marks of them. No condition. -/
import Derived.Test.YtbfndcookgijfaaGreatDoorPuKindsC
import Derived.Test.YtbfndcookgijfaaGreatDoorExMap
namespace Go.Proofs.YtbfndcookgijfaaGreatDoor.C
open Go Go.RowKit Go.Proofs.YtbfndcookgijfaaGreatDoor.Sx Classical
set_option linter.unusedVariables false
set_option linter.unusedSimpArgs false
/-! ### Lists of kinds -/
end Go.Proofs.YtbfndcookgijfaaGreatDoor.C
