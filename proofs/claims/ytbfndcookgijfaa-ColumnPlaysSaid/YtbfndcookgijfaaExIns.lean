/- Elements put into a row of the call's own: what memory holds behind it. No condition. -/
import Derived.Test.YtbfndcookgijfaaExDel
import Derived.Lib.Overlaps
import Derived.Lib.AppendZerosOnto
import Derived.Laws.Externs
import Derived.Laws.IdiomCopy
namespace Go.Proofs.Ytbfndcookgijfaa.Sx
open Go Go.RowKit
set_option linter.unusedVariables false
set_option linter.unusedSimpArgs false
section
variable {w0 w : World} {cs : List Chunk} {g n c z : Nat} {e : TypeId} {xs : List Value}
end
end Go.Proofs.Ytbfndcookgijfaa.Sx
