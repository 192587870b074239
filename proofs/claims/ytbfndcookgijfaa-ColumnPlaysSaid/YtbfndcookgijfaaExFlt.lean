/- Floating-point numbers as words of bits, and calls of functions that have no body in Go. No condition. -/
import Derived.Test.YtbfndcookgijfaaSxOps
import Derived.Laws.FloatArith
import Derived.Laws.Externs
namespace Go.Proofs.Ytbfndcookgijfaa.Sx
open Go Go.RowKit
set_option linter.unusedVariables false
set_option linter.unusedSimpArgs false
section
variable {P : Program} {l : Slots} {x y : Operand} {t t' : TypeId} {a b : Nat}
end
section
variable {P : Program} {ro : Option Nat} {n : NT} {Q : Exit → Act → World → Prop}
theorem st_falseC {x y : Code} {l : Slots} {M : World → Prop} (k : St P ro n y Q l M) : St P ro n (.cond (.const (.bool false)) x y) Q l M :=
  fun a w hk hM => wpIn_cond_false (by simp [Act.eval]) (k a w hk hM)
end
end Go.Proofs.Ytbfndcookgijfaa.Sx
