/- Free and Spawn, in plain Lean: the program's and the reference's. No condition. -/
import Derived.Test.YtbfndcookgijfaaGreatDoorPuFlatC
namespace Go.Proofs.YtbfndcookgijfaaGreatDoor.C
open Go Go.RowKit Go.Proofs.YtbfndcookgijfaaGreatDoor.Sx Classical
set_option linter.unusedVariables false
set_option linter.unusedSimpArgs false
theorem compare_eqW (x y : Int) : cmp_Compare_int x y = some (cmpI x y) := by
  unfold cmp_Compare_int cmp_isNaN_int cmpI
  simp only [Option.bind_some, cnd_dec]
  split
  · rfl
  · split <;> rfl
/-! ### The slot -/
/-! ### Spawn -/
end Go.Proofs.YtbfndcookgijfaaGreatDoor.C
