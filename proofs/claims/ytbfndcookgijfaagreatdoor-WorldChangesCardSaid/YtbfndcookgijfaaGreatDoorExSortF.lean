/- Sorting by a whole number of each element, as a plain function. No condition. -/
import Derived.Test.YtbfndcookgijfaaGreatDoorExRep
namespace Go.Proofs.YtbfndcookgijfaaGreatDoor.Sx
open Go Go.RowKit
set_option linter.unusedVariables false
/-- Sorted by a whole number of each element; none of them twice. -/
def sortBy {α : Type} (key : α → Int) (l : List α) : Option (List α) := if (l.map key).Nodup ∧ l.length < 4611686018427387904 then some (l.mergeSort fun a b => decide (key a ≤ key b)) else none
theorem sortBy_some {α : Type} {key : α → Int} {l r : List α} (h : sortBy key l = some r) : (l.map key).Nodup ∧ l.length < 4611686018427387904 ∧ r = l.mergeSort fun a b => decide (key a ≤ key b) := by
  unfold sortBy at h
  split at h
  · rename_i h1; exact ⟨h1.1, h1.2, (Option.some.inj h).symm⟩
  · cases h
end Go.Proofs.YtbfndcookgijfaaGreatDoor.Sx
