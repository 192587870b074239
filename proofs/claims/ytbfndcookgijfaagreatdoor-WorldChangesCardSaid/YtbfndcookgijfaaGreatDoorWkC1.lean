/- The Go functions come to what the plain functions tell. No condition. -/
import Derived.Test.YtbfndcookgijfaaGreatDoorProg
import Derived.Test.YtbfndcookgijfaaGreatDoorFnC
import Derived.Test.YtbfndcookgijfaaGreatDoorExSq
import Derived.Test.YtbfndcookgijfaaGreatDoorExOwnM
import Derived.Test.YtbfndcookgijfaaGreatDoorLy160
namespace Go.Proofs.YtbfndcookgijfaaGreatDoor.C
open Go Go.RowKit Go.Proofs.YtbfndcookgijfaaGreatDoor.Sx
set_option linter.unusedVariables false
set_option maxHeartbeats 4000000
set_option maxRecDepth 100000
variable {w0 w : World} {cs : List Chunk} {F : Nat → Prop} {W : World}
theorem strings_Trim_ok (w0 w : World) (cs : List Chunk) (F : Nat → Prop) (W : World) (s_ : ByteArray) (hM0 : Mem w0 (Fz F W :: cs) w) (u9001 : ByteArray) (hp : strings_Trim s_ = some u9001) : Calls Tryz.prog 99 #[.string s_, .string ⟨#[97, 98, 99, 100, 101, 102, 103, 104, 105, 106, 107, 108, 109, 110, 111, 112, 113, 114, 115, 116, 117, 118, 119, 120, 121, 122, 48, 49, 50, 51, 52, 53, 54, 55, 56, 57]⟩] w fun e w' => (True) ∧ e = .returned (.string u9001) ∧ Mem w0 (Fz F W :: cs) w' := by
  obtain ⟨hs, rfl⟩ := trim_some hp
  refine Calls.mono (Go.Proofs.Any.strings_Trim_laid lays160 (by kernel_rfl) s_ ⟨#[97, 98, 99, 100, 101, 102, 103, 104, 105, 106, 107, 108, 109, 110, 111, 112, 113, 114, 115, 116, 117, 118, 119, 120, 121, 122, 48, 49, 50, 51, 52, 53, 54, 55, 56, 57]⟩ w hs (by decide) (Go.Proofs.ascii_of_all (by decide))) ?_
  rintro e w' ⟨he, hB⟩
  exact ⟨trivial, he, hM0.step hB⟩
end Go.Proofs.YtbfndcookgijfaaGreatDoor.C
