/- A laying of the library at this program. No condition. -/
import Derived.Test.YtbfndcookgijfaaGreatDoorProg
import Derived.Shelf.SlLaysC2
import Derived.Shelf.SlicesG.Cmp
namespace Go.Proofs.YtbfndcookgijfaaGreatDoor.Sx
open Go Go.Shelf Go.Proofs
def laysLyCmp37_ren : Go.Shelf.Ren := ⟨fun | 5 => 37 | 7 => 63 | n => n, fun | 3 => 3 | 4 => 4 | 22 => 3 | n => n, fun | n => n⟩
theorem laysLyCmp37 : SlLaysC2.n5 Tryz.prog laysLyCmp37_ren := {
  mixed := by kernel_rfl,
  f5 := ⟨"cmp.Compare[int]", by decide, Tryz.func37.trans (congrArg some (by kernel_rfl))⟩,
  f7 := ⟨"cmp.isNaN[int]", by decide, Tryz.func63.trans (congrArg some (by kernel_rfl))⟩,
  t3 := Tryz.underlying3,
  a3 := Tryz.isAgg3,
  z3 := Tryz.sizeOf3,
  v3 := Tryz.zeroValue3,
  t4 := Tryz.underlying4,
  a4 := Tryz.isAgg4,
  z4 := Tryz.sizeOf4,
  v4 := Tryz.zeroValue4,
  t22 := Tryz.underlying3,
  a22 := Tryz.isAgg3,
  z22 := Tryz.sizeOf3,
  v22 := Tryz.zeroValue3
}
end Go.Proofs.YtbfndcookgijfaaGreatDoor.Sx
