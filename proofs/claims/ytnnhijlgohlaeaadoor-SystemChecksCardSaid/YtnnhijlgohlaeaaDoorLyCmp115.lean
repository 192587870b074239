/- A laying of the library at this program. No condition. -/
import Derived.Test.YtnnhijlgohlaeaaDoorProg
import Derived.Shelf.SlLaysC2
import Derived.Shelf.SlicesG.Cmp
namespace Go.Proofs.YtnnhijlgohlaeaaDoor.Sx
open Go Go.Shelf Go.Proofs
def laysLyCmp115_ren : Go.Shelf.Ren := ⟨fun | 5 => 115 | 7 => 144 | n => n, fun | 3 => 3 | 4 => 4 | 22 => 3 | n => n, fun | n => n⟩
theorem laysLyCmp115 : SlLaysC2.n5 Tryd.prog laysLyCmp115_ren := {
  mixed := by kernel_rfl,
  f5 := ⟨"cmp.Compare[int]", by decide, Tryd.func115.trans (congrArg some (by kernel_rfl))⟩,
  f7 := ⟨"cmp.isNaN[int]", by decide, Tryd.func144.trans (congrArg some (by kernel_rfl))⟩,
  t3 := Tryd.underlying3,
  a3 := Tryd.isAgg3,
  z3 := Tryd.sizeOf3,
  v3 := Tryd.zeroValue3,
  t4 := Tryd.underlying4,
  a4 := Tryd.isAgg4,
  z4 := Tryd.sizeOf4,
  v4 := Tryd.zeroValue4,
  t22 := Tryd.underlying3,
  a22 := Tryd.isAgg3,
  z22 := Tryd.sizeOf3,
  v22 := Tryd.zeroValue3
}
end Go.Proofs.YtnnhijlgohlaeaaDoor.Sx
