/- Equality of structs. No condition. -/
import Derived.Test.YtnnhijlgohlaeaaDoorProg
import Derived.Test.YtnnhijlgohlaeaaDoorSxEq
namespace Go.Proofs.YtnnhijlgohlaeaaDoor.A
open Go Go.RowKit Go.Proofs.YtnnhijlgohlaeaaDoor.Sx
set_option linter.unusedVariables false
theorem eqA32 (d : Nat) (w : World) (x0 y0 : ByteArray) (x1 y1 : Int) (x2 y2 : Int) :
    (Op.equalIn (d + 2) 32 (.agg #[.string x0, .int .i64 x1, .int .i64 x2]) (.agg #[.string y0, .int .i64 y1, .int .i64 y2])).run Tryd.prog w = .ok (x0.toList == y0.toList && (x1 == y1 && (x2 == y2))) w := by
  have h := int_struct (P := Tryd.prog) (d := d + 1) (w := w) (xs := #[.string x0, .int .i64 x1, .int .i64 x2]) (ys := #[.string y0, .int .i64 y1, .int .i64 y2]) Tryd.underlying32 (by kernel_rfl) (str_field (a := x0) (b := y0) (by decide) (by kernel_rfl) (by go_simp) (by go_simp) (int_field (k := .i64) (a := x1) (b := y1) (by decide) (by kernel_rfl) (by go_simp) (by go_simp) (int_field (k := .i64) (a := x2) (b := y2) (by decide) (by kernel_rfl) (by go_simp) (by go_simp) no_field)))
  simpa only [Bool.and_true, Bool.and_assoc] using h
end Go.Proofs.YtnnhijlgohlaeaaDoor.A
