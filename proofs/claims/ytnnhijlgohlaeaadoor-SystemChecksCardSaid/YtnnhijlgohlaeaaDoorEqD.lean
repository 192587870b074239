/- Equality of structs. No condition. -/
import Derived.Test.YtnnhijlgohlaeaaDoorProg
import Derived.Test.YtnnhijlgohlaeaaDoorSxEq
namespace Go.Proofs.YtnnhijlgohlaeaaDoor.D
open Go Go.RowKit Go.Proofs.YtnnhijlgohlaeaaDoor.Sx
set_option linter.unusedVariables false
theorem eqA166 (d : Nat) (w : World) (x0 y0 : Int) (x1 y1 : Int) :
    (Op.equalIn (d + 2) 166 (.agg #[.int .i64 x0, .int .i64 x1]) (.agg #[.int .i64 y0, .int .i64 y1])).run Tryd.prog w = .ok (x0 == y0 && (x1 == y1)) w := by
  have h := int_struct (P := Tryd.prog) (d := d + 1) (w := w) (xs := #[.int .i64 x0, .int .i64 x1]) (ys := #[.int .i64 y0, .int .i64 y1]) Tryd.underlying166 (by kernel_rfl) (int_field (k := .i64) (a := x0) (b := y0) (by decide) (by kernel_rfl) (by go_simp) (by go_simp) (int_field (k := .i64) (a := x1) (b := y1) (by decide) (by kernel_rfl) (by go_simp) (by go_simp) no_field))
  simpa only [Bool.and_true, Bool.and_assoc] using h
theorem eqA168 (d : Nat) (w : World) (x0 y0 : Bool) (x1 y1 : Int) (x2 y2 : Int) (x3 y3 : Int) :
    (Op.equalIn (d + 3) 168 (.agg #[.bool x0, .int .i64 x1, .int .i64 x2, .int .i64 x3]) (.agg #[.bool y0, .int .i64 y1, .int .i64 y2, .int .i64 y3])).run Tryd.prog w = .ok (x0 == y0 && (x1 == y1 && (x2 == y2 && (x3 == y3)))) w := by
  have h := int_struct (P := Tryd.prog) (d := d + 2) (w := w) (xs := #[.bool x0, .int .i64 x1, .int .i64 x2, .int .i64 x3]) (ys := #[.bool y0, .int .i64 y1, .int .i64 y2, .int .i64 y3]) Tryd.underlying168 (by kernel_rfl) (bool_field (a := x0) (b := y0) (by decide) (by kernel_rfl) (by go_simp) (by go_simp) (int_field (k := .i64) (a := x1) (b := y1) (by decide) (by kernel_rfl) (by go_simp) (by go_simp) (any_field (x := .agg #[.int .i64 x2, .int .i64 x3]) (y := .agg #[.int .i64 y2, .int .i64 y3]) (by decide) (by go_simp) (by go_simp) (eqA166 (d + 0) w x2 y2 x3 y3) no_field)))
  simpa only [Bool.and_true, Bool.and_assoc] using h
end Go.Proofs.YtnnhijlgohlaeaaDoor.D
