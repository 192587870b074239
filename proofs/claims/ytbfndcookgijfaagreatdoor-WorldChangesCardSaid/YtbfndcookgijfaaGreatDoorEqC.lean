/- Equality of structs. No condition. -/
import Derived.Test.YtbfndcookgijfaaGreatDoorProg
import Derived.Test.YtbfndcookgijfaaGreatDoorSxEq
namespace Go.Proofs.YtbfndcookgijfaaGreatDoor.C
open Go Go.RowKit Go.Proofs.YtbfndcookgijfaaGreatDoor.Sx
set_option linter.unusedVariables false
theorem eqA29 (d : Nat) (w : World) (x0 y0 : Int) (x1 y1 : Int) :
    (Op.equalIn (d + 2) 29 (.agg #[.int .i64 x0, .int .i64 x1]) (.agg #[.int .i64 y0, .int .i64 y1])).run Tryz.prog w = .ok (x0 == y0 && (x1 == y1)) w := by
  have h := int_struct (P := Tryz.prog) (d := d + 1) (w := w) (xs := #[.int .i64 x0, .int .i64 x1]) (ys := #[.int .i64 y0, .int .i64 y1]) Tryz.underlying29 (by kernel_rfl) (int_field (k := .i64) (a := x0) (b := y0) (by decide) (by kernel_rfl) (by go_simp) (by go_simp) (int_field (k := .i64) (a := x1) (b := y1) (by decide) (by kernel_rfl) (by go_simp) (by go_simp) no_field))
  simpa only [Bool.and_true, Bool.and_assoc] using h
theorem eqA99 (d : Nat) (w : World) (x0 y0 : ByteArray) (x1 y1 : Int) (x2 y2 : Int) :
    (Op.equalIn (d + 2) 99 (.agg #[.string x0, .int .i64 x1, .int .i64 x2]) (.agg #[.string y0, .int .i64 y1, .int .i64 y2])).run Tryz.prog w = .ok (x0.toList == y0.toList && (x1 == y1 && (x2 == y2))) w := by
  have h := int_struct (P := Tryz.prog) (d := d + 1) (w := w) (xs := #[.string x0, .int .i64 x1, .int .i64 x2]) (ys := #[.string y0, .int .i64 y1, .int .i64 y2]) Tryz.underlying99 (by kernel_rfl) (str_field (a := x0) (b := y0) (by decide) (by kernel_rfl) (by go_simp) (by go_simp) (int_field (k := .i64) (a := x1) (b := y1) (by decide) (by kernel_rfl) (by go_simp) (by go_simp) (int_field (k := .i64) (a := x2) (b := y2) (by decide) (by kernel_rfl) (by go_simp) (by go_simp) no_field)))
  simpa only [Bool.and_true, Bool.and_assoc] using h
end Go.Proofs.YtbfndcookgijfaaGreatDoor.C
