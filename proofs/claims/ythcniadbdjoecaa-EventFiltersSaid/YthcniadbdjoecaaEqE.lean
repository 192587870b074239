/- Equality of structs. No condition. -/
import Derived.Test.YthcniadbdjoecaaProg
import Derived.Test.YthcniadbdjoecaaSxEq
namespace Go.Proofs.Ythcniadbdjoecaa.E
open Go Go.RowKit Go.Proofs.Ythcniadbdjoecaa.Sx
set_option linter.unusedVariables false
theorem eqA35 (d : Nat) (w : World) (x0 y0 : Int) (x1 y1 : Int) :
    (Op.equalIn (d + 2) 35 (.agg #[.int .i64 x0, .int .i64 x1]) (.agg #[.int .i64 y0, .int .i64 y1])).run Try.prog w = .ok (x0 == y0 && (x1 == y1)) w := by
  have h := int_struct (P := Try.prog) (d := d + 1) (w := w) (xs := #[.int .i64 x0, .int .i64 x1]) (ys := #[.int .i64 y0, .int .i64 y1]) Try.underlying35 (by kernel_rfl) (int_field (k := .i64) (a := x0) (b := y0) (by decide) (by kernel_rfl) (by go_simp) (by go_simp) (int_field (k := .i64) (a := x1) (b := y1) (by decide) (by kernel_rfl) (by go_simp) (by go_simp) no_field))
  simpa only [Bool.and_true, Bool.and_assoc] using h
theorem eqA94 (d : Nat) (w : World) (x0 y0 : Int) (x1 y1 : Int) (x2 y2 : Int) (x3 y3 : Int) :
    (Op.equalIn (d + 3) 94 (.agg #[.int .i64 x0, .int .i64 x1, .int .i64 x2, .int .i64 x3]) (.agg #[.int .i64 y0, .int .i64 y1, .int .i64 y2, .int .i64 y3])).run Try.prog w = .ok (x0 == y0 && (x1 == y1 && (x2 == y2 && (x3 == y3)))) w := by
  have h := int_struct (P := Try.prog) (d := d + 2) (w := w) (xs := #[.int .i64 x0, .int .i64 x1, .int .i64 x2, .int .i64 x3]) (ys := #[.int .i64 y0, .int .i64 y1, .int .i64 y2, .int .i64 y3]) Try.underlying94 (by kernel_rfl) (int_field (k := .i64) (a := x0) (b := y0) (by decide) (by kernel_rfl) (by go_simp) (by go_simp) (any_field (x := .agg #[.int .i64 x1, .int .i64 x2]) (y := .agg #[.int .i64 y1, .int .i64 y2]) (by decide) (by go_simp) (by go_simp) (eqA35 (d + 0) w x1 y1 x2 y2) (int_field (k := .i64) (a := x3) (b := y3) (by decide) (by kernel_rfl) (by go_simp) (by go_simp) no_field)))
  simpa only [Bool.and_true, Bool.and_assoc] using h
end Go.Proofs.Ythcniadbdjoecaa.E
