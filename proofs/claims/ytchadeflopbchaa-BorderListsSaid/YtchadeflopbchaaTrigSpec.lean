/- The plain law of the sine: the table, the values between, and what the two programs' reckonings come to. No condition. -/
import Derived.Test.YtchadeflopbchaaRndSpec
namespace Go.Proofs.Ytchadeflopbchaa.Trig
open Go Go.Proofs.Ytchadeflopbchaa.Rnd
set_option linter.unusedVariables false
def tab : List Int := [0, 1608, 3216, 4821, 6424, 8022, 9616, 11204, 12785, 14359, 15924, 17479, 19024, 20557, 22078, 23586, 25080, 26558, 28020, 29466, 30893, 32303, 33692, 35062, 36410, 37736, 39040, 40320, 41576, 42806, 44011, 45190, 46341, 47464, 48559, 49624, 50660, 51665, 52639, 53581, 54491, 55368, 56212, 57022, 57798, 58538, 59244, 59914, 60547, 61145, 61705, 62228, 62714, 63162, 63572, 63944, 64277, 64571, 64827, 65043, 65220, 65358, 65457, 65516, 65536]
theorem tab_range : ∀ k, k < 65 → 0 ≤ tab.getD k 0 ∧ tab.getD k 0 ≤ 65536 := by decide
theorem tab_up : ∀ k, k < 64 → tab.getD k 0 ≤ tab.getD (k + 1) 0 ∧ tab.getD (k + 1) 0 - tab.getD k 0 ≤ 1608 := by decide
theorem tab_last : tab.getD 64 0 = 65536 := by decide
/-- The sine within the first quarter turn. -/
def firstV (r : Nat) : Int := if r % 256 = 0 then tab.getD (r / 256) 0 else tab.getD (r / 256) 0 + ((tab.getD (r / 256 + 1) 0 - tab.getD (r / 256) 0) * ((r % 256 : Nat) : Int) + 128) / 256
theorem first_le (r : Nat) (h : r ≤ 16384) : 0 ≤ firstV r ∧ firstV r ≤ 65536 := by
  unfold firstV
  split
  · exact tab_range _ (by omega)
  · have h1 := tab_range (r / 256) (by omega)
    have h2 := tab_up (r / 256) (by omega)
    have h3 := tab_range (r / 256 + 1) (by omega)
    have h4 : 0 ≤ (tab.getD (r / 256 + 1) 0 - tab.getD (r / 256) 0) * ((r % 256 : Nat) : Int) := Int.mul_nonneg (by omega) (by omega)
    have h5 : (tab.getD (r / 256 + 1) 0 - tab.getD (r / 256) 0) * ((r % 256 : Nat) : Int) ≤ (tab.getD (r / 256 + 1) 0 - tab.getD (r / 256) 0) * 255 := Int.mul_le_mul_of_nonneg_left (by omega) (by omega)
    generalize (tab.getD (r / 256 + 1) 0 - tab.getD (r / 256) 0) * ((r % 256 : Nat) : Int) = q at *
    omega
theorem i64in {x : Int} (h0 : -9223372036854775808 ≤ x) (h1 : x ≤ 9223372036854775807) : IntKind.i64.wrap x = x := by rw [IntKind.wrap_i64]; omega
/-- What the program reckons between two numbers of the table. -/
theorem first_walk (r : Nat) (h : r < 16384) (hf : r % 256 ≠ 0) :
    IntKind.i64.wrap (tab.getD (r / 256) 0 + IntKind.i64.wrap (Int.tdiv (IntKind.i64.wrap (IntKind.i64.wrap (IntKind.i64.wrap (tab.getD (r / 256 + 1) 0 - tab.getD (r / 256) 0) * ((r % 256 : Nat) : Int)) + 128)) 256)) = firstV r := by
  have h1 := tab_range (r / 256) (by omega)
  have h2 := tab_up (r / 256) (by omega)
  have h4 : 0 ≤ (tab.getD (r / 256 + 1) 0 - tab.getD (r / 256) 0) * ((r % 256 : Nat) : Int) := Int.mul_nonneg (by omega) (by omega)
  have h5 : (tab.getD (r / 256 + 1) 0 - tab.getD (r / 256) 0) * ((r % 256 : Nat) : Int) ≤ (tab.getD (r / 256 + 1) 0 - tab.getD (r / 256) 0) * 255 := Int.mul_le_mul_of_nonneg_left (by omega) (by omega)
  unfold firstV
  rw [if_neg hf, i64in (x := tab.getD (r / 256 + 1) 0 - tab.getD (r / 256) 0) (by omega) (by omega)]
  generalize (tab.getD (r / 256 + 1) 0 - tab.getD (r / 256) 0) * ((r % 256 : Nat) : Int) = q at *
  rw [i64in (x := q) (by omega) (by omega), i64in (x := q + 128) (by omega) (by omega), Int.tdiv_eq_ediv_of_nonneg (by omega), i64in (x := (q + 128) / 256) (by omega) (by omega), i64in (by omega) (by omega)]
/-- What the reference reckons between them. -/
theorem ref_walk (r : Nat) (h : r < 16384) :
    IntKind.i64.wrap (Int.tdiv (IntKind.i64.wrap (IntKind.i64.wrap (IntKind.i64.wrap (tab.getD (r / 256) 0 * IntKind.i64.wrap (256 - ((r % 256 : Nat) : Int))) + IntKind.i64.wrap (tab.getD (r / 256 + 1) 0 * ((r % 256 : Nat) : Int))) + 128)) 256) = firstV r := by
  have h1 := tab_range (r / 256) (by omega)
  have h2 := tab_up (r / 256) (by omega)
  have h4 : 0 ≤ (tab.getD (r / 256 + 1) 0 - tab.getD (r / 256) 0) * ((r % 256 : Nat) : Int) := Int.mul_nonneg (by omega) (by omega)
  have h5 : (tab.getD (r / 256 + 1) 0 - tab.getD (r / 256) 0) * ((r % 256 : Nat) : Int) ≤ (tab.getD (r / 256 + 1) 0 - tab.getD (r / 256) 0) * 255 := Int.mul_le_mul_of_nonneg_left (by omega) (by omega)
  have h6 : 0 ≤ tab.getD (r / 256) 0 * ((r % 256 : Nat) : Int) := Int.mul_nonneg (by omega) (by omega)
  have h7 : tab.getD (r / 256) 0 * ((r % 256 : Nat) : Int) ≤ tab.getD (r / 256) 0 * 255 := Int.mul_le_mul_of_nonneg_left (by omega) (by omega)
  have e1 : tab.getD (r / 256) 0 * (256 - ((r % 256 : Nat) : Int)) = tab.getD (r / 256) 0 * 256 - tab.getD (r / 256) 0 * ((r % 256 : Nat) : Int) := Int.mul_sub _ _ _
  have e2 : (tab.getD (r / 256 + 1) 0 - tab.getD (r / 256) 0) * ((r % 256 : Nat) : Int) = tab.getD (r / 256 + 1) 0 * ((r % 256 : Nat) : Int) - tab.getD (r / 256) 0 * ((r % 256 : Nat) : Int) := Int.sub_mul _ _ _
  rw [i64in (x := 256 - ((r % 256 : Nat) : Int)) (by omega) (by omega), e1]
  have key : firstV r = (tab.getD (r / 256) 0 * 256 + ((tab.getD (r / 256 + 1) 0 - tab.getD (r / 256) 0) * ((r % 256 : Nat) : Int)) + 128) / 256 := by
    unfold firstV
    split
    · rename_i hz
      rw [hz, show ((0 : Nat) : Int) = 0 from rfl, Int.mul_zero]; omega
    · generalize (tab.getD (r / 256 + 1) 0 - tab.getD (r / 256) 0) * ((r % 256 : Nat) : Int) = q at *; omega
  rw [key, e2]
  rw [e2] at h4 h5
  generalize tab.getD (r / 256 + 1) 0 * ((r % 256 : Nat) : Int) = p at *
  generalize tab.getD (r / 256) 0 * ((r % 256 : Nat) : Int) = q at *
  rw [i64in (x := tab.getD (r / 256) 0 * 256 - q) (by omega) (by omega), i64in (x := p) (by omega) (by omega), i64in (x := tab.getD (r / 256) 0 * 256 - q + p) (by omega) (by omega), i64in (x := tab.getD (r / 256) 0 * 256 - q + p + 128) (by omega) (by omega), Int.tdiv_eq_ediv_of_nonneg (by omega), i64in (by omega) (by omega)]
  congr 1; omega
theorem ref_last : tab.getD 64 0 = firstV 16384 := by decide
/-- The sine of any angle. -/
def sinN (a : Nat) : Int := if a < 16384 then firstV (a % 16384) else if a < 32768 then firstV (16384 - a % 16384) else if a < 49152 then -firstV (a % 16384) else -firstV (16384 - a % 16384)
def sinv (a : Int) : Int := sinN (a % 65536).toNat
theorem sinN_range (a : Nat) : -65536 ≤ sinN a ∧ sinN a ≤ 65536 := by
  have h1 := first_le (a % 16384) (by omega)
  have h2 := first_le (16384 - a % 16384) (by omega)
  unfold sinN
  repeat' split
  all_goals omega
end Go.Proofs.Ytchadeflopbchaa.Trig
