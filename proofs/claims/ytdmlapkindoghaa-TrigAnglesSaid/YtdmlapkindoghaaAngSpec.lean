/- The plain law of angles: the sine of a quarter turn grows, so the last angle that is not beyond a vector is one alone. No condition. -/
import Derived.Test.YtdmlapkindoghaaTrigSpec
namespace Go.Proofs.Ytdmlapkindoghaa.Ang
open Go Go.Proofs.Ytdmlapkindoghaa.Trig
set_option linter.unusedVariables false
def segF (k : Nat) (f : Int) : Int := (tab.getD k 0 * 256 + (tab.getD (k + 1) 0 - tab.getD k 0) * f + 128) / 256
theorem first_seg (r : Nat) : firstV r = segF (r / 256) ((r % 256 : Nat) : Int) := by
  unfold firstV segF
  split
  · rename_i h
    rw [h, show ((0 : Nat) : Int) = 0 from rfl, Int.mul_zero]; omega
  · generalize (tab.getD (r / 256 + 1) 0 - tab.getD (r / 256) 0) * ((r % 256 : Nat) : Int) = q; omega
theorem first_seg' (r : Nat) : firstV (r + 1) = segF (r / 256) ((r % 256 : Nat) + 1 : Int) := by
  by_cases h : (r + 1) % 256 = 0
  · have e1 : (r + 1) / 256 = r / 256 + 1 := by omega
    have e2 : ((r % 256 : Nat) : Int) + 1 = 256 := by omega
    rw [first_seg, e1, h, e2]
    unfold segF
    rw [show ((0 : Nat) : Int) = 0 from rfl, Int.mul_zero]
    omega
  · have e1 : (r + 1) / 256 = r / 256 := by omega
    have e2 : (((r + 1) % 256 : Nat) : Int) = ((r % 256 : Nat) : Int) + 1 := by omega
    rw [first_seg, e1, e2]
theorem first_step {r : Nat} (h : r < 16384) : firstV r ≤ firstV (r + 1) := by
  rw [first_seg, first_seg']
  unfold segF
  have h2 := tab_up (r / 256) (by omega)
  have : (tab.getD (r / 256 + 1) 0 - tab.getD (r / 256) 0) * (((r % 256 : Nat) : Int) + 1) = (tab.getD (r / 256 + 1) 0 - tab.getD (r / 256) 0) * ((r % 256 : Nat) : Int) + (tab.getD (r / 256 + 1) 0 - tab.getD (r / 256) 0) := by rw [Int.mul_add, Int.mul_one]
  rw [this]
  omega
theorem first_mono {r s : Nat} (h : r ≤ s) (hs : s ≤ 16384) : firstV r ≤ firstV s := by
  induction s with
  | zero => have : r = 0 := by omega
            subst this; exact Int.le_refl _
  | succ s ih =>
    by_cases e : r = s + 1
    · subst e; exact Int.le_refl _
    · exact Int.le_trans (ih (by omega) (by omega)) (first_step (by omega))
/-- The angle a is not beyond the vector. -/
def Not (x y : Int) (a : Nat) : Prop := firstV a * x ≤ firstV (16384 - a) * y
instance (x y : Int) (a : Nat) : Decidable (Not x y a) := inferInstanceAs (Decidable (_ ≤ _))
theorem not_zero {x y : Int} (hx : 0 < x) (hy : 0 ≤ y) : Not x y 0 := by
  unfold Not
  rw [show firstV 0 = 0 by decide, Int.zero_mul]
  exact Int.mul_nonneg (first_le _ (by omega)).1 hy
theorem not_down {x y : Int} (hx : 0 < x) (hy : 0 ≤ y) {a b : Nat} (hab : a ≤ b) (hb : b ≤ 16384) (h : Not x y b) : Not x y a := by
  unfold Not at *
  have h1 : firstV a * x ≤ firstV b * x := Int.mul_le_mul_of_nonneg_right (first_mono hab hb) (by omega)
  have h2 : firstV (16384 - b) * y ≤ firstV (16384 - a) * y := Int.mul_le_mul_of_nonneg_right (first_mono (by omega) (by omega)) hy
  omega
def angN (x y : Int) : Nat → Nat
  | 0 => 0
  | n + 1 => if Not x y (n + 1) then n + 1 else angN x y n
theorem angN_eq {x y : Int} (hx : 0 < x) (hy : 0 ≤ y) {a : Nat} (ha : Not x y a) (hn : a = 16383 ∨ ¬ Not x y (a + 1)) : ∀ {n : Nat}, a ≤ n → n ≤ 16383 → angN x y n = a := by
  intro n
  induction n with
  | zero => intro h _; have : a = 0 := by omega
            subst this; rfl
  | succ n ih =>
    intro h hb
    simp only [angN]
    by_cases e : a = n + 1
    · subst e; rw [if_pos ha]
    · rw [if_neg fun hc => ?_]
      · exact ih (by omega) (by omega)
      · rcases hn with hn | hn
        · omega
        · exact hn (not_down hx hy (by omega) (by omega) hc)
def ang (x y : Int) : Int := ((angN x y 16383 : Nat) : Int)
theorem ang_eq {x y : Int} (hx : 0 < x) (hy : 0 ≤ y) {a : Nat} (ha : Not x y a) (hb : a ≤ 16383) (hn : a = 16383 ∨ ¬ Not x y (a + 1)) : (a : Int) = ang x y := by
  unfold ang
  rw [angN_eq hx hy ha hn hb (Nat.le_refl _)]
/-- The angle of a vector. -/
def angleV (y x : Int) : Int := if x = 0 ∧ y = 0 then 0 else if 0 < x ∧ 0 ≤ y then ang x y else if x ≤ 0 ∧ 0 < y then 16384 + ang y (0 - x) else if x < 0 then 32768 + ang (0 - x) (0 - y) else 49152 + ang (0 - y) x
theorem sin_first {a : Nat} (h : a ≤ 16384) : sinv (a : Int) = firstV a := by
  unfold sinv
  rw [show ((a : Int) % 65536).toNat = a by omega]
  unfold sinN
  by_cases h1 : a < 16384
  · rw [if_pos h1, Nat.mod_eq_of_lt h1]
  · have : a = 16384 := by omega
    subst this; decide
theorem cos_first {a : Nat} (h : a ≤ 16384) : sinv ((a : Int) % 65536 + 16384) = firstV (16384 - a) := by
  unfold sinv
  rw [show (((a : Int) % 65536 + 16384) % 65536).toNat = a + 16384 by omega]
  unfold sinN
  by_cases h1 : a < 16384
  · rw [if_neg (by omega), if_pos (by omega), show (a + 16384) % 16384 = a by omega]
  · have : a = 16384 := by omega
    subst this; decide
theorem prod_ok {a : Nat} {y : Int} (h : a ≤ 16384) (hy : 0 ≤ y) (hy1 : y ≤ 1099511627776) : 0 ≤ firstV a * y ∧ firstV a * y ≤ 72057594037927936 := by
  have h1 := first_le a h
  have h2 : firstV a * y ≤ 65536 * y := Int.mul_le_mul_of_nonneg_right h1.2 hy
  exact ⟨Int.mul_nonneg h1.1 hy, by omega⟩
end Go.Proofs.Ytdmlapkindoghaa.Ang
