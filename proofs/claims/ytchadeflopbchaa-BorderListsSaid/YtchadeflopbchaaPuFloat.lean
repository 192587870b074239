/- What 64-bit floating-point numbers stand for, in plain words. No condition. -/
import Derived.Test.YtchadeflopbchaaExFlt
namespace Go.Proofs.Ytchadeflopbchaa.Sx
open Go Go.RowKit
set_option linter.unusedVariables false
set_option linter.unusedSimpArgs false
/-- A magnitude in its only form: M * 2 ^ L. -/
structure Nf (M : Nat) (L : Int) : Prop where
  lt : M < 9007199254740992
  norm : 4503599627370496 ≤ M ∨ L = -1074
  lo : -1074 ≤ L
  hi : L ≤ 971
def wordOf (s : Bool) (M : Nat) (L : Int) : Nat := if s then 9223372036854775808 + ((L + 1074).toNat * 4503599627370496 + M) else (L + 1074).toNat * 4503599627370496 + M
theorem dbl_least : Ieee.double.leastPlace = -1074 := by decide
theorem dbl_binade : Ieee.double.binade = 4503599627370496 := by decide
theorem dbl_inf : Ieee.double.infRung = 9218868437227405312 := by decide
theorem dbl_sign : Ieee.double.signWeight = 9223372036854775808 := by decide
theorem read_word (s : Bool) {M : Nat} {L : Int} (h : Nf M L) : Ieee.double.read (wordOf s M L) = .number s M L := by
  obtain ⟨h1, h2, h3, h4⟩ := h
  unfold Ieee.Format.read wordOf
  simp only [dbl_least, dbl_binade, dbl_inf, dbl_sign]
  obtain ⟨a, ha⟩ : ∃ a : Nat, (L + 1074).toNat = a := ⟨_, rfl⟩
  rw [ha]
  have hL : L = (a : Int) - 1074 := by omega
  have ha2 : a ≤ 2045 := by omega
  have hR : a * 4503599627370496 + M < 9218868437227405312 := by omega
  have hs : ((if s = true then 9223372036854775808 + (a * 4503599627370496 + M) else a * 4503599627370496 + M) / 9223372036854775808 % 2 == 1) = s := by
    cases s
    · simp only [Bool.false_eq_true, if_false]
      rw [show (a * 4503599627370496 + M) / 9223372036854775808 = 0 by omega]; rfl
    · simp only [if_true]
      rw [show (9223372036854775808 + (a * 4503599627370496 + M)) / 9223372036854775808 = 1 by omega]; rfl
  have hr : (if s = true then 9223372036854775808 + (a * 4503599627370496 + M) else a * 4503599627370496 + M) % 9223372036854775808 = a * 4503599627370496 + M := by
    cases s
    · simp only [Bool.false_eq_true, if_false]; omega
    · simp only [if_true]; omega
  rw [hs, hr]
  by_cases hb : a * 4503599627370496 + M < 4503599627370496
  · rw [if_pos hb]
    have : a = 0 := by omega
    subst this
    rw [hL]; simp
  · rw [if_neg hb, if_pos hR]
    have hM : 4503599627370496 ≤ M := by
      rcases h2 with h2 | h2
      · exact h2
      · omega
    congr 1
    · omega
    · rw [hL]; omega
theorem shl_pow (m k : Nat) : m <<< k = m * 2 ^ k := Nat.shiftLeft_eq m k
theorem log2_mul_pow {M : Nat} (h : 0 < M) (k : Nat) : (M * 2 ^ k).log2 = M.log2 + k := by
  rw [Nat.log2_eq_iff (by have := Nat.two_pow_pos k; exact Nat.ne_of_gt (Nat.mul_pos h this))]
  have h1 := (Nat.log2_eq_iff (n := M) (k := M.log2) (by omega)).1 rfl
  have hp := Nat.two_pow_pos k
  constructor
  · rw [Nat.pow_add]; exact Nat.mul_le_mul_right _ h1.1
  · rw [show M.log2 + k + 1 = (M.log2 + 1) + k by omega, Nat.pow_add]; exact (Nat.mul_lt_mul_right hp).2 h1.2
theorem log2_norm {M : Nat} (h1 : 4503599627370496 ≤ M) (h2 : M < 9007199254740992) : M.log2 = 52 := by
  rw [Nat.log2_eq_iff (by omega)]
  constructor
  · exact h1
  · exact h2
theorem log2_le52 {M : Nat} (h0 : 0 < M) (h2 : M < 9007199254740992) : M.log2 ≤ 52 := by
  have h1 := (Nat.log2_eq_iff (n := M) (k := M.log2) (by omega)).1 rfl
  rcases Nat.lt_or_ge 52 M.log2 with h | h
  · have : 2 ^ 53 ≤ 2 ^ M.log2 := Nat.pow_le_pow_right (by omega) h
    omega
  · exact h
theorem cut_even {neg : Bool} {M k : Nat} (h0 : 0 < M) : Ieee.Toward.even.cut neg (M * 2 ^ k) k = M := by
  unfold Ieee.Toward.cut
  have hp := Nat.two_pow_pos k
  have hl := log2_mul_pow h0 k
  have hm : min k ((M * 2 ^ k).log2 + 2) = k := by rw [hl]; omega
  simp only [hm, Nat.shiftLeft_eq, Nat.one_mul, Nat.mul_mod_left, Nat.mul_div_cancel M hp, Nat.mul_zero]
  have h1 : decide (2 ^ k < 0) = false := by simp
  have h2 : (2 ^ k == 0) = false := by simp
  rw [h1, h2]; simp
theorem last_place {M : Nat} {L : Int} (h : Nf M L) (h0 : 0 < M) : max (L + (M.log2 : Int) - 52) (-1074) = L := by
  have h5 := log2_le52 h0 h.lt
  have h3 := h.lo
  rcases h.norm with h2 | h2
  · rw [log2_norm h2 h.lt]; omega
  · omega
/-- A number that the format has is written as it is. -/
theorem nearest_exact (s : Bool) {mag : Nat} {place : Int} {M : Nat} {L : Int} (h : Nf M L) (h0 : 0 < M) (hv : (∃ k : Nat, mag = M * 2 ^ k ∧ place = L - k) ∨ ∃ k : Nat, M = mag * 2 ^ k ∧ place = L + k) : Ieee.double.nearest s mag place = wordOf s M L := by
  have hlast := last_place h h0
  have h4 := h.hi
  have h3 := h.lo
  have h1 := h.lt
  have hm0 : mag ≠ 0 := by
    rcases hv with ⟨k, rfl, _⟩ | ⟨k, e, _⟩
    · exact Nat.ne_of_gt (Nat.mul_pos h0 (Nat.two_pow_pos k))
    · intro e2; rw [e2] at e; omega
  unfold Ieee.Format.nearest
  rw [if_neg hm0]
  simp only [dbl_least, dbl_binade, dbl_inf, show Ieee.double.fractionBits = 52 from rfl]
  have hl : place + (mag.log2 : Int) - ((52 : Nat) : Int) = L + (M.log2 : Int) - 52 := by
    rcases hv with ⟨k, rfl, rfl⟩ | ⟨k, e, rfl⟩
    · rw [log2_mul_pow h0 k]; omega
    · rw [e, log2_mul_pow (by omega) k]; omega
  rw [hl, hlast]
  have hk : Ieee.Toward.even.cut s (mag <<< (place - L).toNat) (L - place).toNat = M := by
    rcases hv with ⟨k, rfl, rfl⟩ | ⟨k, e, rfl⟩
    · rw [show (L - (k : Int) - L).toNat = 0 by omega, show (L - (L - (k : Int))).toNat = k by omega, Nat.shiftLeft_zero]
      exact cut_even h0
    · rw [show (L + (k : Int) - L).toNat = k by omega, show (L - (L + (k : Int))).toNat = 0 by omega, shl_pow, ← e]
      have := cut_even (neg := s) (k := 0) h0
      rwa [Nat.pow_zero, Nat.mul_one] at this
  rw [hk, show L - -1074 = L + 1074 by omega, Nat.min_eq_left (by omega)]
  unfold Ieee.Format.word wordOf
  rw [dbl_sign]
theorem nearest_zero (s : Bool) (p : Int) : Ieee.double.nearest s 0 p = wordOf s 0 (-1074) := by
  unfold Ieee.Format.nearest
  rw [if_pos rfl]
  unfold Ieee.Format.word wordOf
  rw [dbl_sign]; rfl
theorem nf_zero : Nf 0 (-1074) := ⟨by omega, .inr rfl, by omega, by omega⟩
/-- What a word is. -/
theorem read_cases {x : Nat} (hx : x < 18446744073709551616) : (∃ s f, Ieee.double.read x = .nan s f ∧ x / 4503599627370496 % 2048 = 2047) ∨ (∃ s, Ieee.double.read x = .infinity s ∧ x / 4503599627370496 % 2048 = 2047) ∨
    ∃ s M L, x = wordOf s M L ∧ Nf M L ∧ x / 4503599627370496 % 2048 ≠ 2047 ∧ (s = true ↔ 9223372036854775808 ≤ x) ∧ (L + 1075).toNat = max (x / 4503599627370496 % 2048) 1 ∧ M = (if x / 4503599627370496 % 2048 = 0 then x % 4503599627370496 else 4503599627370496 + x % 4503599627370496) := by
  have key : ∀ (s : Bool) (r : Nat), r < 9223372036854775808 → x = (if s = true then 9223372036854775808 + r else r) → (∃ s f, Ieee.double.read x = .nan s f ∧ x / 4503599627370496 % 2048 = 2047) ∨ (∃ s, Ieee.double.read x = .infinity s ∧ x / 4503599627370496 % 2048 = 2047) ∨
    ∃ s M L, x = wordOf s M L ∧ Nf M L ∧ x / 4503599627370496 % 2048 ≠ 2047 ∧ (s = true ↔ 9223372036854775808 ≤ x) ∧ (L + 1075).toNat = max (x / 4503599627370496 % 2048) 1 ∧ M = (if x / 4503599627370496 % 2048 = 0 then x % 4503599627370496 else 4503599627370496 + x % 4503599627370496) := by
    intro s r hr e
    have e1 : x / 4503599627370496 % 2048 = r / 4503599627370496 := by
      cases s
      · simp only [Bool.false_eq_true, if_false] at e; omega
      · simp only [if_true] at e; omega
    have e2 : x % 4503599627370496 = r % 4503599627370496 := by
      cases s
      · simp only [Bool.false_eq_true, if_false] at e; omega
      · simp only [if_true] at e; omega
    have e3 : (s = true ↔ 9223372036854775808 ≤ x) := by
      cases s
      · simp only [Bool.false_eq_true, if_false, false_iff] at e ⊢; omega
      · simp only [if_true, true_iff] at e ⊢; omega
    have e4 : x % 9223372036854775808 = r := by
      cases s
      · simp only [Bool.false_eq_true, if_false] at e; omega
      · simp only [if_true] at e; omega
    rw [e1, e2]
    by_cases h1 : r < 9218868437227405312
    · refine .inr (.inr ⟨s, if r / 4503599627370496 = 0 then r % 4503599627370496 else 4503599627370496 + r % 4503599627370496, ((max (r / 4503599627370496) 1 : Nat) : Int) - 1075, ?_, ?_, by omega, e3, by omega, rfl⟩)
      · rw [e]
        unfold wordOf
        rw [show (((max (r / 4503599627370496) 1 : Nat) : Int) - 1075 + 1074).toNat = max (r / 4503599627370496) 1 - 1 by omega]
        have : (max (r / 4503599627370496) 1 - 1) * 4503599627370496 + (if r / 4503599627370496 = 0 then r % 4503599627370496 else 4503599627370496 + r % 4503599627370496) = r := by
          by_cases h0 : r / 4503599627370496 = 0
          · rw [if_pos h0, h0]; omega
          · rw [if_neg h0, Nat.max_eq_left (by omega)]; omega
        rw [this]
      · constructor
        · split <;> omega
        · by_cases h0 : r / 4503599627370496 = 0
          · right; rw [h0]; omega
          · left; rw [if_neg h0]; omega
        · omega
        · omega
    · have hread : Ieee.double.read x = if r = 9218868437227405312 then .infinity (x / 9223372036854775808 % 2 == 1) else .nan (x / 9223372036854775808 % 2 == 1) (r - 9218868437227405312) := by
        unfold Ieee.Format.read
        simp only [dbl_least, dbl_binade, dbl_inf, dbl_sign, e4]
        rw [if_neg (by omega), if_neg h1]
      by_cases h2 : r = 9218868437227405312
      · exact .inr (.inl ⟨_, by rw [hread, if_pos h2], by omega⟩)
      · exact .inl ⟨_, _, by rw [hread, if_neg h2], by omega⟩
  by_cases h : x < 9223372036854775808
  · exact key false x h (by simp)
  · exact key true (x - 9223372036854775808) (by omega) (by simp only [if_true]; omega)
end Go.Proofs.Ytchadeflopbchaa.Sx
