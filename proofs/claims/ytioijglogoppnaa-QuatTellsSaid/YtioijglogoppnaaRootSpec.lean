/- The plain law of roots: bit by bit from the top, and the greatest number by search. No condition. -/
import Derived.Test.YtioijglogoppnaaNatSpec
import Derived.Test.YtioijglogoppnaaTrigSpec
namespace Go.Proofs.Ytioijglogoppnaa.Root
open Go Go.Proofs.Ytioijglogoppnaa.Rnd Go.Proofs.Ytioijglogoppnaa.Nats
set_option linter.unusedVariables false
def rootAt (n : Nat) : Nat → Nat
  | 0 => 0
  | j + 1 => if (rootAt n j + 9223372036854775808 / 2 ^ j) * (rootAt n j + 9223372036854775808 / 2 ^ j) ≤ n then rootAt n j + 9223372036854775808 / 2 ^ j else rootAt n j
theorem bits_ok : ∀ j, j < 64 → 18446744073709551616 / 2 ^ j = 2 * (9223372036854775808 / 2 ^ j) ∧ 18446744073709551616 / 2 ^ (j + 1) = 9223372036854775808 / 2 ^ j ∧ 0 < 9223372036854775808 / 2 ^ j ∧ 9223372036854775808 / 2 ^ j = 2 ^ (63 - j) := by decide
theorem rootAt_ok {n : Nat} (hn : n < 340282366920938463463374607431768211456) : ∀ {j : Nat}, j ≤ 64 → rootAt n j * rootAt n j ≤ n ∧ n < (rootAt n j + 18446744073709551616 / 2 ^ j) * (rootAt n j + 18446744073709551616 / 2 ^ j) ∧ (∃ m, rootAt n j = m * (18446744073709551616 / 2 ^ j)) ∧ rootAt n j + 18446744073709551616 / 2 ^ j ≤ 18446744073709551616 := by
  intro j
  induction j with
  | zero => intro _; refine ⟨by simp [rootAt], by simp [rootAt]; omega, ⟨0, by simp [rootAt]⟩, by simp [rootAt]⟩
  | succ j ih =>
    intro hj
    obtain ⟨h1, h2, ⟨m, h3⟩, h4⟩ := ih (by omega)
    obtain ⟨s1, s2, s3, _⟩ := bits_ok j (by omega)
    rw [s1] at h2 h3 h4
    rw [s2]
    simp only [rootAt]
    generalize 9223372036854775808 / 2 ^ j = s at *
    split
    · rename_i hc
      refine ⟨hc, by rw [show rootAt n j + s + s = rootAt n j + 2 * s by omega]; exact h2, ⟨2 * m + 1, ?_⟩, by omega⟩
      rw [h3, Nat.add_mul, Nat.mul_assoc, Nat.mul_left_comm]; omega
    · rename_i hc
      refine ⟨h1, Nat.lt_of_not_le hc, ⟨2 * m, ?_⟩, by omega⟩
      rw [h3, Nat.mul_assoc, Nat.mul_left_comm]
def rootN (n : Nat) : Nat := rootAt n 64
theorem rootN_ok {n : Nat} (hn : n < 340282366920938463463374607431768211456) : rootN n * rootN n ≤ n ∧ n < (rootN n + 1) * (rootN n + 1) ∧ rootN n < 18446744073709551616 := by
  obtain ⟨h1, h2, _, h4⟩ := rootAt_ok hn (j := 64) (Nat.le_refl _)
  rw [show 18446744073709551616 / 2 ^ 64 = 1 by decide] at h2 h4
  exact ⟨h1, h2, by unfold rootN; omega⟩
theorem or_bit {n j : Nat} (hn : n < 340282366920938463463374607431768211456) (hj : j < 64) : Go.bits .or .u64 ((rootAt n j : Nat) : Int) ((9223372036854775808 / 2 ^ j : Nat) : Int) = ((rootAt n j + 9223372036854775808 / 2 ^ j : Nat) : Int) := by
  obtain ⟨_, _, ⟨m, h3⟩, h4⟩ := rootAt_ok hn (j := j) (by omega)
  obtain ⟨s1, s2, s3, s4⟩ := bits_ok j hj
  rw [s1] at h3 h4
  have h5 : rootAt n j = m <<< (63 - j + 1) := by rw [Nat.shiftLeft_eq, Nat.pow_succ, ← s4, Nat.mul_comm (9223372036854775808 / 2 ^ j)]; exact h3
  rw [Go.u64_or _ _ (by omega) (by omega) (by omega) (by omega), Int.toNat_natCast, Int.toNat_natCast]
  congr 1
  rw [h5]
  have hlt : 9223372036854775808 / 2 ^ j < 2 ^ (63 - j + 1) := by rw [s4, Nat.pow_succ]; have := Nat.pow_pos (n := 63 - j) (show 0 < 2 by decide); omega
  exact (Nat.shiftLeft_add_eq_or_of_lt hlt m).symm
theorem root_le {n k : Nat} (hn : n < 340282366920938463463374607431768211456) : k * k ≤ n ↔ k ≤ rootN n := by
  obtain ⟨h1, h2, _⟩ := rootN_ok hn
  constructor
  · intro h
    apply Nat.le_of_not_lt
    intro hlt
    have := Nat.mul_le_mul (show rootN n + 1 ≤ k from hlt) (show rootN n + 1 ≤ k from hlt)
    omega
  · intro h
    exact Nat.le_trans (Nat.mul_le_mul h h) h1
/-- The reference's search. -/
theorem root_most {a : Int} (ha : a ≤ 1099511627776) : mostv 536870912 (fun n => decide (0 < a ∧ n * n ≤ a * 65536)) = if 0 < a then ((rootN (a * 65536).toNat : Nat) : Int) else 0 := by
  by_cases h : 0 < a
  · rw [if_pos h]
    have hn : (a * 65536).toNat < 340282366920938463463374607431768211456 := by omega
    have hb : rootN (a * 65536).toNat ≤ 536870912 := by
      apply Nat.le_of_not_lt
      intro hlt
      have := (rootN_ok hn).1
      have := Nat.mul_le_mul (show 536870913 ≤ rootN (a * 65536).toNat from hlt) (show 536870913 ≤ rootN (a * 65536).toNat from hlt)
      omega
    refine mostv_eq (by omega) (by omega) (by omega) fun n hn0 _ => ?_
    obtain ⟨k, rfl⟩ := Int.eq_ofNat_of_zero_le (Int.le_of_lt hn0)
    have := root_le (k := k) hn
    simp only [decide_eq_true_eq]
    constructor
    · intro ⟨_, h2⟩
      have h3 : k * k ≤ (a * 65536).toNat := by have : ((k * k : Nat) : Int) = (k : Int) * (k : Int) := by simp
                                                omega
      have := this.1 h3
      omega
    · intro h2
      have h3 := this.2 (by omega)
      refine ⟨h, ?_⟩
      have : ((k * k : Nat) : Int) = (k : Int) * (k : Int) := by simp
      omega
  · rw [if_neg h]
    refine mostv_eq (Int.le_refl _) (by omega) (by omega) fun n hn0 _ => ?_
    simp only [decide_eq_true_eq]
    constructor
    · intro ⟨h1, _⟩; omega
    · intro h2; omega
/-- Two words and one. -/
def num (hi lo : Int) : Nat := (hi * 18446744073709551616 + lo).toNat
end Go.Proofs.Ytioijglogoppnaa.Root
