/- The plain law of rounded shares: long division bit by bit, and the greatest number by search, come to the same. No condition. -/
import Derived.Test.YtioijglogoppnaaNatSpec
import Derived.Test.YtioijglogoppnaaTrigSpec
namespace Go.Proofs.Ytioijglogoppnaa.Quant
open Go Go.Proofs.Ytioijglogoppnaa.Rnd Go.Proofs.Ytioijglogoppnaa.Nats
set_option linter.unusedVariables false
/-- a times b through c, rounded. -/
def shareV (a b c : Int) : Int := (2 * (a * b) + c) / (2 * c)
/-- What holds behind the bits from k on. -/
structure Div (a b c : Int) (k : Nat) (o r : Int) : Prop where
  eq : o * c + r = a * (b / 2 ^ k)
  lo : 0 ≤ r
  hi : r < c
theorem Div.bounds {a b c : Int} {k : Nat} {o r : Int} (h : Div a b c k o r) (ha : 0 ≤ a) (hac : a ≤ c) (hc : 0 < c) (hb : 0 ≤ b) : 0 ≤ o ∧ o ≤ b := by
  have hp : (0 : Int) < 2 ^ k := Int.pow_pos (by decide)
  have hq0 : 0 ≤ b / 2 ^ k := Int.ediv_nonneg hb (Int.le_of_lt hp)
  have hq1 : b / 2 ^ k ≤ b := Int.ediv_le_self _ hb
  have h1 := h.eq
  have h2 := h.lo
  have h3 := h.hi
  have h4 : a * (b / 2 ^ k) ≤ c * (b / 2 ^ k) := Int.mul_le_mul_of_nonneg_right hac hq0
  have h5 : 0 ≤ a * (b / 2 ^ k) := Int.mul_nonneg ha hq0
  constructor
  · have : -1 * c < o * c := by omega
    have := Int.lt_of_mul_lt_mul_right this (Int.le_of_lt hc)
    omega
  · have : o * c ≤ (b / 2 ^ k) * c := by rw [Int.mul_comm (b / 2 ^ k) c]; omega
    have := Int.le_of_mul_le_mul_right this hc
    omega
theorem Div.zero {a b c : Int} (hc : 0 < c) (hb0 : 0 ≤ b) (hb1 : b < 4398046511104) : Div a b c 42 0 0 := by
  have e : b / 2 ^ 42 = 0 := Int.ediv_eq_zero_of_lt hb0 (by omega)
  exact ⟨by rw [e]; simp, Int.le_refl _, hc⟩
/-- The bit of place k. -/
def bit (b : Int) (k : Nat) : Int := b / 2 ^ k % 2
theorem half_bit (b : Int) (k : Nat) : b / 2 ^ k = 2 * (b / 2 ^ (k + 1)) + bit b k := by
  have e : b / 2 ^ (k + 1) = b / 2 ^ k / 2 := by rw [Int.pow_succ, Int.ediv_ediv_of_nonneg (Int.le_of_lt (Int.pow_pos (by decide)))]
  rw [e]; unfold bit; omega
theorem Div.step {a b c : Int} {k : Nat} {o r : Int} (h : Div a b c (k + 1) o r) {e x : Int} (hlo : 0 ≤ 2 * r + bit b k * a - (e + x) * c) (hhi : 2 * r + bit b k * a - (e + x) * c < c) : Div a b c k (2 * o + (e + x)) (2 * r + bit b k * a - (e + x) * c) := by
  refine ⟨?_, hlo, hhi⟩
  have h1 := h.eq
  rw [half_bit b k, Int.mul_add, Int.mul_left_comm, ← h1, Int.add_mul, Int.mul_comm a (bit b k), Int.mul_assoc]
  omega
theorem Div.last {a b c : Int} {o r : Int} (h : Div a b c 0 o r) (hc : 0 < c) : shareV a b c = if c ≤ 2 * r then o + 1 else o := by
  have h1 := h.eq
  have h2 := h.lo
  have h3 := h.hi
  simp only [Int.pow_zero, Int.ediv_one] at h1
  unfold shareV
  rw [← h1]
  have e : 2 * (o * c + r) + c = (2 * r + c) + (2 * c) * o := by rw [Int.mul_add, Int.mul_assoc, Int.mul_comm c o]; omega
  rw [e, Int.add_mul_ediv_left _ _ (by omega)]
  split
  · rename_i hle
    have : (2 * r + c) / (2 * c) = 1 := by
      have : 2 * r + c = (2 * r - c) + (2 * c) * 1 := by omega
      rw [this, Int.add_mul_ediv_left _ _ (by omega), Int.ediv_eq_zero_of_lt (by omega) (by omega)]; rfl
    omega
  · rw [Int.ediv_eq_zero_of_lt (by omega) (by omega)]; omega
theorem share_range {a b c : Int} (ha : 0 ≤ a) (hac : a ≤ c) (hc : 0 < c) (hb : 0 ≤ b) : 0 ≤ shareV a b c ∧ shareV a b c ≤ b := by
  have h0 : 0 ≤ a * b := Int.mul_nonneg ha hb
  have h1 : a * b ≤ c * b := Int.mul_le_mul_of_nonneg_right hac hb
  unfold shareV
  refine ⟨Int.ediv_nonneg (by omega) (by omega), ?_⟩
  have : (2 * (a * b) + c) / (2 * c) < b + 1 := Int.ediv_lt_of_lt_mul (by omega) (by rw [Int.mul_comm (b + 1), Int.mul_add, Int.mul_assoc]; omega)
  omega
/-- The search comes to the same. -/
theorem share_most {a b c : Nat} (hac : a ≤ c) (hc : 0 < c) (hb : b < 8796093022208) : mostv (b : Int) (fun n => decide ((2 * n.toNat - 1) * c ≤ 2 * (a * b))) = shareV a b c := by
  have hr := share_range (a := (a : Int)) (b := (b : Int)) (c := (c : Int)) (by omega) (by omega) (by omega) (by omega)
  refine mostv_eq hr.1 hr.2 (by omega) fun n hn _ => ?_
  obtain ⟨m, rfl⟩ := Int.eq_ofNat_of_zero_le (Int.le_of_lt hn)
  simp only [Int.toNat_natCast, decide_eq_true_eq]
  unfold shareV
  rw [Int.le_ediv_iff_mul_le (by omega)]
  obtain ⟨j, rfl⟩ : ∃ j, m = j + 1 := ⟨m - 1, by omega⟩
  have e1 : (2 * (j + 1) - 1) * c = 2 * (j * c) + c := by rw [show 2 * (j + 1) - 1 = 2 * j + 1 by omega, Nat.add_mul, Nat.mul_assoc]; omega
  have e2 : ((j + 1 : Nat) : Int) * (2 * (c : Int)) = ((2 * (j * c) + 2 * c : Nat) : Int) := by
    rw [show (2 * (j * c) + 2 * c : Nat) = (j + 1) * (2 * c) by rw [Nat.add_mul, Nat.mul_left_comm]; omega]
    simp
  have e3 : 2 * ((a : Int) * (b : Int)) + (c : Int) = ((2 * (a * b) + c : Nat) : Int) := by simp
  rw [e1, e2, e3]
  omega
end Go.Proofs.Ytioijglogoppnaa.Quant
