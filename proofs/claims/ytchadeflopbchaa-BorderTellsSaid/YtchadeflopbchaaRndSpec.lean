/- Plain facts about the streams' numbers: what the program's Mix and the reference's Scrambled come to, which numbers count, and that one of them comes. No condition. -/
import Derived.Test.YtchadeflopbchaaSx
import Derived.Laws.BitsLemmas
import Derived.Laws.BitsAllLaws
import Derived.Test.YtchadeflopbchaaSxOps
namespace Go.Proofs.Ytchadeflopbchaa.Rnd
open Go Go.RowKit

theorem w64 (x : Int) : IntKind.u64.wrap x = x % 18446744073709551616 := by simp [IntKind.wrap, IntKind.bits, IntKind.signed]
theorem w64_lo (x : Int) : 0 ≤ IntKind.u64.wrap x := by rw [w64]; omega
theorem w64_hi (x : Int) : IntKind.u64.wrap x < 18446744073709551616 := by rw [w64]; omega
theorem w64_in {x : Int} (h0 : 0 ≤ x) (h1 : x < 18446744073709551616) : IntKind.u64.wrap x = x := by rw [w64]; omega
theorem bits_lo (op : BinOp) (x y : Int) : 0 ≤ Go.bits op .u64 x y := by unfold Go.bits; exact w64_lo _
theorem bits_hi (op : BinOp) (x y : Int) : Go.bits op .u64 x y < 18446744073709551616 := by unfold Go.bits; exact w64_hi _
theorem wf_u64 {x : Int} (h : (Lit.int .u64 x).wf = true) : 0 ≤ x ∧ x < 18446744073709551616 := by
  simp [Lit.wf, IntKind.min, IntKind.max, IntKind.signed, IntKind.bits] at h; omega
theorem wf_i64 {x : Int} (h : (Lit.int .i64 x).wf = true) : -9223372036854775808 ≤ x ∧ x ≤ 9223372036854775807 := by
  simp [Lit.wf, IntKind.min, IntKind.max, IntKind.signed, IntKind.bits] at h; omega

/-- One step of mixing, as the program tells it. -/
def mix1 (x d m : Int) : Int := IntKind.u64.wrap (Go.bits .xor .u64 x (x / d) * m)
/-- The scrambled number. -/
def mixv (x : Int) : Int := Go.bits .xor .u64 (mix1 (mix1 x 2147483648 7640891576956012809) 134217728 13503953896175478587) (mix1 (mix1 x 2147483648 7640891576956012809) 134217728 13503953896175478587 / 1073741824)
theorem mixv_lo (x : Int) : 0 ≤ mixv x := bits_lo _ _ _
theorem mixv_hi (x : Int) : mixv x < 18446744073709551616 := bits_hi _ _ _
theorem div_wrap {x d : Int} (h0 : 0 ≤ x) (h1 : x < 18446744073709551616) (hd : 1 ≤ d) : IntKind.u64.wrap (x.tdiv d) = x / d := by
  rw [Int.tdiv_eq_ediv_of_nonneg h0]
  have h2 : x / d ≤ x := Int.ediv_le_self _ h0
  have h3 : 0 ≤ x / d := Int.ediv_nonneg h0 (by omega)
  exact w64_in h3 (by omega)
/-- One step of scrambling, as the reference tells it. -/
def scr1 (x d m : Int) : Int := IntKind.u64.wrap (Go.bits .xor .u64 x (IntKind.u64.wrap (x.tdiv d)) * m)
theorem scr1_eq {x d m : Int} (h0 : 0 ≤ x) (h1 : x < 18446744073709551616) (hd : 1 ≤ d) : scr1 x d m = mix1 x d m := by
  unfold scr1 mix1; rw [div_wrap h0 h1 hd]
theorem mix1_lo (x d m : Int) : 0 ≤ mix1 x d m := w64_lo _
theorem mix1_hi (x d m : Int) : mix1 x d m < 18446744073709551616 := w64_hi _
/-- What the reference's Scrambled comes to. -/
def scrv (x : Int) : Int := scr1 (scr1 (scr1 x 2147483648 7640891576956012809) 134217728 13503953896175478587) 1073741824 1
theorem scrv_eq {x : Int} (h0 : 0 ≤ x) (h1 : x < 18446744073709551616) : scrv x = mixv x := by
  unfold scrv mixv
  rw [scr1_eq h0 h1 (by omega), scr1_eq (mix1_lo _ _ _) (mix1_hi _ _ _) (by omega)]
  unfold scr1
  rw [div_wrap (mix1_lo _ _ _) (mix1_hi _ _ _) (by omega), Int.mul_one, w64_in (bits_lo _ _ _) (bits_hi _ _ _)]
theorem mixv_walk (x : Int) : Go.bits .xor .u64 (IntKind.u64.wrap (Go.bits .xor .u64 (IntKind.u64.wrap (Go.bits .xor .u64 x (Int.fdiv x 2147483648) * 7640891576956012809)) (Int.fdiv (IntKind.u64.wrap (Go.bits .xor .u64 x (Int.fdiv x 2147483648) * 7640891576956012809)) 134217728) * 13503953896175478587)) (Int.fdiv (IntKind.u64.wrap (Go.bits .xor .u64 (IntKind.u64.wrap (Go.bits .xor .u64 x (Int.fdiv x 2147483648) * 7640891576956012809)) (Int.fdiv (IntKind.u64.wrap (Go.bits .xor .u64 x (Int.fdiv x 2147483648) * 7640891576956012809)) 134217728) * 13503953896175478587)) 1073741824) = mixv x := by
  simp only [mixv, mix1, Int.fdiv_eq_ediv_of_nonneg _ (show (0 : Int) ≤ 2147483648 by omega), Int.fdiv_eq_ediv_of_nonneg _ (show (0 : Int) ≤ 134217728 by omega), Int.fdiv_eq_ediv_of_nonneg _ (show (0 : Int) ≤ 1073741824 by omega)]

/-- The state behind j numbers. -/
def st (s g : Int) (j : Nat) : Int := (s + j * g) % 18446744073709551616
theorem st_lo (s g : Int) (j : Nat) : 0 ≤ st s g j := by unfold st; omega
theorem st_hi (s g : Int) (j : Nat) : st s g j < 18446744073709551616 := by unfold st; omega
theorem st_zero {s : Int} (g : Int) (h0 : 0 ≤ s) (h1 : s < 18446744073709551616) : st s g 0 = s := by unfold st; simp; omega
theorem st_succ (s g : Int) (j : Nat) : IntKind.u64.wrap (st s g j + g) = st s g (j + 1) := by
  rw [w64]; unfold st
  rw [Int.emod_add_emod]
  congr 1
  rw [show ((j + 1 : Nat) : Int) = (j : Int) + 1 by omega, Int.add_mul]; omega
theorem st_at (s g c : Int) (j : Nat) (hc : c % 18446744073709551616 = (j : Int) % 18446744073709551616) : IntKind.u64.wrap (s + IntKind.u64.wrap (IntKind.u64.wrap c * g)) = st s g j := by
  rw [w64, w64, w64]; unfold st
  rw [Int.add_emod_emod_eq]
where
  Int.add_emod_emod_eq : (s + c % 18446744073709551616 * g % 18446744073709551616) % 18446744073709551616 = (s + j * g) % 18446744073709551616 := by
    rw [hc, Int.add_emod, Int.emod_emod_of_dvd _ (Int.dvd_refl _), Int.mul_emod, Int.emod_emod_of_dvd _ (Int.dvd_refl _), ← Int.mul_emod, ← Int.add_emod]
theorem count_mod (j : Nat) : wrap64 (j : Int) % 18446744073709551616 = (j : Int) % 18446744073709551616 := by unfold wrap64; omega
theorem count_succ (j : Nat) : wrap64 (wrap64 (j : Int) + 1) = wrap64 ((j + 1 : Nat) : Int) := by unfold wrap64; omega

/-- An odd number has an inverse modulo every power of two. -/
theorem odd_inv (g : Int) (hg : g % 2 = 1) : ∀ m : Nat, ∃ y : Int, (g * y) % 2 ^ m = 1 % 2 ^ m
  | 0 => ⟨0, by simp [Int.emod_one]⟩
  | m + 1 => by
    obtain ⟨y, hy⟩ := odd_inv g hg m
    have hp : (0 : Int) < 2 ^ m := Int.pow_pos (by omega)
    have hd : (2 ^ m : Int) ∣ g * y - 1 := Int.dvd_of_emod_eq_zero (by rw [Int.sub_emod, hy]; simp)
    obtain ⟨t, ht⟩ := hd
    have hgy : g * y = 2 ^ m * t + 1 := by omega
    rcases Int.emod_two_eq t with h2 | h2
    · refine ⟨y, ?_⟩
      obtain ⟨u, hu⟩ : ∃ u, t = 2 * u := ⟨t / 2, by omega⟩
      rw [hgy, hu, show (2 : Int) ^ m * (2 * u) + 1 = 1 + 2 ^ (m + 1) * u by rw [Int.pow_succ, Int.mul_assoc]; omega, Int.add_mul_emod_self_left]
    · refine ⟨y + 2 ^ m, ?_⟩
      obtain ⟨u, hu⟩ : ∃ u, t + g = 2 * u := ⟨(t + g) / 2, by omega⟩
      rw [Int.mul_add, hgy, Int.mul_comm g, show (2 : Int) ^ m * t + 1 + 2 ^ m * g = 1 + 2 ^ m * (t + g) by rw [Int.mul_add]; omega, hu,
        show (1 : Int) + 2 ^ m * (2 * u) = 1 + 2 ^ (m + 1) * u by rw [Int.pow_succ, Int.mul_assoc], Int.add_mul_emod_self_left]

/-- A stream with an odd step comes to 0, not at once. -/
theorem st_reaches (s g : Int) (hg : g % 2 = 1) : ∃ d : Nat, st s g (d + 1) = 0 := by
  obtain ⟨y, hy⟩ := odd_inv g hg 64
  have hy1 : (g * y) % 18446744073709551616 = 1 := by simpa using hy
  refine ⟨((-s * y) % 18446744073709551616 + 18446744073709551615).toNat, ?_⟩
  unfold st
  have h0 : 0 ≤ (-s * y) % 18446744073709551616 := Int.emod_nonneg _ (by omega)
  rw [show ((((-s * y) % 18446744073709551616 + 18446744073709551615).toNat + 1 : Nat) : Int) = (-s * y) % 18446744073709551616 + 18446744073709551616 by omega]
  rw [Int.add_mul, ← Int.add_assoc, Int.add_mul_emod_self_left, Int.add_emod, Int.mul_emod, Int.emod_emod_of_dvd _ (Int.dvd_refl _), ← Int.mul_emod, ← Int.add_emod]
  rw [show s + -s * y * g = s + (-s) * (g * y) by rw [Int.mul_assoc, Int.mul_comm y g], Int.add_emod, Int.mul_emod, hy1]
  simp
  rw [show s + -s = 0 by omega]; rfl

/-- 2^64 modulo m, as the program reckons it. -/
def restv (m : Int) : Int := Int.tmod (IntKind.u64.wrap (Int.tmod 18446744073709551615 m + 1)) m
/-- The numbers that count, as the program asks. -/
def Acc (m x : Int) : Prop := x ≤ IntKind.u64.wrap (18446744073709551615 - restv m)
instance (m x : Int) : Decidable (Acc m x) := inferInstanceAs (Decidable (x ≤ _))
/-- The numbers that count, as the reference asks. -/
def Acc' (m x : Int) : Prop := IntKind.u64.wrap (IntKind.u64.wrap (x - Int.tmod x m) + IntKind.u64.wrap (m - 1)) ≥ IntKind.u64.wrap (x - Int.tmod x m)
instance (m x : Int) : Decidable (Acc' m x) := inferInstanceAs (Decidable (_ ≤ _))
theorem rest_eq {m : Int} (h0 : 1 ≤ m) (h1 : m < 9223372036854775808) : restv m = (18446744073709551615 % m + 1) % m := by
  have h2 : 0 ≤ (18446744073709551615 : Int) % m := Int.emod_nonneg _ (by omega)
  have h3 : (18446744073709551615 : Int) % m < m := Int.emod_lt_of_pos _ (by omega)
  unfold restv
  rw [Int.tmod_eq_emod_of_nonneg (a := 18446744073709551615) (by omega), w64_in (by omega) (by omega), Int.tmod_eq_emod_of_nonneg (by omega)]
theorem acc_zero (m : Int) : Acc m 0 := w64_lo _
theorem acc_iff {m x : Int} (h0 : 1 ≤ m) (h1 : m < 9223372036854775808) (hx0 : 0 ≤ x) (hx1 : x < 18446744073709551616) : Acc m x ↔ Acc' m x := by
  unfold Acc Acc'
  rw [rest_eq h0 h1, Int.tmod_eq_emod_of_nonneg hx0]
  have e1 := Int.emod_add_mul_ediv x m
  have e2 := Int.emod_add_mul_ediv (18446744073709551615 : Int) m
  have r0 : 0 ≤ x % m := Int.emod_nonneg _ (by omega)
  have r1 : x % m < m := Int.emod_lt_of_pos _ (by omega)
  have q0 : 0 ≤ (18446744073709551615 : Int) % m := Int.emod_nonneg _ (by omega)
  have q1 : (18446744073709551615 : Int) % m < m := Int.emod_lt_of_pos _ (by omega)
  have ha0 : 0 ≤ x / m := Int.ediv_nonneg hx0 (by omega)
  generalize x % m = r at *
  generalize x / m = a at *
  generalize (18446744073709551615 : Int) % m = R at *
  generalize (18446744073709551615 : Int) / m = b at *
  have hfirst : x - r = m * a := by omega
  rw [hfirst]
  have hma : 0 ≤ m * a := Int.mul_nonneg (by omega) ha0
  have hmx : m * a ≤ x := by omega
  rw [w64_in (x := m * a) hma (by omega), w64_in (x := m - 1) (by omega) (by omega)]
  have key : IntKind.u64.wrap (m * a + (m - 1)) ≥ m * a ↔ m * a + m ≤ 18446744073709551616 := by
    rw [w64]
    generalize m * a = t at *
    omega
  rw [key]
  have hle : a ≤ b := by
    apply Int.not_lt.1
    intro hlt
    have : m * (b + 1) ≤ m * a := Int.mul_le_mul_of_nonneg_left (by omega) (by omega)
    rw [Int.mul_add] at this
    omega
  by_cases hR : R + 1 = m
  · rw [hR, Int.emod_self, w64_in (by omega) (by omega)]
    have : m * a ≤ m * b := Int.mul_le_mul_of_nonneg_left hle (by omega)
    constructor <;> intro _ <;> omega
  · rw [Int.emod_eq_of_lt (a := R + 1) (by omega) (by omega), w64_in (by omega) (by omega)]
    constructor
    · intro h
      have hlt : a < b := by
        apply Int.not_le.1
        intro hge
        have : m * b ≤ m * a := Int.mul_le_mul_of_nonneg_left hge (by omega)
        omega
      have : m * (a + 1) ≤ m * b := Int.mul_le_mul_of_nonneg_left (by omega) (by omega)
      rw [Int.mul_add] at this
      omega
    · intro h
      have hlt : a < b := by
        apply Int.not_le.1
        intro hge
        have : m * b ≤ m * a := Int.mul_le_mul_of_nonneg_left hge (by omega)
        omega
      have : m * (a + 1) ≤ m * b := Int.mul_le_mul_of_nonneg_left (by omega) (by omega)
      rw [Int.mul_add] at this
      omega

/-- How many numbers were used, as the reference counts. -/
def cnt (j : Nat) : Int := IntKind.i64.wrap ((j : Int) + 1)
theorem i64w (n : Int) : IntKind.i64.wrap n = (n + 9223372036854775808) % 18446744073709551616 - 9223372036854775808 := IntKind.wrap_i64 n
theorem cnt_mod (j : Nat) : cnt j % 18446744073709551616 = ((j + 1 : Nat) : Int) % 18446744073709551616 := by unfold cnt; rw [i64w]; omega
theorem cnt_succ (j : Nat) : IntKind.i64.wrap (cnt j + 1) = cnt (j + 1) := by unfold cnt; rw [i64w, i64w, i64w]; omega
/-- The first number that counts comes. -/
theorem acc_first (s g m : Int) (hg : g % 2 = 1) : ∃ j, Acc m (mixv (st s g (j + 1))) ∧ ∀ i, i < j → ¬ Acc m (mixv (st s g (i + 1))) := by
  obtain ⟨d, hd⟩ := st_reaches s g hg
  have h0 : Acc m (mixv (st s g (d + 1))) := by
    rw [hd, show mixv 0 = 0 by decide +kernel]; exact acc_zero m
  have key : ∀ d, Acc m (mixv (st s g (d + 1))) → ∃ j, Acc m (mixv (st s g (j + 1))) ∧ ∀ i, i < j → ¬ Acc m (mixv (st s g (i + 1))) := by
    intro d
    induction d using Nat.strongRecOn with
    | _ d ih =>
      intro h
      by_cases hx : ∃ i, i < d ∧ Acc m (mixv (st s g (i + 1)))
      · obtain ⟨i, hi, ha⟩ := hx; exact ih i hi ha
      · exact ⟨d, h, fun i hi ha => hx ⟨i, hi, ha⟩⟩
  exact key d h0

/-! ### Odd numbers, streams of lists -/
theorem or_one (a : Nat) : a ||| 1 = a / 2 * 2 + 1 := by
  apply Nat.eq_of_testBit_eq
  intro i
  cases i with
  | zero => simp [Nat.testBit_zero]
  | succ i => rw [Nat.testBit_succ, Nat.testBit_succ, Nat.or_div_two, show (a/2*2+1)/2 = a/2 by omega]; simp
/-- The odd number that a number and its neighbour share. -/
def oddv (x : Int) : Int := Go.bits .or .u64 x 1
theorem oddv_eq {x : Int} (h0 : 0 ≤ x) (h1 : x < 18446744073709551616) : IntKind.u64.wrap (IntKind.u64.wrap (IntKind.u64.wrap (Int.tdiv x 2) * 2) + 1) = oddv x := by
  unfold oddv
  obtain ⟨a, rfl⟩ := Int.eq_ofNat_of_zero_le h0
  have e := u64_or_nat a 1 (by omega) (by omega)
  rw [or_one] at e
  rw [show (1 : Int) = ((1 : Nat) : Int) from rfl, e, show ((1 : Nat) : Int) = 1 from rfl]
  rw [Int.tdiv_eq_ediv_of_nonneg h0, w64, w64, w64]
  omega
def ofStep (s x : Int) : Int := Go.bits .xor .u64 (mixv (IntKind.u64.wrap (s + 11400714819323198485))) (IntKind.u64.wrap x)
def ofAt (l : List Int) (k : Nat) : Int := (l.take k).foldl ofStep (IntKind.u64.wrap (l.length : Int))
theorem ofAt_zero (l : List Int) : ofAt l 0 = IntKind.u64.wrap (l.length : Int) := rfl
theorem ofAt_succ (l : List Int) (k : Nat) (h : k < l.length) : Go.bits .xor .u64 (mixv (IntKind.u64.wrap (ofAt l k + 11400714819323198485))) (IntKind.u64.wrap (l.getD k 0)) = ofAt l (k + 1) := (Sx.foldl_take ofStep _ l 0 k h).symm
theorem ofAt_succ' (l : List Int) (k : Nat) (h : k < l.length) : Go.bits .xor .u64 (scrv (IntKind.u64.wrap (ofAt l k + 11400714819323198485))) (IntKind.u64.wrap (l.getD k 0)) = ofAt l (k + 1) := by
  rw [scrv_eq (w64_lo _) (w64_hi _)]; exact ofAt_succ l k h
def ofS (l : List Int) : Int := mixv (IntKind.u64.wrap (ofAt l l.length + 11400714819323198485))
def ofG (l : List Int) : Int := oddv (mixv (IntKind.u64.wrap (ofS l + 11400714819323198485)))
end Go.Proofs.Ytchadeflopbchaa.Rnd
