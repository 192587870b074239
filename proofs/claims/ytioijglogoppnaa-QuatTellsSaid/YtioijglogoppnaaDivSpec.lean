/- The plain law of long division by two digits, and of rounded numbers through a number. No condition. -/
import Derived.Test.YtioijglogoppnaaNatSpec
import Derived.Test.YtioijglogoppnaaTrigSpec
import Derived.Test.YtioijglogoppnaaVecSpec
namespace Go.Proofs.Ytioijglogoppnaa.Divs
open Go Go.Proofs.Ytioijglogoppnaa.Rnd Go.Proofs.Ytioijglogoppnaa.Nats Go.Proofs.Ytioijglogoppnaa.Trig Go.Proofs.Ytioijglogoppnaa.Vecs
set_option linter.unusedVariables false
/-! ### The number of bits -/
def len8 : List Int := [0, 1, 2, 2, 3, 3, 3, 3, 4, 4, 4, 4, 4, 4, 4, 4, 5, 5, 5, 5, 5, 5, 5, 5, 5, 5, 5, 5, 5, 5, 5, 5] ++ List.replicate 32 6 ++ List.replicate 64 7 ++ List.replicate 128 8
theorem len8_ok : ∀ k : Nat, k < 256 → ∀ m : Nat, m < 9 → (k < 2 ^ m) → (2 ^ m ≤ 2 * k ∨ m = 0) → len8.getD k 0 = (m : Int) := by decide +kernel
/-- n is the number of bits of x. -/
def IsLen (x n : Nat) : Prop := x < 2 ^ n ∧ 2 ^ n ≤ 2 * x
theorem isLen_exists : ∀ {x : Nat}, 0 < x → ∃ n, IsLen x n := by
  intro x
  induction x using Nat.strongRecOn with
  | _ x ih =>
    intro h
    by_cases h1 : x = 1
    · subst h1; exact ⟨1, by decide, by decide⟩
    · obtain ⟨n, a, b⟩ := ih (x / 2) (by omega) (by omega)
      refine ⟨n + 1, ?_, ?_⟩ <;> rw [Nat.pow_succ] <;> omega
theorem IsLen.shift {x n : Nat} (h : IsLen x n) (k : Nat) (hk : k ≤ n) (hx : 2 ^ k ≤ x) : IsLen (x / 2 ^ k) (n - k) := by
  obtain ⟨a, b⟩ := h
  have hp : 0 < 2 ^ k := Nat.pow_pos (by decide)
  have e : 2 ^ n = 2 ^ (n - k) * 2 ^ k := by rw [← Nat.pow_add]; congr 1; omega
  rw [e] at a b
  refine ⟨(Nat.div_lt_iff_lt_mul hp).2 a, ?_⟩
  by_cases hz : n - k = 0
  · have : 1 ≤ x / 2 ^ k := (Nat.le_div_iff_mul_le hp).2 (by omega)
    rw [hz]; simp; omega
  · obtain ⟨m, hm⟩ : ∃ m, n - k = m + 1 := ⟨n - k - 1, by omega⟩
    rw [hm, Nat.pow_succ] at b ⊢
    have : 2 ^ m ≤ x / 2 ^ k := (Nat.le_div_iff_mul_le hp).2 (by rw [Nat.mul_right_comm] at b; omega)
    omega
theorem IsLen.lo {x n k : Nat} (h : IsLen x n) (hx : 2 ^ k ≤ x) : k < n := by
  have := h.1
  exact (Nat.pow_lt_pow_iff_right (a := 2) (by decide)).1 (by omega)
theorem IsLen.hi {x n k : Nat} (h : IsLen x n) (hx : x < 2 ^ k) : n ≤ k := by
  have := h.2
  have : 2 ^ n < 2 ^ (k + 1) := by rw [Nat.pow_succ]; omega
  have := (Nat.pow_lt_pow_iff_right (a := 2) (by decide)).1 this
  omega
theorem IsLen.tab {x n : Nat} (h : IsLen x n) (hx : x < 256) : len8.getD x 0 = (n : Int) := len8_ok x hx n (by have := h.hi (k := 8) hx; omega) h.1 (.inl h.2)
/-! ### One digit of a quotient -/
structure Try (U u1 y1 y0 y qh rh : Int) : Prop where
  eq : qh * y1 + rh = U
  ge : (U * 4294967296 + u1) / y ≤ qh
  lo : 0 ≤ rh
theorem dig_parts {U u1 y1 y0 y qh rh : Int} (h : qh * y1 + rh = U) (hy : y = y1 * 4294967296 + y0) : qh * y = U * 4294967296 - rh * 4294967296 + qh * y0 := by
  have e : qh * y = qh * y1 * 4294967296 + qh * y0 := by rw [hy, Int.mul_add, Int.mul_assoc]
  rw [e]; omega
theorem dig_range {U u1 y : Int} (hU0 : 0 ≤ U) (hU : U < y) (hu0 : 0 ≤ u1) (hu1 : u1 < 4294967296) : 0 ≤ (U * 4294967296 + u1) / y ∧ (U * 4294967296 + u1) / y < 4294967296 ∧ 0 ≤ U * 4294967296 + u1 - (U * 4294967296 + u1) / y * y ∧ U * 4294967296 + u1 - (U * 4294967296 + u1) / y * y < y := by
  have hy : 0 < y := by omega
  have h1 := Int.mul_ediv_add_emod (U * 4294967296 + u1) y
  have h2 := Int.emod_nonneg (U * 4294967296 + u1) (show y ≠ 0 by omega)
  have h3 := Int.emod_lt_of_pos (U * 4294967296 + u1) hy
  rw [Int.mul_comm] at h1
  refine ⟨Int.ediv_nonneg (by omega) (by omega), Int.ediv_lt_of_lt_mul hy (by omega), by omega, by omega⟩
theorem dig_init {U u1 y1 y0 y : Int} (hy : y = y1 * 4294967296 + y0) (hl : 2147483648 ≤ y1) (hy0 : 0 ≤ y0) (hy1 : y0 < 4294967296) (hU0 : 0 ≤ U) (hU : U < y) (hu0 : 0 ≤ u1) (hu1 : u1 < 4294967296) : Try U u1 y1 y0 y (U / y1) (U % y1) ∧ U / y1 ≤ 4294967297 ∧ 0 ≤ U / y1 ∧ U % y1 < y1 := by
  have h1 := Int.mul_ediv_add_emod U y1
  have h2 := Int.emod_nonneg U (show y1 ≠ 0 by omega)
  have h3 := Int.emod_lt_of_pos U (show 0 < y1 by omega)
  rw [Int.mul_comm] at h1
  have h4 : 0 ≤ U / y1 := Int.ediv_nonneg hU0 (by omega)
  refine ⟨⟨h1, ?_, h2⟩, ?_, h4, h3⟩
  · have h5 := dig_parts (u1 := u1) h1 hy
    have h6 : 0 ≤ U / y1 * y0 := Int.mul_nonneg h4 hy0
    have : (U * 4294967296 + u1) / y < U / y1 + 1 := by
      refine Int.ediv_lt_of_lt_mul (by omega) ?_
      rw [Int.add_mul]
      omega
    omega
  · have : U / y1 < 4294967298 := by
      refine Int.ediv_lt_of_lt_mul (by omega) ?_
      omega
    omega
theorem Try.step {U u1 y1 y0 y qh rh : Int} (h : Try U u1 y1 y0 y qh rh) (hy : y = y1 * 4294967296 + y0) (hpos : 0 < y) (hq : (U * 4294967296 + u1) / y < 4294967296) (hy1 : 0 ≤ y1) (hb : 4294967296 ≤ qh ∨ 4294967296 * rh + u1 < qh * y0) : Try U u1 y1 y0 y (qh - 1) (rh + y1) := by
  refine ⟨?_, ?_, by have := h.lo; omega⟩
  · have := h.eq; rw [Int.sub_mul]; omega
  · have h5 := dig_parts (u1 := u1) h.eq hy
    rcases hb with hb | hb
    · omega
    · have : (U * 4294967296 + u1) / y < qh := Int.ediv_lt_of_lt_mul hpos (by omega)
      omega
theorem Try.done {U u1 y1 y0 y qh rh : Int} (h : Try U u1 y1 y0 y qh rh) (hy : y = y1 * 4294967296 + y0) (hpos : 0 < y) (hb : qh * y0 ≤ 4294967296 * rh + u1) : qh = (U * 4294967296 + u1) / y := by
  have h5 := dig_parts (u1 := u1) h.eq hy
  have := h.ge
  have : qh ≤ (U * 4294967296 + u1) / y := (Int.le_ediv_iff_mul_le hpos).2 (by omega)
  omega
theorem Try.brk {U u1 y1 y0 y qh rh : Int} (h : Try U u1 y1 y0 y qh rh) (hy : y = y1 * 4294967296 + y0) (hpos : 0 < y) (hr : 4294967296 ≤ rh) (hq : qh ≤ 4294967296) (hy0 : 0 ≤ y0) (hy1 : y0 < 4294967296) (hu0 : 0 ≤ u1) : qh = (U * 4294967296 + u1) / y := by
  refine h.done hy hpos ?_
  have : qh * y0 ≤ 4294967296 * y0 := Int.mul_le_mul_of_nonneg_right hq hy0
  omega
/-! ### The whole division -/
theorem shifted {hi lo d : Int} {s : Nat} (hs : s ≤ 64) (hhi : 0 ≤ hi) (hlo0 : 0 ≤ lo) (hlo : lo < 18446744073709551616) : (hi * 18446744073709551616 + lo) * 2 ^ s = (hi * 2 ^ s + lo / 2 ^ (64 - s)) * 18446744073709551616 + lo * 2 ^ s % 18446744073709551616 ∧ 0 ≤ lo / 2 ^ (64 - s) ∧ lo / 2 ^ (64 - s) < 2 ^ s := by
  have e : (18446744073709551616 : Int) = 2 ^ (64 - s) * 2 ^ s := by rw [← Int.pow_add, show 64 - s + s = 64 by omega]; rfl
  have hp : (0 : Int) < 2 ^ s := Int.pow_pos (by decide)
  have hp2 : (0 : Int) < 2 ^ (64 - s) := Int.pow_pos (by decide)
  have e2 : lo * 2 ^ s / 18446744073709551616 = lo / 2 ^ (64 - s) := by
    rw [e, Int.mul_comm (2 ^ (64 - s)), Int.mul_comm lo, Int.mul_ediv_mul_of_pos _ _ hp]
  have h1 := Int.mul_ediv_add_emod (lo * 2 ^ s) 18446744073709551616
  rw [e2] at h1
  refine ⟨?_, Int.ediv_nonneg hlo0 (by omega), ?_⟩
  · rw [Int.add_mul, Int.add_mul, Int.mul_right_comm]
    omega
  · refine Int.ediv_lt_of_lt_mul hp2 ?_
    rw [Int.mul_comm, ← e]; exact hlo
theorem div_whole {N d y Q1 R1 Q0 R0 U u1 u0 : Int} {s : Nat} (hd : 0 < d) (hy : y = d * 2 ^ s) (hN : N * 2 ^ s = (U * 4294967296 + u1) * 4294967296 + u0) (h1 : U * 4294967296 + u1 = Q1 * y + R1) (h0 : R1 * 4294967296 + u0 = Q0 * y + R0) (hr0 : 0 ≤ R0) (hr1 : R0 < y) : Q1 * 4294967296 + Q0 = N / d ∧ R0 / 2 ^ s = N % d := by
  have hp : (0 : Int) < 2 ^ s := Int.pow_pos (by decide)
  have e : N * 2 ^ s = (Q1 * 4294967296 + Q0) * y + R0 := by
    rw [hN, h1, Int.add_mul (Q1 * 4294967296), Int.mul_right_comm]; omega
  have hm : ∃ r, R0 = r * 2 ^ s := by
    refine ⟨N - (Q1 * 4294967296 + Q0) * d, ?_⟩
    rw [Int.sub_mul, e, hy, ← Int.mul_assoc]; omega
  obtain ⟨r, rfl⟩ := hm
  have hr0' : 0 ≤ r := by
    apply Int.not_lt.1; intro h
    have := Int.mul_lt_mul_of_pos_right h hp
    omega
  have hr1' : r < d := by
    rw [hy] at hr1
    exact Int.lt_of_mul_lt_mul_right hr1 (Int.le_of_lt hp)
  have e3 : N = (Q1 * 4294967296 + Q0) * d + r := by
    rw [hy, ← Int.mul_assoc, ← Int.add_mul] at e
    exact Int.eq_of_mul_eq_mul_right (by omega) e
  rw [Int.mul_ediv_cancel _ (by omega)]
  have := (Int.ediv_emod_unique (a := N) (r := r) (q := Q1 * 4294967296 + Q0) hd).2 ⟨by rw [Int.mul_comm d]; omega, hr0', hr1'⟩
  exact ⟨this.1.symm, this.2.symm⟩
/-! ### Rounded numbers through a number -/
structure Thru (a b c : Int) (A B D p q r : Nat) (Q1 Q2 v : Int) : Prop where
  hA : a.natAbs = A
  hB : b.natAbs = B
  hD : c.natAbs = D
  hp : A * B = p
  hD0 : 0 < D
  hq : p / D = q
  hr : p % D = r
  hAM : A ≤ 1099511627776
  hBM : B ≤ 1099511627776
  hDM : D ≤ 1099511627776
  q1 : (D ≤ 2 * r → Q1 = (q : Int) + 1) ∧ (2 * r < D → Q1 = (q : Int))
  q2 : (D < 2 * r → Q2 = (q : Int) + 1) ∧ (2 * r ≤ D → Q2 = (q : Int))
  hneg : (a < 0 ↔ (b < 0 ↔ c < 0)) → v = -(min Q2 1099511627776)
  hpos : ¬ (a < 0 ↔ (b < 0 ↔ c < 0)) → v = min Q1 1099511627776
def thru0 (a b c : Int) : Int :=
  if c = 0 then 0 else if (a < 0 ↔ (b < 0 ↔ c < 0)) then -(min (((2 * (a.natAbs * b.natAbs) + c.natAbs - 1) / (2 * c.natAbs) : Nat) : Int) 1099511627776) else min (((2 * (a.natAbs * b.natAbs) + c.natAbs) / (2 * c.natAbs) : Nat) : Int) 1099511627776
def thruV (a b c : Int) : Int := thru0 (clV a) (clV b) (clV c)
theorem sign3 {a b c : Int} {g1 g2 g3 : Bool} (h1 : decide (a < 0) = g1) (h2 : (if b < 0 then !g1 else g1) = g2) (h3 : (if c < 0 then !g2 else g2) = g3) : g3 = true ↔ (a < 0 ↔ (b < 0 ↔ c < 0)) := by
  subst h1 h2 h3
  by_cases ha : a < 0 <;> by_cases hb : b < 0 <;> by_cases hc : c < 0 <;> simp [ha, hb, hc]
theorem round1 {p D : Nat} (hD : 0 < D) : (2 * p + D) / (2 * D) = if D ≤ 2 * (p % D) then p / D + 1 else p / D := by
  have h1 := Nat.div_add_mod p D
  have h2 := Nat.mod_lt p hD
  generalize p / D = q at *
  generalize p % D = r at *
  have e : 2 * p + D = (2 * r + D) + (2 * D) * q := by rw [← h1, Nat.mul_add, Nat.mul_assoc]; omega
  rw [e, Nat.add_mul_div_left _ _ (by omega)]
  split
  · have : (2 * r + D) / (2 * D) = 1 := by
      rw [show 2 * r + D = (2 * r - D) + (2 * D) * 1 by omega, Nat.add_mul_div_left _ _ (by omega), Nat.div_eq_of_lt (by omega)]
    omega
  · rw [Nat.div_eq_of_lt (by omega)]; omega
theorem round2 {p D : Nat} (hD : 0 < D) : (2 * p + D - 1) / (2 * D) = if D < 2 * (p % D) then p / D + 1 else p / D := by
  have h1 := Nat.div_add_mod p D
  have h2 := Nat.mod_lt p hD
  generalize p / D = q at *
  generalize p % D = r at *
  have e : 2 * p + D - 1 = (2 * r + D - 1) + (2 * D) * q := by rw [← h1, Nat.mul_add, Nat.mul_assoc]; omega
  rw [e, Nat.add_mul_div_left _ _ (by omega)]
  split
  · have : (2 * r + D - 1) / (2 * D) = 1 := by
      rw [show 2 * r + D - 1 = (2 * r - D - 1) + (2 * D) * 1 by omega, Nat.add_mul_div_left _ _ (by omega), Nat.div_eq_of_lt (by omega)]
    omega
  · rw [Nat.div_eq_of_lt (by omega)]; omega
theorem clV_range (a : Int) : (clV a).natAbs ≤ 1099511627776 := by unfold clV; omega
theorem thru_ok {a b c : Int} (hc : clV c ≠ 0) : Thru (clV a) (clV b) (clV c) (clV a).natAbs (clV b).natAbs (clV c).natAbs ((clV a).natAbs * (clV b).natAbs) ((clV a).natAbs * (clV b).natAbs / (clV c).natAbs) ((clV a).natAbs * (clV b).natAbs % (clV c).natAbs) (((2 * ((clV a).natAbs * (clV b).natAbs) + (clV c).natAbs) / (2 * (clV c).natAbs) : Nat) : Int) (((2 * ((clV a).natAbs * (clV b).natAbs) + (clV c).natAbs - 1) / (2 * (clV c).natAbs) : Nat) : Int) (thruV a b c) := by
  have hD : 0 < (clV c).natAbs := by omega
  have r1 := round1 (p := (clV a).natAbs * (clV b).natAbs) hD
  have r2 := round2 (p := (clV a).natAbs * (clV b).natAbs) hD
  refine ⟨rfl, rfl, rfl, rfl, hD, rfl, rfl, clV_range a, clV_range b, clV_range c, ⟨fun h => ?_, fun h => ?_⟩, ⟨fun h => ?_, fun h => ?_⟩, fun h => ?_, fun h => ?_⟩
  · rw [r1, if_pos h]; simp
  · rw [r1, if_neg (by omega)]
  · rw [r2, if_pos h]; simp
  · rw [r2, if_neg (by omega)]
  · unfold thruV thru0; rw [if_neg hc, if_pos h]
  · unfold thruV thru0; rw [if_neg hc, if_neg h]
theorem most_thru1 {p D : Nat} (hD : 0 < D) : mostv 1099511627776 (fun n => decide ((2 * n.toNat - 1) * D ≤ 2 * p)) = min (((2 * p + D) / (2 * D) : Nat) : Int) 1099511627776 := by
  refine mostv_eq (by have := Int.natCast_nonneg ((2 * p + D) / (2 * D)); omega) (Int.min_le_right ..) (by have := Int.min_le_right (((2 * p + D) / (2 * D) : Nat) : Int) 1099511627776; omega) fun n hn0 hn1 => ?_
  obtain ⟨k, rfl⟩ := Int.eq_ofNat_of_zero_le (Int.le_of_lt hn0)
  simp only [decide_eq_true_eq, Int.toNat_natCast]
  have h1 : k ≤ (2 * p + D) / (2 * D) ↔ k * (2 * D) ≤ 2 * p + D := Nat.le_div_iff_mul_le (by omega)
  generalize (2 * p + D) / (2 * D) = m at *
  have h2 : k * (2 * D) = (2 * k - 1) * D + D := by
    rw [← Nat.mul_assoc, Nat.mul_comm k 2, Nat.sub_mul]
    have : D ≤ 2 * k * D := Nat.le_mul_of_pos_left D (by omega)
    omega
  constructor
  · intro h; have := h1.2 (by omega); omega
  · intro h; have := h1.1 (by omega); omega
theorem most_thru2 {p D : Nat} (hD : 0 < D) : mostv 1099511627776 (fun n => !decide (2 * p ≤ (2 * n.toNat - 1) * D)) = min (((2 * p + D - 1) / (2 * D) : Nat) : Int) 1099511627776 := by
  refine mostv_eq (by have := Int.natCast_nonneg ((2 * p + D - 1) / (2 * D)); omega) (Int.min_le_right ..) (by have := Int.min_le_right (((2 * p + D - 1) / (2 * D) : Nat) : Int) 1099511627776; omega) fun n hn0 hn1 => ?_
  obtain ⟨k, rfl⟩ := Int.eq_ofNat_of_zero_le (Int.le_of_lt hn0)
  simp only [Bool.not_eq_true', decide_eq_false_iff_not, Int.toNat_natCast]
  have h1 : k ≤ (2 * p + D - 1) / (2 * D) ↔ k * (2 * D) ≤ 2 * p + D - 1 := Nat.le_div_iff_mul_le (by omega)
  generalize (2 * p + D - 1) / (2 * D) = m at *
  have h2 : k * (2 * D) = (2 * k - 1) * D + D := by
    rw [← Nat.mul_assoc, Nat.mul_comm k 2, Nat.sub_mul]
    have : D ≤ 2 * k * D := Nat.le_mul_of_pos_left D (by omega)
    omega
  constructor
  · intro h; have := h1.2 (by omega); omega
  · intro h; have := h1.1 (by omega); omega
def addV (a b : Int) : Int := clV (clV a + clV b)
def subV (a b : Int) : Int := clV (clV a - clV b)
def mulV (a b : Int) : Int := thruV a b 65536
theorem Thru.m1 {a b c : Int} {A B D p q r : Nat} {Q1 Q2 v : Int} (h : Thru a b c A B D p q r Q1 Q2 v) : mostv 1099511627776 (fun n => decide ((2 * n.toNat - 1) * D ≤ 2 * (A * B))) = min Q1 1099511627776 := by
  have h1 := h.q1
  rw [most_thru1 h.hD0, round1 h.hD0, h.hp, h.hr, h.hq]
  clear h
  split <;> omega
theorem Thru.m2 {a b c : Int} {A B D p q r : Nat} {Q1 Q2 v : Int} (h : Thru a b c A B D p q r Q1 Q2 v) : mostv 1099511627776 (fun n => !decide (2 * (A * B) ≤ (2 * n.toNat - 1) * D)) = min Q2 1099511627776 := by
  have h1 := h.q2
  rw [most_thru2 h.hD0, round2 h.hD0, h.hp, h.hr, h.hq]
  clear h
  split <;> omega
end Go.Proofs.Ytioijglogoppnaa.Divs
