/- Border, in plain Lean: From and To by what the bits stand for. No condition. -/
import Derived.Test.YtchadeflopbchaaPuFloat2
import Derived.Test.YtchadeflopbchaaBitSpec
import Derived.Test.YtchadeflopbchaaFnB
namespace Go.Proofs.Ytchadeflopbchaa.B
open Go Go.RowKit Go.Proofs.Ytchadeflopbchaa.Sx
set_option linter.unusedVariables false
set_option linter.unusedSimpArgs false
/-- What From returns, by exponent and fraction. -/
def numV (s : Bool) (M : Nat) (E : Nat) : Int × Int :=
  if 1047 < E ∨ E = 1047 ∧ 4503599627370496 < M then (0, 2)
  else if M = 0 then (if s = true then (0, 3) else (0, 0))
  else if M % 2 ^ (1059 - E) = 0 then (if s = true then -((M / 2 ^ (1059 - E) : Nat) : Int) else ((M / 2 ^ (1059 - E) : Nat) : Int), 0) else (0, 3)
def fromV (x : Nat) : Int × Int :=
  if x / 4503599627370496 % 2048 = 2047 then (0, 3)
  else numV (decide (9223372036854775808 ≤ x)) (if x / 4503599627370496 % 2048 = 0 then x % 4503599627370496 else 4503599627370496 + x % 4503599627370496) (max (x / 4503599627370496 % 2048) 1)
theorem and_2047 {u : Nat} (h : u < 18446744073709551616) : Go.bits .and .u64 (u : Int) 2047 = ((u % 2048 : Nat) : Int) := by
  rw [show (2047 : Int) = ((2047 : Nat) : Int) from rfl, Go.u64_and_nat u 2047 h (by decide)]
  congr 1
  exact Nat.and_two_pow_sub_one_eq_mod u 11
theorem and_frac {u : Nat} (h : u < 18446744073709551616) : Go.bits .and .u64 (u : Int) 4503599627370495 = ((u % 4503599627370496 : Nat) : Int) := by
  rw [show (4503599627370495 : Int) = ((4503599627370495 : Nat) : Int) from rfl, Go.u64_and_nat u 4503599627370495 h (by decide)]
  congr 1
  exact Nat.and_two_pow_sub_one_eq_mod u 52
theorem abs_bits {x : Nat} (h : x < 18446744073709551616) : math_Abs x = some (x % 9223372036854775808) := by
  unfold math_Abs
  rw [Go.u64_andNot (x : Int) 9223372036854775808 (by omega) (by omega) (by omega) (by omega), Int.toNat_natCast, Int.toNat_natCast]
  congr 1
  exact Nat.and_two_pow_sub_one_eq_mod x 63
theorem abs_word (s : Bool) {M : Nat} {L : Int} (h : Nf M L) : wordOf s M L % 9223372036854775808 = wordOf false M L := by
  obtain ⟨h1, h2, h3, h4⟩ := h
  unfold wordOf
  cases s
  · simp only [Bool.false_eq_true, if_false]; omega
  · simp only [if_true, Bool.false_eq_true, if_false]; omega
theorem word_lt (s : Bool) {M : Nat} {L : Int} (h : Nf M L) : wordOf s M L < 18446744073709551616 := by
  obtain ⟨h1, h2, h3, h4⟩ := h
  unfold wordOf
  cases s
  · simp only [Bool.false_eq_true, if_false]; omega
  · simp only [if_true]; omega
theorem read_abs_inf {x : Nat} {s : Bool} (h : Ieee.double.read x = .infinity s) : Ieee.double.read (x % 9223372036854775808) = .infinity false := by
  unfold Ieee.Format.read at h ⊢
  simp only [dbl_least, dbl_binade, dbl_inf, dbl_sign] at h ⊢
  rw [Nat.mod_mod, show (x % 9223372036854775808 / 9223372036854775808 % 2 == 1) = false by rw [Nat.div_eq_of_lt (Nat.mod_lt _ (by omega))]; rfl]
  generalize x % 9223372036854775808 = r at h ⊢
  split at h
  · cases h
  · rename_i h1
    split at h
    · cases h
    · rename_i h2
      split at h
      · rename_i h3; rw [if_neg h1, if_neg h2, if_pos h3]
      · cases h
theorem is_inf {x : Nat} (hx : x < 18446744073709551616) : math_IsInf x 0 = some (fgtr (x % 9223372036854775808) 9218868437227405311) := by
  unfold math_IsInf math_IsInf_j1
  rw [cnd_beq, if_pos rfl, abs_bits hx]; rfl
theorem from_eq {b : Int} (h : okk .u64 b) : border_From b = some (fromV b.toNat) := by
  have h0 : 0 ≤ b := h.1
  have h1 : b < 18446744073709551616 := h.2
  obtain ⟨x, rfl⟩ := Int.eq_ofNat_of_zero_le h0
  have hx : x < 18446744073709551616 := by omega
  unfold border_From math_IsNaN
  simp only [Option.bind_some, Int.toNat_natCast]
  unfold fromV
  rcases read_cases hx with ⟨s, f, hr, he⟩ | ⟨s, hr, he⟩ | ⟨s, M, L, rfl, hn, he, hs, hL, hM⟩
  · have : fneq x x = true := by
      unfold fneq; rw [f64_order, hr]; rfl
    rw [cnd_pos this, if_pos he]
  · have hq : fneq x x = false := by
      unfold fneq; rw [f64_order, hr]; unfold Ieee.Datum.order; simp
    have hg : fgtr (x % 9223372036854775808) 9218868437227405311 = true := by
      unfold fgtr
      rw [f64_order, read_abs_inf hr, ← word_max, read_word false nf_max]
      rfl
    rw [cnd_neg hq, is_inf hx, Option.bind_some, cnd_pos hg, if_pos he]
  · rw [cnd_neg (not_nan s hn), is_inf hx, Option.bind_some, abs_word s hn, cnd_neg (not_inf false hn).1, abs_bits hx, Option.bind_some, abs_word s hn, large_iff hn, cnd_dec, if_neg he, ← hM, ← hL]
    have hsd : decide (9223372036854775808 ≤ wordOf s M L) = s := by
      rw [Bool.eq_iff_iff, decide_eq_true_iff]; exact hs.symm
    rw [hsd]
    unfold numV
    have h3 := hn.lo
    by_cases hbig : -28 < L ∨ L = -28 ∧ 4503599627370496 < M
    · rw [if_pos hbig, if_pos (by omega)]
    · rw [if_neg hbig, if_neg (by omega)]
      by_cases hz : M = 0
      · rw [if_pos hz]
        subst hz
        have hL4 : L = -1074 := by rcases hn.norm with h | h <;> omega
        subst hL4
        cases s
        · rw [show wordOf false 0 (-1074) = 0 from rfl, if_neg (by simp)]
          obtain ⟨f1, f2, f3, f4⟩ := from_zero
          rw [cnd_beq, if_neg (by decide), f1, Option.bind_some]
          unfold math_Trunc
          rw [f2]
          simp only [Option.bind_some]
          rw [cnd_neg f3, f4]; rfl
        · rw [show wordOf true 0 (-1074) = 9223372036854775808 from rfl, if_pos rfl, cnd_beq, if_pos (show ((9223372036854775808 : Nat) : Int) = 9223372036854775808 from rfl)]
      · rw [if_neg hz]
        have hne : ¬ ((wordOf s M L : Nat) : Int) = 9223372036854775808 := by
          intro e
          have e2 : wordOf s M L = 9223372036854775808 := by omega
          unfold wordOf at e2
          have := hn.lt
          have := hn.hi
          cases s
          · simp only [Bool.false_eq_true, if_false] at e2; omega
          · simp only [if_true] at e2; omega
        obtain ⟨y, z, f1, f2, f3, f4⟩ := from_core s hn (by omega) (by omega)
        have et : (-(L + 16)).toNat = 1059 - (L + 1075).toNat := by omega
        rw [et] at f3 f4
        rw [cnd_beq, if_neg hne, f1, Option.bind_some]
        unfold math_Trunc
        rw [f2]
        simp only [Option.bind_some]
        rw [f3, cnd_not, cnd_dec]
        by_cases hd : M % 2 ^ (1059 - (L + 1075).toNat) = 0
        · rw [if_pos hd, if_pos hd, f4]; rfl
        · rw [if_neg hd, if_neg hd]
theorem loop5 : ∀ (t E m : Nat), E + t = 1059 → m < 9007199254740992 → loop (σ := Int × Int) (ρ := ((Int × Int) ⊕ Int)) (fun s_ => tourref1_FromBits_l5 s_.1 s_.2) ((E : Int), (m : Int)) = some (if m % 2 ^ t = 0 then .inr ((m / 2 ^ t : Nat) : Int) else .inl (0, 3)) := by
  intro t
  induction t with
  | zero =>
    intro E m hE hm
    rw [loop_inr (r := .inr (m : Int))]
    · rw [Nat.pow_zero, Nat.mod_one, if_pos rfl, Nat.div_one]
    · show tourref1_FromBits_l5 (E : Int) (m : Int) = _
      unfold tourref1_FromBits_l5
      rw [cnd_dec, if_neg (by omega)]
  | succ t ih =>
    intro E m hE hm
    have hp := Nat.two_pow_pos t
    have hstep : tourref1_FromBits_l5 (E : Int) (m : Int) = if m % 2 = 1 then some (.inr (.inl (0, 3))) else some (.inl (((E + 1 : Nat) : Int), ((m / 2 : Nat) : Int))) := by
      unfold tourref1_FromBits_l5
      rw [cnd_dec, if_pos (by omega), show Int.tmod (m : Int) 2 = ((m % 2 : Nat) : Int) by rw [Int.tmod_eq_emod_of_nonneg (Int.natCast_nonneg _)]; omega, cnd_beq, Int.tdiv_eq_ediv_of_nonneg (by omega), i64ok (x := (E : Int) + 1) (by omega) (by omega), i64ok (x := (m : Int) / 2) (by omega) (by omega)]
      by_cases h : m % 2 = 1
      · rw [if_pos (by omega), if_pos h]
      · rw [if_neg (by omega), if_neg h]; rfl
    by_cases h : m % 2 = 1
    · rw [if_pos h] at hstep
      rw [loop_inr (step := fun s_ => tourref1_FromBits_l5 s_.1 s_.2) (s := ((E : Int), (m : Int))) hstep]
      have : m % 2 ^ (t + 1) ≠ 0 := by
        intro e
        have : m % 2 ^ (t + 1) % 2 = m % 2 := Nat.mod_mod_of_dvd m (Nat.pow_succ 2 t ▸ Nat.dvd_mul_left 2 (2 ^ t))
        rw [e] at this; omega
      rw [if_neg this]
    · rw [if_neg h] at hstep
      rw [loop_inl (step := fun s_ => tourref1_FromBits_l5 s_.1 s_.2) (s := ((E : Int), (m : Int))) hstep, ih (E + 1) (m / 2) (by omega) (by omega)]
      have e1 : m / 2 / 2 ^ t = m / 2 ^ (t + 1) := by rw [Nat.div_div_eq_div_mul, Nat.pow_succ, Nat.mul_comm]
      have e2 : (m / 2 % 2 ^ t = 0) ↔ (m % 2 ^ (t + 1) = 0) := by
        have hm2 : m = 2 * (m / 2) := by omega
        conv => rhs; rw [hm2, Nat.pow_succ, Nat.mul_comm (2 ^ t), Nat.mul_mod_mul_left]
        omega
      rw [e1]
      by_cases h2 : m / 2 % 2 ^ t = 0
      · rw [if_pos h2, if_pos (e2.1 h2)]
      · rw [if_neg h2, if_neg (fun e => h2 (e2.2 e))]
theorem ref_num {x : Nat} (hx : x < 18446744073709551616) {M E : Nat} (hM : M < 9007199254740992) (hE : 1 ≤ E) (hE2 : E < 2047) : tourref1_FromBits_j1 (x : Int) (E : Int) (M : Int) = some (numV (decide (9223372036854775808 ≤ x)) M E) := by
  have hsg : (Int.fdiv (x : Int) 9223372036854775808 = 1) ↔ 9223372036854775808 ≤ x := by
    rw [fdiv_lit _ (by omega)]; omega
  have hj2 : ¬ (1047 < E ∨ E = 1047 ∧ 4503599627370496 < M) → tourref1_FromBits_j2 (M : Int) (x : Int) (E : Int) = some (numV (decide (9223372036854775808 ≤ x)) M E) := by
    intro hn
    unfold tourref1_FromBits_j2 numV
    rw [if_neg hn, cnd_beq, cnd_beq]
    by_cases hz : M = 0
    · rw [if_pos (by omega), if_pos hz]
      by_cases hs : 9223372036854775808 ≤ x
      · rw [if_pos (hsg.2 hs), decide_eq_true hs, if_pos rfl]
      · rw [if_neg (fun e => hs (hsg.1 e)), decide_eq_false hs, if_neg (by simp)]
    · rw [if_neg (by omega), if_neg hz, loop5 (1059 - E) E M (by omega) hM]
      by_cases hd : M % 2 ^ (1059 - E) = 0
      · rw [if_pos hd, if_pos hd]
        simp only [Option.bind_some, Sum.elim_inr]
        unfold tourref1_FromBits_j3 tourref1_FromBits_j4
        have hlt : M / 2 ^ (1059 - E) < 9007199254740992 := Nat.lt_of_le_of_lt (Nat.div_le_self _ _) hM
        rw [cnd_beq]
        generalize M / 2 ^ (1059 - E) = N at hlt
        by_cases hs : 9223372036854775808 ≤ x
        · rw [if_pos (hsg.2 hs), decide_eq_true hs, if_pos rfl, i64ok (by omega) (by omega), Int.zero_sub]
        · rw [if_neg (fun e => hs (hsg.1 e)), decide_eq_false hs, if_neg (by simp)]
      · rw [if_neg hd, if_neg hd]; rfl
  unfold tourref1_FromBits_j1
  rw [cnd_dec]
  by_cases h1 : 1047 < E
  · rw [if_pos (by omega)]; unfold numV; rw [if_pos (.inl h1)]
  · rw [if_neg (by omega), cnd_beq]
    by_cases h2 : E = 1047
    · rw [if_pos (by omega), cnd_dec]
      by_cases h3 : 4503599627370496 < M
      · rw [if_pos (by omega)]; unfold numV; rw [if_pos (.inr ⟨h2, h3⟩)]
      · rw [if_neg (by omega)]; exact hj2 (by omega)
    · rw [if_neg (by omega)]; exact hj2 (by omega)
theorem ref_eq {b : Int} (h : okk .u64 b) : tourref1_FromBits b = some (fromV b.toNat) := by
  have h0 : 0 ≤ b := h.1
  have h1 : b < 18446744073709551616 := h.2
  obtain ⟨x, rfl⟩ := Int.eq_ofNat_of_zero_le h0
  have hx : x < 18446744073709551616 := by omega
  rw [Int.toNat_natCast]
  unfold tourref1_FromBits fromV
  have e1 : Int.fdiv (x : Int) 4503599627370496 = ((x / 4503599627370496 : Nat) : Int) := by rw [fdiv_lit _ (by omega)]; omega
  rw [e1, and_2047 (by omega), and_frac hx, Option.bind_some, i64ok (x := ((x / 4503599627370496 % 2048 : Nat) : Int)) (by omega) (by omega), i64ok (x := ((x % 4503599627370496 : Nat) : Int)) (by omega) (by omega), i64ok (by omega) (by omega), cnd_beq, cnd_dec, Option.bind_some]
  obtain ⟨e, he⟩ : ∃ e, x / 4503599627370496 % 2048 = e := ⟨_, rfl⟩
  have hel : e < 2048 := by omega
  obtain ⟨f, hf⟩ : ∃ f, x % 4503599627370496 = f := ⟨_, rfl⟩
  have hfl : f < 4503599627370496 := by omega
  rw [he, hf]
  by_cases h2 : e = 2047
  · rw [if_pos (by omega), if_pos h2]
  · rw [if_neg (by omega), if_neg h2]
    by_cases h3 : 0 < e
    · rw [if_pos (by omega), if_neg (by omega), Nat.max_eq_left (by omega), show ((f : Int) + 4503599627370496) = ((4503599627370496 + f : Nat) : Int) by omega]
      exact ref_num hx (by omega) (by omega) (by omega)
    · rw [if_neg (by omega), if_pos (by omega), show max e 1 = 1 by omega]
      have := ref_num (M := f) (E := 1) hx (by omega) (by decide) (by decide)
      exact this
theorem loop3 : ∀ (k n : Nat) (E : Int), 0 < n → n * 2 ^ k < 9007199254740992 → 4503599627370496 ≤ n * 2 ^ k → (0 < k → n * 2 ^ (k - 1) < 4503599627370496) → (k : Int) ≤ E → E ≤ 2000 →
    loop (σ := Int × Int) (ρ := Int × Int) (fun s_ => tourref1_ToBits_l3 s_.1 s_.2) ((n : Int), E) = some (((n * 2 ^ k : Nat) : Int), E - k) := by
  intro k
  induction k with
  | zero =>
    intro n E h0 h1 h2 h3 h4 h5
    rw [Nat.pow_zero, Nat.mul_one] at *
    refine (loop_inr (step := fun s_ => tourref1_ToBits_l3 s_.1 s_.2) (s := ((n : Int), E)) (r := ((n : Int), E)) ?_).trans (by simp)
    show tourref1_ToBits_l3 (n : Int) E = _
    unfold tourref1_ToBits_l3
    rw [cnd_dec, if_neg (by omega)]
  | succ k ih =>
    intro n E h0 h1 h2 h3 h4 h5
    have hp := Nat.two_pow_pos k
    have hlt : n < 4503599627370496 := Nat.lt_of_le_of_lt (Nat.le_trans (by omega : n ≤ n * 1) (Nat.mul_le_mul_left n hp)) (h3 (by omega))
    have e : n * 2 ^ (k + 1) = 2 * n * 2 ^ k := by rw [Nat.pow_succ]; rw [Nat.mul_comm (2 ^ k), ← Nat.mul_assoc, Nat.mul_comm n]
    rw [loop_inl (step := fun s_ => tourref1_ToBits_l3 s_.1 s_.2) (s := ((n : Int), E)) (s' := (((2 * n : Nat) : Int), E - 1)) (by
      show tourref1_ToBits_l3 (n : Int) E = _
      unfold tourref1_ToBits_l3
      rw [cnd_dec, if_pos (by omega), i64ok (by omega) (by omega), i64ok (by omega) (by omega)]; rfl)]
    rw [e] at h1 h2
    rw [e, ih (2 * n) (E - 1) (by omega) h1 h2 (fun hk => by
      have := h3 (by omega)
      obtain ⟨k', rfl⟩ : ∃ k', k = k' + 1 := ⟨k - 1, by omega⟩
      rw [show k' + 1 + 1 - 1 = k' + 1 by omega, Nat.pow_succ, Nat.mul_comm (2 ^ k'), ← Nat.mul_assoc, Nat.mul_comm n] at this
      rw [show k' + 1 - 1 = k' by omega]
      exact this) (by omega) (by omega)]
    congr 2
    omega
theorem ref_bits {n : Nat} (sg : Int) (hs : sg = 0 ∨ sg = 9223372036854775808) (h0 : 0 < n) (h : n < 9007199254740992) : tourref1_ToBits_j1 (n : Int) sg = some (sg + (((n.log2 + 1006) * 4503599627370496 + n * 2 ^ (52 - n.log2) : Nat) : Int)) := by
  obtain ⟨w1, w2, _⟩ := whole_word false h0 h
  have hlog := (Nat.log2_eq_iff (n := n) (k := n.log2) (by omega)).1 rfl
  have hM : 4503599627370496 ≤ n * 2 ^ (52 - n.log2) := by
    rcases w2.norm with h | h
    · exact h
    · omega
  have hlt := w2.lt
  generalize n.log2 = e at w1 hM hlt hlog ⊢
  unfold tourref1_ToBits_j1
  have hl := loop3 (52 - e) n 1059 h0 hlt hM (fun hk => by
    have h1 : n * 2 ^ (52 - e - 1) < 2 ^ (e + 1) * 2 ^ (52 - e - 1) := (Nat.mul_lt_mul_right (Nat.two_pow_pos _)).2 hlog.2
    rw [← Nat.pow_add, show e + 1 + (52 - e - 1) = 52 by omega] at h1
    exact h1) (by omega) (by omega)
  rw [hl, Option.bind_some]
  unfold tourref1_ToBits_j2
  rw [Option.bind_some]
  generalize n * 2 ^ (52 - e) = M at hM hlt
  congr 1
  rw [i64ok (x := (M : Int) - 4503599627370496) (by omega) (by omega), show (1059 - ((52 - e : Nat) : Int)) = ((1007 + e : Nat) : Int) by omega]
  simp only [IntKind.wrap_u64]
  rcases hs with rfl | rfl <;> omega
theorem to_eq {a : Int} (h1 : -1099511627776 ≤ a) (h2 : a ≤ 1099511627776) : ∃ x, border_To a = some (x, 0) ∧ tourref1_ToBits a = some x := by
  unfold border_To fix_Clamp
  have hc : min (max a (-1099511627776)) 1099511627776 = a := by omega
  rw [Option.bind_some, hc, cnd_not, cnd_pos (by simp)]
  unfold tourref1_ToBits
  by_cases h0 : a = 0
  · subst h0
    rw [to_zero, Option.bind_some]
    exact ⟨_, rfl, rfl⟩
  · rw [to_core h0 (by omega), Option.bind_some, cnd_beq, if_neg h0, cnd_dec]
    refine ⟨_, rfl, ?_⟩
    obtain ⟨w1, w2, _⟩ := whole_word false (N := a.natAbs) (by omega) (by omega)
    by_cases hs : a < 0
    · rw [if_pos hs, i64ok (by omega) (by omega), show (0 - a : Int) = (a.natAbs : Int) by omega, ref_bits 9223372036854775808 (.inr rfl) (by omega) (by omega), decide_eq_true hs]
      unfold wordOf
      rw [if_pos rfl, show (((a.natAbs.log2 : Nat) : Int) - 68 + 1074).toNat = a.natAbs.log2 + 1006 by omega]
      congr 1
    · rw [if_neg hs, show tourref1_ToBits_j1 a 0 = tourref1_ToBits_j1 (a.natAbs : Int) 0 by rw [show (a.natAbs : Int) = a by omega], ref_bits 0 (.inl rfl) (by omega) (by omega), decide_eq_false hs]
      unfold wordOf
      rw [if_neg (by simp), show (((a.natAbs.log2 : Nat) : Int) - 68 + 1074).toNat = a.natAbs.log2 + 1006 by omega, Int.zero_add]
theorem half3 : fromV 4609434218613702656 = (98304, 0) := by decide
end Go.Proofs.Ytchadeflopbchaa.B
