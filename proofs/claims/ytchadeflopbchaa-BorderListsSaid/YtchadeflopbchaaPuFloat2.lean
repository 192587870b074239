/- 64-bit floating-point numbers: times and by 65536, cut, compared. No condition. -/
import Derived.Test.YtchadeflopbchaaPuFloat
import Derived.Test.YtchadeflopbchaaPu
namespace Go.Proofs.Ytchadeflopbchaa.Sx
open Go Go.RowKit
set_option linter.unusedVariables false
set_option linter.unusedSimpArgs false
theorem f64_read (x : Nat) : FloatKind.f64.decode x = Ieee.double.read x := rfl
theorem f64_order (x y : Nat) : FloatKind.f64.format.order x y = (Ieee.double.read x).order (Ieee.double.read y) := rfl
theorem nf_2p24 : Nf 4503599627370496 (-28) := ⟨by omega, .inl (by omega), by omega, by omega⟩
theorem nf_2p16 : Nf 4503599627370496 (-36) := ⟨by omega, .inl (by omega), by omega, by omega⟩
theorem nf_max : Nf 9007199254740991 971 := ⟨by omega, .inl (by omega), by omega, by omega⟩
theorem nf_scale {M : Nat} {L : Int} (h : Nf M L) (h0 : 0 < M) (hl : L ≤ 900) : ∃ j : Nat, j ≤ 16 ∧ Nf (M * 2 ^ j) (L + 16 - j) := by
  by_cases hn : 4503599627370496 ≤ M
  · exact ⟨0, by omega, by rw [Nat.pow_zero, Nat.mul_one]; exact h.lt, by rw [Nat.pow_zero, Nat.mul_one]; exact .inl hn, by have := h.lo; omega, by omega⟩
  · have hL : L = -1074 := h.norm.resolve_left hn
    have hlog := (Nat.log2_eq_iff (n := M) (k := M.log2) (by omega)).1 rfl
    have he : M.log2 < 52 := by
      rcases Nat.lt_or_ge M.log2 52 with h | h
      · exact h
      · have : 2 ^ 52 ≤ 2 ^ M.log2 := Nat.pow_le_pow_right (by omega) h
        omega
    generalize M.log2 = e at hlog he
    have hp : ∀ j, j ≤ 52 - e → M * 2 ^ j < 9007199254740992 := fun j hj => by
      have h1 : M * 2 ^ j < 2 ^ (e + 1) * 2 ^ j := (Nat.mul_lt_mul_right (Nat.two_pow_pos j)).2 hlog.2
      rw [← Nat.pow_add] at h1
      have h2 : 2 ^ (e + 1 + j) ≤ 2 ^ 53 := Nat.pow_le_pow_right (by omega) (by omega)
      have h3 : (2 : Nat) ^ 53 = 9007199254740992 := by decide
      omega
    by_cases hj : 16 ≤ 52 - e
    · exact ⟨16, by omega, hp 16 hj, .inr (by omega), by omega, by omega⟩
    · refine ⟨52 - e, by omega, hp _ (Nat.le_refl _), .inl ?_, by omega, by omega⟩
      have h1 : 2 ^ e * 2 ^ (52 - e) ≤ M * 2 ^ (52 - e) := Nat.mul_le_mul_right _ hlog.1
      rw [← Nat.pow_add, show e + (52 - e) = 52 by omega] at h1
      have h3 : (2 : Nat) ^ 52 = 4503599627370496 := by decide
      omega
theorem word_2p16 : wordOf false 4503599627370496 (-36) = 4679240012837945344 := by decide
theorem word_2p24 : wordOf false 4503599627370496 (-28) = 4715268809856909312 := by decide
theorem word_max : wordOf false 9007199254740991 971 = 9218868437227405311 := by decide
theorem word_min : wordOf true 9007199254740991 971 = 18442240474082181119 := by decide
theorem mul_16 (s : Bool) {M : Nat} {L : Int} {j : Nat} (h : Nf M L) (h0 : 0 < M) (hj : j ≤ 16) (h2 : Nf (M * 2 ^ j) (L + 16 - j)) : floatBits .mul .f64 (wordOf s M L) 4679240012837945344 = some (wordOf s (M * 2 ^ j) (L + 16 - j)) := by
  show ((Ieee.double.read (wordOf s M L)).product (Ieee.double.read 4679240012837945344)).map Ieee.double.write = _
  rw [← word_2p16, read_word s h, read_word false nf_2p16]
  unfold Ieee.Datum.product
  simp only [Option.map_some, Bool.xor_false, Option.some.injEq]
  unfold Ieee.Format.write
  refine nearest_exact s h2 (Nat.mul_pos h0 (Nat.two_pow_pos j)) (.inl ⟨52 - j, ?_, by omega⟩)
  rw [Nat.mul_assoc, ← Nat.pow_add, show j + (52 - j) = 52 by omega]
theorem cut_zero {s : Bool} {M d : Nat} : Ieee.Toward.zero.cut s M d = M / 2 ^ d := by
  unfold Ieee.Toward.cut
  simp only [Nat.shiftLeft_eq, Nat.one_mul, Bool.toNat_false, Nat.add_zero]
  by_cases h : d ≤ M.log2 + 2
  · rw [Nat.min_eq_left h]
  · rw [Nat.min_eq_right (by omega)]
    have h1 : M < 2 ^ (M.log2 + 1) := Nat.lt_log2_self
    have h2 : 2 ^ (M.log2 + 1) ≤ 2 ^ (M.log2 + 2) := Nat.pow_le_pow_right (by omega) (by omega)
    have h3 : 2 ^ (M.log2 + 1) ≤ 2 ^ d := Nat.pow_le_pow_right (by omega) (by omega)
    rw [Nat.div_eq_of_lt (by omega), Nat.div_eq_of_lt (by omega)]
theorem integral_zero (s : Bool) {M : Nat} {L : Int} (hL : L ≤ 0) : (Ieee.Datum.number s M L).integral .zero = .number s (M / 2 ^ (-L).toNat) 0 := by
  unfold Ieee.Datum.integral
  simp only
  rw [show L.toNat = 0 by omega, Nat.shiftLeft_zero, cut_zero]
/-- A whole number below 2^53, as a word. -/
theorem whole_word (s : Bool) {N : Nat} (h0 : 0 < N) (h : N < 9007199254740992) : N.log2 ≤ 52 ∧ Nf (N * 2 ^ (52 - N.log2)) ((N.log2 : Int) - 52) ∧ Ieee.double.nearest s N 0 = wordOf s (N * 2 ^ (52 - N.log2)) ((N.log2 : Int) - 52) := by
  have he := log2_le52 h0 h
  have hlog := (Nat.log2_eq_iff (n := N) (k := N.log2) (by omega)).1 rfl
  generalize N.log2 = e at hlog he
  have h1 : N * 2 ^ (52 - e) < 2 ^ (e + 1) * 2 ^ (52 - e) := (Nat.mul_lt_mul_right (Nat.two_pow_pos _)).2 hlog.2
  rw [← Nat.pow_add, show e + 1 + (52 - e) = 53 by omega] at h1
  have h2 : 2 ^ e * 2 ^ (52 - e) ≤ N * 2 ^ (52 - e) := Nat.mul_le_mul_right _ hlog.1
  rw [← Nat.pow_add, show e + (52 - e) = 52 by omega] at h2
  have h3 : (2 : Nat) ^ 53 = 9007199254740992 := by decide
  have h4 : (2 : Nat) ^ 52 = 4503599627370496 := by decide
  have hn : Nf (N * 2 ^ (52 - e)) ((e : Int) - 52) := ⟨by omega, .inl (by omega), by omega, by omega⟩
  exact ⟨he, hn, nearest_exact s hn (by omega) (.inr ⟨52 - e, rfl, by omega⟩)⟩
theorem signed_inj {s : Bool} {a b i j : Nat} : Ieee.signed s a i = Ieee.signed s b j ↔ a * 2 ^ i = b * 2 ^ j := by
  unfold Ieee.signed
  rw [shl_pow, shl_pow]
  cases s
  · simp only [Bool.false_eq_true, if_false]; omega
  · simp only [if_true]; omega
theorem compare_eq_iff (a b : Int) : (compare a b == Ordering.eq) = decide (a = b) := by
  rw [Bool.eq_iff_iff, decide_eq_true_iff, beq_iff_eq]
  exact Int.compare_eq_eq
theorem trunc_same (s : Bool) {M : Nat} {L : Int} (h : Nf M L) (h0 : 0 < M) (hL : L ≤ 0) : ∃ z, ftrunc (wordOf s M L) = some z ∧ fneq (wordOf s M L) z = !decide (M % 2 ^ (-L).toNat = 0) := by
  obtain ⟨d, hd⟩ : ∃ d, (-L).toNat = d := ⟨_, rfl⟩
  have hLd : L = -(d : Int) := by omega
  rw [hd]
  have hp := Nat.two_pow_pos d
  have hz : ftrunc (wordOf s M L) = some (Ieee.double.nearest s (M / 2 ^ d) 0) := by
    unfold ftrunc
    rw [f64_read, read_word s h]
    simp only
    rw [integral_zero s hL, hd]
    rfl
  refine ⟨_, hz, ?_⟩
  unfold fneq
  rw [f64_order, read_word s h]
  by_cases hN : M / 2 ^ d = 0
  · rw [hN, nearest_zero, read_word s nf_zero]
    have hlt : M < 2 ^ d := by
      rcases Nat.lt_or_ge M (2 ^ d) with h | h
      · exact h
      · have := (Nat.le_div_iff_mul_le hp).2 (by rw [Nat.one_mul]; exact h : 1 * 2 ^ d ≤ M)
        omega
    rw [Nat.mod_eq_of_lt hlt]
    unfold Ieee.Datum.order
    simp only
    have hne : ¬ Ieee.signed s M (L - min L (-1074)).toNat = Ieee.signed s 0 ((-1074 : Int) - min L (-1074)).toNat := by
      rw [signed_inj, Nat.zero_mul]
      exact Nat.ne_of_gt (Nat.mul_pos h0 (Nat.two_pow_pos _))
    have := compare_eq_iff (Ieee.signed s M (L - min L (-1074)).toNat) (Ieee.signed s 0 ((-1074 : Int) - min L (-1074)).toNat)
    rw [decide_eq_false hne] at this
    rw [decide_eq_false (by omega)]
    simp only [bne, Option.some_beq_some, this]
  · have hNlt : M / 2 ^ d < 9007199254740992 := Nat.lt_of_le_of_lt (Nat.div_le_self _ _) h.lt
    obtain ⟨w1, w2, w3⟩ := whole_word s (Nat.pos_of_ne_zero hN) hNlt
    have hlog := (Nat.log2_eq_iff (n := M / 2 ^ d) (k := (M / 2 ^ d).log2) hN).1 rfl
    have hdm := Nat.div_add_mod M (2 ^ d)
    have hmod := Nat.mod_lt M hp
    obtain ⟨N, hNe⟩ : ∃ N, M / 2 ^ d = N := ⟨_, rfl⟩
    rw [hNe] at w1 w2 w3 hlog hdm ⊢
    obtain ⟨e, hee⟩ : ∃ e, N.log2 = e := ⟨_, rfl⟩
    rw [hee] at w1 w2 w3 hlog
    rw [w3, read_word s w2]
    have hle : L ≤ (e : Int) - 52 := by
      rcases h.norm with hn | hn
      · rcases Int.lt_or_le ((e : Int) - 52) L with hlt | hle
        · exfalso
          have h1 : M < 2 ^ d * 2 ^ (e + 1) := by
            have : 2 ^ d * N + 2 ^ d ≤ 2 ^ d * 2 ^ (e + 1) := by
              rw [← Nat.mul_succ]; exact Nat.mul_le_mul_left _ hlog.2
            omega
          rw [← Nat.pow_add] at h1
          have h2 : 2 ^ (d + (e + 1)) ≤ 2 ^ 52 := Nat.pow_le_pow_right (by omega) (by omega)
          have h4 : (2 : Nat) ^ 52 = 4503599627370496 := by decide
          omega
        · exact hle
      · omega
    unfold Ieee.Datum.order
    simp only
    have hiff : (Ieee.signed s M (L - min L ((e : Int) - 52)).toNat = Ieee.signed s (N * 2 ^ (52 - e)) ((e : Int) - 52 - min L ((e : Int) - 52)).toNat) ↔ M % 2 ^ d = 0 := by
      rw [signed_inj, show (L - min L ((e : Int) - 52)).toNat = 0 by omega, show ((e : Int) - 52 - min L ((e : Int) - 52)).toNat = d + e - 52 by omega, Nat.pow_zero, Nat.mul_one, Nat.mul_assoc, ← Nat.pow_add, show 52 - e + (d + e - 52) = d by omega, Nat.mul_comm N]
      omega
    have := compare_eq_iff (Ieee.signed s M (L - min L ((e : Int) - 52)).toNat) (Ieee.signed s (N * 2 ^ (52 - e)) ((e : Int) - 52 - min L ((e : Int) - 52)).toNat)
    simp only [bne, Option.some_beq_some, this]
    congr 1
    exact decide_eq_decide.2 hiff
theorem int_of (s : Bool) {M : Nat} {L : Int} (h : Nf M L) (hL : L ≤ 0) : floatToIntVal .f64 (wordOf s M L) .i64 = some (if s = true then -((M / 2 ^ (-L).toNat : Nat) : Int) else ((M / 2 ^ (-L).toNat : Nat) : Int)) := by
  unfold floatToIntVal
  rw [f64_read, read_word s h]
  unfold Ieee.Datum.toInt
  rw [integral_zero s hL]
  simp only
  have hN : M / 2 ^ (-L).toNat < 9007199254740992 := Nat.lt_of_le_of_lt (Nat.div_le_self _ _) h.lt
  generalize M / 2 ^ (-L).toNat = N at hN
  unfold Ieee.signed
  rw [Nat.shiftLeft_zero]
  have h1 : IntKind.min .i64 = -9223372036854775808 := by decide
  have h2 : IntKind.max .i64 = 9223372036854775807 := by decide
  rw [h1, h2]
  cases s
  · simp only [Bool.false_eq_true, if_false]; rw [if_pos (by omega)]
  · simp only [if_true]; rw [if_pos (by omega)]
/-- What From does with a number within the limits. -/
theorem from_core (s : Bool) {M : Nat} {L : Int} (h : Nf M L) (h0 : 0 < M) (hL : L ≤ -28) : ∃ y z, floatBits .mul .f64 (wordOf s M L) 4679240012837945344 = some y ∧ ftrunc y = some z ∧ fneq y z = !decide (M % 2 ^ (-(L + 16)).toNat = 0) ∧
    floatToIntVal .f64 y .i64 = some (if s = true then -((M / 2 ^ (-(L + 16)).toNat : Nat) : Int) else ((M / 2 ^ (-(L + 16)).toNat : Nat) : Int)) := by
  obtain ⟨j, hj, h2⟩ := nf_scale h h0 (by omega)
  have h3 := mul_16 s h h0 hj h2
  have hM0 : 0 < M * 2 ^ j := Nat.mul_pos h0 (Nat.two_pow_pos j)
  obtain ⟨z, h4, h5⟩ := trunc_same s h2 hM0 (by omega)
  have h6 := int_of s h2 (by omega)
  have hp := Nat.two_pow_pos j
  have e1 : (-(L + 16 - (j : Int))).toNat = (-(L + 16)).toNat + j := by omega
  have e2 : M * 2 ^ j / 2 ^ ((-(L + 16)).toNat + j) = M / 2 ^ (-(L + 16)).toNat := by rw [Nat.pow_add, Nat.mul_div_mul_right _ _ hp]
  have e3 : (M * 2 ^ j % 2 ^ ((-(L + 16)).toNat + j) = 0) ↔ (M % 2 ^ (-(L + 16)).toNat = 0) := by
    rw [Nat.pow_add, Nat.mul_mod_mul_right]
    constructor
    · intro h; exact (Nat.mul_eq_zero.1 h).resolve_right (Nat.ne_of_gt hp)
    · intro h; rw [h, Nat.zero_mul]
  rw [e1] at h5 h6
  rw [e2] at h6
  rw [decide_eq_decide.2 e3] at h5
  exact ⟨_, z, h3, h4, h5, h6⟩
theorem from_zero : floatBits .mul .f64 0 4679240012837945344 = some 0 ∧ ftrunc 0 = some 0 ∧ fneq 0 0 = false ∧ floatToIntVal .f64 0 .i64 = some 0 := by decide
theorem not_nan (s : Bool) {M : Nat} {L : Int} (h : Nf M L) : fneq (wordOf s M L) (wordOf s M L) = false := by
  unfold fneq
  rw [f64_order, read_word s h]
  unfold Ieee.Datum.order
  simp only [bne, Option.some_beq_some, compare_eq_iff, decide_true, Bool.not_true]
theorem compare_gt_iff (a b : Int) : (compare a b == Ordering.gt) = decide (b < a) := by
  rw [Bool.eq_iff_iff, decide_eq_true_iff, beq_iff_eq]
  exact Int.compare_eq_gt
theorem compare_lt_iff (a b : Int) : (compare a b == Ordering.lt) = decide (a < b) := by
  rw [Bool.eq_iff_iff, decide_eq_true_iff, beq_iff_eq]
  exact Int.compare_eq_lt
theorem signed_abs (s : Bool) (a i : Nat) : -((a * 2 ^ i : Nat) : Int) ≤ Ieee.signed s a i ∧ Ieee.signed s a i ≤ ((a * 2 ^ i : Nat) : Int) := by
  unfold Ieee.signed
  rw [shl_pow]
  cases s
  · simp only [Bool.false_eq_true, if_false]; omega
  · simp only [if_true]; omega
theorem not_inf (s : Bool) {M : Nat} {L : Int} (h : Nf M L) : fgtr (wordOf s M L) 9218868437227405311 = false ∧ flss (wordOf s M L) 18442240474082181119 = false := by
  obtain ⟨h1, h2, h3, h4⟩ := h
  have h : Nf M L := ⟨h1, h2, h3, h4⟩
  have hm : min L 971 = L := by omega
  have hp := Nat.two_pow_pos (971 - L).toNat
  have hle : M ≤ 9007199254740991 * 2 ^ (971 - L).toNat := Nat.le_trans (by omega : M ≤ 9007199254740991 * 1) (Nat.mul_le_mul_left _ hp)
  have hb := signed_abs s M (L - L).toNat
  rw [show (L - L).toNat = 0 by omega, Nat.pow_zero, Nat.mul_one] at hb
  unfold fgtr flss
  rw [f64_order, f64_order, ← word_max, ← word_min, read_word s h, read_word false nf_max, read_word true nf_max]
  unfold Ieee.Datum.order
  simp only [hm, Option.some_beq_some, compare_gt_iff, compare_lt_iff, show (L - L).toNat = 0 by omega]
  constructor
  · refine decide_eq_false ?_
    have : Ieee.signed false 9007199254740991 (971 - L).toNat = ((9007199254740991 * 2 ^ (971 - L).toNat : Nat) : Int) := by unfold Ieee.signed; rw [shl_pow]; rfl
    rw [this]; omega
  · refine decide_eq_false ?_
    have : Ieee.signed true 9007199254740991 (971 - L).toNat = -((9007199254740991 * 2 ^ (971 - L).toNat : Nat) : Int) := by unfold Ieee.signed; rw [shl_pow]; rfl
    rw [this]; omega
theorem large_iff {M : Nat} {L : Int} (h : Nf M L) : fgtr (wordOf false M L) 4715268809856909312 = decide (-28 < L ∨ L = -28 ∧ 4503599627370496 < M) := by
  obtain ⟨h1, h2, h3, h4⟩ := h
  have h : Nf M L := ⟨h1, h2, h3, h4⟩
  unfold fgtr
  rw [f64_order, ← word_2p24, read_word false h, read_word false nf_2p24]
  unfold Ieee.Datum.order
  simp only [Option.some_beq_some, compare_gt_iff]
  refine decide_eq_decide.2 ?_
  have e : ∀ a i : Nat, Ieee.signed false a i = ((a * 2 ^ i : Nat) : Int) := fun a i => by unfold Ieee.signed; rw [shl_pow]; rfl
  rw [e, e]
  rcases Int.lt_trichotomy L (-28) with hl | hl | hl
  · rw [show min L (-28) = L by omega, show (L - L).toNat = 0 by omega, Nat.pow_zero, Nat.mul_one]
    have hk : ∃ k, ((-28 : Int) - L).toNat = k + 1 := ⟨((-28 : Int) - L).toNat - 1, by omega⟩
    obtain ⟨k, hk⟩ := hk
    have hp := Nat.two_pow_pos k
    have : 4503599627370496 * 2 * 1 ≤ 4503599627370496 * 2 * 2 ^ k := Nat.mul_le_mul_left _ hp
    rw [hk, Nat.pow_succ, Nat.mul_comm (2 ^ k), ← Nat.mul_assoc]
    omega
  · subst hl
    simp
    omega
  · rw [show min L (-28) = -28 by omega, show ((-28 : Int) - -28).toNat = 0 by omega, Nat.pow_zero, Nat.mul_one]
    have hk : ∃ k, (L - (-28 : Int)).toNat = k + 1 := ⟨(L - (-28 : Int)).toNat - 1, by omega⟩
    obtain ⟨k, hk⟩ := hk
    have hp := Nat.two_pow_pos k
    have hM : 4503599627370496 ≤ M := by rcases h2 with h2 | h2 <;> omega
    have : M * 2 * 1 ≤ M * 2 * 2 ^ k := Nat.mul_le_mul_left _ hp
    rw [hk, Nat.pow_succ, Nat.mul_comm (2 ^ k), ← Nat.mul_assoc]
    omega
/-- What To does. -/
theorem to_core {a : Int} (ha : a ≠ 0) (hb : a.natAbs < 9007199254740992) : floatBits .quo .f64 (FloatKind.nearest .f64 a) 4679240012837945344 = some (wordOf (decide (a < 0)) (a.natAbs * 2 ^ (52 - a.natAbs.log2)) ((a.natAbs.log2 : Int) - 68)) := by
  obtain ⟨w1, w2, w3⟩ := whole_word (decide (a < 0)) (N := a.natAbs) (by omega) hb
  have hn : FloatKind.nearest .f64 a = wordOf (decide (a < 0)) (a.natAbs * 2 ^ (52 - a.natAbs.log2)) ((a.natAbs.log2 : Int) - 52) := w3
  rw [hn]
  have hM : 4503599627370496 ≤ a.natAbs * 2 ^ (52 - a.natAbs.log2) := by
    rcases w2.norm with h | h
    · exact h
    · omega
  have hlt := w2.lt
  obtain ⟨e, he⟩ : ∃ e, a.natAbs.log2 = e := ⟨_, rfl⟩
  rw [he] at w1 w2 hM hlt ⊢
  obtain ⟨M, hMe⟩ : ∃ M, a.natAbs * 2 ^ (52 - e) = M := ⟨_, rfl⟩
  rw [hMe] at w2 hM hlt ⊢
  show ((Ieee.double.read (wordOf (decide (a < 0)) M ((e : Int) - 52))).quotient 54 (Ieee.double.read 4679240012837945344)).map Ieee.double.write = _
  rw [← word_2p16, read_word _ w2, read_word false nf_2p16]
  have hq : Ieee.Datum.quotient 54 (.number (decide (a < 0)) M ((e : Int) - 52)) (.number false 4503599627370496 (-36)) = some (.number (decide (a < 0)) (M * 2 ^ 3) ((e : Int) - 68 - 3)) := by
    unfold Ieee.Datum.quotient
    have h1 : M.log2 = 52 := log2_norm hM hlt
    have h2 : (4503599627370496 : Nat).log2 = 52 := log2_norm (by omega) (by omega)
    simp only [h1, h2, Nat.shiftLeft_eq, Bool.xor_false]
    rw [if_neg (by omega)]
    have h3 : M * 2 ^ (54 + 52 - 52) / 4503599627370496 = M * 4 := by
      rw [show (2 : Nat) ^ (54 + 52 - 52) = 4 * 4503599627370496 from rfl, ← Nat.mul_assoc, Nat.mul_div_cancel _ (by omega)]
    have h4 : M * 2 ^ (54 + 52 - 52) % 4503599627370496 = 0 := by
      rw [show (2 : Nat) ^ (54 + 52 - 52) = 4 * 4503599627370496 from rfl, ← Nat.mul_assoc, Nat.mul_mod_left]
    rw [h3, h4]
    simp only [bne_self_eq_false, Bool.toNat_false, Option.some.injEq, Ieee.Datum.number.injEq, true_and]
    constructor
    · omega
    · omega
  rw [hq, Option.map_some]
  congr 1
  exact nearest_exact _ ⟨hlt, .inl hM, by omega, by omega⟩ (by omega) (.inl ⟨3, rfl, by omega⟩)
theorem to_zero : floatBits .quo .f64 (FloatKind.nearest .f64 0) 4679240012837945344 = some 0 := by decide
end Go.Proofs.Ytchadeflopbchaa.Sx
