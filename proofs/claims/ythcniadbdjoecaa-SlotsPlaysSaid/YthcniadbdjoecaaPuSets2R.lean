/- The plain law of sets of small numbers, on: one number, a look, a walk through all. No condition. -/
import Derived.Test.YthcniadbdjoecaaPuSetsR
namespace Go.Proofs.Ythcniadbdjoecaa.R
open Go Go.RowKit Go.Proofs.Ythcniadbdjoecaa.Sx
set_option linter.unusedVariables false
set_option linter.unusedSimpArgs false
theorem tdiv64 (m : Nat) : Int.tdiv (m : Int) 64 = ((m / 64 : Nat) : Int) := by rw [Int.tdiv_eq_ediv_of_nonneg (by omega)]; omega
theorem tmod64 (m : Nat) : Int.tmod (m : Int) 64 = ((m % 64 : Nat) : Int) := by rw [Int.tmod_eq_emod_of_nonneg (by omega)]; omega
theorem pow64 {r : Nat} (h : r < 64) : 2 ^ r < 18446744073709551616 := by
  have : 2 ^ r < 2 ^ 64 := Nat.pow_lt_pow_right (by decide) h
  omega
theorem ipow (r : Nat) : (2 : Int) ^ r = ((2 ^ r : Nat) : Int) := by simp
theorem shl1 {r : Nat} (h : r < 64) : shl .u64 1 (r : Int) = some ((2 ^ r : Nat) : Int) := by
  have hp := pow64 h
  rw [shl_ok (by omega), Int.toNat_natCast, show min r (IntKind.bits .u64) = r from Nat.min_eq_left (by simp [IntKind.bits]; omega), IntKind.wrap_u64, Int.one_mul, ipow]
  congr 1
  generalize 2 ^ r = p at hp ⊢
  omega
theorem bitAt (x i : Nat) : x.testBit i = decide (x / 2 ^ i % 2 = 1) := Nat.testBit_eq_decide_div_mod_eq
/-- The set of one number. -/
theorem one_ex {i : Int} (h : i < 9223372036854775808) : ∃ r, sets_one i = some r ∧ W64 r ∧ ∀ n : Nat, bt r n = decide ((n : Int) = i ∧ n < 4096) := by
  unfold sets_one
  rw [cnd_dec, cnd_dec]
  by_cases h0 : i < 0
  · rw [if_pos h0]; exact ⟨[], rfl, canon_nil.w, fun n => by rw [bt_nil, decide_eq_false (by omega)]⟩
  · rw [if_neg h0]
    by_cases h1 : 4096 ≤ i
    · rw [if_pos h1]; exact ⟨[], rfl, canon_nil.w, fun n => by rw [bt_nil, decide_eq_false (by omega)]⟩
    · rw [if_neg h1]
      obtain ⟨m, rfl⟩ : ∃ m : Nat, i = m := ⟨i.toNat, by omega⟩
      rw [tdiv64, tmod64, i64ok (x := ((m / 64 : Nat) : Int)) (by omega) (by omega), i64ok (x := ((m / 64 : Nat) : Int) + 1) (by omega) (by omega), mk_ok (by omega) (by omega)]
      simp only [Option.bind_some]
      rw [shl1 (Nat.mod_lt _ (by decide))]
      simp only [Option.bind_some]
      have hn : (((m / 64 : Nat) : Int) + 1).toNat = m / 64 + 1 := by omega
      rw [hn, idx_get (by simp)]
      simp only [Option.bind_some]
      rw [upd_ok (by simp)]
      refine ⟨_, rfl, ?_, fun n => ?_⟩
      · intro x hx
        have hp := pow64 (Nat.mod_lt m (show 64 > 0 by decide))
        rcases List.mem_or_eq_of_mem_set hx with hx | rfl
        · rw [(List.mem_replicate.1 hx).2]; omega
        · exact ⟨Int.natCast_nonneg _, Int.ofNat_lt.2 hp⟩
      · unfold bt
        rw [List.getD_eq_getElem?_getD, List.getElem?_set]
        by_cases e : m / 64 = n / 64
        · rw [if_pos e, if_pos (by simp)]
          simp only [Option.getD_some, Int.toNat_natCast, Nat.testBit_two_pow]
          by_cases e2 : m = n
          · subst e2; rw [decide_eq_true rfl, decide_eq_true ⟨rfl, by omega⟩]
          · rw [decide_eq_false (by omega), decide_eq_false (by omega)]
        · rw [if_neg e, decide_eq_false (by omega)]
          have : ((List.replicate (m / 64 + 1) (0 : Int))[n / 64]?).getD 0 = 0 := by
            rw [List.getElem?_replicate]
            split <;> rfl
          rw [this]
          simp
/-- A look. -/
theorem has_ok {s : List Int} (hs : W64 s) {i : Int} (h : i < 9223372036854775808) : sets_Set_Has s i = some (decide (0 ≤ i) && inS s i.toNat) := by
  unfold sets_Set_Has
  rw [cnd_dec]
  by_cases h0 : 0 ≤ i
  · rw [if_pos h0]
    obtain ⟨m, rfl⟩ : ∃ m : Nat, i = m := ⟨i.toNat, by omega⟩
    rw [tdiv64, tmod64, i64ok (by omega) (by omega), word_ok]
    simp only [Option.bind_some]
    rw [shr_ok (by omega), Int.toNat_natCast, show min (m % 64) (IntKind.bits .u64) = m % 64 from Nat.min_eq_left (by simp [IntKind.bits]; omega)]
    simp only [Option.bind_some]
    unfold sets_Set_Has_j1
    rw [decide_eq_true h0, Bool.true_and, Int.toNat_natCast]
    congr 1
    unfold inS
    by_cases h1 : m / 64 < 64
    · rw [if_pos h1, decide_eq_true (show m < 4096 by omega), Bool.true_and]
      unfold bt
      obtain ⟨h2, h3⟩ := hs.at (m / 64)
      obtain ⟨x, hx⟩ : ∃ x : Nat, s.getD (m / 64) 0 = x := ⟨(s.getD (m / 64) 0).toNat, by omega⟩
      rw [hx] at h3 ⊢
      have hq : x / 2 ^ (m % 64) ≤ x := Nat.div_le_self _ _
      rw [ipow, fdiv_lit _ (Int.natCast_nonneg _), ← Int.natCast_ediv, Bits.and_one _ (by omega), Int.toNat_natCast, bitAt]
      by_cases hb : x / 2 ^ (m % 64) % 2 = 1
      · rw [decide_eq_true hb, hb]; rfl
      · rw [decide_eq_false hb, show x / 2 ^ (m % 64) % 2 = 0 by omega]; rfl
    · rw [if_neg h1, decide_eq_false (show ¬ m < 4096 by omega), Bool.false_and, ipow, fdiv_lit _ (Int.natCast_nonneg _)]
      rw [Int.zero_ediv]; rfl
  · rw [if_neg h0, decide_eq_false h0, Bool.false_and]; rfl
/-! ### A walk through all -/
theorem walk_const {τ : Type} {F : Nat → τ} {a : Nat} : ∀ (e : Nat), (∀ m, a ≤ m → m < a + e → F (m + 1) = F m) → F (a + e) = F a
  | 0, _ => rfl
  | e + 1, h => by rw [← walk_const e fun m h1 h2 => h m h1 (by omega)]; exact h (a + e) (by omega) (by omega)
theorem walk_word {τ : Type} {r : List Int} (hw : W64 r) {F : Nat → τ} {k : Nat} {act : τ → Int → Option τ} {step : Int × Int × τ → Option ((Int × Int × τ) ⊕ τ)}
    (hs : ∀ w i t, step (w, i, t) = cnd (!(w == 0)) (cnd (Go.bits .and .u64 w 1 == 1) ((act t i).bind fun t' => some (.inl (Int.fdiv w 2, IntKind.i64.wrap (i + 1), t'))) (some (.inl (Int.fdiv w 2, IntKind.i64.wrap (i + 1), t)))) (some (.inr t)))
    (h1 : ∀ i, i < 64 → bt r (64 * k + i) = true → act (F (64 * k + i)) (i : Int) = some (F (64 * k + i + 1))) (h0 : ∀ i, i < 64 → bt r (64 * k + i) = false → F (64 * k + i + 1) = F (64 * k + i)) :
    loop step (r.getD k 0, 0, F (64 * k)) = some (F (64 * k + 64)) := by
  obtain ⟨hx0, hx1⟩ := hw.at k
  obtain ⟨x, hx⟩ : ∃ x : Nat, r.getD k 0 = x := ⟨(r.getD k 0).toNat, by omega⟩
  have hbt : ∀ i, i < 64 → bt r (64 * k + i) = x.testBit i := fun i hi => by rw [bt_word r k i hi, hx, Int.toNat_natCast]
  have key : ∀ (d i w : Nat), i + d = 64 → w = x / 2 ^ i → loop step ((w : Int), (i : Int), F (64 * k + i)) = some (F (64 * k + 64)) := by
    intro d
    induction d with
    | zero =>
      intro i w hi hwx
      obtain rfl : i = 64 := by omega
      have : w = 0 := by rw [hwx]; exact Nat.div_eq_of_lt (by omega)
      subst this
      exact loop_inr (by rw [hs]; rfl)
    | succ d ih =>
      intro i w hi hwx
      by_cases hz : w = 0
      · subst hz
        rw [loop_inr (by rw [hs]; rfl)]
        have hlt : x < 2 ^ i := by
          rcases Nat.lt_or_ge x (2 ^ i) with h | h
          · exact h
          · have := Nat.div_pos h (Nat.two_pow_pos i); omega
        have := walk_const (F := F) (a := 64 * k + i) (64 - i) (fun m ha hb => by
          have hm : m = 64 * k + (m - 64 * k) := by omega
          have := h0 (m - 64 * k) (by omega) (by rw [hbt _ (by omega)]; exact Nat.testBit_lt_two_pow (Nat.lt_of_lt_of_le hlt (Nat.pow_le_pow_right (by decide) (by omega))))
          rwa [← hm] at this)
        rw [← this, show 64 * k + i + (64 - i) = 64 * k + 64 by omega]
      · have hw' : w < 18446744073709551616 := by rw [hwx]; exact Nat.lt_of_le_of_lt (Nat.div_le_self _ _) (by omega)
        have hst := hs (w : Int) (i : Int) (F (64 * k + i))
        rw [cnd_not, cnd_beq, if_neg (by omega), Bits.and_one w hw', cnd_beq, fdiv_lit _ (by decide), i64ok (by omega) (by omega)] at hst
        have e2 : ((w : Int) / 2) = ((w / 2 : Nat) : Int) := by omega
        have e3 : w / 2 = x / 2 ^ (i + 1) := by rw [hwx, Nat.pow_succ, Nat.div_div_eq_div_mul]
        rw [e2] at hst
        by_cases hb : w % 2 = 1
        · rw [if_pos (by omega), h1 i (by omega) (by rw [hbt i (by omega), bitAt, ← hwx, decide_eq_true hb])] at hst
          rw [loop_inl hst]
          exact ih (i + 1) (w / 2) (by omega) e3
        · rw [if_neg (by omega)] at hst
          rw [loop_inl hst, ← h0 i (by omega) (by rw [hbt i (by omega), bitAt, ← hwx, decide_eq_false hb])]
          exact ih (i + 1) (w / 2) (by omega) e3
  rw [hx]
  exact key 64 0 x rfl (by rw [Nat.pow_zero, Nat.div_one])
theorem walk_all {τ : Type} {r : List Int} (hl : r.length ≤ 64) {F : Nat → τ} {inner : Int → Int → τ → Option τ} {step : Int × τ → Option ((Int × τ) ⊕ τ)}
    (hs : ∀ k t, step (k, t) = cnd (decide (k < (r.length : Int))) ((idx r k).bind fun x => (inner k x t).bind fun t' => some (.inl (IntKind.i64.wrap (k + 1), t'))) (some (.inr t)))
    (hi : ∀ k : Nat, k < r.length → inner (k : Int) (r.getD k 0) (F (64 * k)) = some (F (64 * k + 64))) : loop step (0, F 0) = some (F (64 * r.length)) :=
  loop_to (step := step) (fun k => ((k : Int), F (64 * k))) r.length (fun k hk => by
    have := hi k hk
    rw [List.getD_eq_getElem?_getD, List.getElem?_eq_getElem hk] at this
    rw [hs, cnd_dec, if_pos (by omega), idx_get hk]
    simp only [Option.bind_some]
    rw [show r[k] = (some r[k]).getD 0 from rfl, this]
    simp only [Option.bind_some]
    rw [i64ok (by omega) (by omega)]
    rfl) (by rw [hs, cnd_dec, if_neg (by omega)])
/-- The numbers below m that are in a set. -/
def below (s : List Int) (m : Nat) : List Int := ((List.range m).filter (bt s)).map fun (n : Nat) => (n : Int)
theorem below_succ (s : List Int) (m : Nat) : below s (m + 1) = if bt s m = true then below s m ++ [(m : Int)] else below s m := by
  unfold below
  rw [List.range_succ, List.filter_append, List.map_append]
  by_cases h : bt s m = true
  · rw [if_pos h]; simp [h]
  · rw [if_neg h]; simp [h]
theorem below_len (s : List Int) (m : Nat) : (below s m).length ≤ m := by
  unfold below
  rw [List.length_map]
  exact Nat.le_trans (List.length_filter_le _ _) (by simp)
theorem below_top (s : List Int) {m : Nat} (h : 64 * s.length ≤ m) : below s m = below s (64 * s.length) := by
  have := walk_const (F := below s) (a := 64 * s.length) (m - 64 * s.length) (fun j h1 _ => by rw [below_succ, bt_out h1]; rfl)
  rwa [show 64 * s.length + (m - 64 * s.length) = m by omega] at this
/-- The numbers of a set. -/
def els (s : List Int) : List Int := ((List.range 4096).filter (inS s)).map fun (n : Nat) => (n : Int)
theorem els_len (s : List Int) : (els s).length ≤ 4096 := by
  unfold els
  rw [List.length_map]
  exact Nat.le_trans (List.length_filter_le _ _) (by simp)
theorem mem_els {s : List Int} {x : Int} : x ∈ els s ↔ 0 ≤ x ∧ inS s x.toNat = true := by
  unfold els
  rw [List.mem_map]
  constructor
  · rintro ⟨n, hn, rfl⟩
    exact ⟨by omega, by rw [Int.toNat_natCast]; exact (List.mem_filter.1 hn).2⟩
  · rintro ⟨h0, h⟩
    refine ⟨x.toNat, List.mem_filter.2 ⟨List.mem_range.2 ?_, h⟩, by omega⟩
    unfold inS at h
    rw [Bool.and_eq_true, decide_eq_true_eq] at h
    exact h.1
theorem below_els {r s : List Int} (hl : r.length ≤ 64) (h : ∀ n, bt r n = inS s n) : below r (64 * r.length) = els s := by
  rw [← below_top r (m := 4096) (by omega)]
  unfold below els
  congr 2
  funext n
  exact h n
end Go.Proofs.Ythcniadbdjoecaa.R
