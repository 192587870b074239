/- The plain functions of trees of digests: Top, Root and Narrow. No condition. -/
import Derived.Test.YtfihfbkjomploaaPuMerkle
namespace Go.Proofs.Ytfihfbkjomploaa.X
open Go Go.RowKit Go.Proofs.Ytfihfbkjomploaa.Sx Go.Proofs.Ytfihfbkjomploaa.Rnd Go.Proofs.Ytfihfbkjomploaa.Sum
set_option linter.unusedVariables false
set_option linter.unusedSimpArgs false
/-! ### Tops -/
def top (l : List Int) : Int := if h : l.length ≤ 1 then l.getD 0 0 else joinv (top (l.take (hf l.length))) (top (l.drop (hf l.length)))
termination_by l.length
decreasing_by
  · have := hf_ok (n := l.length) (by omega); rw [List.length_take]; omega
  · have := hf_ok (n := l.length) (by omega); rw [List.length_drop]; omega
theorem top_one {l : List Int} (h : l.length ≤ 1) : top l = l.getD 0 0 := by rw [top, dif_pos h]
theorem top_more {l : List Int} (h : ¬ l.length ≤ 1) : top l = joinv (top (l.take (hf l.length))) (top (l.drop (hf l.length))) := by rw [top, dif_neg h]
theorem top_eqK : ∀ (n : Nat) (l : List Int), l.length = n → n ≤ 17592186044416 → ∀ k, n < k → fixK tourref1_Top_s k l = some (top l) := by
  intro n
  induction n using Nat.strongRecOn with
  | _ n ih =>
    intro l hl hn k hk
    obtain ⟨m, rfl⟩ : ∃ m, k = m + 1 := ⟨k - 1, by omega⟩
    show tourref1_Top_b (fun l => fixK tourref1_Top_s m l) l = _
    unfold tourref1_Top_b
    rw [cnd_beq, cnd_beq]
    by_cases h0 : l.length = 0
    · rw [if_pos (by omega), top_one (by omega)]
      have := List.eq_nil_of_length_eq_zero h0
      subst this; rfl
    · rw [if_neg (by omega)]
      by_cases h1 : l.length = 1
      · rw [if_pos (by omega), top_one (by omega), show (0 : Int) = ((0 : Nat) : Int) from rfl, idx_get (by omega)]
        simp [List.getD, h1]
      · have hh := hf_ok (n := l.length) (by omega)
        rw [if_neg (by omega), half_eq (by omega) (by omega)]
        simp only [Option.bind_some]
        have c1 : cut l 0 (hf l.length : Int) = some (l.take (hf l.length)) := by rw [cut_ok (by omega) (by omega) (by omega)]; simp
        have c2 : cut l (hf l.length : Int) (l.length : Int) = some (l.drop (hf l.length)) := by
          rw [cut_ok (by omega) (by omega) (by omega)]
          simp only [Int.toNat_natCast]
          rw [List.take_of_length_le (by rw [List.length_drop]; omega)]
        rw [c1, c2]
        simp only [Option.bind_some]
        rw [ih (l.take (hf l.length)).length (by rw [List.length_take]; omega) _ rfl (by rw [List.length_take]; omega) m (by rw [List.length_take]; omega)]
        simp only [Option.bind_some]
        rw [ih (l.drop (hf l.length)).length (by rw [List.length_drop]; omega) _ rfl (by rw [List.length_drop]; omega) m (by rw [List.length_drop]; omega)]
        simp only [Option.bind_some]
        rw [tied_eq, top_more (l := l) (by omega)]
        rfl
theorem top_eq {l : List Int} (h : l.length ≤ 17592186044416) : tourref1_Top l = some (top l) := fix_of (l.length + 1) fun k hk => top_eqK l.length l rfl h k (by omega)
/-! ### Places in levels -/
def lvl : Nat → List Int → List Int
  | 0, l => l
  | j + 1, l => pairUp (lvl j l)
theorem lvl_succ (j : Nat) (l : List Int) : lvl (j + 1) l = lvl j (pairUp l) := by
  induction j with
  | zero => rfl
  | succ j ih => show pairUp (lvl (j + 1) l) = pairUp (lvl j (pairUp l)); rw [ih]
theorem lvl_length (j : Nat) (l : List Int) : (lvl j l).length = (l.length + (2 ^ j - 1)) / 2 ^ j := by
  induction j with
  | zero => simp [lvl]
  | succ j ih =>
    show (pairUp (lvl j l)).length = _
    rw [pairUp_length, ih]
    have hp : 1 ≤ 2 ^ j := Nat.one_le_two_pow
    rw [Nat.pow_succ]
    generalize 2 ^ j = a at hp
    rw [← Nat.div_div_eq_div_mul]
    have h1 : (l.length + (a - 1)) / a + 1 = (l.length + (a - 1) + a) / a := by rw [Nat.add_div_right _ (by omega)]
    rw [h1]
    congr 2
    omega
theorem pairUp_get : ∀ (l : List Int) (p : Nat) (x : Int), l[2 * p]? = some x → (pairUp l)[p]? = some (match l[2 * p + 1]? with | some y => joinv x y | none => x)
  | [], p, x, h => by simp at h
  | [a], p, x, h => by
    cases p with
    | zero => simp at h; subst h; simp [pairUp]
    | succ p => simp [Nat.mul_add] at h
  | a :: b :: l, p, x, h => by
    cases p with
    | zero => simp at h; subst h; simp [pairUp]
    | succ p =>
      have e1 : 2 * (p + 1) = 2 * p + 1 + 1 := by omega
      rw [e1, List.getElem?_cons_succ, List.getElem?_cons_succ] at h
      rw [e1, List.getElem?_cons_succ, List.getElem?_cons_succ]
      simp only [pairUp, List.getElem?_cons_succ]
      exact pairUp_get l p x h
def sg (l : List Int) (j p : Nat) : List Int := (l.drop (p * 2 ^ j)).take (2 ^ j)
theorem sg_length (l : List Int) (j p : Nat) : (sg l j p).length = min (2 ^ j) (l.length - p * 2 ^ j) := by unfold sg; rw [List.length_take, List.length_drop]
theorem sg_left (l : List Int) (j p : Nat) : (sg l (j + 1) p).take (2 ^ j) = sg l j (2 * p) := by
  unfold sg
  rw [List.take_take, Nat.pow_succ, Nat.min_eq_left (by omega), show p * (2 ^ j * 2) = 2 * p * 2 ^ j by rw [Nat.mul_comm (2 ^ j) 2, ← Nat.mul_assoc, Nat.mul_comm p 2]]
theorem sg_right (l : List Int) (j p : Nat) : (sg l (j + 1) p).drop (2 ^ j) = sg l j (2 * p + 1) := by
  unfold sg
  rw [List.drop_take, List.drop_drop, Nat.pow_succ, show 2 ^ j * 2 - 2 ^ j = 2 ^ j by omega, show p * (2 ^ j * 2) + 2 ^ j = (2 * p + 1) * 2 ^ j by rw [Nat.add_mul, Nat.mul_comm (2 ^ j) 2, ← Nat.mul_assoc, Nat.mul_comm p 2]; omega]
theorem sg_one (l : List Int) (j p : Nat) (h : (sg l (j + 1) p).length ≤ 2 ^ j) : sg l (j + 1) p = sg l j (2 * p) := by rw [← sg_left, List.take_of_length_le h]
theorem hf_pow {m j : Nat} (h1 : 2 ^ j < m) (h2 : m ≤ 2 ^ (j + 1)) : hf m = 2 ^ j := by
  have : 1 ≤ 2 ^ j := Nat.one_le_two_pow
  exact hf_of (by omega) h1 (by rw [Nat.pow_succ] at h2; omega)
theorem top_sg (l : List Int) (j p : Nat) (h : 2 ^ j < (sg l (j + 1) p).length) : top (sg l (j + 1) p) = joinv (top (sg l j (2 * p))) (top (sg l j (2 * p + 1))) := by
  have hl : (sg l (j + 1) p).length ≤ 2 ^ (j + 1) := by rw [sg_length]; omega
  have : 1 ≤ 2 ^ j := Nat.one_le_two_pow
  rw [top_more (by omega), hf_pow h hl, sg_left, sg_right]
/-- Which of two places a level has. -/
theorem lvl_has (l : List Int) (j p : Nat) : p < (lvl j l).length ↔ p * 2 ^ j < l.length := by
  rw [lvl_length]
  have hp : 1 ≤ 2 ^ j := Nat.one_le_two_pow
  generalize 2 ^ j = a at hp
  rw [Nat.lt_div_iff_mul_lt (by omega)]
  rw [Nat.add_sub_cancel]
theorem lvl_get (l : List Int) : ∀ (j p : Nat), p * 2 ^ j < l.length → (lvl j l)[p]? = some (top (sg l j p)) := by
  intro j
  induction j with
  | zero =>
    intro p hp
    simp only [Nat.pow_zero, Nat.mul_one] at hp
    show l[p]? = _
    have hl : (sg l 0 p).length = 1 := by rw [sg_length]; simp; omega
    rw [top_one (by omega)]
    unfold sg
    simp only [Nat.pow_zero, Nat.mul_one]
    rw [List.getElem?_eq_getElem hp, List.drop_eq_getElem_cons hp]
    simp [hp]
  | succ j ih =>
    intro p hp
    have e : 2 * p * 2 ^ j = p * 2 ^ (j + 1) := by rw [Nat.pow_succ, Nat.mul_comm (2 ^ j) 2, ← Nat.mul_assoc, Nat.mul_comm p 2]
    show (pairUp (lvl j l))[p]? = _
    rw [pairUp_get _ p _ (ih (2 * p) (by omega))]
    have hp1 : 1 ≤ 2 ^ j := Nat.one_le_two_pow
    by_cases h : (2 * p + 1) * 2 ^ j < l.length
    · rw [ih (2 * p + 1) h]
      rw [Nat.add_mul] at h
      rw [top_sg]
      rw [sg_length, Nat.pow_succ]
      rw [Nat.pow_succ] at e
      omega
    · have hn : (lvl j l)[2 * p + 1]? = none := by
        rw [List.getElem?_eq_none]
        have := (lvl_has l j (2 * p + 1)).1
        omega
      rw [hn]
      rw [Nat.add_mul] at h
      rw [sg_one]
      rw [sg_length, Nat.pow_succ]
      rw [Nat.pow_succ] at e
      omega
theorem lv_get : ∀ (n : Nat) (l : List Int), l.length = n → ∀ k, k < (lv l).length → (lv l)[k]? = some (lvl k l) := by
  intro n
  induction n using Nat.strongRecOn with
  | _ n ih =>
    intro l hl k hk
    by_cases h : l.length ≤ 1
    · rw [lv_one h] at hk ⊢
      have : k = 0 := by simp at hk; omega
      subst this; rfl
    · rw [lv_more h] at hk ⊢
      cases k with
      | zero => rfl
      | succ k =>
        rw [List.getElem?_cons_succ, lvl_succ]
        exact ih (pairUp l).length (by rw [pairUp_length]; omega) (pairUp l) rfl k (by simpa using hk)
theorem lv_top : ∀ (n : Nat) (l : List Int), l.length = n → 1 ≤ n → (lvl ((lv l).length - 1) l).length = 1 ∧ l.length ≤ 2 ^ ((lv l).length - 1) := by
  intro n
  induction n using Nat.strongRecOn with
  | _ n ih =>
    intro l hl hn
    by_cases h : l.length ≤ 1
    · rw [lv_one h]; simp [lvl]; omega
    · have hp := pairUp_length l
      have h2 := ih (pairUp l).length (by omega) (pairUp l) rfl (by omega)
      have h3 := (lv_length (pairUp l)).2
      rw [lv_more h, List.length_cons, Nat.add_sub_cancel]
      obtain ⟨m, hm⟩ : ∃ m, (lv (pairUp l)).length = m + 1 := ⟨(lv (pairUp l)).length - 1, by omega⟩
      rw [hm] at h2 ⊢
      rw [Nat.add_sub_cancel] at h2
      rw [lvl_succ, Nat.pow_succ]
      exact ⟨h2.1, by omega⟩
theorem lv_len_eq : ∀ (n : Nat) (l l' : List Int), l.length = n → l'.length = n → (lv l).length = (lv l').length := by
  intro n
  induction n using Nat.strongRecOn with
  | _ n ih =>
    intro l l' hl hl'
    by_cases h : n ≤ 1
    · rw [lv_one (l := l) (by omega), lv_one (l := l') (by omega)]; rfl
    · rw [lv_more (l := l) (by omega), lv_more (l := l') (by omega), List.length_cons, List.length_cons]
      rw [ih ((n + 1) / 2) (by omega) (pairUp l) (pairUp l') (by rw [pairUp_length, hl]) (by rw [pairUp_length, hl'])]
theorem sg_all {l : List Int} {j : Nat} (h : l.length ≤ 2 ^ j) : sg l j 0 = l := by
  unfold sg; rw [Nat.zero_mul, List.drop_zero, List.take_of_length_le h]
/-- The root. -/
theorem root_eq {l : List Int} (h : l.length ≤ 4096) : merkle_Root l = some (top l, 0) := by
  unfold merkle_Root
  rw [cnd_dec, if_neg (by omega), cnd_beq]
  by_cases h0 : l.length = 0
  · rw [if_pos (by omega), top_one (by omega)]
    have := List.eq_nil_of_length_eq_zero h0
    subst this; rfl
  · have ht := lv_top l.length l rfl (by omega)
    have hll := lv_length l
    rw [if_neg (by omega), levels_eq h]
    simp only [Option.bind_some]
    rw [show IntKind.i64.wrap (((lv l).length : Int) - 1) = (((lv l).length - 1 : Nat) : Int) by rw [i64ok (by omega) (by omega)]; omega, idx_nat, lv_get l.length l rfl _ (by omega)]
    simp only [Option.bind_some]
    rw [show (0 : Int) = ((0 : Nat) : Int) from rfl, idx_nat, lvl_get _ _ _ (by omega), sg_all ht.2]
    rfl
end Go.Proofs.Ytfihfbkjomploaa.X
