/- The plain functions of trees of digests: levels, tops and proofs, by halves and by pairs. No condition. -/
import Derived.Test.YtfihfbkjomploaaPuJoin
namespace Go.Proofs.Ytfihfbkjomploaa.X
open Go Go.RowKit Go.Proofs.Ytfihfbkjomploaa.Sx Go.Proofs.Ytfihfbkjomploaa.Rnd Go.Proofs.Ytfihfbkjomploaa.Sum
set_option linter.unusedVariables false
/-! ### Pairs, levels -/
def pairUp : List Int → List Int
  | a :: b :: l => joinv a b :: pairUp l
  | l => l
theorem pairUp_length : ∀ l : List Int, (pairUp l).length = (l.length + 1) / 2
  | [] => rfl
  | [_] => by simp [pairUp]
  | a :: b :: l => by simp only [pairUp, List.length_cons, pairUp_length l]; omega
theorem pairUp_append : ∀ (l m : List Int), l.length % 2 = 0 → pairUp (l ++ m) = pairUp l ++ pairUp m
  | [], m, _ => rfl
  | [_], m, h => by simp at h
  | a :: b :: l, m, h => by simp only [List.cons_append, pairUp]; rw [pairUp_append l m (by simp only [List.length_cons] at h; omega)]
theorem lv_inner (l : List Int) (hl : l.length ≤ 4096) : ∀ (d k : Nat) (acc : List Int), l.length ≤ 2 * k + d → acc.length ≤ k → k ≤ 4096 →
    loop (σ := (List Int) × Int) (ρ := (List Int)) (fun s_ => merkle_levels_l4 l s_.1 s_.2) (acc, ((2 * k : Nat) : Int)) = some (acc ++ pairUp (l.drop (2 * k))) := by
  intro d
  induction d using Nat.strongRecOn with
  | _ d ih =>
    intro k acc hd ha hk
    by_cases h : 2 * k < l.length
    · have hn : IntKind.i64.wrap (((2 * k : Nat) : Int) + 1) = ((2 * k + 1 : Nat) : Int) := by rw [i64ok (by omega) (by omega)]; omega
      have hn2 : IntKind.i64.wrap (((2 * k : Nat) : Int) + 2) = ((2 * (k + 1) : Nat) : Int) := by rw [i64ok (by omega) (by omega)]; omega
      by_cases h1 : 2 * k + 1 < l.length
      · have hs : merkle_levels_l4 l acc ((2 * k : Nat) : Int) = some (.inl (acc ++ [joinv l[2 * k] l[2 * k + 1]], ((2 * (k + 1) : Nat) : Int))) := by
          unfold merkle_levels_l4
          rw [cnd_dec, if_pos (by omega), hn, cnd_dec, if_pos (by omega), idx_get h, idx_get h1]
          simp only [Option.bind_some, join_eq]
          rw [app_ok (by simp only [List.length_cons, List.length_nil]; omega)]
          simp only [Option.bind_some, merkle_levels_j5, hn2]
        rw [loop_inl (s := (acc, ((2 * k : Nat) : Int))) hs, ih (d - 1) (by omega) (k + 1) _ (by omega) (by simp; omega) (by omega)]
        rw [List.append_assoc, List.drop_eq_getElem_cons h, List.drop_eq_getElem_cons (i := 2 * k + 1) h1]
        rfl
      · have hs : merkle_levels_l4 l acc ((2 * k : Nat) : Int) = some (.inl (acc ++ [l[2 * k]], ((2 * (k + 1) : Nat) : Int))) := by
          unfold merkle_levels_l4
          rw [cnd_dec, if_pos (by omega), hn, cnd_dec, if_neg (by omega), idx_get h]
          simp only [Option.bind_some]
          rw [app_ok (by simp only [List.length_cons, List.length_nil]; omega)]
          simp only [Option.bind_some, merkle_levels_j5, hn2]
        rw [loop_inl (s := (acc, ((2 * k : Nat) : Int))) hs, ih (d - 1) (by omega) (k + 1) _ (by omega) (by simp; omega) (by omega)]
        rw [List.append_assoc, List.drop_eq_getElem_cons h, List.drop_eq_nil_of_le (i := 2 * k + 1) (by omega), List.drop_eq_nil_of_le (by omega)]
        rfl
    · have hs : merkle_levels_l4 l acc ((2 * k : Nat) : Int) = some (.inr acc) := by
        unfold merkle_levels_l4
        rw [cnd_dec, if_neg (by omega)]
      rw [loop_inr (s := (acc, ((2 * k : Nat) : Int))) hs, List.drop_eq_nil_of_le (by omega)]
      simp [pairUp]
/-- The levels above a list. -/
def lv (l : List Int) : List (List Int) := if h : l.length ≤ 1 then [l] else l :: lv (pairUp l)
termination_by l.length
decreasing_by rw [pairUp_length]; omega
theorem lv_one {l : List Int} (h : l.length ≤ 1) : lv l = [l] := by rw [lv, dif_pos h]
theorem lv_more {l : List Int} (h : ¬ l.length ≤ 1) : lv l = l :: lv (pairUp l) := by rw [lv, dif_neg h]
theorem lv_length (l : List Int) : (lv l).length ≤ l.length + 1 ∧ 1 ≤ (lv l).length := by
  induction hn : l.length using Nat.strongRecOn generalizing l with
  | _ n ih =>
    by_cases h : l.length ≤ 1
    · rw [lv_one h]; simp
    · have := ih _ (by rw [← hn, pairUp_length]; omega) (pairUp l) rfl
      rw [lv_more h, List.length_cons]
      rw [pairUp_length] at this
      omega
theorem lv_outer : ∀ (n : Nat) (l : List Int) (acc : List (List Int)), l.length = n → n ≤ 4096 → acc.length ≤ 5000 - n →
    loop (σ := (List (List Int)) × (List Int)) (ρ := (List (List Int))) (fun s_ => merkle_levels_l2 s_.1 s_.2) (acc ++ [l], l) = some (acc ++ lv l) := by
  intro n
  induction n using Nat.strongRecOn with
  | _ n ih =>
    intro l acc hl hn ha
    by_cases h : l.length ≤ 1
    · have hs : merkle_levels_l2 (acc ++ [l]) l = some (.inr (acc ++ [l])) := by
        unfold merkle_levels_l2
        rw [cnd_dec, if_neg (by omega)]
      rw [loop_inr (s := (acc ++ [l], l)) hs, lv_one h]
    · have hs : merkle_levels_l2 (acc ++ [l]) l = some (.inl (acc ++ [l] ++ [pairUp l], pairUp l)) := by
        unfold merkle_levels_l2
        rw [cnd_dec, if_pos (by omega)]
        have := lv_inner l (by omega) l.length 0 [] (by omega) (by simp) (by omega)
        simp only [Nat.mul_zero, List.drop_zero, List.nil_append] at this
        rw [show (0 : Int) = ((0 : Nat) : Int) from rfl, this]
        simp only [Option.bind_some, merkle_levels_j3]
        rw [app_ok (by simp; omega)]
        simp only [Option.bind_some]
      have hp := pairUp_length l
      rw [loop_inl (s := (acc ++ [l], l)) hs, ih (pairUp l).length (by omega) (pairUp l) (acc ++ [l]) rfl (by omega) (by simp; omega), lv_more h, List.append_assoc]
      rfl
theorem levels_eq {l : List Int} (h : l.length ≤ 4096) : merkle_levels l = some (lv l) := by
  unfold merkle_levels
  rw [app_ok (by simp; omega)]
  simp only [Option.bind_some, List.nil_append]
  rw [show idx ([l] : List (List Int)) 0 = some l from rfl]
  simp only [Option.bind_some]
  have := lv_outer l.length l [] rfl h (by simp)
  rw [List.nil_append] at this
  rw [this]; rfl
/-! ### Halves -/
def hf (n : Nat) : Nat := 2 ^ Nat.log2 (n - 1)
theorem hf_ok {n : Nat} (h : 2 ≤ n) : hf n < n ∧ n ≤ 2 * hf n ∧ 1 ≤ hf n := by
  have h1 := Nat.log2_self_le (n := n - 1) (by omega)
  have h2 := Nat.lt_log2_self (n := n - 1)
  have h3 : 1 ≤ 2 ^ Nat.log2 (n - 1) := Nat.one_le_two_pow
  unfold hf
  rw [Nat.pow_succ] at h2
  omega
theorem pow_between {i j n : Nat} (h1 : 2 ^ i < n) (h2 : n ≤ 2 * 2 ^ i) (h3 : 2 ^ j < n) (h4 : n ≤ 2 * 2 ^ j) : i = j := by
  rcases Nat.lt_trichotomy i j with h | h | h
  · have : 2 ^ (i + 1) ≤ 2 ^ j := Nat.pow_le_pow_right (by decide) h
    rw [Nat.pow_succ] at this; omega
  · exact h
  · have : 2 ^ (j + 1) ≤ 2 ^ i := Nat.pow_le_pow_right (by decide) h
    rw [Nat.pow_succ] at this; omega
theorem hf_of {n i : Nat} (h : 2 ≤ n) (h1 : 2 ^ i < n) (h2 : n ≤ 2 * 2 ^ i) : hf n = 2 ^ i := by
  have := hf_ok h
  unfold hf at this ⊢
  rw [pow_between this.1 this.2.1 h1 h2]
theorem hf_half {n : Nat} (h : 3 ≤ n) : hf n = 2 * hf ((n + 1) / 2) := by
  have h1 := hf_ok (n := (n + 1) / 2) (by omega)
  have : hf n = 2 ^ (Nat.log2 ((n + 1) / 2 - 1) + 1) := by
    apply hf_of (by omega)
    · rw [Nat.pow_succ]; unfold hf at h1; omega
    · rw [Nat.pow_succ]; unfold hf at h1; omega
  rw [this, Nat.pow_succ, Nat.mul_comm]; rfl
theorem half_eq {n : Nat} (h : 2 ≤ n) (hn : n ≤ 140737488355328) : tourref1_half (n : Int) = some (hf n : Int) := by
  have key : ∀ (d i : Nat), 2 ^ i < n → n ≤ 2 ^ i + d → loop (σ := Int) (ρ := Int) (fun s_ => tourref1_half_l2 (n : Int) s_) ((2 ^ i : Nat) : Int) = some (hf n : Int) := by
    intro d
    induction d using Nat.strongRecOn with
    | _ d ih =>
      intro i h1 h2
      have hp : 1 ≤ 2 ^ i := Nat.one_le_two_pow
      have w1 : IntKind.i64.wrap (2 * ((2 ^ i : Nat) : Int)) = ((2 ^ (i + 1) : Nat) : Int) := by rw [i64ok (by omega) (by omega), Nat.pow_succ]; omega
      have w2 : IntKind.i64.wrap (((2 ^ i : Nat) : Int) * 2) = ((2 ^ (i + 1) : Nat) : Int) := by rw [i64ok (by omega) (by omega), Nat.pow_succ]; omega
      by_cases hlt : 2 ^ (i + 1) < n
      · have hs : tourref1_half_l2 (n : Int) ((2 ^ i : Nat) : Int) = some (.inl ((2 ^ (i + 1) : Nat) : Int)) := by
          unfold tourref1_half_l2
          rw [w1, w2, cnd_dec, if_pos (by omega)]
        rw [loop_inl (s := ((2 ^ i : Nat) : Int)) hs]
        rw [Nat.pow_succ] at hlt ⊢
        have := ih (d - 2 ^ i) (by omega) (i + 1) (by rw [Nat.pow_succ]; exact hlt) (by rw [Nat.pow_succ]; omega)
        rw [Nat.pow_succ] at this; exact this
      · have hs : tourref1_half_l2 (n : Int) ((2 ^ i : Nat) : Int) = some (.inr ((2 ^ i : Nat) : Int)) := by
          unfold tourref1_half_l2
          rw [w1, cnd_dec, if_neg (by omega)]
        rw [loop_inr (s := ((2 ^ i : Nat) : Int)) hs, hf_of h h1 (by rw [Nat.pow_succ] at hlt; omega)]
  unfold tourref1_half
  have := key n 0 (by simp; omega) (by omega)
  rw [show (1 : Int) = ((2 ^ 0 : Nat) : Int) from rfl, this]; rfl
end Go.Proofs.Ytfihfbkjomploaa.X
