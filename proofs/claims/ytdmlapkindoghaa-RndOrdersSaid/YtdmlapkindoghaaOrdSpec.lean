/- The plain law of an order that is drawn: what the two programs' exchanges come to. No condition. -/
import Derived.Test.YtdmlapkindoghaaRndSpec
namespace Go.Proofs.Ytdmlapkindoghaa.Rnd
open Go
set_option linter.unusedVariables false
/-- How many numbers of a stream are passed over before one counts. -/
noncomputable def jof (s g n : Int) : Nat := open Classical in if h : ∃ j, Acc n (mixv (st s g (j + 1))) ∧ ∀ i, i < j → ¬ Acc n (mixv (st s g (i + 1))) then Classical.choose h else 0
theorem jof_spec (s g n : Int) (hg : g % 2 = 1) : Acc n (mixv (st s g (jof s g n + 1))) ∧ ∀ i, i < jof s g n → ¬ Acc n (mixv (st s g (i + 1))) := by
  have h := acc_first s g n hg
  unfold jof
  rw [dif_pos h]
  exact Classical.choose_spec h
/-- The number drawn, and the stream behind it. -/
noncomputable def bkN (s g : Int) (m : Nat) : Nat := (IntKind.i64.wrap (Int.tmod (mixv (st s g (jof s g m + 1))) m)).toNat
noncomputable def bs (s g : Int) (m : Nat) : Int := st s g (jof s g m + 1)
theorem bk_eq {m : Nat} (s g : Int) (h0 : 1 ≤ m) (h1 : m ≤ 9223372036854775807) : IntKind.i64.wrap (Int.tmod (mixv (st s g (jof s g m + 1))) m) = (bkN s g m : Int) := by
  have h : 0 ≤ IntKind.i64.wrap (Int.tmod (mixv (st s g (jof s g m + 1))) m) := by
    rw [Int.tmod_eq_emod_of_nonneg (mixv_lo _), i64w]
    have := Int.emod_nonneg (mixv (st s g (jof s g m + 1))) (show (m : Int) ≠ 0 by omega)
    have := Int.emod_lt_of_pos (mixv (st s g (jof s g m + 1))) (show (0 : Int) < m by omega)
    omega
  unfold bkN
  rw [Int.toNat_of_nonneg h]
theorem bk_lt {m : Nat} (s g : Int) (h0 : 1 ≤ m) (h1 : m ≤ 9223372036854775807) : bkN s g m < m := by
  have h := bk_eq s g h0 h1
  rw [Int.tmod_eq_emod_of_nonneg (mixv_lo _), i64w] at h
  have := Int.emod_nonneg (mixv (st s g (jof s g m + 1))) (show (m : Int) ≠ 0 by omega)
  have := Int.emod_lt_of_pos (mixv (st s g (jof s g m + 1))) (show (0 : Int) < m by omega)
  omega
theorem bs_lo (s g : Int) (m : Nat) : 0 ≤ bs s g m := st_lo _ _ _
theorem bs_hi (s g : Int) (m : Nat) : bs s g m < 18446744073709551616 := st_hi _ _ _
/-- The numbers up to k, zeros behind them. -/
def fillL (n k : Nat) : List Int := (List.range n).map fun i => if i < k then (i : Int) else 0
theorem fillL_length (n k : Nat) : (fillL n k).length = n := by simp [fillL]
theorem fillL_zero (n : Nat) : List.replicate n (0 : Int) = fillL n 0 := by
  apply List.ext_getElem
  · simp [fillL]
  · intro i h1 h2; simp [fillL]
theorem fillL_set {n k : Nat} (h : k < n) : (fillL n k).set k (k : Int) = fillL n (k + 1) := by
  apply List.ext_getElem
  · simp [fillL]
  · intro i h1 h2
    simp only [fillL, List.getElem_set, List.getElem_map, List.getElem_range]
    by_cases e : k = i
    · subst e; simp
    · simp only [e, if_false]
      by_cases e2 : i < k
      · simp [e2, Nat.lt_succ_of_lt e2]
      · have : ¬ i < k + 1 := by omega
        simp [e2, this]
/-- t exchanges, from the last place on. -/
noncomputable def sh (s g : Int) (n : Nat) : Nat → List Int × Int
  | 0 => (fillL n n, s)
  | t + 1 => (((sh s g n t).1.set (n - t - 1) ((sh s g n t).1.getD (bkN (sh s g n t).2 g (n - t)) 0)).set (bkN (sh s g n t).2 g (n - t)) ((sh s g n t).1.getD (n - t - 1) 0), bs (sh s g n t).2 g (n - t))
theorem sh_length (s g : Int) (n t : Nat) : (sh s g n t).1.length = n := by
  induction t with
  | zero => exact fillL_length _ _
  | succ t ih => simp [sh, ih]
theorem sh_lo {s g : Int} {n : Nat} (h0 : 0 ≤ s) (h1 : s < 18446744073709551616) (t : Nat) : 0 ≤ (sh s g n t).2 ∧ (sh s g n t).2 < 18446744073709551616 := by
  cases t with
  | zero => exact ⟨h0, h1⟩
  | succ t => exact ⟨bs_lo _ _ _, bs_hi _ _ _⟩
theorem sh_succ (s g : Int) (n t : Nat) : ((sh s g n t).1.set (n - t - 1) ((sh s g n t).1.getD (bkN (sh s g n t).2 g (n - t)) 0)).set (bkN (sh s g n t).2 g (n - t)) ((sh s g n t).1.getD (n - t - 1) 0) = (sh s g n (t + 1)).1 := rfl
theorem sh_succ' (s g : Int) (n t : Nat) : ((sh s g n t).1.set (bkN (sh s g n t).2 g (n - t)) ((sh s g n t).1.getD (n - t - 1) 0)).set (n - t - 1) ((sh s g n t).1.getD (bkN (sh s g n t).2 g (n - t)) 0) = (sh s g n (t + 1)).1 := by
  rw [← sh_succ]
  by_cases e : bkN (sh s g n t).2 g (n - t) = n - t - 1
  · rw [e]
  · rw [List.set_comm _ _ e]
end Go.Proofs.Ytdmlapkindoghaa.Rnd
