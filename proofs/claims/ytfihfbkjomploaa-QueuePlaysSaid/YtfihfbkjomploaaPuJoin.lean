/- The plain functions of digests: what Join, Scrambled and Tied come to. No condition. -/
import Derived.Test.YtfihfbkjomploaaPu
import Derived.Test.YtfihfbkjomploaaFnX
namespace Go.Proofs.Ytfihfbkjomploaa.X
open Go Go.RowKit Go.Proofs.Ytfihfbkjomploaa.Sx Go.Proofs.Ytfihfbkjomploaa.Rnd Go.Proofs.Ytfihfbkjomploaa.Sum
set_option linter.unusedVariables false
theorem mix_eq (x : Int) : rnd_Mix x = some (mixv x) := by
  unfold rnd_Mix; simp only [Option.bind_some]; exact congrArg some (mixv_walk x)
theorem join_eq (a b : Int) : sum_Join a b = some (joinv a b) := by
  unfold sum_Join; simp only [mix_eq, Option.bind_some]; rfl
theorem scr_l2 (x : Int) : tourref1_Scrambled_l2 3 x 0 = some (.inl (scr1 x 2147483648 7640891576956012809, 1)) ∧ tourref1_Scrambled_l2 3 x 1 = some (.inl (scr1 x 134217728 13503953896175478587, 2)) ∧ tourref1_Scrambled_l2 3 x 2 = some (.inl (scr1 x 1073741824 1, 3)) ∧ tourref1_Scrambled_l2 3 x 3 = some (.inr x) := ⟨rfl, rfl, rfl, rfl⟩
theorem scr_eq {x : Int} (h0 : 0 ≤ x) (h1 : x < 18446744073709551616) : tourref1_Scrambled x = some (mixv x) := by
  unfold tourref1_Scrambled
  simp only [Option.bind_some]
  have h : loop (σ := Int × Int) (ρ := Int) (fun s_ => tourref1_Scrambled_l2 3 s_.1 s_.2) (x, 0) = some (scrv x) :=
    (loop_inl (scr_l2 x).1).trans ((loop_inl (scr_l2 _).2.1).trans ((loop_inl (scr_l2 _).2.2.1).trans (loop_inr (scr_l2 _).2.2.2)))
  rw [← scrv_eq h0 h1]
  exact congrArg (fun o => o.bind fun e_ => tourref1_Scrambled_j1 e_) h
theorem tied_eq (a b : Int) : tourref1_Tied a b = some (joinv a b) := by
  unfold tourref1_Tied
  rw [scr_eq (w64_lo _) (w64_hi _)]
  simp only [Option.bind_some]
  rw [scr_eq (w64_lo _) (w64_hi _)]; rfl
end Go.Proofs.Ytfihfbkjomploaa.X
