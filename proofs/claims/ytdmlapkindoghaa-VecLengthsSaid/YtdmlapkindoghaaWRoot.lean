/- Walks of fix.Root, fix.Sqrt and the reference's Root. No condition. -/
import Derived.Test.YtdmlapkindoghaaProg
import Derived.Test.YtdmlapkindoghaaSxOps
import Derived.Test.YtdmlapkindoghaaRootSpec
import Derived.Test.YtdmlapkindoghaaWMul
import Derived.Test.YtdmlapkindoghaaWClamp
import Derived.Test.YtdmlapkindoghaaWNat
namespace Go.Proofs.Ytdmlapkindoghaa.WRoot
open Go Go.RowKit Go.Proofs.Ytdmlapkindoghaa.Sx Go.Proofs.Ytdmlapkindoghaa.Rnd Go.Proofs.Ytdmlapkindoghaa.Nats Go.Proofs.Ytdmlapkindoghaa.Trig Go.Proofs.Ytdmlapkindoghaa.Root Go.Proofs.Ytdmlapkindoghaa.WMul Go.Proofs.Ytdmlapkindoghaa.WClamp Go.Proofs.Ytdmlapkindoghaa.WNat
set_option linter.unusedVariables false
set_option linter.unusedSimpArgs false
set_option maxHeartbeats 4000000 in
set_option maxRecDepth 100000 in
theorem Root_calls (hi lo : Int) (w : World) (hi0 : 0 ≤ hi) (hi1 : hi < 18446744073709551616) (lo0 : 0 ≤ lo) (lo1 : lo < 18446744073709551616) : Calls Try.prog 49 #[.int .u64 hi, .int .u64 lo] w fun e w' => e = .returned (.int .u64 ((rootN (num hi lo) : Nat) : Int)) ∧ Below w.heap.size w w' := by
  have hN : num hi lo < 340282366920938463463374607431768211456 := by unfold num; omega
  refine sx_calls Try.func49 rfl (n := 38) (by kernel_rfl) (l := [(0, .int .u64 hi), (1, .int .u64 lo)]) rfl (by rfl) (Mem.nil w) ?_
  refine st_seq ?_
  refine st_region [(0, false)] (by rfl) ?_
  refine ops_run (is := [(0, false)]) (r := []) (l' := [(0, .int .u64 hi), (1, .int .u64 lo)]) [0, 1] (by kernel_rfl) ?_
  refine ops_nil ?_
  refine fin_then ?_
  refine st_seq ?_
  refine st_region [(0, false)] (by rfl) ?_
  refine ops_run (is := [(0, false)]) (r := []) (l' := [(5, .int .u64 0), (0, .int .u64 hi), (1, .int .u64 lo)]) [5, 0, 1] (by kernel_rfl) ?_
  refine ops_nil ?_
  refine fin_then ?_
  refine st_seq ?_
  refine st_seq ?_
  refine st_region [(0, false)] (by rfl) ?_
  refine ops_run (is := [(0, false)]) (r := []) (l' := [(6, .int .u64 9223372036854775808), (5, .int .u64 0), (0, .int .u64 hi), (1, .int .u64 lo)]) [6, 5, 0, 1] (by kernel_rfl) ?_
  refine ops_nil ?_
  refine fin_then ?_
  refine st_block ?_
  refine st_loop (σ := Nat) 0 (fun j => [(6, .int .u64 ((9223372036854775808 / 2 ^ j : Nat) : Int)), (5, .int .u64 ((rootAt (num hi lo) j : Nat) : Int)), (0, .int .u64 hi), (1, .int .u64 lo)]) (fun j => Mem w []) (fun j => j ≤ 64) (fun j => 64 - j) (by exact Nat.zero_le _) (look_has ⟨rfl, rfl, rfl, rfl, trivial⟩) (fun w_ hM => by exact hM) ?_
  rintro j hI
  have hj : j ≤ 64 := hI
  refine st_seq ?_
  refine st_seq ?_
  refine st_region [(0, false), (1, false)] (by rfl) ?_
  refine ops_run (is := [(0, false), (1, false)]) (r := []) (l' := [(11, .bool (decide (0 < ((9223372036854775808 / 2 ^ j : Nat) : Int)))), (6, .int .u64 ((9223372036854775808 / 2 ^ j : Nat) : Int)), (5, .int .u64 ((rootAt (num hi lo) j : Nat) : Int)), (0, .int .u64 hi), (1, .int .u64 lo)]) [11, 6, 5, 0, 1] (by kernel_rfl) ?_
  refine ops_nil ?_
  refine fin_then ?_
  refine st_if (b := decide (0 < ((9223372036854775808 / 2 ^ j : Nat) : Int))) rfl (fun hc1 => ?_) (fun hc1 => ?_)
  · --
    have hspos : 0 < 9223372036854775808 / 2 ^ j := by have := of_decide_eq_true hc1; omega
    have hj64 : j < 64 := Nat.lt_of_not_le fun h => by have := Nat.div_eq_of_lt (Nat.lt_of_lt_of_le (show 9223372036854775808 < 2 ^ 64 by decide) (Nat.pow_le_pow_right (show 0 < 2 by decide) h)); omega
    have hor := or_bit hN hj64
    obtain ⟨hb1, hb2, hb3, hb4⟩ := bits_ok j hj64
    obtain ⟨hr1, hr2, hr3, hr4⟩ := rootAt_ok hN (j := j) (by omega)
    have hxlt : rootAt (num hi lo) j + 9223372036854775808 / 2 ^ j < 18446744073709551616 := by omega
    have hshr : Int.fdiv ((9223372036854775808 / 2 ^ j : Nat) : Int) 2 = ((9223372036854775808 / 2 ^ (j + 1) : Nat) : Int) := by rw [Int.fdiv_eq_ediv_of_nonneg _ (by decide), Nat.pow_succ, ← Nat.div_div_eq_div_mul]; omega
    have hxx : ((rootAt (num hi lo) j + 9223372036854775808 / 2 ^ j : Nat) : Int) * ((rootAt (num hi lo) j + 9223372036854775808 / 2 ^ j : Nat) : Int) = (((((rootAt (num hi lo) j + 9223372036854775808 / 2 ^ j) * (rootAt (num hi lo) j + 9223372036854775808 / 2 ^ j)) : Nat) : Int) : Int) := by simp
    have hNN : hi * 18446744073709551616 + lo = ((num hi lo : Nat) : Int) := by unfold num; omega
    refine st_skip ?_
    refine fin_then ?_
    refine st_seq ?_
    refine st_block ?_
    refine st_seq ?_
    refine st_region [(0, false), (1, false), (2, false), (3, false)] (by rfl) ?_
    refine ops_run (is := [(0, false), (1, false), (2, false)]) (r := [(3, false)]) (l' := [(16, .int .u64 (Go.bits .or .u64 ((rootAt (num hi lo) j : Nat) : Int) ((9223372036854775808 / 2 ^ j : Nat) : Int))), (6, .int .u64 ((9223372036854775808 / 2 ^ j : Nat) : Int)), (5, .int .u64 ((rootAt (num hi lo) j : Nat) : Int)), (0, .int .u64 hi), (1, .int .u64 lo)]) [16, 6, 5, 0, 1] (by kernel_rfl) ?_
    refine ops_conv (l' := [(16, .int .u64 ((rootAt (num hi lo) j + 9223372036854775808 / 2 ^ j : Nat) : Int)), (6, .int .u64 ((9223372036854775808 / 2 ^ j : Nat) : Int)), (5, .int .u64 ((rootAt (num hi lo) j : Nat) : Int)), (0, .int .u64 hi), (1, .int .u64 lo)]) (by rw [hor]) (fun _ h => h) ?_
    refine ops_run (is := [(3, false)]) (r := []) (l' := [(7, .int .u64 ((rootAt (num hi lo) j + 9223372036854775808 / 2 ^ j : Nat) : Int)), (6, .int .u64 ((9223372036854775808 / 2 ^ j : Nat) : Int)), (5, .int .u64 ((rootAt (num hi lo) j : Nat) : Int)), (0, .int .u64 hi), (1, .int .u64 lo)]) [7, 6, 5, 0, 1] (by kernel_rfl) ?_
    refine ops_nil ?_
    refine fin_then ?_
    refine st_seq ?_
    refine st_region [(0, false), (1, false), (2, false), (3, false), (4, false), (5, false), (6, false), (7, false)] (by rfl) ?_
    refine ops_run (is := [(0, false), (1, false)]) (r := [(2, false), (3, false), (4, false), (5, false), (6, false), (7, false)]) (l' := [(19, .int .u64 ((rootAt (num hi lo) j + 9223372036854775808 / 2 ^ j : Nat) : Int)), (18, .int .u64 ((rootAt (num hi lo) j + 9223372036854775808 / 2 ^ j : Nat) : Int)), (7, .int .u64 ((rootAt (num hi lo) j + 9223372036854775808 / 2 ^ j : Nat) : Int)), (6, .int .u64 ((9223372036854775808 / 2 ^ j : Nat) : Int)), (5, .int .u64 ((rootAt (num hi lo) j : Nat) : Int)), (0, .int .u64 hi), (1, .int .u64 lo)]) [19, 18, 7, 6, 5, 0, 1] (by kernel_rfl) ?_
    refine ops_call (σ := Unit) (d := some 20) (f := 50) (args := #[.int .u64 ((rootAt (num hi lo) j + 9223372036854775808 / 2 ^ j : Nat) : Int), .int .u64 ((rootAt (num hi lo) j + 9223372036854775808 / 2 ^ j : Nat) : Int)]) (v := fun _ => .tuple #[.int .u64 (((rootAt (num hi lo) j + 9223372036854775808 / 2 ^ j : Nat) : Int) * ((rootAt (num hi lo) j + 9223372036854775808 / 2 ^ j : Nat) : Int) / 18446744073709551616), .int .u64 (((rootAt (num hi lo) j + 9223372036854775808 / 2 ^ j : Nat) : Int) * ((rootAt (num hi lo) j + 9223372036854775808 / 2 ^ j : Nat) : Int) % 18446744073709551616)]) (M' := fun _ => Mem w []) ⟨by kernel_rfl⟩ (fun w_ hM hS => (Mul64_calls ((rootAt (num hi lo) j + 9223372036854775808 / 2 ^ j : Nat) : Int) ((rootAt (num hi lo) j + 9223372036854775808 / 2 ^ j : Nat) : Int) w_ (by omega) (by omega) (by omega) (by omega)).mono (by rintro e w' ⟨rfl, hb⟩; exact ⟨(), rfl, hM.step hb, trivial⟩)) (fun _ => ?_)
    refine ops_run (is := [(3, false), (4, false), (5, false), (6, false), (7, false)]) (r := []) (l' := [(9, .int .u64 (((rootAt (num hi lo) j + 9223372036854775808 / 2 ^ j : Nat) : Int) * ((rootAt (num hi lo) j + 9223372036854775808 / 2 ^ j : Nat) : Int) % 18446744073709551616)), (8, .int .u64 (((rootAt (num hi lo) j + 9223372036854775808 / 2 ^ j : Nat) : Int) * ((rootAt (num hi lo) j + 9223372036854775808 / 2 ^ j : Nat) : Int) / 18446744073709551616)), (7, .int .u64 ((rootAt (num hi lo) j + 9223372036854775808 / 2 ^ j : Nat) : Int)), (6, .int .u64 ((9223372036854775808 / 2 ^ j : Nat) : Int)), (5, .int .u64 ((rootAt (num hi lo) j : Nat) : Int)), (0, .int .u64 hi), (1, .int .u64 lo)]) [9, 8, 7, 6, 5, 0, 1] (by kernel_rfl) ?_
    refine ops_nil ?_
    refine fin_then ?_
    refine st_seq ?_
    refine st_region [(0, false), (1, false), (2, false), (3, false), (4, false), (5, false), (6, false), (7, false), (8, false), (9, false), (10, false), (11, false), (12, false)] (by rfl) ?_
    refine ops_run (is := [(0, false), (1, false), (2, false), (3, false)]) (r := [(4, false), (5, false), (6, false), (7, false), (8, false), (9, false), (10, false), (11, false), (12, false)]) (l' := [(26, .bool (decide ((((rootAt (num hi lo) j + 9223372036854775808 / 2 ^ j : Nat) : Int) * ((rootAt (num hi lo) j + 9223372036854775808 / 2 ^ j : Nat) : Int) / 18446744073709551616) < hi))), (9, .int .u64 (((rootAt (num hi lo) j + 9223372036854775808 / 2 ^ j : Nat) : Int) * ((rootAt (num hi lo) j + 9223372036854775808 / 2 ^ j : Nat) : Int) % 18446744073709551616)), (8, .int .u64 (((rootAt (num hi lo) j + 9223372036854775808 / 2 ^ j : Nat) : Int) * ((rootAt (num hi lo) j + 9223372036854775808 / 2 ^ j : Nat) : Int) / 18446744073709551616)), (7, .int .u64 ((rootAt (num hi lo) j + 9223372036854775808 / 2 ^ j : Nat) : Int)), (6, .int .u64 ((9223372036854775808 / 2 ^ j : Nat) : Int)), (5, .int .u64 ((rootAt (num hi lo) j : Nat) : Int)), (0, .int .u64 hi), (1, .int .u64 lo)]) [26, 9, 8, 7, 6, 5, 0, 1] (by kernel_rfl) ?_
    refine ops_bool (t := decide ((((rootAt (num hi lo) j + 9223372036854775808 / 2 ^ j : Nat) : Int) * ((rootAt (num hi lo) j + 9223372036854775808 / 2 ^ j : Nat) : Int) / 18446744073709551616) < hi)) (l1 := [(26, .bool true), (9, .int .u64 (((rootAt (num hi lo) j + 9223372036854775808 / 2 ^ j : Nat) : Int) * ((rootAt (num hi lo) j + 9223372036854775808 / 2 ^ j : Nat) : Int) % 18446744073709551616)), (8, .int .u64 (((rootAt (num hi lo) j + 9223372036854775808 / 2 ^ j : Nat) : Int) * ((rootAt (num hi lo) j + 9223372036854775808 / 2 ^ j : Nat) : Int) / 18446744073709551616)), (7, .int .u64 ((rootAt (num hi lo) j + 9223372036854775808 / 2 ^ j : Nat) : Int)), (6, .int .u64 ((9223372036854775808 / 2 ^ j : Nat) : Int)), (5, .int .u64 ((rootAt (num hi lo) j : Nat) : Int)), (0, .int .u64 hi), (1, .int .u64 lo)]) (l2 := [(26, .bool false), (9, .int .u64 (((rootAt (num hi lo) j + 9223372036854775808 / 2 ^ j : Nat) : Int) * ((rootAt (num hi lo) j + 9223372036854775808 / 2 ^ j : Nat) : Int) % 18446744073709551616)), (8, .int .u64 (((rootAt (num hi lo) j + 9223372036854775808 / 2 ^ j : Nat) : Int) * ((rootAt (num hi lo) j + 9223372036854775808 / 2 ^ j : Nat) : Int) / 18446744073709551616)), (7, .int .u64 ((rootAt (num hi lo) j + 9223372036854775808 / 2 ^ j : Nat) : Int)), (6, .int .u64 ((9223372036854775808 / 2 ^ j : Nat) : Int)), (5, .int .u64 ((rootAt (num hi lo) j : Nat) : Int)), (0, .int .u64 hi), (1, .int .u64 lo)]) (fun h => by rw [h]) (fun h => by rw [h]) (fun hc2 => ?_) (fun hc2 => ?_)
    · --decide ((((rootAt (num hi lo) j + 9223372036854775808 / 2 ^ 
      refine ops_run (is := [(4, false), (5, false), (6, false), (7, false), (8, false), (9, false), (10, false), (11, false), (12, false)]) (r := []) (l' := [(35, .bool true), (7, .int .u64 ((rootAt (num hi lo) j + 9223372036854775808 / 2 ^ j : Nat) : Int)), (6, .int .u64 ((9223372036854775808 / 2 ^ j : Nat) : Int)), (5, .int .u64 ((rootAt (num hi lo) j : Nat) : Int)), (0, .int .u64 hi), (1, .int .u64 lo)]) [35, 7, 6, 5, 0, 1] (by kernel_rfl) ?_
      refine ops_nil ?_
      refine fin_then ?_
      refine st_true rfl ?_
      refine st_region [(0, false), (1, false)] (by rfl) ?_
      refine ops_run (is := [(0, false), (1, false)]) (r := []) (l' := [(5, .int .u64 ((rootAt (num hi lo) j + 9223372036854775808 / 2 ^ j : Nat) : Int)), (6, .int .u64 ((9223372036854775808 / 2 ^ j : Nat) : Int)), (0, .int .u64 hi), (1, .int .u64 lo)]) [5, 6, 0, 1] (by kernel_rfl) ?_
      refine ops_nil ?_
      refine fin_block ?_
      refine fin_then ?_
      refine st_region [(0, false), (1, false), (2, false)] (by rfl) ?_
      refine ops_run (is := [(0, false), (1, false)]) (r := [(2, false)]) (l' := [(13, .int .u64 (Int.fdiv ((9223372036854775808 / 2 ^ j : Nat) : Int) 2)), (5, .int .u64 ((rootAt (num hi lo) j + 9223372036854775808 / 2 ^ j : Nat) : Int)), (6, .int .u64 ((9223372036854775808 / 2 ^ j : Nat) : Int)), (0, .int .u64 hi), (1, .int .u64 lo)]) [13, 5, 6, 0, 1] (by kernel_rfl) ?_
      refine ops_conv (l' := [(13, .int .u64 ((9223372036854775808 / 2 ^ (j + 1) : Nat) : Int)), (5, .int .u64 ((rootAt (num hi lo) j + 9223372036854775808 / 2 ^ j : Nat) : Int)), (6, .int .u64 ((9223372036854775808 / 2 ^ j : Nat) : Int)), (0, .int .u64 hi), (1, .int .u64 lo)]) (by rw [hshr]) (fun _ h => h) ?_
      refine ops_run (is := [(2, false)]) (r := []) (l' := [(6, .int .u64 ((9223372036854775808 / 2 ^ (j + 1) : Nat) : Int)), (5, .int .u64 ((rootAt (num hi lo) j + 9223372036854775808 / 2 ^ j : Nat) : Int)), (0, .int .u64 hi), (1, .int .u64 lo)]) [6, 5, 0, 1] (by kernel_rfl) ?_
      refine ops_nil ?_
      have hnext : rootAt (num hi lo) (j + 1) = rootAt (num hi lo) j + 9223372036854775808 / 2 ^ j := by
        refine if_pos ?_
        have := of_decide_eq_true hc1
        have := of_decide_eq_true hc2
        simp only [hxx] at *
        generalize ((rootAt (num hi lo) j + 9223372036854775808 / 2 ^ j) * (rootAt (num hi lo) j + 9223372036854775808 / 2 ^ j)) = q at *
        omega
      refine fin_conv (l' := [(6, .int .u64 ((9223372036854775808 / 2 ^ (j + 1) : Nat) : Int)), (5, .int .u64 ((rootAt (num hi lo) (j + 1) : Nat) : Int)), (0, .int .u64 hi), (1, .int .u64 lo)]) (M' := Mem w []) (by rw [hnext]) (fun w_ hM => hM) ?_
      refine fin_round (j + 1) (by show j + 1 ≤ 64; omega) (by (show 64 - (j + 1) < 64 - j; omega)) (look_has ⟨rfl, rfl, rfl, rfl, trivial⟩) (fun w_ hM => by exact hM)
    · --decide ((((rootAt (num hi lo) j + 9223372036854775808 / 2 ^ 
      refine ops_run (is := [(4, false), (5, false), (6, false), (7, false)]) (r := [(8, false), (9, false), (10, false), (11, false), (12, false)]) (l' := [(30, .bool ((((rootAt (num hi lo) j + 9223372036854775808 / 2 ^ j : Nat) : Int) * ((rootAt (num hi lo) j + 9223372036854775808 / 2 ^ j : Nat) : Int) / 18446744073709551616) == hi)), (26, .bool false), (9, .int .u64 (((rootAt (num hi lo) j + 9223372036854775808 / 2 ^ j : Nat) : Int) * ((rootAt (num hi lo) j + 9223372036854775808 / 2 ^ j : Nat) : Int) % 18446744073709551616)), (7, .int .u64 ((rootAt (num hi lo) j + 9223372036854775808 / 2 ^ j : Nat) : Int)), (6, .int .u64 ((9223372036854775808 / 2 ^ j : Nat) : Int)), (5, .int .u64 ((rootAt (num hi lo) j : Nat) : Int)), (0, .int .u64 hi), (1, .int .u64 lo)]) [30, 26, 9, 7, 6, 5, 0, 1] (by kernel_rfl) ?_
      refine ops_bool (t := ((((rootAt (num hi lo) j + 9223372036854775808 / 2 ^ j : Nat) : Int) * ((rootAt (num hi lo) j + 9223372036854775808 / 2 ^ j : Nat) : Int) / 18446744073709551616) == hi)) (l1 := [(30, .bool true), (26, .bool false), (9, .int .u64 (((rootAt (num hi lo) j + 9223372036854775808 / 2 ^ j : Nat) : Int) * ((rootAt (num hi lo) j + 9223372036854775808 / 2 ^ j : Nat) : Int) % 18446744073709551616)), (7, .int .u64 ((rootAt (num hi lo) j + 9223372036854775808 / 2 ^ j : Nat) : Int)), (6, .int .u64 ((9223372036854775808 / 2 ^ j : Nat) : Int)), (5, .int .u64 ((rootAt (num hi lo) j : Nat) : Int)), (0, .int .u64 hi), (1, .int .u64 lo)]) (l2 := [(30, .bool false), (26, .bool false), (9, .int .u64 (((rootAt (num hi lo) j + 9223372036854775808 / 2 ^ j : Nat) : Int) * ((rootAt (num hi lo) j + 9223372036854775808 / 2 ^ j : Nat) : Int) % 18446744073709551616)), (7, .int .u64 ((rootAt (num hi lo) j + 9223372036854775808 / 2 ^ j : Nat) : Int)), (6, .int .u64 ((9223372036854775808 / 2 ^ j : Nat) : Int)), (5, .int .u64 ((rootAt (num hi lo) j : Nat) : Int)), (0, .int .u64 hi), (1, .int .u64 lo)]) (fun h => by rw [h]) (fun h => by rw [h]) (fun hc3 => ?_) (fun hc3 => ?_)
      · --((((rootAt (num hi lo) j + 9223372036854775808 / 2 ^ j : Nat
        refine ops_run (is := [(8, false), (9, false), (10, false), (11, false), (12, false)]) (r := []) (l' := [(35, .bool (decide ((((rootAt (num hi lo) j + 9223372036854775808 / 2 ^ j : Nat) : Int) * ((rootAt (num hi lo) j + 9223372036854775808 / 2 ^ j : Nat) : Int) % 18446744073709551616) ≤ lo))), (7, .int .u64 ((rootAt (num hi lo) j + 9223372036854775808 / 2 ^ j : Nat) : Int)), (6, .int .u64 ((9223372036854775808 / 2 ^ j : Nat) : Int)), (5, .int .u64 ((rootAt (num hi lo) j : Nat) : Int)), (0, .int .u64 hi), (1, .int .u64 lo)]) [35, 7, 6, 5, 0, 1] (by kernel_rfl) ?_
        refine ops_nil ?_
        refine fin_then ?_
        refine st_if (b := decide ((((rootAt (num hi lo) j + 9223372036854775808 / 2 ^ j : Nat) : Int) * ((rootAt (num hi lo) j + 9223372036854775808 / 2 ^ j : Nat) : Int) % 18446744073709551616) ≤ lo)) rfl (fun hc4 => ?_) (fun hc4 => ?_)
        · --
          refine st_region [(0, false), (1, false)] (by rfl) ?_
          refine ops_run (is := [(0, false), (1, false)]) (r := []) (l' := [(5, .int .u64 ((rootAt (num hi lo) j + 9223372036854775808 / 2 ^ j : Nat) : Int)), (6, .int .u64 ((9223372036854775808 / 2 ^ j : Nat) : Int)), (0, .int .u64 hi), (1, .int .u64 lo)]) [5, 6, 0, 1] (by kernel_rfl) ?_
          refine ops_nil ?_
          refine fin_block ?_
          refine fin_then ?_
          refine st_region [(0, false), (1, false), (2, false)] (by rfl) ?_
          refine ops_run (is := [(0, false), (1, false)]) (r := [(2, false)]) (l' := [(13, .int .u64 (Int.fdiv ((9223372036854775808 / 2 ^ j : Nat) : Int) 2)), (5, .int .u64 ((rootAt (num hi lo) j + 9223372036854775808 / 2 ^ j : Nat) : Int)), (6, .int .u64 ((9223372036854775808 / 2 ^ j : Nat) : Int)), (0, .int .u64 hi), (1, .int .u64 lo)]) [13, 5, 6, 0, 1] (by kernel_rfl) ?_
          refine ops_conv (l' := [(13, .int .u64 ((9223372036854775808 / 2 ^ (j + 1) : Nat) : Int)), (5, .int .u64 ((rootAt (num hi lo) j + 9223372036854775808 / 2 ^ j : Nat) : Int)), (6, .int .u64 ((9223372036854775808 / 2 ^ j : Nat) : Int)), (0, .int .u64 hi), (1, .int .u64 lo)]) (by rw [hshr]) (fun _ h => h) ?_
          refine ops_run (is := [(2, false)]) (r := []) (l' := [(6, .int .u64 ((9223372036854775808 / 2 ^ (j + 1) : Nat) : Int)), (5, .int .u64 ((rootAt (num hi lo) j + 9223372036854775808 / 2 ^ j : Nat) : Int)), (0, .int .u64 hi), (1, .int .u64 lo)]) [6, 5, 0, 1] (by kernel_rfl) ?_
          refine ops_nil ?_
          have hnext : rootAt (num hi lo) (j + 1) = rootAt (num hi lo) j + 9223372036854775808 / 2 ^ j := by
            refine if_pos ?_
            have := of_decide_eq_true hc1
            have := of_decide_eq_false hc2
            have := beq_iff_eq.1 hc3
            have := of_decide_eq_true hc4
            simp only [hxx] at *
            generalize ((rootAt (num hi lo) j + 9223372036854775808 / 2 ^ j) * (rootAt (num hi lo) j + 9223372036854775808 / 2 ^ j)) = q at *
            omega
          refine fin_conv (l' := [(6, .int .u64 ((9223372036854775808 / 2 ^ (j + 1) : Nat) : Int)), (5, .int .u64 ((rootAt (num hi lo) (j + 1) : Nat) : Int)), (0, .int .u64 hi), (1, .int .u64 lo)]) (M' := Mem w []) (by rw [hnext]) (fun w_ hM => hM) ?_
          refine fin_round (j + 1) (by show j + 1 ≤ 64; omega) (by (show 64 - (j + 1) < 64 - j; omega)) (look_has ⟨rfl, rfl, rfl, rfl, trivial⟩) (fun w_ hM => by exact hM)
        · --
          refine st_skip ?_
          refine fin_block ?_
          refine fin_then ?_
          refine st_region [(0, false), (1, false), (2, false)] (by rfl) ?_
          refine ops_run (is := [(0, false), (1, false)]) (r := [(2, false)]) (l' := [(13, .int .u64 (Int.fdiv ((9223372036854775808 / 2 ^ j : Nat) : Int) 2)), (6, .int .u64 ((9223372036854775808 / 2 ^ j : Nat) : Int)), (5, .int .u64 ((rootAt (num hi lo) j : Nat) : Int)), (0, .int .u64 hi), (1, .int .u64 lo)]) [13, 6, 5, 0, 1] (by kernel_rfl) ?_
          refine ops_conv (l' := [(13, .int .u64 ((9223372036854775808 / 2 ^ (j + 1) : Nat) : Int)), (6, .int .u64 ((9223372036854775808 / 2 ^ j : Nat) : Int)), (5, .int .u64 ((rootAt (num hi lo) j : Nat) : Int)), (0, .int .u64 hi), (1, .int .u64 lo)]) (by rw [hshr]) (fun _ h => h) ?_
          refine ops_run (is := [(2, false)]) (r := []) (l' := [(6, .int .u64 ((9223372036854775808 / 2 ^ (j + 1) : Nat) : Int)), (5, .int .u64 ((rootAt (num hi lo) j : Nat) : Int)), (0, .int .u64 hi), (1, .int .u64 lo)]) [6, 5, 0, 1] (by kernel_rfl) ?_
          refine ops_nil ?_
          have hnext : rootAt (num hi lo) (j + 1) = rootAt (num hi lo) j := by
            refine if_neg ?_
            have := of_decide_eq_true hc1
            have := of_decide_eq_false hc2
            have := beq_iff_eq.1 hc3
            have := of_decide_eq_false hc4
            simp only [hxx] at *
            generalize ((rootAt (num hi lo) j + 9223372036854775808 / 2 ^ j) * (rootAt (num hi lo) j + 9223372036854775808 / 2 ^ j)) = q at *
            omega
          refine fin_conv (l' := [(6, .int .u64 ((9223372036854775808 / 2 ^ (j + 1) : Nat) : Int)), (5, .int .u64 ((rootAt (num hi lo) (j + 1) : Nat) : Int)), (0, .int .u64 hi), (1, .int .u64 lo)]) (M' := Mem w []) (by rw [hnext]) (fun w_ hM => hM) ?_
          refine fin_round (j + 1) (by show j + 1 ≤ 64; omega) (by (show 64 - (j + 1) < 64 - j; omega)) (look_has ⟨rfl, rfl, rfl, rfl, trivial⟩) (fun w_ hM => by exact hM)
      · --((((rootAt (num hi lo) j + 9223372036854775808 / 2 ^ j : Nat
        refine ops_run (is := [(8, false), (9, false), (10, false), (11, false), (12, false)]) (r := []) (l' := [(35, .bool false), (7, .int .u64 ((rootAt (num hi lo) j + 9223372036854775808 / 2 ^ j : Nat) : Int)), (6, .int .u64 ((9223372036854775808 / 2 ^ j : Nat) : Int)), (5, .int .u64 ((rootAt (num hi lo) j : Nat) : Int)), (0, .int .u64 hi), (1, .int .u64 lo)]) [35, 7, 6, 5, 0, 1] (by kernel_rfl) ?_
        refine ops_nil ?_
        refine fin_then ?_
        refine st_false rfl ?_
        refine st_skip ?_
        refine fin_block ?_
        refine fin_then ?_
        refine st_region [(0, false), (1, false), (2, false)] (by rfl) ?_
        refine ops_run (is := [(0, false), (1, false)]) (r := [(2, false)]) (l' := [(13, .int .u64 (Int.fdiv ((9223372036854775808 / 2 ^ j : Nat) : Int) 2)), (6, .int .u64 ((9223372036854775808 / 2 ^ j : Nat) : Int)), (5, .int .u64 ((rootAt (num hi lo) j : Nat) : Int)), (0, .int .u64 hi), (1, .int .u64 lo)]) [13, 6, 5, 0, 1] (by kernel_rfl) ?_
        refine ops_conv (l' := [(13, .int .u64 ((9223372036854775808 / 2 ^ (j + 1) : Nat) : Int)), (6, .int .u64 ((9223372036854775808 / 2 ^ j : Nat) : Int)), (5, .int .u64 ((rootAt (num hi lo) j : Nat) : Int)), (0, .int .u64 hi), (1, .int .u64 lo)]) (by rw [hshr]) (fun _ h => h) ?_
        refine ops_run (is := [(2, false)]) (r := []) (l' := [(6, .int .u64 ((9223372036854775808 / 2 ^ (j + 1) : Nat) : Int)), (5, .int .u64 ((rootAt (num hi lo) j : Nat) : Int)), (0, .int .u64 hi), (1, .int .u64 lo)]) [6, 5, 0, 1] (by kernel_rfl) ?_
        refine ops_nil ?_
        have hnext : rootAt (num hi lo) (j + 1) = rootAt (num hi lo) j := by
          refine if_neg ?_
          have := of_decide_eq_true hc1
          have := of_decide_eq_false hc2
          have := beq_eq_false_iff_ne.1 hc3
          simp only [hxx] at *
          generalize ((rootAt (num hi lo) j + 9223372036854775808 / 2 ^ j) * (rootAt (num hi lo) j + 9223372036854775808 / 2 ^ j)) = q at *
          omega
        refine fin_conv (l' := [(6, .int .u64 ((9223372036854775808 / 2 ^ (j + 1) : Nat) : Int)), (5, .int .u64 ((rootAt (num hi lo) (j + 1) : Nat) : Int)), (0, .int .u64 hi), (1, .int .u64 lo)]) (M' := Mem w []) (by rw [hnext]) (fun w_ hM => hM) ?_
        refine fin_round (j + 1) (by show j + 1 ≤ 64; omega) (by (show 64 - (j + 1) < 64 - j; omega)) (look_has ⟨rfl, rfl, rfl, rfl, trivial⟩) (fun w_ hM => by exact hM)
  · --
    have hend : j = 64 := by have h0 := of_decide_eq_false hc1; have h1 : ¬ j < 64 := fun h => absurd (bits_ok j h).2.2.1 (by omega); omega
    refine st_exit ?_
    refine fin_exit_then ?_
    refine fin_exit_then ?_
    refine fin_exit ?_
    refine fin_then ?_
    refine st_seq ?_
    refine st_region [(0, false), (1, false)] (by rfl) ?_
    refine ops_run (is := [(0, false), (1, false)]) (r := []) (l' := [(4, .int .u64 ((rootAt (num hi lo) j : Nat) : Int))]) [4] (by kernel_rfl) ?_
    refine ops_nil ?_
    refine fin_then ?_
    refine st_ret ?_
    refine fin_ret [.tmp 4] [.int .u64 ((rootAt (num hi lo) j : Nat) : Int)] rfl rfl (fun w_ hM => (.tmp rfl .nil)) (fun w_ hM => ?_)
    refine ⟨?_, hM.done⟩
    rw [hend]
    rfl
def sqrtV (a : Int) : Int := if 0 < min (max a (-1099511627776)) 1099511627776 then ((rootN (min (max a (-1099511627776)) 1099511627776 * 65536).toNat : Nat) : Int) else 0
theorem num_zero (x : Int) : num 0 x = x.toNat := by unfold num; simp
theorem root_small {n : Nat} (h : n ≤ 72057594037927936) : rootN n ≤ 268435456 := by
  apply Nat.le_of_not_lt
  intro hlt
  have h1 := (rootN_ok (n := n) (by omega)).1
  have h2 := Nat.mul_le_mul (show 268435457 ≤ rootN n from hlt) (show 268435457 ≤ rootN n from hlt)
  omega
set_option maxHeartbeats 4000000 in
set_option maxRecDepth 100000 in
theorem Sqrt_calls (a : Int) (w : World) : Calls Try.prog 48 #[.int .i64 a] w fun e w' => e = .returned (.int .i64 (sqrtV a)) ∧ Below w.heap.size w w' := by
  refine sx_calls Try.func48 rfl (n := 12) (by kernel_rfl) (l := [(0, .int .i64 a)]) rfl (by rfl) (Mem.nil w) ?_
  refine st_seq ?_
  refine st_region [(0, false)] (by rfl) ?_
  refine ops_run (is := [(0, false)]) (r := []) (l' := [(0, .int .i64 a)]) [0] (by kernel_rfl) ?_
  refine ops_nil ?_
  refine fin_then ?_
  refine st_seq ?_
  refine st_region [(0, false), (1, false), (2, false)] (by rfl) ?_
  refine ops_run (is := [(0, false)]) (r := [(1, false), (2, false)]) (l' := [(3, .int .i64 a), (0, .int .i64 a)]) [3, 0] (by kernel_rfl) ?_
  refine ops_call (σ := Unit) (d := some 4) (f := 82) (args := #[.int .i64 a]) (v := fun _ => .int .i64 (min (max a (-1099511627776)) 1099511627776)) (M' := fun _ => Mem w []) ⟨by kernel_rfl⟩ (fun w_ hM hS => (Clamp_calls a w_).mono (by rintro e w' ⟨rfl, hb⟩; exact ⟨(), rfl, hM.step hb, trivial⟩)) (fun _ => ?_)
  refine ops_run (is := [(2, false)]) (r := []) (l' := [(0, .int .i64 (min (max a (-1099511627776)) 1099511627776))]) [0] (by kernel_rfl) ?_
  refine ops_nil ?_
  refine fin_then ?_
  refine st_seq ?_
  refine st_seq ?_
  refine st_region [(0, false), (1, false)] (by rfl) ?_
  refine ops_run (is := [(0, false), (1, false)]) (r := []) (l' := [(6, .bool (decide (min (max a (-1099511627776)) 1099511627776 ≤ 0))), (0, .int .i64 (min (max a (-1099511627776)) 1099511627776))]) [6, 0] (by kernel_rfl) ?_
  refine ops_nil ?_
  refine fin_then ?_
  refine st_if (b := decide (min (max a (-1099511627776)) 1099511627776 ≤ 0)) rfl (fun hc1 => ?_) (fun hc1 => ?_)
  · --
    refine st_seq ?_
    refine st_region [(0, false)] (by rfl) ?_
    refine ops_run (is := [(0, false)]) (r := []) (l' := [(2, .int .i64 0)]) [2] (by kernel_rfl) ?_
    refine ops_nil ?_
    refine fin_then ?_
    refine st_ret ?_
    refine fin_ret_then ?_
    refine fin_ret [.tmp 2] [.int .i64 0] rfl rfl (fun w_ hM => (.tmp rfl .nil)) (fun w_ hM => ?_)
    refine ⟨?_, hM.done⟩
    have := of_decide_eq_true hc1
    exact congrArg (fun z => Ending.returned (.int .i64 z)) (if_neg (by omega)).symm
  · --
    have hpos : 0 < min (max a (-1099511627776)) 1099511627776 := by have := of_decide_eq_false hc1; omega
    have hm : min (max a (-1099511627776)) 1099511627776 ≤ 1099511627776 := by omega
    have hw1 : IntKind.u64.wrap (min (max a (-1099511627776)) 1099511627776) = min (max a (-1099511627776)) 1099511627776 := w64_in (by omega) (by omega)
    have hw2 : IntKind.u64.wrap ((min (max a (-1099511627776)) 1099511627776) * 65536) = (min (max a (-1099511627776)) 1099511627776) * 65536 := w64_in (by omega) (by omega)
    have hw3 : IntKind.i64.wrap ((rootN (num 0 ((min (max a (-1099511627776)) 1099511627776) * 65536)) : Nat) : Int) = ((rootN (num 0 ((min (max a (-1099511627776)) 1099511627776) * 65536)) : Nat) : Int) := by have := root_small (n := num 0 ((min (max a (-1099511627776)) 1099511627776) * 65536)) (by rw [num_zero]; omega); exact i64in (by omega) (by omega)
    refine st_skip ?_
    refine fin_then ?_
    refine st_seq ?_
    refine st_region [(0, false), (1, false), (2, false), (3, false), (4, false), (5, false)] (by rfl) ?_
    refine ops_run (is := [(0, false), (1, false)]) (r := [(2, false), (3, false), (4, false), (5, false)]) (l' := [(8, .int .u64 (IntKind.u64.wrap (min (max a (-1099511627776)) 1099511627776)))]) [8] (by kernel_rfl) ?_
    refine ops_conv (l' := [(8, .int .u64 (min (max a (-1099511627776)) 1099511627776))]) (by rw [hw1]) (fun _ h => h) ?_
    refine ops_run (is := [(2, false)]) (r := [(3, false), (4, false), (5, false)]) (l' := [(9, .int .u64 (IntKind.u64.wrap ((min (max a (-1099511627776)) 1099511627776) * 65536)))]) [9] (by kernel_rfl) ?_
    refine ops_conv (l' := [(9, .int .u64 ((min (max a (-1099511627776)) 1099511627776) * 65536))]) (by rw [hw2]) (fun _ h => h) ?_
    refine ops_call (σ := Unit) (d := some 10) (f := 49) (args := #[.int .u64 0, .int .u64 ((min (max a (-1099511627776)) 1099511627776) * 65536)]) (v := fun _ => .int .u64 ((rootN (num 0 ((min (max a (-1099511627776)) 1099511627776) * 65536)) : Nat) : Int)) (M' := fun _ => Mem w []) ⟨by kernel_rfl⟩ (fun w_ hM hS => (Root_calls 0 ((min (max a (-1099511627776)) 1099511627776) * 65536) w_ (by omega) (by omega) (by omega) (by omega)).mono (by rintro e w' ⟨rfl, hb⟩; exact ⟨(), rfl, hM.step hb, trivial⟩)) (fun _ => ?_)
    refine ops_run (is := [(4, false)]) (r := [(5, false)]) (l' := [(11, .int .i64 (IntKind.i64.wrap ((rootN (num 0 ((min (max a (-1099511627776)) 1099511627776) * 65536)) : Nat) : Int)))]) [11] (by kernel_rfl) ?_
    refine ops_conv (l' := [(11, .int .i64 ((rootN (num 0 ((min (max a (-1099511627776)) 1099511627776) * 65536)) : Nat) : Int))]) (by rw [hw3]) (fun _ h => h) ?_
    refine ops_run (is := [(5, false)]) (r := []) (l' := [(2, .int .i64 ((rootN (num 0 ((min (max a (-1099511627776)) 1099511627776) * 65536)) : Nat) : Int))]) [2] (by kernel_rfl) ?_
    refine ops_nil ?_
    refine fin_then ?_
    refine st_ret ?_
    refine fin_ret [.tmp 2] [.int .i64 ((rootN (num 0 ((min (max a (-1099511627776)) 1099511627776) * 65536)) : Nat) : Int)] rfl rfl (fun w_ hM => (.tmp rfl .nil)) (fun w_ hM => ?_)
    refine ⟨?_, hM.done⟩
    have := of_decide_eq_false hc1
    rw [num_zero]
    exact congrArg (fun z => Ending.returned (.int .i64 z)) (if_pos (by omega)).symm
set_option maxHeartbeats 4000000 in
set_option maxRecDepth 100000 in
theorem Root1_calls (n c : Int) (p1 : Addr) (w : World) (h1 : w.cell? p1 = some (.int .i64 c)) (hn0 : 0 < n) (hn1 : n ≤ 1073741824) (hc : c ≤ 1099511627776) (hc9 : -1099511627776 ≤ c) : Calls Try.prog 84 #[.int .i64 n, .pointer (some (p1))] w fun e w' => e = .returned (.bool (decide (0 < c ∧ n * n ≤ c * 65536))) ∧ Below w.heap.size w w' := by
  have hnn : n * n ≤ 1073741824 * 1073741824 := Int.mul_le_mul hn1 hn1 (by omega) (by omega)
  have hnn0 : 0 ≤ n * n := Int.mul_nonneg (by omega) (by omega)
  refine sx_calls Try.func84 rfl (n := 14) (by kernel_rfl) (l := [(0, .int .i64 n), (1, .pointer (some (p1)))]) rfl (by rfl) (Mem.nil w) ?_
  refine st_seq ?_
  refine st_region [(0, false)] (by rfl) ?_
  refine ops_run (is := [(0, false)]) (r := []) (l' := [(0, .int .i64 n), (1, .pointer (some (p1)))]) [0, 1] (by kernel_rfl) ?_
  refine ops_nil ?_
  refine fin_then ?_
  refine st_seq ?_
  refine st_region [(0, false), (1, false), (2, false), (3, false), (4, false), (5, false), (6, false), (7, false), (8, false), (9, false), (10, false)] (by rfl) ?_
  refine ops_mem (d := some 4) (an := [.v (.int .i64 c)]) (evs := [.load (p1) (.int .i64 c)]) (v := .int .i64 c) (M' := Mem w []) ⟨by kernel_rfl⟩ (fun w_ hM hS => ⟨w_, ⟨hM.oldcell h1, rfl⟩, hM, trivial⟩) ?_
  refine ops_run (is := [(1, false), (2, false)]) (r := [(3, false), (4, false), (5, false), (6, false), (7, false), (8, false), (9, false), (10, false)]) (l' := [(6, .bool (decide (0 < c))), (0, .int .i64 n), (1, .pointer (some (p1)))]) [6, 0, 1] (by kernel_rfl) ?_
  refine ops_bool (t := decide (0 < c)) (l1 := [(6, .bool true), (0, .int .i64 n), (1, .pointer (some (p1)))]) (l2 := [(6, .bool false), (0, .int .i64 n), (1, .pointer (some (p1)))]) (fun h => by rw [h]) (fun h => by rw [h]) (fun hc1 => ?_) (fun hc1 => ?_)
  · --decide (0 < c)
    refine ops_run (is := [(3, false), (4, false), (5, false)]) (r := [(6, false), (7, false), (8, false), (9, false), (10, false)]) (l' := [(9, .int .i64 (IntKind.i64.wrap (n * n))), (6, .bool true), (1, .pointer (some (p1)))]) [9, 6, 1] (by kernel_rfl) ?_
    refine ops_conv (l' := [(9, .int .i64 (n * n)), (6, .bool true), (1, .pointer (some (p1)))]) (by rw [(i64in (x := n * n) (by omega) (by omega))]) (fun _ h => h) ?_
    refine ops_mem (d := some 10) (an := [.v (.int .i64 c)]) (evs := [.load (p1) (.int .i64 c)]) (v := .int .i64 c) (M' := Mem w []) ⟨by kernel_rfl⟩ (fun w_ hM hS => ⟨w_, ⟨hM.oldcell h1, rfl⟩, hM, trivial⟩) ?_
    refine ops_run (is := [(7, false)]) (r := [(8, false), (9, false), (10, false)]) (l' := [(11, .int .i64 (IntKind.i64.wrap (c * 65536))), (9, .int .i64 (n * n)), (6, .bool true)]) [11, 9, 6] (by kernel_rfl) ?_
    refine ops_conv (l' := [(11, .int .i64 (c * 65536)), (9, .int .i64 (n * n)), (6, .bool true)]) (by rw [(i64in (x := c * 65536) (by omega) (by omega))]) (fun _ h => h) ?_
    refine ops_run (is := [(8, false), (9, false), (10, false)]) (r := []) (l' := [(3, .bool (decide ((n * n) ≤ (c * 65536))))]) [3] (by kernel_rfl) ?_
    refine ops_nil ?_
    refine fin_then ?_
    refine st_ret ?_
    refine fin_ret [.tmp 3] [.bool (decide ((n * n) ≤ (c * 65536)))] rfl rfl (fun w_ hM => (.tmp rfl .nil)) (fun w_ hM => ?_)
    refine ⟨?_, hM.done⟩
    have := of_decide_eq_true hc1
    exact congrArg (fun z => Ending.returned (.bool z)) (decide_eq_decide.2 ⟨fun h => ⟨by omega, h⟩, fun h => h.2⟩)
  · --decide (0 < c)
    refine ops_run (is := [(3, false), (4, false), (5, false), (6, false), (7, false), (8, false), (9, false), (10, false)]) (r := []) (l' := [(3, .bool false)]) [3] (by kernel_rfl) ?_
    refine ops_nil ?_
    refine fin_then ?_
    refine st_ret ?_
    refine fin_ret [.tmp 3] [.bool false] rfl rfl (fun w_ hM => (.tmp rfl .nil)) (fun w_ hM => ?_)
    refine ⟨?_, hM.done⟩
    have := of_decide_eq_false hc1
    exact congrArg (fun z => Ending.returned (.bool z)) (decide_eq_false (fun h => absurd h.1 (by omega))).symm
set_option maxHeartbeats 4000000 in
set_option maxRecDepth 100000 in
theorem RRoot_calls (a : Int) (w : World) : Calls Try.prog 52 #[.int .i64 a] w fun e w' => e = .returned (.int .i64 (sqrtV a)) ∧ Below w.heap.size w w' := by
  refine sx_calls Try.func52 rfl (n := 7) (by kernel_rfl) (l := [(0, .int .i64 a)]) rfl (by rfl) (Mem.nil w) ?_
  refine st_seq ?_
  refine st_region [(0, false), (1, false)] (by rfl) ?_
  refine ops_new (d := some 1) (o := .cells #[.int .i64 a] 3) (v := fun b1 => .pointer (some ⟨b1, 0, none⟩)) (M' := fun b1 => Mem w [.blk b1 [.int .i64 a] 3]) (fun b1 => ⟨by kernel_rfl⟩) (fun w_ hM hS => ⟨hM.blk [.int .i64 a] 3, trivial⟩) (fun b1 => ?_)
  refine ops_run (is := [(1, false)]) (r := []) (l' := [(1, .pointer (some ⟨b1, 0, none⟩))]) [1] (by kernel_rfl) ?_
  refine ops_nil ?_
  refine fin_then ?_
  refine st_seq ?_
  refine st_region [(0, false), (1, false), (2, false)] (by rfl) ?_
  refine ops_mem (d := some 3) (an := [.v (.int .i64 a)]) (evs := [.load ⟨b1, 0, none⟩ (.int .i64 a)]) (v := .int .i64 a) (M' := Mem w [.blk b1 [.int .i64 a] 3]) ⟨by kernel_rfl⟩ (fun w_ hM hS => ⟨w_, ⟨hM.cell 0 rfl rfl, rfl⟩, hM, trivial⟩) ?_
  refine ops_run (is := []) (r := [(1, false), (2, false)]) (l' := [(3, .int .i64 a), (1, .pointer (some ⟨b1, 0, none⟩))]) [3, 1] (by kernel_rfl) ?_
  refine ops_call (σ := Unit) (d := some 4) (f := 77) (args := #[.int .i64 a]) (v := fun _ => .int .i64 (min (max a (-1099511627776)) 1099511627776)) (M' := fun _ => Mem w [.blk b1 [.int .i64 a] 3]) ⟨by kernel_rfl⟩ (fun w_ hM hS => (Limit_calls a w_).mono (by rintro e w' ⟨rfl, hb⟩; exact ⟨(), rfl, hM.step hb, trivial⟩)) (fun _ => ?_)
  refine ops_run (is := []) (r := [(2, false)]) (l' := [(4, .int .i64 (min (max a (-1099511627776)) 1099511627776)), (1, .pointer (some ⟨b1, 0, none⟩))]) [4, 1] (by kernel_rfl) ?_
  refine ops_store (an := []) (evs := [.store ⟨b1, 0, none⟩ (.int .i64 (min (max a (-1099511627776)) 1099511627776))]) (M' := Mem w [.blk b1 [.int .i64 (min (max a (-1099511627776)) 1099511627776)] 3]) ⟨by kernel_rfl⟩ (fun w_ hM hS => let ⟨w', he, h'⟩ := hM.evs_stores [.int .i64 (min (max a (-1099511627776)) 1099511627776)] 0 rfl 0 (Nat.le_of_ble_eq_true rfl); ⟨w', he, h', trivial⟩) ?_
  refine ops_run (is := []) (r := []) (l' := [(1, .pointer (some ⟨b1, 0, none⟩))]) [1] (by kernel_rfl) ?_
  refine ops_nil ?_
  refine fin_then ?_
  refine st_seq ?_
  refine st_region [(0, false), (1, false), (2, false)] (by rfl) ?_
  refine ops_run (is := [(0, false)]) (r := [(1, false), (2, false)]) (l' := [(5, .func (.func 84) #[] #[.pointer (some ⟨b1, 0, none⟩)])]) [5] (by kernel_rfl) ?_
  refine ops_call (σ := Unit) (d := some 6) (f := 83) (args := #[.int .i64 536870912, .func (.func 84) #[] #[.pointer (some ⟨b1, 0, none⟩)]]) (v := fun _ => .int .i64 (mostv 536870912 (fun n => decide (0 < (min (max a (-1099511627776)) 1099511627776) ∧ n * n ≤ (min (max a (-1099511627776)) 1099511627776) * 65536)))) (M' := fun _ => Mem w [.blk b1 [.int .i64 (min (max a (-1099511627776)) 1099511627776)] 3]) ⟨by kernel_rfl⟩ (fun w_ hM hS => (most_Root1 536870912 (fun n => decide (0 < (min (max a (-1099511627776)) 1099511627776) ∧ n * n ≤ (min (max a (-1099511627776)) 1099511627776) * 65536)) (.pointer (some ⟨b1, 0, none⟩)) w_ (by omega) (by omega) (fun n w2 hn0 hn1 hb2 => Root1_calls n (min (max a (-1099511627776)) 1099511627776) _ w2 ((hb2.cell (World.block_lt_of_cell? w_ _ (hM.cell 0 rfl rfl))).trans (hM.cell 0 rfl rfl)) hn0 (by omega) (by omega) (by omega))).mono (by rintro e w' ⟨rfl, hb⟩; exact ⟨(), rfl, hM.step hb, trivial⟩)) (fun _ => ?_)
  refine ops_run (is := [(2, false)]) (r := []) (l' := [(2, .int .i64 (mostv 536870912 (fun n => decide (0 < (min (max a (-1099511627776)) 1099511627776) ∧ n * n ≤ (min (max a (-1099511627776)) 1099511627776) * 65536))))]) [2] (by kernel_rfl) ?_
  refine ops_nil ?_
  refine fin_then ?_
  refine st_ret ?_
  refine fin_ret [.tmp 2] [.int .i64 (mostv 536870912 (fun n => decide (0 < (min (max a (-1099511627776)) 1099511627776) ∧ n * n ≤ (min (max a (-1099511627776)) 1099511627776) * 65536)))] rfl rfl (fun w_ hM => (.tmp rfl .nil)) (fun w_ hM => ?_)
  refine ⟨?_, hM.done⟩
  exact congrArg (fun z => Ending.returned (.int .i64 z)) (root_most (by omega))
theorem Sqrt_begun (w : World) : Calls Try.prog 48 #[.int .i64 262144] w fun e w' => e = .returned (.int .i64 131072) ∧ Below w.heap.size w w' := by
  have h := Sqrt_calls 262144 w
  rwa [show sqrtV 262144 = 131072 by decide +kernel] at h
theorem Root_as (hi lo r : Int) (w : World) (hi0 : 0 ≤ hi) (hi1 : hi < 18446744073709551616) (lo0 : 0 ≤ lo) (lo1 : lo < 18446744073709551616) (hr : ((rootN (num hi lo) : Nat) : Int) = r) : Calls Try.prog 49 #[.int .u64 hi, .int .u64 lo] w fun e w' => e = .returned (.int .u64 r) ∧ Below w.heap.size w w' := by
  subst hr; exact Root_calls hi lo w hi0 hi1 lo0 lo1
theorem sums_ok {q r : Int} (hr0 : 0 ≤ r) (hr1 : r < 18446744073709551616) (hq2 : 0 ≤ q) (hq3 : q + 2 * r < 340282366920938463463374607431768211456) : ((q % 18446744073709551616 + r + 0) % 18446744073709551616 + r + 0) % 18446744073709551616 = (q + 2 * r) % 18446744073709551616 ∧ (q / 18446744073709551616 + 0 + (q % 18446744073709551616 + r + 0) / 18446744073709551616) % 18446744073709551616 = q / 18446744073709551616 + (q % 18446744073709551616 + r) / 18446744073709551616 ∧ ((q / 18446744073709551616 + (q % 18446744073709551616 + r) / 18446744073709551616) + 0 + ((q % 18446744073709551616 + r + 0) % 18446744073709551616 + r + 0) / 18446744073709551616) % 18446744073709551616 = (q + 2 * r) / 18446744073709551616 := by
  have h1 : q / 18446744073709551616 + (q % 18446744073709551616 + r) / 18446744073709551616 < 18446744073709551616 := by omega
  have h2 : 0 ≤ q / 18446744073709551616 + (q % 18446744073709551616 + r) / 18446744073709551616 := by omega
  have h3 : q + 2 * r = 18446744073709551616 * (q / 18446744073709551616 + (q % 18446744073709551616 + r) / 18446744073709551616 + ((q % 18446744073709551616 + r) % 18446744073709551616 + r) / 18446744073709551616) + ((q % 18446744073709551616 + r) % 18446744073709551616 + r) % 18446744073709551616 := by omega
  refine ⟨by omega, by rw [Int.add_zero, Int.add_zero]; exact Int.emod_eq_of_lt h2 h1, ?_⟩
  simp only [Int.add_zero]
  generalize q / 18446744073709551616 + (q % 18446744073709551616 + r) / 18446744073709551616 = g at *
  generalize ((q % 18446744073709551616 + r) % 18446744073709551616 + r) = y at *
  omega
theorem Mul_as (r q : Int) (w : World) (h0 : 0 ≤ r) (h1 : r < 18446744073709551616) (hq : r * r = q) : Calls Try.prog 50 #[.int .u64 r, .int .u64 r] w fun e w' => e = .returned (.tuple #[.int .u64 (q / 18446744073709551616), .int .u64 (q % 18446744073709551616)]) ∧ Below w.heap.size w w' := by
  subst hq; exact Mul64_calls r r w h0 h1 h0 h1
set_option maxHeartbeats 4000000 in
set_option maxRecDepth 100000 in
theorem FixRoots_calls0 (a hi lo r q : Int) (w : World) (hi0 : 0 ≤ hi) (hi1 : hi < 18446744073709551616) (lo0 : 0 ≤ lo) (lo1 : lo < 18446744073709551616) (hr : ((rootN (num hi lo) : Nat) : Int) = r) (hq : r * r = q) (hr0 : 0 ≤ r) (hr1 : r < 18446744073709551616) (hq0 : q ≤ hi * 18446744073709551616 + lo) (hq1 : hi * 18446744073709551616 + lo < q + 2 * r + 1) (hq2 : 0 ≤ q) (hq3 : q + 2 * r < 340282366920938463463374607431768211456) : Calls Try.prog 9 #[.int .i64 a, .int .u64 hi, .int .u64 lo] w fun e w' => e = .returned (.bool true) ∧ Below w.heap.size w w' := by
  obtain ⟨hs1, hs2, hs3⟩ := sums_ok hr0 hr1 hq2 hq3
  refine sx_calls Try.func9 rfl (n := 88) (by kernel_rfl) (l := [(0, .int .i64 a), (1, .int .u64 hi), (2, .int .u64 lo)]) rfl (by rfl) (Mem.nil w) ?_
  refine st_seq ?_
  refine st_region [(0, false)] (by rfl) ?_
  refine ops_run (is := [(0, false)]) (r := []) (l' := [(0, .int .i64 a), (1, .int .u64 hi), (2, .int .u64 lo)]) [0, 1, 2] (by kernel_rfl) ?_
  refine ops_nil ?_
  refine fin_then ?_
  refine st_seq ?_
  refine st_seq ?_
  refine st_region [(0, false), (1, false)] (by rfl) ?_
  refine ops_call (σ := Unit) (d := some 16) (f := 48) (args := #[.int .i64 262144]) (v := fun _ => .int .i64 131072) (M' := fun _ => Mem w []) ⟨by kernel_rfl⟩ (fun w_ hM hS => (Sqrt_begun w_).mono (by rintro e w' ⟨rfl, hb⟩; exact ⟨(), rfl, hM.step hb, trivial⟩)) (fun _ => ?_)
  refine ops_run (is := [(1, false)]) (r := []) (l' := [(17, .bool false), (0, .int .i64 a), (1, .int .u64 hi), (2, .int .u64 lo)]) [17, 0, 1, 2] (by kernel_rfl) ?_
  refine ops_nil ?_
  refine fin_then ?_
  refine st_false rfl ?_
  refine st_skip ?_
  refine fin_then ?_
  refine st_seq ?_
  refine st_region [(0, false), (1, false), (2, false), (3, false)] (by rfl) ?_
  refine ops_run (is := [(0, false), (1, false)]) (r := [(2, false), (3, false)]) (l' := [(19, .int .u64 lo), (18, .int .u64 hi), (0, .int .i64 a), (1, .int .u64 hi), (2, .int .u64 lo)]) [19, 18, 0, 1, 2] (by kernel_rfl) ?_
  refine ops_call (σ := Unit) (d := some 20) (f := 49) (args := #[.int .u64 hi, .int .u64 lo]) (v := fun _ => .int .u64 r) (M' := fun _ => Mem w []) ⟨by kernel_rfl⟩ (fun w_ hM hS => (Root_as hi lo r w_ hi0 hi1 lo0 lo1 hr).mono (by rintro e w' ⟨rfl, hb⟩; exact ⟨(), rfl, hM.step hb, trivial⟩)) (fun _ => ?_)
  refine ops_run (is := [(3, false)]) (r := []) (l' := [(7, .int .u64 r), (0, .int .i64 a), (1, .int .u64 hi), (2, .int .u64 lo)]) [7, 0, 1, 2] (by kernel_rfl) ?_
  refine ops_nil ?_
  refine fin_then ?_
  refine st_seq ?_
  refine st_region [(0, false), (1, false), (2, false), (3, false), (4, false), (5, false), (6, false), (7, false)] (by rfl) ?_
  refine ops_run (is := [(0, false), (1, false)]) (r := [(2, false), (3, false), (4, false), (5, false), (6, false), (7, false)]) (l' := [(23, .int .u64 r), (22, .int .u64 r), (7, .int .u64 r), (0, .int .i64 a), (1, .int .u64 hi), (2, .int .u64 lo)]) [23, 22, 7, 0, 1, 2] (by kernel_rfl) ?_
  refine ops_call (σ := Unit) (d := some 24) (f := 50) (args := #[.int .u64 r, .int .u64 r]) (v := fun _ => .tuple #[.int .u64 (q / 18446744073709551616), .int .u64 (q % 18446744073709551616)]) (M' := fun _ => Mem w []) ⟨by kernel_rfl⟩ (fun w_ hM hS => (Mul_as r q w_ hr0 hr1 hq).mono (by rintro e w' ⟨rfl, hb⟩; exact ⟨(), rfl, hM.step hb, trivial⟩)) (fun _ => ?_)
  refine ops_run (is := [(3, false), (4, false), (5, false), (6, false), (7, false)]) (r := []) (l' := [(9, .int .u64 (q % 18446744073709551616)), (8, .int .u64 (q / 18446744073709551616)), (7, .int .u64 r), (0, .int .i64 a), (1, .int .u64 hi), (2, .int .u64 lo)]) [9, 8, 7, 0, 1, 2] (by kernel_rfl) ?_
  refine ops_nil ?_
  refine fin_then ?_
  refine st_seq ?_
  refine st_region [(0, false), (1, false), (2, false), (3, false), (4, false), (5, false), (6, false), (7, false)] (by rfl) ?_
  refine ops_run (is := [(0, false), (1, false)]) (r := [(2, false), (3, false), (4, false), (5, false), (6, false), (7, false)]) (l' := [(29, .int .u64 r), (28, .int .u64 (q % 18446744073709551616)), (9, .int .u64 (q % 18446744073709551616)), (8, .int .u64 (q / 18446744073709551616)), (7, .int .u64 r), (0, .int .i64 a), (1, .int .u64 hi), (2, .int .u64 lo)]) [29, 28, 9, 8, 7, 0, 1, 2] (by kernel_rfl) ?_
  refine ops_val (op := (Go.Op.call { callee := (Go.Callee.value (Go.Operand.func 51)), args := #[(Go.Operand.tmp 28), (Go.Operand.tmp 29), (Go.Operand.const (Go.Value.int Go.IntKind.u64 0))], argTypes := #[25, 25, 25] })) (d := some 30) (v := .tuple #[.int .u64 (((q % 18446744073709551616) + r + 0) % 18446744073709551616), .int .u64 (((q % 18446744073709551616) + r + 0) / 18446744073709551616)]) ⟨by kernel_rfl⟩ (run_Add64 rfl rfl rfl (by omega) (by omega) (by omega) (by omega)) ?_
  refine ops_run (is := [(3, false), (4, false), (5, false), (6, false), (7, false)]) (r := []) (l' := [(11, .int .u64 (((q % 18446744073709551616) + r + 0) / 18446744073709551616)), (10, .int .u64 (((q % 18446744073709551616) + r + 0) % 18446744073709551616)), (9, .int .u64 (q % 18446744073709551616)), (8, .int .u64 (q / 18446744073709551616)), (7, .int .u64 r), (0, .int .i64 a), (1, .int .u64 hi), (2, .int .u64 lo)]) [11, 10, 9, 8, 7, 0, 1, 2] (by kernel_rfl) ?_
  refine ops_nil ?_
  refine fin_then ?_
  refine st_seq ?_
  refine st_region [(0, false), (1, false), (2, false), (3, false), (4, false), (5, false), (6, false), (7, false)] (by rfl) ?_
  refine ops_run (is := [(0, false), (1, false)]) (r := [(2, false), (3, false), (4, false), (5, false), (6, false), (7, false)]) (l' := [(35, .int .u64 (((q % 18446744073709551616) + r + 0) / 18446744073709551616)), (34, .int .u64 (q / 18446744073709551616)), (10, .int .u64 (((q % 18446744073709551616) + r + 0) % 18446744073709551616)), (9, .int .u64 (q % 18446744073709551616)), (8, .int .u64 (q / 18446744073709551616)), (7, .int .u64 r), (0, .int .i64 a), (1, .int .u64 hi), (2, .int .u64 lo)]) [35, 34, 10, 9, 8, 7, 0, 1, 2] (by kernel_rfl) ?_
  refine ops_val (op := (Go.Op.call { callee := (Go.Callee.value (Go.Operand.func 51)), args := #[(Go.Operand.tmp 34), (Go.Operand.const (Go.Value.int Go.IntKind.u64 0)), (Go.Operand.tmp 35)], argTypes := #[25, 25, 25] })) (d := some 36) (v := .tuple #[.int .u64 (((q / 18446744073709551616) + 0 + (((q % 18446744073709551616) + r + 0) / 18446744073709551616)) % 18446744073709551616), .int .u64 (((q / 18446744073709551616) + 0 + (((q % 18446744073709551616) + r + 0) / 18446744073709551616)) / 18446744073709551616)]) ⟨by kernel_rfl⟩ (run_Add64 rfl rfl rfl (by omega) (by omega) (by omega) (by omega)) ?_
  refine ops_run (is := []) (r := [(3, false), (4, false), (5, false), (6, false), (7, false)]) (l' := [(36, .tuple #[.int .u64 (((q / 18446744073709551616) + 0 + (((q % 18446744073709551616) + r + 0) / 18446744073709551616)) % 18446744073709551616), .int .u64 (((q / 18446744073709551616) + 0 + (((q % 18446744073709551616) + r + 0) / 18446744073709551616)) / 18446744073709551616)]), (10, .int .u64 (((q % 18446744073709551616) + r + 0) % 18446744073709551616)), (9, .int .u64 (q % 18446744073709551616)), (8, .int .u64 (q / 18446744073709551616)), (7, .int .u64 r), (0, .int .i64 a), (1, .int .u64 hi), (2, .int .u64 lo)]) [36, 10, 9, 8, 7, 0, 1, 2] (by kernel_rfl) ?_
  refine ops_conv (l' := [(36, .tuple #[.int .u64 (q / 18446744073709551616 + (q % 18446744073709551616 + r) / 18446744073709551616), .int .u64 (((q / 18446744073709551616) + 0 + (((q % 18446744073709551616) + r + 0) / 18446744073709551616)) / 18446744073709551616)]), (10, .int .u64 (((q % 18446744073709551616) + r + 0) % 18446744073709551616)), (9, .int .u64 (q % 18446744073709551616)), (8, .int .u64 (q / 18446744073709551616)), (7, .int .u64 r), (0, .int .i64 a), (1, .int .u64 hi), (2, .int .u64 lo)]) (by rw [hs2]) (fun _ h => h) ?_
  refine ops_run (is := [(3, false), (4, false), (5, false), (6, false), (7, false)]) (r := []) (l' := [(12, .int .u64 (q / 18446744073709551616 + (q % 18446744073709551616 + r) / 18446744073709551616)), (10, .int .u64 (((q % 18446744073709551616) + r + 0) % 18446744073709551616)), (9, .int .u64 (q % 18446744073709551616)), (8, .int .u64 (q / 18446744073709551616)), (7, .int .u64 r), (0, .int .i64 a), (1, .int .u64 hi), (2, .int .u64 lo)]) [12, 10, 9, 8, 7, 0, 1, 2] (by kernel_rfl) ?_
  refine ops_nil ?_
  refine fin_then ?_
  refine st_seq ?_
  refine st_region [(0, false), (1, false), (2, false), (3, false), (4, false), (5, false), (6, false), (7, false)] (by rfl) ?_
  refine ops_run (is := [(0, false), (1, false)]) (r := [(2, false), (3, false), (4, false), (5, false), (6, false), (7, false)]) (l' := [(41, .int .u64 r), (40, .int .u64 (((q % 18446744073709551616) + r + 0) % 18446744073709551616)), (12, .int .u64 (q / 18446744073709551616 + (q % 18446744073709551616 + r) / 18446744073709551616)), (10, .int .u64 (((q % 18446744073709551616) + r + 0) % 18446744073709551616)), (9, .int .u64 (q % 18446744073709551616)), (8, .int .u64 (q / 18446744073709551616)), (0, .int .i64 a), (1, .int .u64 hi), (2, .int .u64 lo)]) [41, 40, 12, 10, 9, 8, 0, 1, 2] (by kernel_rfl) ?_
  refine ops_val (op := (Go.Op.call { callee := (Go.Callee.value (Go.Operand.func 51)), args := #[(Go.Operand.tmp 40), (Go.Operand.tmp 41), (Go.Operand.const (Go.Value.int Go.IntKind.u64 0))], argTypes := #[25, 25, 25] })) (d := some 42) (v := .tuple #[.int .u64 (((((q % 18446744073709551616) + r + 0) % 18446744073709551616) + r + 0) % 18446744073709551616), .int .u64 (((((q % 18446744073709551616) + r + 0) % 18446744073709551616) + r + 0) / 18446744073709551616)]) ⟨by kernel_rfl⟩ (run_Add64 rfl rfl rfl (by omega) (by omega) (by omega) (by omega)) ?_
  refine ops_run (is := []) (r := [(3, false), (4, false), (5, false), (6, false), (7, false)]) (l' := [(42, .tuple #[.int .u64 (((((q % 18446744073709551616) + r + 0) % 18446744073709551616) + r + 0) % 18446744073709551616), .int .u64 (((((q % 18446744073709551616) + r + 0) % 18446744073709551616) + r + 0) / 18446744073709551616)]), (12, .int .u64 (q / 18446744073709551616 + (q % 18446744073709551616 + r) / 18446744073709551616)), (10, .int .u64 (((q % 18446744073709551616) + r + 0) % 18446744073709551616)), (9, .int .u64 (q % 18446744073709551616)), (8, .int .u64 (q / 18446744073709551616)), (0, .int .i64 a), (1, .int .u64 hi), (2, .int .u64 lo)]) [42, 12, 10, 9, 8, 0, 1, 2] (by kernel_rfl) ?_
  refine ops_conv (l' := [(42, .tuple #[.int .u64 ((q + 2 * r) % 18446744073709551616), .int .u64 (((((q % 18446744073709551616) + r + 0) % 18446744073709551616) + r + 0) / 18446744073709551616)]), (12, .int .u64 (q / 18446744073709551616 + (q % 18446744073709551616 + r) / 18446744073709551616)), (10, .int .u64 (((q % 18446744073709551616) + r + 0) % 18446744073709551616)), (9, .int .u64 (q % 18446744073709551616)), (8, .int .u64 (q / 18446744073709551616)), (0, .int .i64 a), (1, .int .u64 hi), (2, .int .u64 lo)]) (by rw [hs1]) (fun _ h => h) ?_
  refine ops_run (is := [(3, false), (4, false), (5, false), (6, false), (7, false)]) (r := []) (l' := [(11, .int .u64 (((((q % 18446744073709551616) + r + 0) % 18446744073709551616) + r + 0) / 18446744073709551616)), (10, .int .u64 ((q + 2 * r) % 18446744073709551616)), (12, .int .u64 (q / 18446744073709551616 + (q % 18446744073709551616 + r) / 18446744073709551616)), (9, .int .u64 (q % 18446744073709551616)), (8, .int .u64 (q / 18446744073709551616)), (0, .int .i64 a), (1, .int .u64 hi), (2, .int .u64 lo)]) [11, 10, 12, 9, 8, 0, 1, 2] (by kernel_rfl) ?_
  refine ops_nil ?_
  refine fin_then ?_
  refine st_seq ?_
  refine st_region [(0, false), (1, false), (2, false), (3, false), (4, false), (5, false), (6, false)] (by rfl) ?_
  refine ops_run (is := [(0, false), (1, false)]) (r := [(2, false), (3, false), (4, false), (5, false), (6, false)]) (l' := [(47, .int .u64 (((((q % 18446744073709551616) + r + 0) % 18446744073709551616) + r + 0) / 18446744073709551616)), (46, .int .u64 (q / 18446744073709551616 + (q % 18446744073709551616 + r) / 18446744073709551616)), (10, .int .u64 ((q + 2 * r) % 18446744073709551616)), (12, .int .u64 (q / 18446744073709551616 + (q % 18446744073709551616 + r) / 18446744073709551616)), (9, .int .u64 (q % 18446744073709551616)), (8, .int .u64 (q / 18446744073709551616)), (0, .int .i64 a), (1, .int .u64 hi), (2, .int .u64 lo)]) [47, 46, 10, 12, 9, 8, 0, 1, 2] (by kernel_rfl) ?_
  refine ops_val (op := (Go.Op.call { callee := (Go.Callee.value (Go.Operand.func 51)), args := #[(Go.Operand.tmp 46), (Go.Operand.const (Go.Value.int Go.IntKind.u64 0)), (Go.Operand.tmp 47)], argTypes := #[25, 25, 25] })) (d := some 48) (v := .tuple #[.int .u64 (((q / 18446744073709551616 + (q % 18446744073709551616 + r) / 18446744073709551616) + 0 + (((((q % 18446744073709551616) + r + 0) % 18446744073709551616) + r + 0) / 18446744073709551616)) % 18446744073709551616), .int .u64 (((q / 18446744073709551616 + (q % 18446744073709551616 + r) / 18446744073709551616) + 0 + (((((q % 18446744073709551616) + r + 0) % 18446744073709551616) + r + 0) / 18446744073709551616)) / 18446744073709551616)]) ⟨by kernel_rfl⟩ (run_Add64 rfl rfl rfl (by omega) (by omega) (by omega) (by omega)) ?_
  refine ops_run (is := []) (r := [(3, false), (4, false), (5, false), (6, false)]) (l' := [(48, .tuple #[.int .u64 (((q / 18446744073709551616 + (q % 18446744073709551616 + r) / 18446744073709551616) + 0 + (((((q % 18446744073709551616) + r + 0) % 18446744073709551616) + r + 0) / 18446744073709551616)) % 18446744073709551616), .int .u64 (((q / 18446744073709551616 + (q % 18446744073709551616 + r) / 18446744073709551616) + 0 + (((((q % 18446744073709551616) + r + 0) % 18446744073709551616) + r + 0) / 18446744073709551616)) / 18446744073709551616)]), (10, .int .u64 ((q + 2 * r) % 18446744073709551616)), (12, .int .u64 (q / 18446744073709551616 + (q % 18446744073709551616 + r) / 18446744073709551616)), (9, .int .u64 (q % 18446744073709551616)), (8, .int .u64 (q / 18446744073709551616)), (0, .int .i64 a), (1, .int .u64 hi), (2, .int .u64 lo)]) [48, 10, 12, 9, 8, 0, 1, 2] (by kernel_rfl) ?_
  refine ops_conv (l' := [(48, .tuple #[.int .u64 ((q + 2 * r) / 18446744073709551616), .int .u64 (((q / 18446744073709551616 + (q % 18446744073709551616 + r) / 18446744073709551616) + 0 + (((((q % 18446744073709551616) + r + 0) % 18446744073709551616) + r + 0) / 18446744073709551616)) / 18446744073709551616)]), (10, .int .u64 ((q + 2 * r) % 18446744073709551616)), (12, .int .u64 (q / 18446744073709551616 + (q % 18446744073709551616 + r) / 18446744073709551616)), (9, .int .u64 (q % 18446744073709551616)), (8, .int .u64 (q / 18446744073709551616)), (0, .int .i64 a), (1, .int .u64 hi), (2, .int .u64 lo)]) (by rw [hs3]) (fun _ h => h) ?_
  refine ops_run (is := [(3, false), (4, false), (5, false), (6, false)]) (r := []) (l' := [(12, .int .u64 ((q + 2 * r) / 18446744073709551616)), (10, .int .u64 ((q + 2 * r) % 18446744073709551616)), (9, .int .u64 (q % 18446744073709551616)), (8, .int .u64 (q / 18446744073709551616)), (0, .int .i64 a), (1, .int .u64 hi), (2, .int .u64 lo)]) [12, 10, 9, 8, 0, 1, 2] (by kernel_rfl) ?_
  refine ops_nil ?_
  refine fin_then ?_
  refine st_seq ?_
  refine st_region [(0, false), (1, false), (2, false), (3, false), (4, false), (5, false), (6, false), (7, false), (8, false), (9, false), (10, false), (11, false), (12, false), (13, false)] (by rfl) ?_
  refine ops_run (is := [(0, false), (1, false), (2, false), (3, false)]) (r := [(4, false), (5, false), (6, false), (7, false), (8, false), (9, false), (10, false), (11, false), (12, false), (13, false)]) (l' := [(54, .bool (decide ((q / 18446744073709551616) < hi))), (12, .int .u64 ((q + 2 * r) / 18446744073709551616)), (10, .int .u64 ((q + 2 * r) % 18446744073709551616)), (9, .int .u64 (q % 18446744073709551616)), (8, .int .u64 (q / 18446744073709551616)), (0, .int .i64 a), (1, .int .u64 hi), (2, .int .u64 lo)]) [54, 12, 10, 9, 8, 0, 1, 2] (by kernel_rfl) ?_
  refine ops_bool (t := decide ((q / 18446744073709551616) < hi)) (l1 := [(54, .bool true), (12, .int .u64 ((q + 2 * r) / 18446744073709551616)), (10, .int .u64 ((q + 2 * r) % 18446744073709551616)), (9, .int .u64 (q % 18446744073709551616)), (8, .int .u64 (q / 18446744073709551616)), (0, .int .i64 a), (1, .int .u64 hi), (2, .int .u64 lo)]) (l2 := [(54, .bool false), (12, .int .u64 ((q + 2 * r) / 18446744073709551616)), (10, .int .u64 ((q + 2 * r) % 18446744073709551616)), (9, .int .u64 (q % 18446744073709551616)), (8, .int .u64 (q / 18446744073709551616)), (0, .int .i64 a), (1, .int .u64 hi), (2, .int .u64 lo)]) (fun h => by rw [h]) (fun h => by rw [h]) (fun hc1 => ?_) (fun hc1 => ?_)
  · --decide ((q / 18446744073709551616) < hi)
    refine ops_run (is := [(4, false), (5, false), (6, false), (7, false), (8, false), (9, false), (10, false), (11, false), (12, false), (13, false)]) (r := []) (l' := [(14, .bool true), (12, .int .u64 ((q + 2 * r) / 18446744073709551616)), (10, .int .u64 ((q + 2 * r) % 18446744073709551616)), (0, .int .i64 a), (1, .int .u64 hi), (2, .int .u64 lo)]) [14, 12, 10, 0, 1, 2] (by kernel_rfl) ?_
    refine ops_nil ?_
    refine fin_then ?_
    refine st_seq ?_
    refine st_region [(0, false), (1, false), (2, false), (3, false), (4, false), (5, false), (6, false), (7, false), (8, false), (9, false), (10, false), (11, false), (12, false), (13, false)] (by rfl) ?_
    refine ops_run (is := [(0, false), (1, false), (2, false), (3, false)]) (r := [(4, false), (5, false), (6, false), (7, false), (8, false), (9, false), (10, false), (11, false), (12, false), (13, false)]) (l' := [(67, .bool (decide (hi < ((q + 2 * r) / 18446744073709551616)))), (14, .bool true), (12, .int .u64 ((q + 2 * r) / 18446744073709551616)), (10, .int .u64 ((q + 2 * r) % 18446744073709551616)), (0, .int .i64 a), (1, .int .u64 hi), (2, .int .u64 lo)]) [67, 14, 12, 10, 0, 1, 2] (by kernel_rfl) ?_
    refine ops_bool (t := decide (hi < ((q + 2 * r) / 18446744073709551616))) (l1 := [(67, .bool true), (14, .bool true), (12, .int .u64 ((q + 2 * r) / 18446744073709551616)), (10, .int .u64 ((q + 2 * r) % 18446744073709551616)), (0, .int .i64 a), (1, .int .u64 hi), (2, .int .u64 lo)]) (l2 := [(67, .bool false), (14, .bool true), (12, .int .u64 ((q + 2 * r) / 18446744073709551616)), (10, .int .u64 ((q + 2 * r) % 18446744073709551616)), (0, .int .i64 a), (1, .int .u64 hi), (2, .int .u64 lo)]) (fun h => by rw [h]) (fun h => by rw [h]) (fun hc2 => ?_) (fun hc2 => ?_)
    · --decide (hi < ((q + 2 * r) / 18446744073709551616))
      refine ops_run (is := [(4, false), (5, false), (6, false), (7, false), (8, false), (9, false), (10, false), (11, false), (12, false), (13, false)]) (r := []) (l' := [(15, .bool true), (14, .bool true), (0, .int .i64 a)]) [15, 14, 0] (by kernel_rfl) ?_
      refine ops_nil ?_
      refine fin_then ?_
      refine st_seq ?_
      refine st_region [(0, false), (1, false), (2, false), (3, false), (4, false), (5, false), (6, false), (7, false), (8, false), (9, false), (10, false), (11, false)] (by rfl) ?_
      refine ops_run (is := [(0, false), (1, false), (2, false), (3, false), (4, false), (5, false)]) (r := [(6, false), (7, false), (8, false), (9, false), (10, false), (11, false)]) (l' := [(82, .int .i64 a), (81, .bool true), (0, .int .i64 a)]) [82, 81, 0] (by kernel_rfl) ?_
      refine ops_call (σ := Unit) (d := some 83) (f := 48) (args := #[.int .i64 a]) (v := fun _ => .int .i64 (sqrtV a)) (M' := fun _ => Mem w []) ⟨by kernel_rfl⟩ (fun w_ hM hS => (Sqrt_calls a w_).mono (by rintro e w' ⟨rfl, hb⟩; exact ⟨(), rfl, hM.step hb, trivial⟩)) (fun _ => ?_)
      refine ops_run (is := [(7, false)]) (r := [(8, false), (9, false), (10, false), (11, false)]) (l' := [(84, .int .i64 a), (83, .int .i64 (sqrtV a)), (81, .bool true)]) [84, 83, 81] (by kernel_rfl) ?_
      refine ops_call (σ := Unit) (d := some 85) (f := 52) (args := #[.int .i64 a]) (v := fun _ => .int .i64 (sqrtV a)) (M' := fun _ => Mem w []) ⟨by kernel_rfl⟩ (fun w_ hM hS => (RRoot_calls a w_).mono (by rintro e w' ⟨rfl, hb⟩; exact ⟨(), rfl, hM.step hb, trivial⟩)) (fun _ => ?_)
      refine ops_run (is := []) (r := [(9, false), (10, false), (11, false)]) (l' := [(85, .int .i64 (sqrtV a)), (83, .int .i64 (sqrtV a)), (81, .bool true)]) [85, 83, 81] (by kernel_rfl) ?_
      refine ops_val (op := (Go.Op.binOp Go.BinOp.eql 3 (Go.Operand.tmp 83) (Go.Operand.tmp 85) 3)) (d := some 86) (v := .bool true) ⟨by kernel_rfl⟩ (run_eql_same rfl rfl) ?_
      refine ops_run (is := [(10, false), (11, false)]) (r := []) (l' := [(6, .bool true)]) [6] (by kernel_rfl) ?_
      refine ops_nil ?_
      refine fin_then ?_
      refine st_ret ?_
      refine fin_ret [.tmp 6] [.bool true] rfl rfl (fun w_ hM => (.tmp rfl .nil)) (fun w_ hM => ?_)
      refine ⟨?_, hM.done⟩
      rfl
    · --decide (hi < ((q + 2 * r) / 18446744073709551616))
      refine ops_run (is := [(4, false), (5, false), (6, false), (7, false)]) (r := [(8, false), (9, false), (10, false), (11, false), (12, false), (13, false)]) (l' := [(71, .bool (((q + 2 * r) / 18446744073709551616) == hi)), (67, .bool false), (14, .bool true), (10, .int .u64 ((q + 2 * r) % 18446744073709551616)), (0, .int .i64 a), (2, .int .u64 lo)]) [71, 67, 14, 10, 0, 2] (by kernel_rfl) ?_
      refine ops_bool (t := (((q + 2 * r) / 18446744073709551616) == hi)) (l1 := [(71, .bool true), (67, .bool false), (14, .bool true), (10, .int .u64 ((q + 2 * r) % 18446744073709551616)), (0, .int .i64 a), (2, .int .u64 lo)]) (l2 := [(71, .bool false), (67, .bool false), (14, .bool true), (10, .int .u64 ((q + 2 * r) % 18446744073709551616)), (0, .int .i64 a), (2, .int .u64 lo)]) (fun h => by rw [h]) (fun h => by rw [h]) (fun hc3 => ?_) (fun hc3 => ?_)
      · --(((q + 2 * r) / 18446744073709551616) == hi)
        refine ops_run (is := [(8, false), (9, false), (10, false), (11, false), (12, false), (13, false)]) (r := []) (l' := [(15, .bool (decide (lo ≤ ((q + 2 * r) % 18446744073709551616)))), (14, .bool true), (0, .int .i64 a)]) [15, 14, 0] (by kernel_rfl) ?_
        refine ops_nil ?_
        refine fin_then ?_
        refine st_seq ?_
        refine st_region [(0, false), (1, false), (2, false), (3, false), (4, false), (5, false), (6, false), (7, false), (8, false), (9, false), (10, false), (11, false)] (by rfl) ?_
        refine ops_run (is := [(0, false), (1, false), (2, false), (3, false), (4, false)]) (r := [(5, false), (6, false), (7, false), (8, false), (9, false), (10, false), (11, false)]) (l' := [(81, .bool (decide (lo ≤ ((q + 2 * r) % 18446744073709551616)))), (0, .int .i64 a)]) [81, 0] (by kernel_rfl) ?_
        refine ops_bool (t := decide (lo ≤ ((q + 2 * r) % 18446744073709551616))) (l1 := [(81, .bool true), (0, .int .i64 a)]) (l2 := [(81, .bool false), (0, .int .i64 a)]) (fun h => by rw [h]) (fun h => by rw [h]) (fun hc4 => ?_) (fun hc4 => ?_)
        · --decide (lo ≤ ((q + 2 * r) % 18446744073709551616))
          refine ops_run (is := [(5, false)]) (r := [(6, false), (7, false), (8, false), (9, false), (10, false), (11, false)]) (l' := [(82, .int .i64 a), (81, .bool true), (0, .int .i64 a)]) [82, 81, 0] (by kernel_rfl) ?_
          refine ops_call (σ := Unit) (d := some 83) (f := 48) (args := #[.int .i64 a]) (v := fun _ => .int .i64 (sqrtV a)) (M' := fun _ => Mem w []) ⟨by kernel_rfl⟩ (fun w_ hM hS => (Sqrt_calls a w_).mono (by rintro e w' ⟨rfl, hb⟩; exact ⟨(), rfl, hM.step hb, trivial⟩)) (fun _ => ?_)
          refine ops_run (is := [(7, false)]) (r := [(8, false), (9, false), (10, false), (11, false)]) (l' := [(84, .int .i64 a), (83, .int .i64 (sqrtV a)), (81, .bool true)]) [84, 83, 81] (by kernel_rfl) ?_
          refine ops_call (σ := Unit) (d := some 85) (f := 52) (args := #[.int .i64 a]) (v := fun _ => .int .i64 (sqrtV a)) (M' := fun _ => Mem w []) ⟨by kernel_rfl⟩ (fun w_ hM hS => (RRoot_calls a w_).mono (by rintro e w' ⟨rfl, hb⟩; exact ⟨(), rfl, hM.step hb, trivial⟩)) (fun _ => ?_)
          refine ops_run (is := []) (r := [(9, false), (10, false), (11, false)]) (l' := [(85, .int .i64 (sqrtV a)), (83, .int .i64 (sqrtV a)), (81, .bool true)]) [85, 83, 81] (by kernel_rfl) ?_
          refine ops_val (op := (Go.Op.binOp Go.BinOp.eql 3 (Go.Operand.tmp 83) (Go.Operand.tmp 85) 3)) (d := some 86) (v := .bool true) ⟨by kernel_rfl⟩ (run_eql_same rfl rfl) ?_
          refine ops_run (is := [(10, false), (11, false)]) (r := []) (l' := [(6, .bool true)]) [6] (by kernel_rfl) ?_
          refine ops_nil ?_
          refine fin_then ?_
          refine st_ret ?_
          refine fin_ret [.tmp 6] [.bool true] rfl rfl (fun w_ hM => (.tmp rfl .nil)) (fun w_ hM => ?_)
          refine ⟨?_, hM.done⟩
          rfl
        · --decide (lo ≤ ((q + 2 * r) % 18446744073709551616))
          refine ops_run (is := [(5, false), (6, false), (7, false), (8, false), (9, false), (10, false), (11, false)]) (r := []) (l' := [(6, .bool false)]) [6] (by kernel_rfl) ?_
          refine ops_nil ?_
          refine fin_then ?_
          refine st_ret ?_
          refine fin_ret [.tmp 6] [.bool false] rfl rfl (fun w_ hM => (.tmp rfl .nil)) (fun w_ hM => ?_)
          refine ⟨?_, hM.done⟩
          exfalso
          have := of_decide_eq_true hc1
          have := of_decide_eq_false hc2
          have := beq_iff_eq.1 hc3
          have := of_decide_eq_false hc4
          omega
      · --(((q + 2 * r) / 18446744073709551616) == hi)
        refine ops_run (is := [(8, false), (9, false), (10, false), (11, false), (12, false), (13, false)]) (r := []) (l' := [(15, .bool false), (14, .bool true), (0, .int .i64 a)]) [15, 14, 0] (by kernel_rfl) ?_
        refine ops_nil ?_
        refine fin_then ?_
        refine st_seq ?_
        refine st_region [(0, false), (1, false), (2, false), (3, false), (4, false), (5, false), (6, false), (7, false), (8, false), (9, false), (10, false), (11, false)] (by rfl) ?_
        refine ops_run (is := [(0, false), (1, false), (2, false), (3, false), (4, false), (5, false), (6, false), (7, false), (8, false), (9, false), (10, false), (11, false)]) (r := []) (l' := [(6, .bool false)]) [6] (by kernel_rfl) ?_
        refine ops_nil ?_
        refine fin_then ?_
        refine st_ret ?_
        refine fin_ret [.tmp 6] [.bool false] rfl rfl (fun w_ hM => (.tmp rfl .nil)) (fun w_ hM => ?_)
        refine ⟨?_, hM.done⟩
        exfalso
        have := of_decide_eq_true hc1
        have := of_decide_eq_false hc2
        have := beq_eq_false_iff_ne.1 hc3
        omega
  · --decide ((q / 18446744073709551616) < hi)
    refine ops_run (is := [(4, false), (5, false), (6, false), (7, false)]) (r := [(8, false), (9, false), (10, false), (11, false), (12, false), (13, false)]) (l' := [(58, .bool ((q / 18446744073709551616) == hi)), (54, .bool false), (12, .int .u64 ((q + 2 * r) / 18446744073709551616)), (10, .int .u64 ((q + 2 * r) % 18446744073709551616)), (9, .int .u64 (q % 18446744073709551616)), (0, .int .i64 a), (1, .int .u64 hi), (2, .int .u64 lo)]) [58, 54, 12, 10, 9, 0, 1, 2] (by kernel_rfl) ?_
    refine ops_bool (t := ((q / 18446744073709551616) == hi)) (l1 := [(58, .bool true), (54, .bool false), (12, .int .u64 ((q + 2 * r) / 18446744073709551616)), (10, .int .u64 ((q + 2 * r) % 18446744073709551616)), (9, .int .u64 (q % 18446744073709551616)), (0, .int .i64 a), (1, .int .u64 hi), (2, .int .u64 lo)]) (l2 := [(58, .bool false), (54, .bool false), (12, .int .u64 ((q + 2 * r) / 18446744073709551616)), (10, .int .u64 ((q + 2 * r) % 18446744073709551616)), (9, .int .u64 (q % 18446744073709551616)), (0, .int .i64 a), (1, .int .u64 hi), (2, .int .u64 lo)]) (fun h => by rw [h]) (fun h => by rw [h]) (fun hc5 => ?_) (fun hc5 => ?_)
    · --((q / 18446744073709551616) == hi)
      refine ops_run (is := [(8, false), (9, false), (10, false), (11, false), (12, false), (13, false)]) (r := []) (l' := [(14, .bool (decide ((q % 18446744073709551616) ≤ lo))), (12, .int .u64 ((q + 2 * r) / 18446744073709551616)), (10, .int .u64 ((q + 2 * r) % 18446744073709551616)), (0, .int .i64 a), (1, .int .u64 hi), (2, .int .u64 lo)]) [14, 12, 10, 0, 1, 2] (by kernel_rfl) ?_
      refine ops_nil ?_
      refine fin_then ?_
      refine st_seq ?_
      refine st_region [(0, false), (1, false), (2, false), (3, false), (4, false), (5, false), (6, false), (7, false), (8, false), (9, false), (10, false), (11, false), (12, false), (13, false)] (by rfl) ?_
      refine ops_run (is := [(0, false), (1, false), (2, false), (3, false)]) (r := [(4, false), (5, false), (6, false), (7, false), (8, false), (9, false), (10, false), (11, false), (12, false), (13, false)]) (l' := [(67, .bool (decide (hi < ((q + 2 * r) / 18446744073709551616)))), (14, .bool (decide ((q % 18446744073709551616) ≤ lo))), (12, .int .u64 ((q + 2 * r) / 18446744073709551616)), (10, .int .u64 ((q + 2 * r) % 18446744073709551616)), (0, .int .i64 a), (1, .int .u64 hi), (2, .int .u64 lo)]) [67, 14, 12, 10, 0, 1, 2] (by kernel_rfl) ?_
      refine ops_bool (t := decide (hi < ((q + 2 * r) / 18446744073709551616))) (l1 := [(67, .bool true), (14, .bool (decide ((q % 18446744073709551616) ≤ lo))), (12, .int .u64 ((q + 2 * r) / 18446744073709551616)), (10, .int .u64 ((q + 2 * r) % 18446744073709551616)), (0, .int .i64 a), (1, .int .u64 hi), (2, .int .u64 lo)]) (l2 := [(67, .bool false), (14, .bool (decide ((q % 18446744073709551616) ≤ lo))), (12, .int .u64 ((q + 2 * r) / 18446744073709551616)), (10, .int .u64 ((q + 2 * r) % 18446744073709551616)), (0, .int .i64 a), (1, .int .u64 hi), (2, .int .u64 lo)]) (fun h => by rw [h]) (fun h => by rw [h]) (fun hc6 => ?_) (fun hc6 => ?_)
      · --decide (hi < ((q + 2 * r) / 18446744073709551616))
        refine ops_run (is := [(4, false), (5, false), (6, false), (7, false), (8, false), (9, false), (10, false), (11, false), (12, false), (13, false)]) (r := []) (l' := [(15, .bool true), (14, .bool (decide ((q % 18446744073709551616) ≤ lo))), (0, .int .i64 a)]) [15, 14, 0] (by kernel_rfl) ?_
        refine ops_nil ?_
        refine fin_then ?_
        refine st_seq ?_
        refine st_region [(0, false), (1, false), (2, false), (3, false), (4, false), (5, false), (6, false), (7, false), (8, false), (9, false), (10, false), (11, false)] (by rfl) ?_
        refine ops_run (is := [(0, false), (1, false)]) (r := [(2, false), (3, false), (4, false), (5, false), (6, false), (7, false), (8, false), (9, false), (10, false), (11, false)]) (l' := [(78, .bool (decide ((q % 18446744073709551616) ≤ lo))), (15, .bool true), (0, .int .i64 a)]) [78, 15, 0] (by kernel_rfl) ?_
        refine ops_bool (t := decide ((q % 18446744073709551616) ≤ lo)) (l1 := [(78, .bool true), (15, .bool true), (0, .int .i64 a)]) (l2 := [(78, .bool false), (15, .bool true), (0, .int .i64 a)]) (fun h => by rw [h]) (fun h => by rw [h]) (fun hc7 => ?_) (fun hc7 => ?_)
        · --decide ((q % 18446744073709551616) ≤ lo)
          refine ops_run (is := [(2, false), (3, false), (4, false), (5, false)]) (r := [(6, false), (7, false), (8, false), (9, false), (10, false), (11, false)]) (l' := [(82, .int .i64 a), (81, .bool true), (0, .int .i64 a)]) [82, 81, 0] (by kernel_rfl) ?_
          refine ops_call (σ := Unit) (d := some 83) (f := 48) (args := #[.int .i64 a]) (v := fun _ => .int .i64 (sqrtV a)) (M' := fun _ => Mem w []) ⟨by kernel_rfl⟩ (fun w_ hM hS => (Sqrt_calls a w_).mono (by rintro e w' ⟨rfl, hb⟩; exact ⟨(), rfl, hM.step hb, trivial⟩)) (fun _ => ?_)
          refine ops_run (is := [(7, false)]) (r := [(8, false), (9, false), (10, false), (11, false)]) (l' := [(84, .int .i64 a), (83, .int .i64 (sqrtV a)), (81, .bool true)]) [84, 83, 81] (by kernel_rfl) ?_
          refine ops_call (σ := Unit) (d := some 85) (f := 52) (args := #[.int .i64 a]) (v := fun _ => .int .i64 (sqrtV a)) (M' := fun _ => Mem w []) ⟨by kernel_rfl⟩ (fun w_ hM hS => (RRoot_calls a w_).mono (by rintro e w' ⟨rfl, hb⟩; exact ⟨(), rfl, hM.step hb, trivial⟩)) (fun _ => ?_)
          refine ops_run (is := []) (r := [(9, false), (10, false), (11, false)]) (l' := [(85, .int .i64 (sqrtV a)), (83, .int .i64 (sqrtV a)), (81, .bool true)]) [85, 83, 81] (by kernel_rfl) ?_
          refine ops_val (op := (Go.Op.binOp Go.BinOp.eql 3 (Go.Operand.tmp 83) (Go.Operand.tmp 85) 3)) (d := some 86) (v := .bool true) ⟨by kernel_rfl⟩ (run_eql_same rfl rfl) ?_
          refine ops_run (is := [(10, false), (11, false)]) (r := []) (l' := [(6, .bool true)]) [6] (by kernel_rfl) ?_
          refine ops_nil ?_
          refine fin_then ?_
          refine st_ret ?_
          refine fin_ret [.tmp 6] [.bool true] rfl rfl (fun w_ hM => (.tmp rfl .nil)) (fun w_ hM => ?_)
          refine ⟨?_, hM.done⟩
          rfl
        · --decide ((q % 18446744073709551616) ≤ lo)
          refine ops_run (is := [(2, false), (3, false), (4, false), (5, false), (6, false), (7, false), (8, false), (9, false), (10, false), (11, false)]) (r := []) (l' := [(6, .bool false)]) [6] (by kernel_rfl) ?_
          refine ops_nil ?_
          refine fin_then ?_
          refine st_ret ?_
          refine fin_ret [.tmp 6] [.bool false] rfl rfl (fun w_ hM => (.tmp rfl .nil)) (fun w_ hM => ?_)
          refine ⟨?_, hM.done⟩
          exfalso
          have := of_decide_eq_false hc1
          have := beq_iff_eq.1 hc5
          have := of_decide_eq_true hc6
          have := of_decide_eq_false hc7
          omega
      · --decide (hi < ((q + 2 * r) / 18446744073709551616))
        refine ops_run (is := [(4, false), (5, false), (6, false), (7, false)]) (r := [(8, false), (9, false), (10, false), (11, false), (12, false), (13, false)]) (l' := [(71, .bool (((q + 2 * r) / 18446744073709551616) == hi)), (67, .bool false), (14, .bool (decide ((q % 18446744073709551616) ≤ lo))), (10, .int .u64 ((q + 2 * r) % 18446744073709551616)), (0, .int .i64 a), (2, .int .u64 lo)]) [71, 67, 14, 10, 0, 2] (by kernel_rfl) ?_
        refine ops_bool (t := (((q + 2 * r) / 18446744073709551616) == hi)) (l1 := [(71, .bool true), (67, .bool false), (14, .bool (decide ((q % 18446744073709551616) ≤ lo))), (10, .int .u64 ((q + 2 * r) % 18446744073709551616)), (0, .int .i64 a), (2, .int .u64 lo)]) (l2 := [(71, .bool false), (67, .bool false), (14, .bool (decide ((q % 18446744073709551616) ≤ lo))), (10, .int .u64 ((q + 2 * r) % 18446744073709551616)), (0, .int .i64 a), (2, .int .u64 lo)]) (fun h => by rw [h]) (fun h => by rw [h]) (fun hc8 => ?_) (fun hc8 => ?_)
        · --(((q + 2 * r) / 18446744073709551616) == hi)
          refine ops_run (is := [(8, false), (9, false), (10, false), (11, false), (12, false), (13, false)]) (r := []) (l' := [(15, .bool (decide (lo ≤ ((q + 2 * r) % 18446744073709551616)))), (14, .bool (decide ((q % 18446744073709551616) ≤ lo))), (0, .int .i64 a)]) [15, 14, 0] (by kernel_rfl) ?_
          refine ops_nil ?_
          refine fin_then ?_
          refine st_seq ?_
          refine st_region [(0, false), (1, false), (2, false), (3, false), (4, false), (5, false), (6, false), (7, false), (8, false), (9, false), (10, false), (11, false)] (by rfl) ?_
          refine ops_run (is := [(0, false), (1, false)]) (r := [(2, false), (3, false), (4, false), (5, false), (6, false), (7, false), (8, false), (9, false), (10, false), (11, false)]) (l' := [(78, .bool (decide ((q % 18446744073709551616) ≤ lo))), (15, .bool (decide (lo ≤ ((q + 2 * r) % 18446744073709551616)))), (0, .int .i64 a)]) [78, 15, 0] (by kernel_rfl) ?_
          refine ops_bool (t := decide ((q % 18446744073709551616) ≤ lo)) (l1 := [(78, .bool true), (15, .bool (decide (lo ≤ ((q + 2 * r) % 18446744073709551616)))), (0, .int .i64 a)]) (l2 := [(78, .bool false), (15, .bool (decide (lo ≤ ((q + 2 * r) % 18446744073709551616)))), (0, .int .i64 a)]) (fun h => by rw [h]) (fun h => by rw [h]) (fun hc9 => ?_) (fun hc9 => ?_)
          · --decide ((q % 18446744073709551616) ≤ lo)
            refine ops_run (is := [(2, false), (3, false), (4, false)]) (r := [(5, false), (6, false), (7, false), (8, false), (9, false), (10, false), (11, false)]) (l' := [(81, .bool (decide (lo ≤ ((q + 2 * r) % 18446744073709551616)))), (0, .int .i64 a)]) [81, 0] (by kernel_rfl) ?_
            refine ops_bool (t := decide (lo ≤ ((q + 2 * r) % 18446744073709551616))) (l1 := [(81, .bool true), (0, .int .i64 a)]) (l2 := [(81, .bool false), (0, .int .i64 a)]) (fun h => by rw [h]) (fun h => by rw [h]) (fun hc10 => ?_) (fun hc10 => ?_)
            · --decide (lo ≤ ((q + 2 * r) % 18446744073709551616))
              refine ops_run (is := [(5, false)]) (r := [(6, false), (7, false), (8, false), (9, false), (10, false), (11, false)]) (l' := [(82, .int .i64 a), (81, .bool true), (0, .int .i64 a)]) [82, 81, 0] (by kernel_rfl) ?_
              refine ops_call (σ := Unit) (d := some 83) (f := 48) (args := #[.int .i64 a]) (v := fun _ => .int .i64 (sqrtV a)) (M' := fun _ => Mem w []) ⟨by kernel_rfl⟩ (fun w_ hM hS => (Sqrt_calls a w_).mono (by rintro e w' ⟨rfl, hb⟩; exact ⟨(), rfl, hM.step hb, trivial⟩)) (fun _ => ?_)
              refine ops_run (is := [(7, false)]) (r := [(8, false), (9, false), (10, false), (11, false)]) (l' := [(84, .int .i64 a), (83, .int .i64 (sqrtV a)), (81, .bool true)]) [84, 83, 81] (by kernel_rfl) ?_
              refine ops_call (σ := Unit) (d := some 85) (f := 52) (args := #[.int .i64 a]) (v := fun _ => .int .i64 (sqrtV a)) (M' := fun _ => Mem w []) ⟨by kernel_rfl⟩ (fun w_ hM hS => (RRoot_calls a w_).mono (by rintro e w' ⟨rfl, hb⟩; exact ⟨(), rfl, hM.step hb, trivial⟩)) (fun _ => ?_)
              refine ops_run (is := []) (r := [(9, false), (10, false), (11, false)]) (l' := [(85, .int .i64 (sqrtV a)), (83, .int .i64 (sqrtV a)), (81, .bool true)]) [85, 83, 81] (by kernel_rfl) ?_
              refine ops_val (op := (Go.Op.binOp Go.BinOp.eql 3 (Go.Operand.tmp 83) (Go.Operand.tmp 85) 3)) (d := some 86) (v := .bool true) ⟨by kernel_rfl⟩ (run_eql_same rfl rfl) ?_
              refine ops_run (is := [(10, false), (11, false)]) (r := []) (l' := [(6, .bool true)]) [6] (by kernel_rfl) ?_
              refine ops_nil ?_
              refine fin_then ?_
              refine st_ret ?_
              refine fin_ret [.tmp 6] [.bool true] rfl rfl (fun w_ hM => (.tmp rfl .nil)) (fun w_ hM => ?_)
              refine ⟨?_, hM.done⟩
              rfl
            · --decide (lo ≤ ((q + 2 * r) % 18446744073709551616))
              refine ops_run (is := [(5, false), (6, false), (7, false), (8, false), (9, false), (10, false), (11, false)]) (r := []) (l' := [(6, .bool false)]) [6] (by kernel_rfl) ?_
              refine ops_nil ?_
              refine fin_then ?_
              refine st_ret ?_
              refine fin_ret [.tmp 6] [.bool false] rfl rfl (fun w_ hM => (.tmp rfl .nil)) (fun w_ hM => ?_)
              refine ⟨?_, hM.done⟩
              exfalso
              have := of_decide_eq_false hc1
              have := beq_iff_eq.1 hc5
              have := of_decide_eq_false hc6
              have := beq_iff_eq.1 hc8
              have := of_decide_eq_true hc9
              have := of_decide_eq_false hc10
              omega
          · --decide ((q % 18446744073709551616) ≤ lo)
            refine ops_run (is := [(2, false), (3, false), (4, false), (5, false), (6, false), (7, false), (8, false), (9, false), (10, false), (11, false)]) (r := []) (l' := [(6, .bool false)]) [6] (by kernel_rfl) ?_
            refine ops_nil ?_
            refine fin_then ?_
            refine st_ret ?_
            refine fin_ret [.tmp 6] [.bool false] rfl rfl (fun w_ hM => (.tmp rfl .nil)) (fun w_ hM => ?_)
            refine ⟨?_, hM.done⟩
            exfalso
            have := of_decide_eq_false hc1
            have := beq_iff_eq.1 hc5
            have := of_decide_eq_false hc6
            have := beq_iff_eq.1 hc8
            have := of_decide_eq_false hc9
            omega
        · --(((q + 2 * r) / 18446744073709551616) == hi)
          refine ops_run (is := [(8, false), (9, false), (10, false), (11, false), (12, false), (13, false)]) (r := []) (l' := [(15, .bool false), (14, .bool (decide ((q % 18446744073709551616) ≤ lo))), (0, .int .i64 a)]) [15, 14, 0] (by kernel_rfl) ?_
          refine ops_nil ?_
          refine fin_then ?_
          refine st_seq ?_
          refine st_region [(0, false), (1, false), (2, false), (3, false), (4, false), (5, false), (6, false), (7, false), (8, false), (9, false), (10, false), (11, false)] (by rfl) ?_
          refine ops_run (is := [(0, false), (1, false)]) (r := [(2, false), (3, false), (4, false), (5, false), (6, false), (7, false), (8, false), (9, false), (10, false), (11, false)]) (l' := [(78, .bool (decide ((q % 18446744073709551616) ≤ lo))), (15, .bool false), (0, .int .i64 a)]) [78, 15, 0] (by kernel_rfl) ?_
          refine ops_bool (t := decide ((q % 18446744073709551616) ≤ lo)) (l1 := [(78, .bool true), (15, .bool false), (0, .int .i64 a)]) (l2 := [(78, .bool false), (15, .bool false), (0, .int .i64 a)]) (fun h => by rw [h]) (fun h => by rw [h]) (fun hc11 => ?_) (fun hc11 => ?_)
          · --decide ((q % 18446744073709551616) ≤ lo)
            refine ops_run (is := [(2, false), (3, false), (4, false), (5, false), (6, false), (7, false), (8, false), (9, false), (10, false), (11, false)]) (r := []) (l' := [(6, .bool false)]) [6] (by kernel_rfl) ?_
            refine ops_nil ?_
            refine fin_then ?_
            refine st_ret ?_
            refine fin_ret [.tmp 6] [.bool false] rfl rfl (fun w_ hM => (.tmp rfl .nil)) (fun w_ hM => ?_)
            refine ⟨?_, hM.done⟩
            exfalso
            have := of_decide_eq_false hc1
            have := beq_iff_eq.1 hc5
            have := of_decide_eq_false hc6
            have := beq_eq_false_iff_ne.1 hc8
            have := of_decide_eq_true hc11
            omega
          · --decide ((q % 18446744073709551616) ≤ lo)
            refine ops_run (is := [(2, false), (3, false), (4, false), (5, false), (6, false), (7, false), (8, false), (9, false), (10, false), (11, false)]) (r := []) (l' := [(6, .bool false)]) [6] (by kernel_rfl) ?_
            refine ops_nil ?_
            refine fin_then ?_
            refine st_ret ?_
            refine fin_ret [.tmp 6] [.bool false] rfl rfl (fun w_ hM => (.tmp rfl .nil)) (fun w_ hM => ?_)
            refine ⟨?_, hM.done⟩
            exfalso
            have := of_decide_eq_false hc1
            have := beq_iff_eq.1 hc5
            have := of_decide_eq_false hc6
            have := beq_eq_false_iff_ne.1 hc8
            have := of_decide_eq_false hc11
            omega
    · --((q / 18446744073709551616) == hi)
      refine ops_run (is := [(8, false), (9, false), (10, false), (11, false), (12, false), (13, false)]) (r := []) (l' := [(14, .bool false), (12, .int .u64 ((q + 2 * r) / 18446744073709551616)), (10, .int .u64 ((q + 2 * r) % 18446744073709551616)), (0, .int .i64 a), (1, .int .u64 hi), (2, .int .u64 lo)]) [14, 12, 10, 0, 1, 2] (by kernel_rfl) ?_
      refine ops_nil ?_
      refine fin_then ?_
      refine st_seq ?_
      refine st_region [(0, false), (1, false), (2, false), (3, false), (4, false), (5, false), (6, false), (7, false), (8, false), (9, false), (10, false), (11, false), (12, false), (13, false)] (by rfl) ?_
      refine ops_run (is := [(0, false), (1, false), (2, false), (3, false)]) (r := [(4, false), (5, false), (6, false), (7, false), (8, false), (9, false), (10, false), (11, false), (12, false), (13, false)]) (l' := [(67, .bool (decide (hi < ((q + 2 * r) / 18446744073709551616)))), (14, .bool false), (12, .int .u64 ((q + 2 * r) / 18446744073709551616)), (10, .int .u64 ((q + 2 * r) % 18446744073709551616)), (0, .int .i64 a), (1, .int .u64 hi), (2, .int .u64 lo)]) [67, 14, 12, 10, 0, 1, 2] (by kernel_rfl) ?_
      refine ops_bool (t := decide (hi < ((q + 2 * r) / 18446744073709551616))) (l1 := [(67, .bool true), (14, .bool false), (12, .int .u64 ((q + 2 * r) / 18446744073709551616)), (10, .int .u64 ((q + 2 * r) % 18446744073709551616)), (0, .int .i64 a), (1, .int .u64 hi), (2, .int .u64 lo)]) (l2 := [(67, .bool false), (14, .bool false), (12, .int .u64 ((q + 2 * r) / 18446744073709551616)), (10, .int .u64 ((q + 2 * r) % 18446744073709551616)), (0, .int .i64 a), (1, .int .u64 hi), (2, .int .u64 lo)]) (fun h => by rw [h]) (fun h => by rw [h]) (fun hc12 => ?_) (fun hc12 => ?_)
      · --decide (hi < ((q + 2 * r) / 18446744073709551616))
        refine ops_run (is := [(4, false), (5, false), (6, false), (7, false), (8, false), (9, false), (10, false), (11, false), (12, false), (13, false)]) (r := []) (l' := [(15, .bool true), (14, .bool false), (0, .int .i64 a)]) [15, 14, 0] (by kernel_rfl) ?_
        refine ops_nil ?_
        refine fin_then ?_
        refine st_seq ?_
        refine st_region [(0, false), (1, false), (2, false), (3, false), (4, false), (5, false), (6, false), (7, false), (8, false), (9, false), (10, false), (11, false)] (by rfl) ?_
        refine ops_run (is := [(0, false), (1, false), (2, false), (3, false), (4, false), (5, false), (6, false), (7, false), (8, false), (9, false), (10, false), (11, false)]) (r := []) (l' := [(6, .bool false)]) [6] (by kernel_rfl) ?_
        refine ops_nil ?_
        refine fin_then ?_
        refine st_ret ?_
        refine fin_ret [.tmp 6] [.bool false] rfl rfl (fun w_ hM => (.tmp rfl .nil)) (fun w_ hM => ?_)
        refine ⟨?_, hM.done⟩
        exfalso
        have := of_decide_eq_false hc1
        have := beq_eq_false_iff_ne.1 hc5
        have := of_decide_eq_true hc12
        omega
      · --decide (hi < ((q + 2 * r) / 18446744073709551616))
        refine ops_run (is := [(4, false), (5, false), (6, false), (7, false)]) (r := [(8, false), (9, false), (10, false), (11, false), (12, false), (13, false)]) (l' := [(71, .bool (((q + 2 * r) / 18446744073709551616) == hi)), (67, .bool false), (14, .bool false), (10, .int .u64 ((q + 2 * r) % 18446744073709551616)), (0, .int .i64 a), (2, .int .u64 lo)]) [71, 67, 14, 10, 0, 2] (by kernel_rfl) ?_
        refine ops_bool (t := (((q + 2 * r) / 18446744073709551616) == hi)) (l1 := [(71, .bool true), (67, .bool false), (14, .bool false), (10, .int .u64 ((q + 2 * r) % 18446744073709551616)), (0, .int .i64 a), (2, .int .u64 lo)]) (l2 := [(71, .bool false), (67, .bool false), (14, .bool false), (10, .int .u64 ((q + 2 * r) % 18446744073709551616)), (0, .int .i64 a), (2, .int .u64 lo)]) (fun h => by rw [h]) (fun h => by rw [h]) (fun hc13 => ?_) (fun hc13 => ?_)
        · --(((q + 2 * r) / 18446744073709551616) == hi)
          refine ops_run (is := [(8, false), (9, false), (10, false), (11, false), (12, false), (13, false)]) (r := []) (l' := [(15, .bool (decide (lo ≤ ((q + 2 * r) % 18446744073709551616)))), (14, .bool false), (0, .int .i64 a)]) [15, 14, 0] (by kernel_rfl) ?_
          refine ops_nil ?_
          refine fin_then ?_
          refine st_seq ?_
          refine st_region [(0, false), (1, false), (2, false), (3, false), (4, false), (5, false), (6, false), (7, false), (8, false), (9, false), (10, false), (11, false)] (by rfl) ?_
          refine ops_run (is := [(0, false), (1, false), (2, false), (3, false), (4, false), (5, false), (6, false), (7, false), (8, false), (9, false), (10, false), (11, false)]) (r := []) (l' := [(6, .bool false)]) [6] (by kernel_rfl) ?_
          refine ops_nil ?_
          refine fin_then ?_
          refine st_ret ?_
          refine fin_ret [.tmp 6] [.bool false] rfl rfl (fun w_ hM => (.tmp rfl .nil)) (fun w_ hM => ?_)
          refine ⟨?_, hM.done⟩
          exfalso
          have := of_decide_eq_false hc1
          have := beq_eq_false_iff_ne.1 hc5
          have := of_decide_eq_false hc12
          have := beq_iff_eq.1 hc13
          omega
        · --(((q + 2 * r) / 18446744073709551616) == hi)
          refine ops_run (is := [(8, false), (9, false), (10, false), (11, false), (12, false), (13, false)]) (r := []) (l' := [(15, .bool false), (14, .bool false), (0, .int .i64 a)]) [15, 14, 0] (by kernel_rfl) ?_
          refine ops_nil ?_
          refine fin_then ?_
          refine st_seq ?_
          refine st_region [(0, false), (1, false), (2, false), (3, false), (4, false), (5, false), (6, false), (7, false), (8, false), (9, false), (10, false), (11, false)] (by rfl) ?_
          refine ops_run (is := [(0, false), (1, false), (2, false), (3, false), (4, false), (5, false), (6, false), (7, false), (8, false), (9, false), (10, false), (11, false)]) (r := []) (l' := [(6, .bool false)]) [6] (by kernel_rfl) ?_
          refine ops_nil ?_
          refine fin_then ?_
          refine st_ret ?_
          refine fin_ret [.tmp 6] [.bool false] rfl rfl (fun w_ hM => (.tmp rfl .nil)) (fun w_ hM => ?_)
          refine ⟨?_, hM.done⟩
          exfalso
          have := of_decide_eq_false hc1
          have := beq_eq_false_iff_ne.1 hc5
          have := of_decide_eq_false hc12
          have := beq_eq_false_iff_ne.1 hc13
          omega
theorem FixRoots_calls (a hi lo : Int) (w : World) (ha : (Lit.int .i64 a).wf = true) (h1 : (Lit.int .u64 hi).wf = true) (h2 : (Lit.int .u64 lo).wf = true) : Calls Try.prog 9 #[.int .i64 a, .int .u64 hi, .int .u64 lo] w fun e w' => e = .returned (.bool true) ∧ Below w.heap.size w w' := by
  have b := wf_u64 h1
  have c := wf_u64 h2
  have hN : num hi lo < 340282366920938463463374607431768211456 := by unfold num; omega
  obtain ⟨r1, r2, r3⟩ := rootN_ok hN
  have hn : hi * 18446744073709551616 + lo = ((num hi lo : Nat) : Int) := by unfold num; omega
  have e1 : ((rootN (num hi lo) * rootN (num hi lo) : Nat) : Int) = ((rootN (num hi lo) : Nat) : Int) * ((rootN (num hi lo) : Nat) : Int) := by simp
  have e2 : (rootN (num hi lo) + 1) * (rootN (num hi lo) + 1) = rootN (num hi lo) * rootN (num hi lo) + 2 * rootN (num hi lo) + 1 := by rw [Nat.add_mul, Nat.mul_add]; omega
  rw [e2] at r2
  have e3 := Nat.mul_le_mul (show rootN (num hi lo) ≤ 18446744073709551615 by omega) (show rootN (num hi lo) ≤ 18446744073709551615 by omega)
  exact FixRoots_calls0 a hi lo _ _ w b.1 b.2 c.1 c.2 rfl rfl (by omega) (by omega) (by omega) (by omega) (by omega) (by omega)
end Go.Proofs.Ytdmlapkindoghaa.WRoot
