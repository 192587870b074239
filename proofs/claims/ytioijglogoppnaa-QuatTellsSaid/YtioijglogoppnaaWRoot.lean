/- Walks of fix.Root, fix.Sqrt and the reference's Root. No condition. -/
import Derived.Test.YtioijglogoppnaaProg
import Derived.Test.YtioijglogoppnaaSxOps
import Derived.Test.YtioijglogoppnaaRootSpec
import Derived.Test.YtioijglogoppnaaWMul
import Derived.Test.YtioijglogoppnaaWClamp
import Derived.Test.YtioijglogoppnaaWNat
namespace Go.Proofs.Ytioijglogoppnaa.WRoot
open Go Go.RowKit Go.Proofs.Ytioijglogoppnaa.Sx Go.Proofs.Ytioijglogoppnaa.Rnd Go.Proofs.Ytioijglogoppnaa.Nats Go.Proofs.Ytioijglogoppnaa.Trig Go.Proofs.Ytioijglogoppnaa.Root Go.Proofs.Ytioijglogoppnaa.WMul Go.Proofs.Ytioijglogoppnaa.WClamp Go.Proofs.Ytioijglogoppnaa.WNat
set_option linter.unusedVariables false
set_option linter.unusedSimpArgs false
set_option maxHeartbeats 4000000 in
set_option maxRecDepth 100000 in
theorem Root_calls (hi lo : Int) (w : World) (hi0 : 0 ≤ hi) (hi1 : hi < 18446744073709551616) (lo0 : 0 ≤ lo) (lo1 : lo < 18446744073709551616) : Calls Try.prog 129 #[vU hi, vU lo] w fun e w' => e = .returned (vU ((rootN (num hi lo) : Nat) : Int)) ∧ Below w.heap.size w w' := by
 have hN : num hi lo < 340282366920938463463374607431768211456 := by unfold num; omega
 refine sx_calls Try.func129 rfl (n := 38) (by kernel_rfl) (l := [(0, vU hi), (1, vU lo)]) rfl (by rfl) (Mem.nil w) ?_
 refine st_seq ?_
 refine st_region [oF 0] (by rfl) ?_
 refine oR [oF 0] [(0, vU hi), (1, vU lo)] [0, 1] (by kernel_rfl) ?_
 refine ops_nil ?_
 refine fin_then ?_
 refine st_seq ?_
 refine st_region [oF 0] (by rfl) ?_
 refine oR [oF 0] [(5, vU 0), (0, vU hi), (1, vU lo)] [5, 0, 1] (by kernel_rfl) ?_
 refine ops_nil ?_
 refine fin_then ?_
 refine st_seq ?_
 refine st_seq ?_
 refine st_region [oF 0] (by rfl) ?_
 refine oR [oF 0] [(6, vU 9223372036854775808), (5, vU 0), (0, vU hi), (1, vU lo)] [6, 5, 0, 1] (by kernel_rfl) ?_
 refine ops_nil ?_
 refine fin_then ?_
 refine st_block ?_
 refine st_loop (σ := Nat) 0 (fun j => [(6, vU ((9223372036854775808 / 2 ^ j : Nat) : Int)), (5, vU ((rootAt (num hi lo) j : Nat) : Int)), (0, vU hi), (1, vU lo)]) (fun j => Mem w []) (fun j => j ≤ 64) (fun j => 64 - j) (by exact Nat.zero_le _) (look_has ⟨rfl, rfl, rfl, rfl, trivial⟩) (fun w_ hM => by exact hM) ?_
 rintro j hI
 have hj : j ≤ 64 := hI
 refine st_seq ?_
 refine st_seq ?_
 refine st_region [oF 0, oF 1] (by rfl) ?_
 refine oR [oF 0, oF 1] [(11, .bool (decide (0 < ((9223372036854775808 / 2 ^ j : Nat) : Int)))), (6, vU ((9223372036854775808 / 2 ^ j : Nat) : Int)), (5, vU ((rootAt (num hi lo) j : Nat) : Int)), (0, vU hi), (1, vU lo)] [11, 6, 5, 0, 1] (by kernel_rfl) ?_
 refine ops_nil ?_
 refine fin_then ?_
 refine st_if (b := decide (0 < ((9223372036854775808 / 2 ^ j : Nat) : Int))) rfl (fun hc1 => ?_) (fun hc1 => ?_)
 · --
  have hspos : 0 < 9223372036854775808 / 2 ^ j := by have := of_decide_eq_true hc1; omega
  have hj64 : j < 64 := Nat.lt_of_not_le fun h => by have := Nat.div_eq_of_lt (Nat.lt_of_lt_of_le (show 9223372036854775808 < 2 ^ 64 by decide) (Nat.pow_le_pow_right (show 0 < 2 by decide) h)); omega
  have hor := or_bit hN hj64
  obtain ⟨hb1, hb2, hb3, hb4⟩ := bits_ok j hj64
  obtain ⟨hr1, hr2, hr3, hr4⟩ := rootAt_ok hN (j := j) (by omega)
  have hxlt : rootAt (num hi lo) j + 9223372036854775808 / 2 ^ j < 18446744073709551616 := by omega
  have hshr : Int.fdiv ((9223372036854775808 / 2 ^ j : Nat) : Int) 2 = ((9223372036854775808 / 2 ^ (j + 1) : Nat) : Int) := by rw [Int.fdiv_eq_ediv_of_nonneg _ (by decide), Nat.pow_succ, ← Nat.div_div_eq_div_mul]; omega
  have hxx : ((rootAt (num hi lo) j + 9223372036854775808 / 2 ^ j : Nat) : Int) * ((rootAt (num hi lo) j + 9223372036854775808 / 2 ^ j : Nat) : Int) = (((((rootAt (num hi lo) j + 9223372036854775808 / 2 ^ j) * (rootAt (num hi lo) j + 9223372036854775808 / 2 ^ j)) : Nat) : Int) : Int) := by simp
  have hNN : hi * 18446744073709551616 + lo = ((num hi lo : Nat) : Int) := by unfold num; omega
  refine st_skip ?_
  refine fin_then ?_
  refine st_seq ?_
  refine st_block ?_
  refine st_seq ?_
  refine st_region [oF 0, oF 1, oF 2, oF 3] (by rfl) ?_
  refine oR [oF 0, oF 1, oF 2] [(16, vU (Go.bits .or .u64 ((rootAt (num hi lo) j : Nat) : Int) ((9223372036854775808 / 2 ^ j : Nat) : Int))), (6, vU ((9223372036854775808 / 2 ^ j : Nat) : Int)), (5, vU ((rootAt (num hi lo) j : Nat) : Int)), (0, vU hi), (1, vU lo)] [16, 6, 5, 0, 1] (by kernel_rfl) ?_
  refine ops_conv (l' := [(16, vU ((rootAt (num hi lo) j + 9223372036854775808 / 2 ^ j : Nat) : Int)), (6, vU ((9223372036854775808 / 2 ^ j : Nat) : Int)), (5, vU ((rootAt (num hi lo) j : Nat) : Int)), (0, vU hi), (1, vU lo)]) (by rw [hor]) (fun _ h => h) ?_
  refine oR [oF 3] [(7, vU ((rootAt (num hi lo) j + 9223372036854775808 / 2 ^ j : Nat) : Int)), (6, vU ((9223372036854775808 / 2 ^ j : Nat) : Int)), (5, vU ((rootAt (num hi lo) j : Nat) : Int)), (0, vU hi), (1, vU lo)] [7, 6, 5, 0, 1] (by kernel_rfl) ?_
  refine ops_nil ?_
  refine fin_then ?_
  refine st_seq ?_
  refine st_region [oF 0, oF 1, oF 2, oF 3, oF 4, oF 5, oF 6, oF 7] (by rfl) ?_
  refine oR [oF 0, oF 1] [(19, vU ((rootAt (num hi lo) j + 9223372036854775808 / 2 ^ j : Nat) : Int)), (18, vU ((rootAt (num hi lo) j + 9223372036854775808 / 2 ^ j : Nat) : Int)), (7, vU ((rootAt (num hi lo) j + 9223372036854775808 / 2 ^ j : Nat) : Int)), (6, vU ((9223372036854775808 / 2 ^ j : Nat) : Int)), (5, vU ((rootAt (num hi lo) j : Nat) : Int)), (0, vU hi), (1, vU lo)] [19, 18, 7, 6, 5, 0, 1] (by kernel_rfl) ?_
  refine oC (some 20) 94 #[vU ((rootAt (num hi lo) j + 9223372036854775808 / 2 ^ j : Nat) : Int), vU ((rootAt (num hi lo) j + 9223372036854775808 / 2 ^ j : Nat) : Int)] (.tuple #[vU (((rootAt (num hi lo) j + 9223372036854775808 / 2 ^ j : Nat) : Int) * ((rootAt (num hi lo) j + 9223372036854775808 / 2 ^ j : Nat) : Int) / 18446744073709551616), vU (((rootAt (num hi lo) j + 9223372036854775808 / 2 ^ j : Nat) : Int) * ((rootAt (num hi lo) j + 9223372036854775808 / 2 ^ j : Nat) : Int) % 18446744073709551616)]) ⟨by kernel_rfl⟩ (fun w_ hM => Mul64_calls ((rootAt (num hi lo) j + 9223372036854775808 / 2 ^ j : Nat) : Int) ((rootAt (num hi lo) j + 9223372036854775808 / 2 ^ j : Nat) : Int) w_ (by omega) (by omega) (by omega) (by omega)) ?_
  refine oR [oF 3, oF 4, oF 5, oF 6, oF 7] [(9, vU (((rootAt (num hi lo) j + 9223372036854775808 / 2 ^ j : Nat) : Int) * ((rootAt (num hi lo) j + 9223372036854775808 / 2 ^ j : Nat) : Int) % 18446744073709551616)), (8, vU (((rootAt (num hi lo) j + 9223372036854775808 / 2 ^ j : Nat) : Int) * ((rootAt (num hi lo) j + 9223372036854775808 / 2 ^ j : Nat) : Int) / 18446744073709551616)), (7, vU ((rootAt (num hi lo) j + 9223372036854775808 / 2 ^ j : Nat) : Int)), (6, vU ((9223372036854775808 / 2 ^ j : Nat) : Int)), (5, vU ((rootAt (num hi lo) j : Nat) : Int)), (0, vU hi), (1, vU lo)] [9, 8, 7, 6, 5, 0, 1] (by kernel_rfl) ?_
  refine ops_nil ?_
  refine fin_then ?_
  refine st_seq ?_
  refine st_region [oF 0, oF 1, oF 2, oF 3, oF 4, oF 5, oF 6, oF 7, oF 8, oF 9, oF 10, oF 11, oF 12] (by rfl) ?_
  refine oR [oF 0, oF 1, oF 2, oF 3] [(26, .bool (decide ((((rootAt (num hi lo) j + 9223372036854775808 / 2 ^ j : Nat) : Int) * ((rootAt (num hi lo) j + 9223372036854775808 / 2 ^ j : Nat) : Int) / 18446744073709551616) < hi))), (9, vU (((rootAt (num hi lo) j + 9223372036854775808 / 2 ^ j : Nat) : Int) * ((rootAt (num hi lo) j + 9223372036854775808 / 2 ^ j : Nat) : Int) % 18446744073709551616)), (8, vU (((rootAt (num hi lo) j + 9223372036854775808 / 2 ^ j : Nat) : Int) * ((rootAt (num hi lo) j + 9223372036854775808 / 2 ^ j : Nat) : Int) / 18446744073709551616)), (7, vU ((rootAt (num hi lo) j + 9223372036854775808 / 2 ^ j : Nat) : Int)), (6, vU ((9223372036854775808 / 2 ^ j : Nat) : Int)), (5, vU ((rootAt (num hi lo) j : Nat) : Int)), (0, vU hi), (1, vU lo)] [26, 9, 8, 7, 6, 5, 0, 1] (by kernel_rfl) ?_
  refine ops_bool (t := decide ((((rootAt (num hi lo) j + 9223372036854775808 / 2 ^ j : Nat) : Int) * ((rootAt (num hi lo) j + 9223372036854775808 / 2 ^ j : Nat) : Int) / 18446744073709551616) < hi)) (l1 := [(26, .bool true), (9, vU (((rootAt (num hi lo) j + 9223372036854775808 / 2 ^ j : Nat) : Int) * ((rootAt (num hi lo) j + 9223372036854775808 / 2 ^ j : Nat) : Int) % 18446744073709551616)), (8, vU (((rootAt (num hi lo) j + 9223372036854775808 / 2 ^ j : Nat) : Int) * ((rootAt (num hi lo) j + 9223372036854775808 / 2 ^ j : Nat) : Int) / 18446744073709551616)), (7, vU ((rootAt (num hi lo) j + 9223372036854775808 / 2 ^ j : Nat) : Int)), (6, vU ((9223372036854775808 / 2 ^ j : Nat) : Int)), (5, vU ((rootAt (num hi lo) j : Nat) : Int)), (0, vU hi), (1, vU lo)]) (l2 := [(26, .bool false), (9, vU (((rootAt (num hi lo) j + 9223372036854775808 / 2 ^ j : Nat) : Int) * ((rootAt (num hi lo) j + 9223372036854775808 / 2 ^ j : Nat) : Int) % 18446744073709551616)), (8, vU (((rootAt (num hi lo) j + 9223372036854775808 / 2 ^ j : Nat) : Int) * ((rootAt (num hi lo) j + 9223372036854775808 / 2 ^ j : Nat) : Int) / 18446744073709551616)), (7, vU ((rootAt (num hi lo) j + 9223372036854775808 / 2 ^ j : Nat) : Int)), (6, vU ((9223372036854775808 / 2 ^ j : Nat) : Int)), (5, vU ((rootAt (num hi lo) j : Nat) : Int)), (0, vU hi), (1, vU lo)]) (fun h => by rw [h]) (fun h => by rw [h]) (fun hc2 => ?_) (fun hc2 => ?_)
  · --decide ((((rootAt (num hi lo) j + 9223372036854775808 / 2 ^ 
   refine oR [oF 4, oF 5, oF 6, oF 7, oF 8, oF 9, oF 10, oF 11, oF 12] [(35, .bool true), (7, vU ((rootAt (num hi lo) j + 9223372036854775808 / 2 ^ j : Nat) : Int)), (6, vU ((9223372036854775808 / 2 ^ j : Nat) : Int)), (5, vU ((rootAt (num hi lo) j : Nat) : Int)), (0, vU hi), (1, vU lo)] [35, 7, 6, 5, 0, 1] (by kernel_rfl) ?_
   refine ops_nil ?_
   refine fin_then ?_
   refine st_true rfl ?_
   refine st_region [oF 0, oF 1] (by rfl) ?_
   refine oR [oF 0, oF 1] [(5, vU ((rootAt (num hi lo) j + 9223372036854775808 / 2 ^ j : Nat) : Int)), (6, vU ((9223372036854775808 / 2 ^ j : Nat) : Int)), (0, vU hi), (1, vU lo)] [5, 6, 0, 1] (by kernel_rfl) ?_
   refine ops_nil ?_
   refine fin_block ?_
   refine fin_then ?_
   refine st_region [oF 0, oF 1, oF 2] (by rfl) ?_
   refine oR [oF 0, oF 1] [(13, vU (Int.fdiv ((9223372036854775808 / 2 ^ j : Nat) : Int) 2)), (5, vU ((rootAt (num hi lo) j + 9223372036854775808 / 2 ^ j : Nat) : Int)), (6, vU ((9223372036854775808 / 2 ^ j : Nat) : Int)), (0, vU hi), (1, vU lo)] [13, 5, 6, 0, 1] (by kernel_rfl) ?_
   refine ops_conv (l' := [(13, vU ((9223372036854775808 / 2 ^ (j + 1) : Nat) : Int)), (5, vU ((rootAt (num hi lo) j + 9223372036854775808 / 2 ^ j : Nat) : Int)), (6, vU ((9223372036854775808 / 2 ^ j : Nat) : Int)), (0, vU hi), (1, vU lo)]) (by rw [hshr]) (fun _ h => h) ?_
   refine oR [oF 2] [(6, vU ((9223372036854775808 / 2 ^ (j + 1) : Nat) : Int)), (5, vU ((rootAt (num hi lo) j + 9223372036854775808 / 2 ^ j : Nat) : Int)), (0, vU hi), (1, vU lo)] [6, 5, 0, 1] (by kernel_rfl) ?_
   refine ops_nil ?_
   have hnext : rootAt (num hi lo) (j + 1) = rootAt (num hi lo) j + 9223372036854775808 / 2 ^ j := by
    refine if_pos ?_
    have := of_decide_eq_true hc1
    have := of_decide_eq_true hc2
    simp only [hxx] at *
    generalize ((rootAt (num hi lo) j + 9223372036854775808 / 2 ^ j) * (rootAt (num hi lo) j + 9223372036854775808 / 2 ^ j)) = q at *
    omega
   refine fin_conv (l' := [(6, vU ((9223372036854775808 / 2 ^ (j + 1) : Nat) : Int)), (5, vU ((rootAt (num hi lo) (j + 1) : Nat) : Int)), (0, vU hi), (1, vU lo)]) (M' := Mem w []) (by rw [hnext]) (fun w_ hM => hM) ?_
   refine fin_round (j + 1) (by show j + 1 ≤ 64; omega) (by (show 64 - (j + 1) < 64 - j; omega)) (look_has ⟨rfl, rfl, rfl, rfl, trivial⟩) (fun w_ hM => by exact hM)
  · --decide ((((rootAt (num hi lo) j + 9223372036854775808 / 2 ^ 
   refine oR [oF 4, oF 5, oF 6, oF 7] [(30, .bool ((((rootAt (num hi lo) j + 9223372036854775808 / 2 ^ j : Nat) : Int) * ((rootAt (num hi lo) j + 9223372036854775808 / 2 ^ j : Nat) : Int) / 18446744073709551616) == hi)), (26, .bool false), (9, vU (((rootAt (num hi lo) j + 9223372036854775808 / 2 ^ j : Nat) : Int) * ((rootAt (num hi lo) j + 9223372036854775808 / 2 ^ j : Nat) : Int) % 18446744073709551616)), (7, vU ((rootAt (num hi lo) j + 9223372036854775808 / 2 ^ j : Nat) : Int)), (6, vU ((9223372036854775808 / 2 ^ j : Nat) : Int)), (5, vU ((rootAt (num hi lo) j : Nat) : Int)), (0, vU hi), (1, vU lo)] [30, 26, 9, 7, 6, 5, 0, 1] (by kernel_rfl) ?_
   refine ops_bool (t := ((((rootAt (num hi lo) j + 9223372036854775808 / 2 ^ j : Nat) : Int) * ((rootAt (num hi lo) j + 9223372036854775808 / 2 ^ j : Nat) : Int) / 18446744073709551616) == hi)) (l1 := [(30, .bool true), (26, .bool false), (9, vU (((rootAt (num hi lo) j + 9223372036854775808 / 2 ^ j : Nat) : Int) * ((rootAt (num hi lo) j + 9223372036854775808 / 2 ^ j : Nat) : Int) % 18446744073709551616)), (7, vU ((rootAt (num hi lo) j + 9223372036854775808 / 2 ^ j : Nat) : Int)), (6, vU ((9223372036854775808 / 2 ^ j : Nat) : Int)), (5, vU ((rootAt (num hi lo) j : Nat) : Int)), (0, vU hi), (1, vU lo)]) (l2 := [(30, .bool false), (26, .bool false), (9, vU (((rootAt (num hi lo) j + 9223372036854775808 / 2 ^ j : Nat) : Int) * ((rootAt (num hi lo) j + 9223372036854775808 / 2 ^ j : Nat) : Int) % 18446744073709551616)), (7, vU ((rootAt (num hi lo) j + 9223372036854775808 / 2 ^ j : Nat) : Int)), (6, vU ((9223372036854775808 / 2 ^ j : Nat) : Int)), (5, vU ((rootAt (num hi lo) j : Nat) : Int)), (0, vU hi), (1, vU lo)]) (fun h => by rw [h]) (fun h => by rw [h]) (fun hc3 => ?_) (fun hc3 => ?_)
   · --((((rootAt (num hi lo) j + 9223372036854775808 / 2 ^ j : Nat
    refine oR [oF 8, oF 9, oF 10, oF 11, oF 12] [(35, .bool (decide ((((rootAt (num hi lo) j + 9223372036854775808 / 2 ^ j : Nat) : Int) * ((rootAt (num hi lo) j + 9223372036854775808 / 2 ^ j : Nat) : Int) % 18446744073709551616) ≤ lo))), (7, vU ((rootAt (num hi lo) j + 9223372036854775808 / 2 ^ j : Nat) : Int)), (6, vU ((9223372036854775808 / 2 ^ j : Nat) : Int)), (5, vU ((rootAt (num hi lo) j : Nat) : Int)), (0, vU hi), (1, vU lo)] [35, 7, 6, 5, 0, 1] (by kernel_rfl) ?_
    refine ops_nil ?_
    refine fin_then ?_
    refine st_if (b := decide ((((rootAt (num hi lo) j + 9223372036854775808 / 2 ^ j : Nat) : Int) * ((rootAt (num hi lo) j + 9223372036854775808 / 2 ^ j : Nat) : Int) % 18446744073709551616) ≤ lo)) rfl (fun hc4 => ?_) (fun hc4 => ?_)
    · --
     refine st_region [oF 0, oF 1] (by rfl) ?_
     refine oR [oF 0, oF 1] [(5, vU ((rootAt (num hi lo) j + 9223372036854775808 / 2 ^ j : Nat) : Int)), (6, vU ((9223372036854775808 / 2 ^ j : Nat) : Int)), (0, vU hi), (1, vU lo)] [5, 6, 0, 1] (by kernel_rfl) ?_
     refine ops_nil ?_
     refine fin_block ?_
     refine fin_then ?_
     refine st_region [oF 0, oF 1, oF 2] (by rfl) ?_
     refine oR [oF 0, oF 1] [(13, vU (Int.fdiv ((9223372036854775808 / 2 ^ j : Nat) : Int) 2)), (5, vU ((rootAt (num hi lo) j + 9223372036854775808 / 2 ^ j : Nat) : Int)), (6, vU ((9223372036854775808 / 2 ^ j : Nat) : Int)), (0, vU hi), (1, vU lo)] [13, 5, 6, 0, 1] (by kernel_rfl) ?_
     refine ops_conv (l' := [(13, vU ((9223372036854775808 / 2 ^ (j + 1) : Nat) : Int)), (5, vU ((rootAt (num hi lo) j + 9223372036854775808 / 2 ^ j : Nat) : Int)), (6, vU ((9223372036854775808 / 2 ^ j : Nat) : Int)), (0, vU hi), (1, vU lo)]) (by rw [hshr]) (fun _ h => h) ?_
     refine oR [oF 2] [(6, vU ((9223372036854775808 / 2 ^ (j + 1) : Nat) : Int)), (5, vU ((rootAt (num hi lo) j + 9223372036854775808 / 2 ^ j : Nat) : Int)), (0, vU hi), (1, vU lo)] [6, 5, 0, 1] (by kernel_rfl) ?_
     refine ops_nil ?_
     have hnext : rootAt (num hi lo) (j + 1) = rootAt (num hi lo) j + 9223372036854775808 / 2 ^ j := by
      refine if_pos ?_
      have := of_decide_eq_true hc1
      have := of_decide_eq_false hc2
      have := beq_iff_eq.1 hc3
      have := of_decide_eq_true hc4
      simp only [hxx] at *
      generalize ((rootAt (num hi lo) j + 9223372036854775808 / 2 ^ j) * (rootAt (num hi lo) j + 9223372036854775808 / 2 ^ j)) = q at *
      omega
     refine fin_conv (l' := [(6, vU ((9223372036854775808 / 2 ^ (j + 1) : Nat) : Int)), (5, vU ((rootAt (num hi lo) (j + 1) : Nat) : Int)), (0, vU hi), (1, vU lo)]) (M' := Mem w []) (by rw [hnext]) (fun w_ hM => hM) ?_
     refine fin_round (j + 1) (by show j + 1 ≤ 64; omega) (by (show 64 - (j + 1) < 64 - j; omega)) (look_has ⟨rfl, rfl, rfl, rfl, trivial⟩) (fun w_ hM => by exact hM)
    · --
     refine st_skip ?_
     refine fin_block ?_
     refine fin_then ?_
     refine st_region [oF 0, oF 1, oF 2] (by rfl) ?_
     refine oR [oF 0, oF 1] [(13, vU (Int.fdiv ((9223372036854775808 / 2 ^ j : Nat) : Int) 2)), (6, vU ((9223372036854775808 / 2 ^ j : Nat) : Int)), (5, vU ((rootAt (num hi lo) j : Nat) : Int)), (0, vU hi), (1, vU lo)] [13, 6, 5, 0, 1] (by kernel_rfl) ?_
     refine ops_conv (l' := [(13, vU ((9223372036854775808 / 2 ^ (j + 1) : Nat) : Int)), (6, vU ((9223372036854775808 / 2 ^ j : Nat) : Int)), (5, vU ((rootAt (num hi lo) j : Nat) : Int)), (0, vU hi), (1, vU lo)]) (by rw [hshr]) (fun _ h => h) ?_
     refine oR [oF 2] [(6, vU ((9223372036854775808 / 2 ^ (j + 1) : Nat) : Int)), (5, vU ((rootAt (num hi lo) j : Nat) : Int)), (0, vU hi), (1, vU lo)] [6, 5, 0, 1] (by kernel_rfl) ?_
     refine ops_nil ?_
     have hnext : rootAt (num hi lo) (j + 1) = rootAt (num hi lo) j := by
      refine if_neg ?_
      have := of_decide_eq_true hc1
      have := of_decide_eq_false hc2
      have := beq_iff_eq.1 hc3
      have := of_decide_eq_false hc4
      simp only [hxx] at *
      generalize ((rootAt (num hi lo) j + 9223372036854775808 / 2 ^ j) * (rootAt (num hi lo) j + 9223372036854775808 / 2 ^ j)) = q at *
      omega
     refine fin_conv (l' := [(6, vU ((9223372036854775808 / 2 ^ (j + 1) : Nat) : Int)), (5, vU ((rootAt (num hi lo) (j + 1) : Nat) : Int)), (0, vU hi), (1, vU lo)]) (M' := Mem w []) (by rw [hnext]) (fun w_ hM => hM) ?_
     refine fin_round (j + 1) (by show j + 1 ≤ 64; omega) (by (show 64 - (j + 1) < 64 - j; omega)) (look_has ⟨rfl, rfl, rfl, rfl, trivial⟩) (fun w_ hM => by exact hM)
   · --((((rootAt (num hi lo) j + 9223372036854775808 / 2 ^ j : Nat
    refine oR [oF 8, oF 9, oF 10, oF 11, oF 12] [(35, .bool false), (7, vU ((rootAt (num hi lo) j + 9223372036854775808 / 2 ^ j : Nat) : Int)), (6, vU ((9223372036854775808 / 2 ^ j : Nat) : Int)), (5, vU ((rootAt (num hi lo) j : Nat) : Int)), (0, vU hi), (1, vU lo)] [35, 7, 6, 5, 0, 1] (by kernel_rfl) ?_
    refine ops_nil ?_
    refine fin_then ?_
    refine st_false rfl ?_
    refine st_skip ?_
    refine fin_block ?_
    refine fin_then ?_
    refine st_region [oF 0, oF 1, oF 2] (by rfl) ?_
    refine oR [oF 0, oF 1] [(13, vU (Int.fdiv ((9223372036854775808 / 2 ^ j : Nat) : Int) 2)), (6, vU ((9223372036854775808 / 2 ^ j : Nat) : Int)), (5, vU ((rootAt (num hi lo) j : Nat) : Int)), (0, vU hi), (1, vU lo)] [13, 6, 5, 0, 1] (by kernel_rfl) ?_
    refine ops_conv (l' := [(13, vU ((9223372036854775808 / 2 ^ (j + 1) : Nat) : Int)), (6, vU ((9223372036854775808 / 2 ^ j : Nat) : Int)), (5, vU ((rootAt (num hi lo) j : Nat) : Int)), (0, vU hi), (1, vU lo)]) (by rw [hshr]) (fun _ h => h) ?_
    refine oR [oF 2] [(6, vU ((9223372036854775808 / 2 ^ (j + 1) : Nat) : Int)), (5, vU ((rootAt (num hi lo) j : Nat) : Int)), (0, vU hi), (1, vU lo)] [6, 5, 0, 1] (by kernel_rfl) ?_
    refine ops_nil ?_
    have hnext : rootAt (num hi lo) (j + 1) = rootAt (num hi lo) j := by
     refine if_neg ?_
     have := of_decide_eq_true hc1
     have := of_decide_eq_false hc2
     have := beq_eq_false_iff_ne.1 hc3
     simp only [hxx] at *
     generalize ((rootAt (num hi lo) j + 9223372036854775808 / 2 ^ j) * (rootAt (num hi lo) j + 9223372036854775808 / 2 ^ j)) = q at *
     omega
    refine fin_conv (l' := [(6, vU ((9223372036854775808 / 2 ^ (j + 1) : Nat) : Int)), (5, vU ((rootAt (num hi lo) (j + 1) : Nat) : Int)), (0, vU hi), (1, vU lo)]) (M' := Mem w []) (by rw [hnext]) (fun w_ hM => hM) ?_
    refine fin_round (j + 1) (by show j + 1 ≤ 64; omega) (by (show 64 - (j + 1) < 64 - j; omega)) (look_has ⟨rfl, rfl, rfl, rfl, trivial⟩) (fun w_ hM => by exact hM)
 · --
  have hend : j = 64 := by have h0 := of_decide_eq_false hc1; have h1 : ¬ j < 64 := fun h => absurd (bits_ok j h).2.2.1 (by omega); omega
  refine st_exit ?_
  refine fin_exit_then ?_
  refine fin_exit_then ?_
  refine fin_exit ?_
  refine fin_then ?_
  refine st_seq ?_
  refine st_region [oF 0, oF 1] (by rfl) ?_
  refine oR [oF 0, oF 1] [(4, vU ((rootAt (num hi lo) j : Nat) : Int))] [4] (by kernel_rfl) ?_
  refine ops_nil ?_
  refine fin_then ?_
  refine st_ret ?_
  refine fin_ret [.tmp 4] [vU ((rootAt (num hi lo) j : Nat) : Int)] rfl rfl (fun w_ hM => (.tmp rfl .nil)) (fun w_ hM => ?_)
  refine ⟨?_, hM.done⟩
  rw [hend]
  rfl
end Go.Proofs.Ytioijglogoppnaa.WRoot
