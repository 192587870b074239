/- Walks of package quant's Coarse, Fine and Bound and of the reference's. No condition. -/
import Derived.Test.YtdmlapkindoghaaProg
import Derived.Test.YtdmlapkindoghaaSxOps
import Derived.Test.YtdmlapkindoghaaQuantSpec
import Derived.Test.YtdmlapkindoghaaWShare
import Derived.Test.YtdmlapkindoghaaWClamp
namespace Go.Proofs.Ytdmlapkindoghaa.WQuant
open Go Go.RowKit Go.Proofs.Ytdmlapkindoghaa.Sx Go.Proofs.Ytdmlapkindoghaa.Rnd Go.Proofs.Ytdmlapkindoghaa.Nats Go.Proofs.Ytdmlapkindoghaa.Trig Go.Proofs.Ytdmlapkindoghaa.Quant Go.Proofs.Ytdmlapkindoghaa.WShare Go.Proofs.Ytdmlapkindoghaa.WClamp
set_option linter.unusedVariables false
set_option linter.unusedSimpArgs false
theorem bit_walk {b : Int} {k : Nat} (hk : k ≤ 63) : Go.bits .and .i64 (Int.fdiv b (2 ^ min (k : Int).toNat 64)) 1 = bit b k := by
  have e : min (k : Int).toNat 64 = k := by omega
  rw [e, Int.fdiv_eq_ediv_of_nonneg _ (Int.le_of_lt (Int.pow_pos (by decide)))]
  have h1 : (BitVec.ofInt 64 1).toNat = 2 ^ 1 - 1 := by decide
  have key : (BitVec.ofInt 64 (b / 2 ^ k) &&& BitVec.ofInt 64 1).toNat = ((b / 2 ^ k) % ((2 ^ 64 : Nat) : Int)).toNat % 2 ^ 1 := by
    rw [BitVec.toNat_and, BitVec.toNat_ofInt, h1, Nat.and_two_pow_sub_one_eq_mod]
  show IntKind.i64.wrap ((BitVec.ofInt 64 (b / 2 ^ k) &&& BitVec.ofInt 64 1).toNat : Nat) = _
  rw [key, IntKind.wrap_i64]
  unfold bit
  omega
set_option maxRecDepth 100000 in
theorem through_calls (a b c : Int) (w : World) (ha : 0 ≤ a) (hac : a ≤ c) (hc0 : 0 < c) (hc1 : c ≤ 4398046511104) (hb0 : 0 ≤ b) (hb1 : b < 4398046511104) : Calls Try.prog 86 #[.int .i64 a, .int .i64 b, .int .i64 c] w fun e w' => e = .returned (.int .i64 (shareV a b c)) ∧ Below w.heap.size w w' := by
  refine sx_calls Try.func86 rfl (n := 49) (by kernel_rfl) (l := [(0, .int .i64 a), (1, .int .i64 b), (2, .int .i64 c)]) rfl (by rfl) (Mem.nil w) ?_
  refine st_seq ?_
  refine st_region [(0, false)] (by rfl) ?_
  refine ops_run (is := [(0, false)]) (r := []) (l' := [(0, .int .i64 a), (1, .int .i64 b), (2, .int .i64 c)]) [0, 1, 2] (by kernel_rfl) ?_
  refine ops_nil ?_
  refine fin_then ?_
  refine st_seq ?_
  refine st_region [(0, false), (1, false)] (by rfl) ?_
  refine ops_run (is := [(0, false), (1, false)]) (r := []) (l' := [(8, .int .i64 0), (7, .int .i64 0), (0, .int .i64 a), (1, .int .i64 b), (2, .int .i64 c)]) [8, 7, 0, 1, 2] (by kernel_rfl) ?_
  refine ops_nil ?_
  refine fin_then ?_
  refine st_seq ?_
  refine st_seq ?_
  refine st_region [(0, false)] (by rfl) ?_
  refine ops_run (is := [(0, false)]) (r := []) (l' := [(9, .int .i64 41), (8, .int .i64 0), (7, .int .i64 0), (0, .int .i64 a), (1, .int .i64 b), (2, .int .i64 c)]) [9, 8, 7, 0, 1, 2] (by kernel_rfl) ?_
  refine ops_nil ?_
  refine fin_then ?_
  refine st_block ?_
  refine st_loop (σ := Nat × Int × Int) (42, 0, 0) (fun x_ => match x_ with | (k, o, r) => [(9, .int .i64 ((k : Int) - 1)), (8, .int .i64 r), (7, .int .i64 o), (0, .int .i64 a), (1, .int .i64 b), (2, .int .i64 c)]) (fun x_ => match x_ with | (k, o, r) => Mem w []) (fun x_ => match x_ with | (k, o, r) => k ≤ 42 ∧ Div a b c k o r) (fun x_ => match x_ with | (k, o, r) => k) (by exact ⟨Nat.le_refl _, Div.zero hc0 hb0 hb1⟩) (look_has ⟨rfl, rfl, rfl, rfl, rfl, rfl, trivial⟩) (fun w_ hM => by exact hM) ?_
  rintro ⟨k, o, r⟩ hI
  obtain ⟨hk42, hd⟩ := hI
  have hk42 : k ≤ 42 := hk42
  have hd : Div a b c k o r := hd
  have hob := hd.bounds ha hac hc0 hb0
  have hr0 := hd.lo
  have hr1 := hd.hi
  refine st_seq ?_
  refine st_seq ?_
  refine st_region [(0, false), (1, false)] (by rfl) ?_
  refine ops_run (is := [(0, false), (1, false)]) (r := []) (l' := [(11, .bool (decide (0 ≤ ((k : Int) - 1)))), (9, .int .i64 ((k : Int) - 1)), (8, .int .i64 r), (7, .int .i64 o), (0, .int .i64 a), (1, .int .i64 b), (2, .int .i64 c)]) [11, 9, 8, 7, 0, 1, 2] (by kernel_rfl) ?_
  refine ops_nil ?_
  refine fin_then ?_
  refine st_if (b := decide (0 ≤ ((k : Int) - 1))) rfl (fun hc1 => ?_) (fun hc1 => ?_)
  · --
    have hpos : 0 < k := by have := of_decide_eq_true hc1; omega
    have hk1 : (k : Int) - 1 = ((k - 1 : Nat) : Int) := by omega
    have hk2 : IntKind.i64.wrap (((k - 1 : Nat) : Int) - 1) = ((k - 1 : Nat) : Int) - 1 := by rw [i64w]; omega
    have hbit : Go.bits .and .i64 (Int.fdiv b (2 ^ min ((k - 1 : Nat) : Int).toNat 64)) 1 = bit b (k - 1) := bit_walk (by omega)
    have hb01 : bit b (k - 1) = 0 ∨ bit b (k - 1) = 1 := by unfold bit; omega
    have hd' : Div a b c ((k - 1) + 1) o r := by rw [show k - 1 + 1 = k by omega]; exact hd
    refine st_skip ?_
    refine fin_then ?_
    refine st_seq ?_
    refine st_block ?_
    refine st_seq ?_
    refine st_region [(0, false), (1, false), (2, false), (3, false), (4, false), (5, false)] (by rfl) ?_
    refine ops_run (is := []) (r := [(0, false), (1, false), (2, false), (3, false), (4, false), (5, false)]) (l' := [(9, .int .i64 ((k : Int) - 1)), (8, .int .i64 r), (7, .int .i64 o), (0, .int .i64 a), (1, .int .i64 b), (2, .int .i64 c)]) [9, 8, 7, 0, 1, 2] (by kernel_rfl) ?_
    refine ops_conv (l' := [(9, .int .i64 ((k - 1 : Nat) : Int)), (8, .int .i64 r), (7, .int .i64 o), (0, .int .i64 a), (1, .int .i64 b), (2, .int .i64 c)]) (by rw [hk1]) (fun _ h => h) ?_
    refine ops_run (is := [(0, false), (1, false)]) (r := [(2, false), (3, false), (4, false), (5, false)]) (l' := [(15, .int .i64 (IntKind.i64.wrap (2 * o))), (9, .int .i64 ((k - 1 : Nat) : Int)), (8, .int .i64 r), (7, .int .i64 o), (0, .int .i64 a), (1, .int .i64 b), (2, .int .i64 c)]) [15, 9, 8, 7, 0, 1, 2] (by kernel_rfl) ?_
    refine ops_conv (l' := [(15, .int .i64 (2 * o)), (9, .int .i64 ((k - 1 : Nat) : Int)), (8, .int .i64 r), (7, .int .i64 o), (0, .int .i64 a), (1, .int .i64 b), (2, .int .i64 c)]) (by rw [(i64in (x := 2 * o) (by omega) (by omega))]) (fun _ h => h) ?_
    refine ops_run (is := [(2, false), (3, false)]) (r := [(4, false), (5, false)]) (l' := [(17, .int .i64 (IntKind.i64.wrap (2 * r))), (15, .int .i64 (2 * o)), (9, .int .i64 ((k - 1 : Nat) : Int)), (8, .int .i64 r), (7, .int .i64 o), (0, .int .i64 a), (1, .int .i64 b), (2, .int .i64 c)]) [17, 15, 9, 8, 7, 0, 1, 2] (by kernel_rfl) ?_
    refine ops_conv (l' := [(17, .int .i64 (2 * r)), (15, .int .i64 (2 * o)), (9, .int .i64 ((k - 1 : Nat) : Int)), (8, .int .i64 r), (7, .int .i64 o), (0, .int .i64 a), (1, .int .i64 b), (2, .int .i64 c)]) (by rw [(i64in (x := 2 * r) (by omega) (by omega))]) (fun _ h => h) ?_
    refine ops_run (is := [(4, false), (5, false)]) (r := []) (l' := [(8, .int .i64 (2 * r)), (7, .int .i64 (2 * o)), (9, .int .i64 ((k - 1 : Nat) : Int)), (0, .int .i64 a), (1, .int .i64 b), (2, .int .i64 c)]) [8, 7, 9, 0, 1, 2] (by kernel_rfl) ?_
    refine ops_nil ?_
    refine fin_then ?_
    refine st_seq ?_
    refine st_seq ?_
    refine st_region [(0, false), (1, false), (2, false)] (by rfl) ?_
    refine ops_run (is := [(0, false), (1, false), (2, false)]) (r := []) (l' := [(20, .bool (decide (c ≤ (2 * r)))), (8, .int .i64 (2 * r)), (7, .int .i64 (2 * o)), (9, .int .i64 ((k - 1 : Nat) : Int)), (0, .int .i64 a), (1, .int .i64 b), (2, .int .i64 c)]) [20, 8, 7, 9, 0, 1, 2] (by kernel_rfl) ?_
    refine ops_nil ?_
    refine fin_then ?_
    refine st_if (b := decide (c ≤ (2 * r))) rfl (fun hc2 => ?_) (fun hc2 => ?_)
    · --
      refine st_region [(0, false), (1, false), (2, false), (3, false), (4, false), (5, false), (6, false)] (by rfl) ?_
      refine ops_run (is := [(0, false), (1, false)]) (r := [(2, false), (3, false), (4, false), (5, false), (6, false)]) (l' := [(22, .int .i64 (IntKind.i64.wrap ((2 * o) + 1))), (8, .int .i64 (2 * r)), (7, .int .i64 (2 * o)), (9, .int .i64 ((k - 1 : Nat) : Int)), (0, .int .i64 a), (1, .int .i64 b), (2, .int .i64 c)]) [22, 8, 7, 9, 0, 1, 2] (by kernel_rfl) ?_
      refine ops_conv (l' := [(22, .int .i64 ((2 * o) + 1)), (8, .int .i64 (2 * r)), (7, .int .i64 (2 * o)), (9, .int .i64 ((k - 1 : Nat) : Int)), (0, .int .i64 a), (1, .int .i64 b), (2, .int .i64 c)]) (by rw [(i64in (x := (2 * o) + 1) (by omega) (by omega))]) (fun _ h => h) ?_
      refine ops_run (is := [(2, false), (3, false), (4, false)]) (r := [(5, false), (6, false)]) (l' := [(25, .int .i64 (IntKind.i64.wrap ((2 * r) - c))), (22, .int .i64 ((2 * o) + 1)), (8, .int .i64 (2 * r)), (7, .int .i64 (2 * o)), (9, .int .i64 ((k - 1 : Nat) : Int)), (0, .int .i64 a), (1, .int .i64 b), (2, .int .i64 c)]) [25, 22, 8, 7, 9, 0, 1, 2] (by kernel_rfl) ?_
      refine ops_conv (l' := [(25, .int .i64 ((2 * r) - c)), (22, .int .i64 ((2 * o) + 1)), (8, .int .i64 (2 * r)), (7, .int .i64 (2 * o)), (9, .int .i64 ((k - 1 : Nat) : Int)), (0, .int .i64 a), (1, .int .i64 b), (2, .int .i64 c)]) (by rw [(i64in (x := (2 * r) - c) (by omega) (by omega))]) (fun _ h => h) ?_
      refine ops_run (is := [(5, false), (6, false)]) (r := []) (l' := [(8, .int .i64 ((2 * r) - c)), (7, .int .i64 ((2 * o) + 1)), (9, .int .i64 ((k - 1 : Nat) : Int)), (0, .int .i64 a), (1, .int .i64 b), (2, .int .i64 c)]) [8, 7, 9, 0, 1, 2] (by kernel_rfl) ?_
      refine ops_nil ?_
      refine fin_then ?_
      refine st_seq ?_
      refine st_region [(0, false), (1, false), (2, false), (3, false), (4, false)] (by rfl) ?_
      refine ops_run (is := [(0, false), (1, false)]) (r := [(2, false), (3, false), (4, false)]) (l' := [(27, .int .i64 ((k - 1 : Nat) : Int)), (26, .int .i64 b), (8, .int .i64 ((2 * r) - c)), (7, .int .i64 ((2 * o) + 1)), (9, .int .i64 ((k - 1 : Nat) : Int)), (0, .int .i64 a), (1, .int .i64 b), (2, .int .i64 c)]) [27, 26, 8, 7, 9, 0, 1, 2] (by kernel_rfl) ?_
      refine ops_val (op := (Go.Op.binOp Go.BinOp.shr 3 (Go.Operand.tmp 26) (Go.Operand.tmp 27) 3)) (d := some 28) (v := .int .i64 (Int.fdiv b (2 ^ min (((k - 1 : Nat) : Int)).toNat 64))) ⟨by kernel_rfl⟩ (run_shr rfl rfl (by omega)) ?_
      refine ops_run (is := [(3, false)]) (r := [(4, false)]) (l' := [(29, .int .i64 (Go.bits .and .i64 (Int.fdiv b (2 ^ min (((k - 1 : Nat) : Int)).toNat 64)) 1)), (8, .int .i64 ((2 * r) - c)), (7, .int .i64 ((2 * o) + 1)), (9, .int .i64 ((k - 1 : Nat) : Int)), (0, .int .i64 a), (1, .int .i64 b), (2, .int .i64 c)]) [29, 8, 7, 9, 0, 1, 2] (by kernel_rfl) ?_
      refine ops_conv (l' := [(29, .int .i64 (bit b (k - 1))), (8, .int .i64 ((2 * r) - c)), (7, .int .i64 ((2 * o) + 1)), (9, .int .i64 ((k - 1 : Nat) : Int)), (0, .int .i64 a), (1, .int .i64 b), (2, .int .i64 c)]) (by rw [hbit]) (fun _ h => h) ?_
      refine ops_run (is := [(4, false)]) (r := []) (l' := [(30, .bool (bit b (k - 1) == 1)), (8, .int .i64 ((2 * r) - c)), (7, .int .i64 ((2 * o) + 1)), (9, .int .i64 ((k - 1 : Nat) : Int)), (0, .int .i64 a), (1, .int .i64 b), (2, .int .i64 c)]) [30, 8, 7, 9, 0, 1, 2] (by kernel_rfl) ?_
      refine ops_nil ?_
      refine fin_then ?_
      refine st_if (b := (bit b (k - 1) == 1)) rfl (fun hc3 => ?_) (fun hc3 => ?_)
      · --
        refine st_seq ?_
        refine st_region [(0, false), (1, false), (2, false), (3, false)] (by rfl) ?_
        refine ops_run (is := [(0, false), (1, false), (2, false)]) (r := [(3, false)]) (l' := [(33, .int .i64 (IntKind.i64.wrap (((2 * r) - c) + a))), (8, .int .i64 ((2 * r) - c)), (7, .int .i64 ((2 * o) + 1)), (9, .int .i64 ((k - 1 : Nat) : Int)), (0, .int .i64 a), (1, .int .i64 b), (2, .int .i64 c)]) [33, 8, 7, 9, 0, 1, 2] (by kernel_rfl) ?_
        refine ops_conv (l' := [(33, .int .i64 (((2 * r) - c) + a)), (8, .int .i64 ((2 * r) - c)), (7, .int .i64 ((2 * o) + 1)), (9, .int .i64 ((k - 1 : Nat) : Int)), (0, .int .i64 a), (1, .int .i64 b), (2, .int .i64 c)]) (by rw [(i64in (x := ((2 * r) - c) + a) (by omega) (by omega))]) (fun _ h => h) ?_
        refine ops_run (is := [(3, false)]) (r := []) (l' := [(8, .int .i64 (((2 * r) - c) + a)), (7, .int .i64 ((2 * o) + 1)), (9, .int .i64 ((k - 1 : Nat) : Int)), (0, .int .i64 a), (1, .int .i64 b), (2, .int .i64 c)]) [8, 7, 9, 0, 1, 2] (by kernel_rfl) ?_
        refine ops_nil ?_
        refine fin_then ?_
        refine st_seq ?_
        refine st_region [(0, false), (1, false), (2, false)] (by rfl) ?_
        refine ops_run (is := [(0, false), (1, false), (2, false)]) (r := []) (l' := [(36, .bool (decide (c ≤ (((2 * r) - c) + a)))), (8, .int .i64 (((2 * r) - c) + a)), (7, .int .i64 ((2 * o) + 1)), (9, .int .i64 ((k - 1 : Nat) : Int)), (0, .int .i64 a), (1, .int .i64 b), (2, .int .i64 c)]) [36, 8, 7, 9, 0, 1, 2] (by kernel_rfl) ?_
        refine ops_nil ?_
        refine fin_then ?_
        refine st_if (b := decide (c ≤ (((2 * r) - c) + a))) rfl (fun hc4 => ?_) (fun hc4 => ?_)
        · --
          refine st_region [(0, false), (1, false), (2, false), (3, false), (4, false), (5, false), (6, false)] (by rfl) ?_
          refine ops_run (is := [(0, false), (1, false)]) (r := [(2, false), (3, false), (4, false), (5, false), (6, false)]) (l' := [(38, .int .i64 (IntKind.i64.wrap (((2 * o) + 1) + 1))), (8, .int .i64 (((2 * r) - c) + a)), (7, .int .i64 ((2 * o) + 1)), (9, .int .i64 ((k - 1 : Nat) : Int)), (0, .int .i64 a), (1, .int .i64 b), (2, .int .i64 c)]) [38, 8, 7, 9, 0, 1, 2] (by kernel_rfl) ?_
          refine ops_conv (l' := [(38, .int .i64 (((2 * o) + 1) + 1)), (8, .int .i64 (((2 * r) - c) + a)), (7, .int .i64 ((2 * o) + 1)), (9, .int .i64 ((k - 1 : Nat) : Int)), (0, .int .i64 a), (1, .int .i64 b), (2, .int .i64 c)]) (by rw [(i64in (x := ((2 * o) + 1) + 1) (by omega) (by omega))]) (fun _ h => h) ?_
          refine ops_run (is := [(2, false), (3, false), (4, false)]) (r := [(5, false), (6, false)]) (l' := [(41, .int .i64 (IntKind.i64.wrap ((((2 * r) - c) + a) - c))), (38, .int .i64 (((2 * o) + 1) + 1)), (8, .int .i64 (((2 * r) - c) + a)), (7, .int .i64 ((2 * o) + 1)), (9, .int .i64 ((k - 1 : Nat) : Int)), (0, .int .i64 a), (1, .int .i64 b), (2, .int .i64 c)]) [41, 38, 8, 7, 9, 0, 1, 2] (by kernel_rfl) ?_
          refine ops_conv (l' := [(41, .int .i64 ((((2 * r) - c) + a) - c)), (38, .int .i64 (((2 * o) + 1) + 1)), (8, .int .i64 (((2 * r) - c) + a)), (7, .int .i64 ((2 * o) + 1)), (9, .int .i64 ((k - 1 : Nat) : Int)), (0, .int .i64 a), (1, .int .i64 b), (2, .int .i64 c)]) (by rw [(i64in (x := (((2 * r) - c) + a) - c) (by omega) (by omega))]) (fun _ h => h) ?_
          refine ops_run (is := [(5, false), (6, false)]) (r := []) (l' := [(8, .int .i64 ((((2 * r) - c) + a) - c)), (7, .int .i64 (((2 * o) + 1) + 1)), (9, .int .i64 ((k - 1 : Nat) : Int)), (0, .int .i64 a), (1, .int .i64 b), (2, .int .i64 c)]) [8, 7, 9, 0, 1, 2] (by kernel_rfl) ?_
          refine ops_nil ?_
          refine fin_block ?_
          refine fin_then ?_
          refine st_region [(0, false), (1, false), (2, false)] (by rfl) ?_
          refine ops_run (is := [(0, false), (1, false)]) (r := [(2, false)]) (l' := [(13, .int .i64 (IntKind.i64.wrap (((k - 1 : Nat) : Int) - 1))), (8, .int .i64 ((((2 * r) - c) + a) - c)), (7, .int .i64 (((2 * o) + 1) + 1)), (9, .int .i64 ((k - 1 : Nat) : Int)), (0, .int .i64 a), (1, .int .i64 b), (2, .int .i64 c)]) [13, 8, 7, 9, 0, 1, 2] (by kernel_rfl) ?_
          refine ops_conv (l' := [(13, .int .i64 (((k - 1 : Nat) : Int) - 1)), (8, .int .i64 ((((2 * r) - c) + a) - c)), (7, .int .i64 (((2 * o) + 1) + 1)), (9, .int .i64 ((k - 1 : Nat) : Int)), (0, .int .i64 a), (1, .int .i64 b), (2, .int .i64 c)]) (by rw [hk2]) (fun _ h => h) ?_
          refine ops_run (is := [(2, false)]) (r := []) (l' := [(9, .int .i64 (((k - 1 : Nat) : Int) - 1)), (8, .int .i64 ((((2 * r) - c) + a) - c)), (7, .int .i64 (((2 * o) + 1) + 1)), (0, .int .i64 a), (1, .int .i64 b), (2, .int .i64 c)]) [9, 8, 7, 0, 1, 2] (by kernel_rfl) ?_
          refine ops_nil ?_
          have hnew : Div a b c (k - 1) (((2 * o) + 1) + 1) ((((2 * r) - c) + a) - c) := by
            have := of_decide_eq_true hc1
            have := of_decide_eq_true hc2
            have := beq_iff_eq.1 hc3
            have := of_decide_eq_true hc4
            have hbv : bit b (k - 1) = 1 := by omega
            have z := hd'.step (e := 1) (x := 1) (by rw [hbv]; omega) (by rw [hbv]; omega)
            rw [hbv] at z
            have e1 : 2 * o + ((1 : Int) + 1) = ((2 * o) + 1) + 1 := by omega
            have e2 : 2 * r + 1 * a - ((1 : Int) + 1) * c = (((2 * r) - c) + a) - c := by omega
            rwa [e1, e2] at z
          refine fin_round (k - 1, ((2 * o) + 1) + 1, (((2 * r) - c) + a) - c) (by exact ⟨show k - 1 ≤ 42 by omega, hnew⟩) (by (show k - 1 < k; omega)) (look_has ⟨rfl, rfl, rfl, rfl, rfl, rfl, trivial⟩) (fun w_ hM => by exact hM)
        · --
          refine st_skip ?_
          refine fin_block ?_
          refine fin_then ?_
          refine st_region [(0, false), (1, false), (2, false)] (by rfl) ?_
          refine ops_run (is := [(0, false), (1, false)]) (r := [(2, false)]) (l' := [(13, .int .i64 (IntKind.i64.wrap (((k - 1 : Nat) : Int) - 1))), (8, .int .i64 (((2 * r) - c) + a)), (7, .int .i64 ((2 * o) + 1)), (9, .int .i64 ((k - 1 : Nat) : Int)), (0, .int .i64 a), (1, .int .i64 b), (2, .int .i64 c)]) [13, 8, 7, 9, 0, 1, 2] (by kernel_rfl) ?_
          refine ops_conv (l' := [(13, .int .i64 (((k - 1 : Nat) : Int) - 1)), (8, .int .i64 (((2 * r) - c) + a)), (7, .int .i64 ((2 * o) + 1)), (9, .int .i64 ((k - 1 : Nat) : Int)), (0, .int .i64 a), (1, .int .i64 b), (2, .int .i64 c)]) (by rw [hk2]) (fun _ h => h) ?_
          refine ops_run (is := [(2, false)]) (r := []) (l' := [(9, .int .i64 (((k - 1 : Nat) : Int) - 1)), (8, .int .i64 (((2 * r) - c) + a)), (7, .int .i64 ((2 * o) + 1)), (0, .int .i64 a), (1, .int .i64 b), (2, .int .i64 c)]) [9, 8, 7, 0, 1, 2] (by kernel_rfl) ?_
          refine ops_nil ?_
          have hnew : Div a b c (k - 1) ((2 * o) + 1) (((2 * r) - c) + a) := by
            have := of_decide_eq_true hc1
            have := of_decide_eq_true hc2
            have := beq_iff_eq.1 hc3
            have := of_decide_eq_false hc4
            have hbv : bit b (k - 1) = 1 := by omega
            have z := hd'.step (e := 1) (x := 0) (by rw [hbv]; omega) (by rw [hbv]; omega)
            rw [hbv] at z
            have e1 : 2 * o + ((1 : Int) + 0) = (2 * o) + 1 := by omega
            have e2 : 2 * r + 1 * a - ((1 : Int) + 0) * c = ((2 * r) - c) + a := by omega
            rwa [e1, e2] at z
          refine fin_round (k - 1, (2 * o) + 1, ((2 * r) - c) + a) (by exact ⟨show k - 1 ≤ 42 by omega, hnew⟩) (by (show k - 1 < k; omega)) (look_has ⟨rfl, rfl, rfl, rfl, rfl, rfl, trivial⟩) (fun w_ hM => by exact hM)
      · --
        refine st_skip ?_
        refine fin_block ?_
        refine fin_then ?_
        refine st_region [(0, false), (1, false), (2, false)] (by rfl) ?_
        refine ops_run (is := [(0, false), (1, false)]) (r := [(2, false)]) (l' := [(13, .int .i64 (IntKind.i64.wrap (((k - 1 : Nat) : Int) - 1))), (8, .int .i64 ((2 * r) - c)), (7, .int .i64 ((2 * o) + 1)), (9, .int .i64 ((k - 1 : Nat) : Int)), (0, .int .i64 a), (1, .int .i64 b), (2, .int .i64 c)]) [13, 8, 7, 9, 0, 1, 2] (by kernel_rfl) ?_
        refine ops_conv (l' := [(13, .int .i64 (((k - 1 : Nat) : Int) - 1)), (8, .int .i64 ((2 * r) - c)), (7, .int .i64 ((2 * o) + 1)), (9, .int .i64 ((k - 1 : Nat) : Int)), (0, .int .i64 a), (1, .int .i64 b), (2, .int .i64 c)]) (by rw [hk2]) (fun _ h => h) ?_
        refine ops_run (is := [(2, false)]) (r := []) (l' := [(9, .int .i64 (((k - 1 : Nat) : Int) - 1)), (8, .int .i64 ((2 * r) - c)), (7, .int .i64 ((2 * o) + 1)), (0, .int .i64 a), (1, .int .i64 b), (2, .int .i64 c)]) [9, 8, 7, 0, 1, 2] (by kernel_rfl) ?_
        refine ops_nil ?_
        have hnew : Div a b c (k - 1) ((2 * o) + 1) ((2 * r) - c) := by
          have := of_decide_eq_true hc1
          have := of_decide_eq_true hc2
          have := beq_eq_false_iff_ne.1 hc3
          have hbv : bit b (k - 1) = 0 := by omega
          have z := hd'.step (e := 1) (x := 0) (by rw [hbv]; omega) (by rw [hbv]; omega)
          rw [hbv] at z
          have e1 : 2 * o + ((1 : Int) + 0) = (2 * o) + 1 := by omega
          have e2 : 2 * r + 0 * a - ((1 : Int) + 0) * c = (2 * r) - c := by omega
          rwa [e1, e2] at z
        refine fin_round (k - 1, (2 * o) + 1, (2 * r) - c) (by exact ⟨show k - 1 ≤ 42 by omega, hnew⟩) (by (show k - 1 < k; omega)) (look_has ⟨rfl, rfl, rfl, rfl, rfl, rfl, trivial⟩) (fun w_ hM => by exact hM)
    · --
      refine st_skip ?_
      refine fin_then ?_
      refine st_seq ?_
      refine st_region [(0, false), (1, false), (2, false), (3, false), (4, false)] (by rfl) ?_
      refine ops_run (is := [(0, false), (1, false)]) (r := [(2, false), (3, false), (4, false)]) (l' := [(27, .int .i64 ((k - 1 : Nat) : Int)), (26, .int .i64 b), (8, .int .i64 (2 * r)), (7, .int .i64 (2 * o)), (9, .int .i64 ((k - 1 : Nat) : Int)), (0, .int .i64 a), (1, .int .i64 b), (2, .int .i64 c)]) [27, 26, 8, 7, 9, 0, 1, 2] (by kernel_rfl) ?_
      refine ops_val (op := (Go.Op.binOp Go.BinOp.shr 3 (Go.Operand.tmp 26) (Go.Operand.tmp 27) 3)) (d := some 28) (v := .int .i64 (Int.fdiv b (2 ^ min (((k - 1 : Nat) : Int)).toNat 64))) ⟨by kernel_rfl⟩ (run_shr rfl rfl (by omega)) ?_
      refine ops_run (is := [(3, false)]) (r := [(4, false)]) (l' := [(29, .int .i64 (Go.bits .and .i64 (Int.fdiv b (2 ^ min (((k - 1 : Nat) : Int)).toNat 64)) 1)), (8, .int .i64 (2 * r)), (7, .int .i64 (2 * o)), (9, .int .i64 ((k - 1 : Nat) : Int)), (0, .int .i64 a), (1, .int .i64 b), (2, .int .i64 c)]) [29, 8, 7, 9, 0, 1, 2] (by kernel_rfl) ?_
      refine ops_conv (l' := [(29, .int .i64 (bit b (k - 1))), (8, .int .i64 (2 * r)), (7, .int .i64 (2 * o)), (9, .int .i64 ((k - 1 : Nat) : Int)), (0, .int .i64 a), (1, .int .i64 b), (2, .int .i64 c)]) (by rw [hbit]) (fun _ h => h) ?_
      refine ops_run (is := [(4, false)]) (r := []) (l' := [(30, .bool (bit b (k - 1) == 1)), (8, .int .i64 (2 * r)), (7, .int .i64 (2 * o)), (9, .int .i64 ((k - 1 : Nat) : Int)), (0, .int .i64 a), (1, .int .i64 b), (2, .int .i64 c)]) [30, 8, 7, 9, 0, 1, 2] (by kernel_rfl) ?_
      refine ops_nil ?_
      refine fin_then ?_
      refine st_if (b := (bit b (k - 1) == 1)) rfl (fun hc5 => ?_) (fun hc5 => ?_)
      · --
        refine st_seq ?_
        refine st_region [(0, false), (1, false), (2, false), (3, false)] (by rfl) ?_
        refine ops_run (is := [(0, false), (1, false), (2, false)]) (r := [(3, false)]) (l' := [(33, .int .i64 (IntKind.i64.wrap ((2 * r) + a))), (8, .int .i64 (2 * r)), (7, .int .i64 (2 * o)), (9, .int .i64 ((k - 1 : Nat) : Int)), (0, .int .i64 a), (1, .int .i64 b), (2, .int .i64 c)]) [33, 8, 7, 9, 0, 1, 2] (by kernel_rfl) ?_
        refine ops_conv (l' := [(33, .int .i64 ((2 * r) + a)), (8, .int .i64 (2 * r)), (7, .int .i64 (2 * o)), (9, .int .i64 ((k - 1 : Nat) : Int)), (0, .int .i64 a), (1, .int .i64 b), (2, .int .i64 c)]) (by rw [(i64in (x := (2 * r) + a) (by omega) (by omega))]) (fun _ h => h) ?_
        refine ops_run (is := [(3, false)]) (r := []) (l' := [(8, .int .i64 ((2 * r) + a)), (7, .int .i64 (2 * o)), (9, .int .i64 ((k - 1 : Nat) : Int)), (0, .int .i64 a), (1, .int .i64 b), (2, .int .i64 c)]) [8, 7, 9, 0, 1, 2] (by kernel_rfl) ?_
        refine ops_nil ?_
        refine fin_then ?_
        refine st_seq ?_
        refine st_region [(0, false), (1, false), (2, false)] (by rfl) ?_
        refine ops_run (is := [(0, false), (1, false), (2, false)]) (r := []) (l' := [(36, .bool (decide (c ≤ ((2 * r) + a)))), (8, .int .i64 ((2 * r) + a)), (7, .int .i64 (2 * o)), (9, .int .i64 ((k - 1 : Nat) : Int)), (0, .int .i64 a), (1, .int .i64 b), (2, .int .i64 c)]) [36, 8, 7, 9, 0, 1, 2] (by kernel_rfl) ?_
        refine ops_nil ?_
        refine fin_then ?_
        refine st_if (b := decide (c ≤ ((2 * r) + a))) rfl (fun hc6 => ?_) (fun hc6 => ?_)
        · --
          refine st_region [(0, false), (1, false), (2, false), (3, false), (4, false), (5, false), (6, false)] (by rfl) ?_
          refine ops_run (is := [(0, false), (1, false)]) (r := [(2, false), (3, false), (4, false), (5, false), (6, false)]) (l' := [(38, .int .i64 (IntKind.i64.wrap ((2 * o) + 1))), (8, .int .i64 ((2 * r) + a)), (7, .int .i64 (2 * o)), (9, .int .i64 ((k - 1 : Nat) : Int)), (0, .int .i64 a), (1, .int .i64 b), (2, .int .i64 c)]) [38, 8, 7, 9, 0, 1, 2] (by kernel_rfl) ?_
          refine ops_conv (l' := [(38, .int .i64 ((2 * o) + 1)), (8, .int .i64 ((2 * r) + a)), (7, .int .i64 (2 * o)), (9, .int .i64 ((k - 1 : Nat) : Int)), (0, .int .i64 a), (1, .int .i64 b), (2, .int .i64 c)]) (by rw [(i64in (x := (2 * o) + 1) (by omega) (by omega))]) (fun _ h => h) ?_
          refine ops_run (is := [(2, false), (3, false), (4, false)]) (r := [(5, false), (6, false)]) (l' := [(41, .int .i64 (IntKind.i64.wrap (((2 * r) + a) - c))), (38, .int .i64 ((2 * o) + 1)), (8, .int .i64 ((2 * r) + a)), (7, .int .i64 (2 * o)), (9, .int .i64 ((k - 1 : Nat) : Int)), (0, .int .i64 a), (1, .int .i64 b), (2, .int .i64 c)]) [41, 38, 8, 7, 9, 0, 1, 2] (by kernel_rfl) ?_
          refine ops_conv (l' := [(41, .int .i64 (((2 * r) + a) - c)), (38, .int .i64 ((2 * o) + 1)), (8, .int .i64 ((2 * r) + a)), (7, .int .i64 (2 * o)), (9, .int .i64 ((k - 1 : Nat) : Int)), (0, .int .i64 a), (1, .int .i64 b), (2, .int .i64 c)]) (by rw [(i64in (x := ((2 * r) + a) - c) (by omega) (by omega))]) (fun _ h => h) ?_
          refine ops_run (is := [(5, false), (6, false)]) (r := []) (l' := [(8, .int .i64 (((2 * r) + a) - c)), (7, .int .i64 ((2 * o) + 1)), (9, .int .i64 ((k - 1 : Nat) : Int)), (0, .int .i64 a), (1, .int .i64 b), (2, .int .i64 c)]) [8, 7, 9, 0, 1, 2] (by kernel_rfl) ?_
          refine ops_nil ?_
          refine fin_block ?_
          refine fin_then ?_
          refine st_region [(0, false), (1, false), (2, false)] (by rfl) ?_
          refine ops_run (is := [(0, false), (1, false)]) (r := [(2, false)]) (l' := [(13, .int .i64 (IntKind.i64.wrap (((k - 1 : Nat) : Int) - 1))), (8, .int .i64 (((2 * r) + a) - c)), (7, .int .i64 ((2 * o) + 1)), (9, .int .i64 ((k - 1 : Nat) : Int)), (0, .int .i64 a), (1, .int .i64 b), (2, .int .i64 c)]) [13, 8, 7, 9, 0, 1, 2] (by kernel_rfl) ?_
          refine ops_conv (l' := [(13, .int .i64 (((k - 1 : Nat) : Int) - 1)), (8, .int .i64 (((2 * r) + a) - c)), (7, .int .i64 ((2 * o) + 1)), (9, .int .i64 ((k - 1 : Nat) : Int)), (0, .int .i64 a), (1, .int .i64 b), (2, .int .i64 c)]) (by rw [hk2]) (fun _ h => h) ?_
          refine ops_run (is := [(2, false)]) (r := []) (l' := [(9, .int .i64 (((k - 1 : Nat) : Int) - 1)), (8, .int .i64 (((2 * r) + a) - c)), (7, .int .i64 ((2 * o) + 1)), (0, .int .i64 a), (1, .int .i64 b), (2, .int .i64 c)]) [9, 8, 7, 0, 1, 2] (by kernel_rfl) ?_
          refine ops_nil ?_
          have hnew : Div a b c (k - 1) ((2 * o) + 1) (((2 * r) + a) - c) := by
            have := of_decide_eq_true hc1
            have := of_decide_eq_false hc2
            have := beq_iff_eq.1 hc5
            have := of_decide_eq_true hc6
            have hbv : bit b (k - 1) = 1 := by omega
            have z := hd'.step (e := 0) (x := 1) (by rw [hbv]; omega) (by rw [hbv]; omega)
            rw [hbv] at z
            have e1 : 2 * o + ((0 : Int) + 1) = (2 * o) + 1 := by omega
            have e2 : 2 * r + 1 * a - ((0 : Int) + 1) * c = ((2 * r) + a) - c := by omega
            rwa [e1, e2] at z
          refine fin_round (k - 1, (2 * o) + 1, ((2 * r) + a) - c) (by exact ⟨show k - 1 ≤ 42 by omega, hnew⟩) (by (show k - 1 < k; omega)) (look_has ⟨rfl, rfl, rfl, rfl, rfl, rfl, trivial⟩) (fun w_ hM => by exact hM)
        · --
          refine st_skip ?_
          refine fin_block ?_
          refine fin_then ?_
          refine st_region [(0, false), (1, false), (2, false)] (by rfl) ?_
          refine ops_run (is := [(0, false), (1, false)]) (r := [(2, false)]) (l' := [(13, .int .i64 (IntKind.i64.wrap (((k - 1 : Nat) : Int) - 1))), (8, .int .i64 ((2 * r) + a)), (7, .int .i64 (2 * o)), (9, .int .i64 ((k - 1 : Nat) : Int)), (0, .int .i64 a), (1, .int .i64 b), (2, .int .i64 c)]) [13, 8, 7, 9, 0, 1, 2] (by kernel_rfl) ?_
          refine ops_conv (l' := [(13, .int .i64 (((k - 1 : Nat) : Int) - 1)), (8, .int .i64 ((2 * r) + a)), (7, .int .i64 (2 * o)), (9, .int .i64 ((k - 1 : Nat) : Int)), (0, .int .i64 a), (1, .int .i64 b), (2, .int .i64 c)]) (by rw [hk2]) (fun _ h => h) ?_
          refine ops_run (is := [(2, false)]) (r := []) (l' := [(9, .int .i64 (((k - 1 : Nat) : Int) - 1)), (8, .int .i64 ((2 * r) + a)), (7, .int .i64 (2 * o)), (0, .int .i64 a), (1, .int .i64 b), (2, .int .i64 c)]) [9, 8, 7, 0, 1, 2] (by kernel_rfl) ?_
          refine ops_nil ?_
          have hnew : Div a b c (k - 1) (2 * o) ((2 * r) + a) := by
            have := of_decide_eq_true hc1
            have := of_decide_eq_false hc2
            have := beq_iff_eq.1 hc5
            have := of_decide_eq_false hc6
            have hbv : bit b (k - 1) = 1 := by omega
            have z := hd'.step (e := 0) (x := 0) (by rw [hbv]; omega) (by rw [hbv]; omega)
            rw [hbv] at z
            have e1 : 2 * o + ((0 : Int) + 0) = 2 * o := by omega
            have e2 : 2 * r + 1 * a - ((0 : Int) + 0) * c = (2 * r) + a := by omega
            rwa [e1, e2] at z
          refine fin_round (k - 1, 2 * o, (2 * r) + a) (by exact ⟨show k - 1 ≤ 42 by omega, hnew⟩) (by (show k - 1 < k; omega)) (look_has ⟨rfl, rfl, rfl, rfl, rfl, rfl, trivial⟩) (fun w_ hM => by exact hM)
      · --
        refine st_skip ?_
        refine fin_block ?_
        refine fin_then ?_
        refine st_region [(0, false), (1, false), (2, false)] (by rfl) ?_
        refine ops_run (is := [(0, false), (1, false)]) (r := [(2, false)]) (l' := [(13, .int .i64 (IntKind.i64.wrap (((k - 1 : Nat) : Int) - 1))), (8, .int .i64 (2 * r)), (7, .int .i64 (2 * o)), (9, .int .i64 ((k - 1 : Nat) : Int)), (0, .int .i64 a), (1, .int .i64 b), (2, .int .i64 c)]) [13, 8, 7, 9, 0, 1, 2] (by kernel_rfl) ?_
        refine ops_conv (l' := [(13, .int .i64 (((k - 1 : Nat) : Int) - 1)), (8, .int .i64 (2 * r)), (7, .int .i64 (2 * o)), (9, .int .i64 ((k - 1 : Nat) : Int)), (0, .int .i64 a), (1, .int .i64 b), (2, .int .i64 c)]) (by rw [hk2]) (fun _ h => h) ?_
        refine ops_run (is := [(2, false)]) (r := []) (l' := [(9, .int .i64 (((k - 1 : Nat) : Int) - 1)), (8, .int .i64 (2 * r)), (7, .int .i64 (2 * o)), (0, .int .i64 a), (1, .int .i64 b), (2, .int .i64 c)]) [9, 8, 7, 0, 1, 2] (by kernel_rfl) ?_
        refine ops_nil ?_
        have hnew : Div a b c (k - 1) (2 * o) (2 * r) := by
          have := of_decide_eq_true hc1
          have := of_decide_eq_false hc2
          have := beq_eq_false_iff_ne.1 hc5
          have hbv : bit b (k - 1) = 0 := by omega
          have z := hd'.step (e := 0) (x := 0) (by rw [hbv]; omega) (by rw [hbv]; omega)
          rw [hbv] at z
          have e1 : 2 * o + ((0 : Int) + 0) = 2 * o := by omega
          have e2 : 2 * r + 0 * a - ((0 : Int) + 0) * c = 2 * r := by omega
          rwa [e1, e2] at z
        refine fin_round (k - 1, 2 * o, 2 * r) (by exact ⟨show k - 1 ≤ 42 by omega, hnew⟩) (by (show k - 1 < k; omega)) (look_has ⟨rfl, rfl, rfl, rfl, rfl, rfl, trivial⟩) (fun w_ hM => by exact hM)
  · --
    have hzero : k = 0 := by have := of_decide_eq_false hc1; omega
    refine st_exit ?_
    refine fin_exit_then ?_
    refine fin_exit_then ?_
    refine fin_exit ?_
    refine fin_then ?_
    refine st_seq ?_
    refine st_seq ?_
    refine st_region [(0, false), (1, false), (2, false), (3, false)] (by rfl) ?_
    refine ops_run (is := []) (r := [(0, false), (1, false), (2, false), (3, false)]) (l' := [(8, .int .i64 r), (7, .int .i64 o), (2, .int .i64 c)]) [8, 7, 2] (by kernel_rfl) ?_
    refine ops_run (is := [(0, false), (1, false)]) (r := [(2, false), (3, false)]) (l' := [(43, .int .i64 (IntKind.i64.wrap (2 * r))), (7, .int .i64 o), (2, .int .i64 c)]) [43, 7, 2] (by kernel_rfl) ?_
    refine ops_conv (l' := [(43, .int .i64 (2 * r)), (7, .int .i64 o), (2, .int .i64 c)]) (by rw [(i64in (x := 2 * r) (by omega) (by omega))]) (fun _ h => h) ?_
    refine ops_run (is := [(2, false), (3, false)]) (r := []) (l' := [(45, .bool (decide (c ≤ (2 * r)))), (7, .int .i64 o)]) [45, 7] (by kernel_rfl) ?_
    refine ops_nil ?_
    refine fin_then ?_
    refine st_if (b := decide (c ≤ (2 * r))) rfl (fun hc7 => ?_) (fun hc7 => ?_)
    · --
      refine st_region [(0, false), (1, false), (2, false)] (by rfl) ?_
      refine ops_run (is := [(0, false), (1, false)]) (r := [(2, false)]) (l' := [(47, .int .i64 (IntKind.i64.wrap (o + 1))), (7, .int .i64 o)]) [47, 7] (by kernel_rfl) ?_
      refine ops_conv (l' := [(47, .int .i64 (o + 1)), (7, .int .i64 o)]) (by rw [(i64in (x := o + 1) (by omega) (by omega))]) (fun _ h => h) ?_
      refine ops_run (is := [(2, false)]) (r := []) (l' := [(7, .int .i64 (o + 1))]) [7] (by kernel_rfl) ?_
      refine ops_nil ?_
      refine fin_then ?_
      refine st_seq ?_
      refine st_region [(0, false), (1, false)] (by rfl) ?_
      refine ops_run (is := [(0, false), (1, false)]) (r := []) (l' := [(6, .int .i64 (o + 1))]) [6] (by kernel_rfl) ?_
      refine ops_nil ?_
      refine fin_then ?_
      refine st_ret ?_
      refine fin_ret [.tmp 6] [.int .i64 (o + 1)] rfl rfl (fun w_ hM => (.tmp rfl .nil)) (fun w_ hM => ?_)
      refine ⟨?_, hM.done⟩
      subst hzero
      have z := hd.last hc0
      have := of_decide_eq_false hc1
      have := of_decide_eq_true hc7
      rw [if_pos (by omega)] at z
      rw [z]
      rfl
    · --
      refine st_skip ?_
      refine fin_then ?_
      refine st_seq ?_
      refine st_region [(0, false), (1, false)] (by rfl) ?_
      refine ops_run (is := [(0, false), (1, false)]) (r := []) (l' := [(6, .int .i64 o)]) [6] (by kernel_rfl) ?_
      refine ops_nil ?_
      refine fin_then ?_
      refine st_ret ?_
      refine fin_ret [.tmp 6] [.int .i64 o] rfl rfl (fun w_ hM => (.tmp rfl .nil)) (fun w_ hM => ?_)
      refine ⟨?_, hM.done⟩
      subst hzero
      have z := hd.last hc0
      have := of_decide_eq_false hc1
      have := of_decide_eq_false hc7
      rw [if_neg (by omega)] at z
      rw [z]
      rfl
set_option maxRecDepth 100000 in
theorem range1_ok (lo hi n : Int) (w : World) (hok : lo < hi ∧ -1099511627776 ≤ lo ∧ lo ≤ 1099511627776 ∧ -1099511627776 ≤ hi ∧ hi ≤ 1099511627776 ∧ 1 ≤ n ∧ n ≤ 32) : Calls Try.prog 85 #[.agg #[.int .i64 lo, .int .i64 hi], .int .i64 n] w fun e w' => e = .returned (.int .i64 0) ∧ Below w.heap.size w w' := by
  refine sx_calls Try.func85 rfl (n := 34) (by kernel_rfl) (l := [(0, .agg #[.int .i64 lo, .int .i64 hi]), (1, .int .i64 n)]) rfl (by rfl) (Mem.nil w) ?_
  refine st_seq ?_
  refine st_region [(0, false), (1, false)] (by rfl) ?_
  refine ops_new (d := some 2) (o := .cells #[.int .i64 lo, .int .i64 hi] 81) (v := fun b1 => .pointer (some ⟨b1, 0, none⟩)) (M' := fun b1 => Mem w [.blk b1 [.int .i64 lo, .int .i64 hi] 81]) (fun b1 => ⟨by kernel_rfl⟩) (fun w_ hM hS => ⟨hM.blk [.int .i64 lo, .int .i64 hi] 81, trivial⟩) (fun b1 => ?_)
  refine ops_run (is := [(1, false)]) (r := []) (l' := [(2, .pointer (some ⟨b1, 0, none⟩)), (1, .int .i64 n)]) [2, 1] (by kernel_rfl) ?_
  refine ops_nil ?_
  refine fin_then ?_
  refine st_seq ?_
  refine st_seq ?_
  refine st_region_draw [(0, true), (1, true), (2, true), (3, true), (4, false), (5, true), (6, true), (7, true), (8, true), (9, true), (10, true), (11, false), (12, true), (13, true), (14, true), (15, true), (16, true), (17, true), (18, true), (19, true), (20, true), (21, true), (22, true), (23, true), (24, true), (25, true), (26, true), (27, true), (28, true)] (Mem w [.blk b1 [.int .i64 lo, .int .i64 hi] 81]) (by kernel_rfl) (by kernel_rfl) (by kernel_rfl) (fun _ d _ _ _ h => by cases d <;> exact h) (M' := Mem w [.blk b1 [.int .i64 lo, .int .i64 hi] 81]) (fun w_ hM => ⟨hM.drew, hM.drew.sub (by simp)⟩) ?_
  refine ops_run (is := [(0, true)]) (r := [(1, true), (2, true), (3, true), (4, false), (5, true), (6, true), (7, true), (8, true), (9, true), (10, true), (11, false), (12, true), (13, true), (14, true), (15, true), (16, true), (17, true), (18, true), (19, true), (20, true), (21, true), (22, true), (23, true), (24, true), (25, true), (26, true), (27, true), (28, true)]) (l' := [(5, .pointer (some ⟨b1, 0, none⟩)), (2, .pointer (some ⟨b1, 0, none⟩)), (1, .int .i64 n)]) [5, 2, 1] (by kernel_rfl) ?_
  refine ops_load (d := some 6) (an := [.v (.int .i64 lo)]) (evs := [.load ⟨b1, 0, none⟩ (.int .i64 lo)]) (v := .int .i64 lo) ⟨by kernel_rfl⟩ (fun w_ hM => ⟨hM.cell 0 rfl rfl, rfl⟩) ?_
  refine ops_run (is := [(2, true)]) (r := [(3, true), (4, false), (5, true), (6, true), (7, true), (8, true), (9, true), (10, true), (11, false), (12, true), (13, true), (14, true), (15, true), (16, true), (17, true), (18, true), (19, true), (20, true), (21, true), (22, true), (23, true), (24, true), (25, true), (26, true), (27, true), (28, true)]) (l' := [(7, .pointer (some ⟨b1, 0, none⟩)), (6, .int .i64 lo), (2, .pointer (some ⟨b1, 0, none⟩)), (1, .int .i64 n)]) [7, 6, 2, 1] (by kernel_rfl) ?_
  refine ops_load (d := some 8) (an := [.v (.int .i64 lo)]) (evs := [.load ⟨b1, 0, none⟩ (.int .i64 lo)]) (v := .int .i64 lo) ⟨by kernel_rfl⟩ (fun w_ hM => ⟨hM.cell 0 rfl rfl, rfl⟩) ?_
  refine ops_run (is := []) (r := [(4, false), (5, true), (6, true), (7, true), (8, true), (9, true), (10, true), (11, false), (12, true), (13, true), (14, true), (15, true), (16, true), (17, true), (18, true), (19, true), (20, true), (21, true), (22, true), (23, true), (24, true), (25, true), (26, true), (27, true), (28, true)]) (l' := [(8, .int .i64 lo), (6, .int .i64 lo), (2, .pointer (some ⟨b1, 0, none⟩)), (1, .int .i64 n)]) [8, 6, 2, 1] (by kernel_rfl) ?_
  refine ops_call (σ := Unit) (d := some 9) (f := 82) (args := #[.int .i64 lo]) (v := fun _ => .int .i64 (min (max lo (-1099511627776)) 1099511627776)) (M' := fun _ => Mem w [.blk b1 [.int .i64 lo, .int .i64 hi] 81]) ⟨by kernel_rfl⟩ (fun w_ hM hS => (Clamp_calls lo w_).mono (by rintro e w' ⟨rfl, hb⟩; exact ⟨(), rfl, hM.step hb, hS.step hb⟩)) (fun _ => ?_)
  refine ops_run (is := [(5, true), (6, true)]) (r := [(7, true), (8, true), (9, true), (10, true), (11, false), (12, true), (13, true), (14, true), (15, true), (16, true), (17, true), (18, true), (19, true), (20, true), (21, true), (22, true), (23, true), (24, true), (25, true), (26, true), (27, true), (28, true)]) (l' := [(11, .bool (!(lo == min (max lo (-1099511627776)) 1099511627776))), (2, .pointer (some ⟨b1, 0, none⟩)), (1, .int .i64 n)]) [11, 2, 1] (by kernel_rfl) ?_
  refine ops_bool (t := !(lo == min (max lo (-1099511627776)) 1099511627776)) (l1 := [(11, .bool true), (2, .pointer (some ⟨b1, 0, none⟩)), (1, .int .i64 n)]) (l2 := [(11, .bool false), (2, .pointer (some ⟨b1, 0, none⟩)), (1, .int .i64 n)]) (fun h => by rw [h]) (fun h => by rw [h]) (fun hc2 => ?_) (fun hc2 => ?_)
  · --!(lo == min (max lo (-1099511627776)) 1099511627776)
    refine ops_run (is := [(7, true), (8, true), (9, true), (10, true), (11, false), (12, true), (13, true), (14, true), (15, true), (16, true), (17, true), (18, true), (19, true), (20, true), (21, true), (22, true), (23, true), (24, true), (25, true), (26, true), (27, true), (28, true)]) (r := []) (l' := [(33, .bool true)]) [33] (by kernel_rfl) ?_
    refine ops_nil ?_
    refine fin_then ?_
    refine st_true rfl ?_
    refine st_seq ?_
    refine st_region [(0, false)] (by rfl) ?_
    refine ops_run (is := [(0, false)]) (r := []) (l' := [(4, .int .i64 1)]) [4] (by kernel_rfl) ?_
    refine ops_nil ?_
    refine fin_then ?_
    refine st_ret ?_
    refine fin_ret_then ?_
    refine fin_ret [.tmp 4] [.int .i64 1] rfl rfl (fun w_ hM => (.tmp rfl .nil)) (fun w_ hM => ?_)
    refine ⟨?_, hM.done⟩
    exfalso
    have := (by simpa using hc2 : ¬ (lo = min (max lo (-1099511627776)) 1099511627776))
    omega
  · --!(lo == min (max lo (-1099511627776)) 1099511627776)
    refine ops_run (is := [(7, true)]) (r := [(8, true), (9, true), (10, true), (11, false), (12, true), (13, true), (14, true), (15, true), (16, true), (17, true), (18, true), (19, true), (20, true), (21, true), (22, true), (23, true), (24, true), (25, true), (26, true), (27, true), (28, true)]) (l' := [(12, .pointer (some ⟨b1, 1, none⟩)), (11, .bool false), (2, .pointer (some ⟨b1, 0, none⟩)), (1, .int .i64 n)]) [12, 11, 2, 1] (by kernel_rfl) ?_
    refine ops_load (d := some 13) (an := [.v (.int .i64 hi)]) (evs := [.load ⟨b1, 1, none⟩ (.int .i64 hi)]) (v := .int .i64 hi) ⟨by kernel_rfl⟩ (fun w_ hM => ⟨hM.cell 0 rfl rfl, rfl⟩) ?_
    refine ops_run (is := [(9, true)]) (r := [(10, true), (11, false), (12, true), (13, true), (14, true), (15, true), (16, true), (17, true), (18, true), (19, true), (20, true), (21, true), (22, true), (23, true), (24, true), (25, true), (26, true), (27, true), (28, true)]) (l' := [(14, .pointer (some ⟨b1, 1, none⟩)), (13, .int .i64 hi), (11, .bool false), (2, .pointer (some ⟨b1, 0, none⟩)), (1, .int .i64 n)]) [14, 13, 11, 2, 1] (by kernel_rfl) ?_
    refine ops_load (d := some 15) (an := [.v (.int .i64 hi)]) (evs := [.load ⟨b1, 1, none⟩ (.int .i64 hi)]) (v := .int .i64 hi) ⟨by kernel_rfl⟩ (fun w_ hM => ⟨hM.cell 0 rfl rfl, rfl⟩) ?_
    refine ops_run (is := []) (r := [(11, false), (12, true), (13, true), (14, true), (15, true), (16, true), (17, true), (18, true), (19, true), (20, true), (21, true), (22, true), (23, true), (24, true), (25, true), (26, true), (27, true), (28, true)]) (l' := [(15, .int .i64 hi), (13, .int .i64 hi), (11, .bool false), (2, .pointer (some ⟨b1, 0, none⟩)), (1, .int .i64 n)]) [15, 13, 11, 2, 1] (by kernel_rfl) ?_
    refine ops_call (σ := Unit) (d := some 16) (f := 82) (args := #[.int .i64 hi]) (v := fun _ => .int .i64 (min (max hi (-1099511627776)) 1099511627776)) (M' := fun _ => Mem w [.blk b1 [.int .i64 lo, .int .i64 hi] 81]) ⟨by kernel_rfl⟩ (fun w_ hM hS => (Clamp_calls hi w_).mono (by rintro e w' ⟨rfl, hb⟩; exact ⟨(), rfl, hM.step hb, hS.step hb⟩)) (fun _ => ?_)
    refine ops_run (is := [(12, true), (13, true), (14, true)]) (r := [(15, true), (16, true), (17, true), (18, true), (19, true), (20, true), (21, true), (22, true), (23, true), (24, true), (25, true), (26, true), (27, true), (28, true)]) (l' := [(19, .bool (!(hi == min (max hi (-1099511627776)) 1099511627776))), (2, .pointer (some ⟨b1, 0, none⟩)), (1, .int .i64 n)]) [19, 2, 1] (by kernel_rfl) ?_
    refine ops_bool (t := !(hi == min (max hi (-1099511627776)) 1099511627776)) (l1 := [(19, .bool true), (2, .pointer (some ⟨b1, 0, none⟩)), (1, .int .i64 n)]) (l2 := [(19, .bool false), (2, .pointer (some ⟨b1, 0, none⟩)), (1, .int .i64 n)]) (fun h => by rw [h]) (fun h => by rw [h]) (fun hc3 => ?_) (fun hc3 => ?_)
    · --!(hi == min (max hi (-1099511627776)) 1099511627776)
      refine ops_run (is := [(15, true), (16, true), (17, true), (18, true), (19, true), (20, true), (21, true), (22, true), (23, true), (24, true), (25, true), (26, true), (27, true), (28, true)]) (r := []) (l' := [(33, .bool true)]) [33] (by kernel_rfl) ?_
      refine ops_nil ?_
      refine fin_then ?_
      refine st_true rfl ?_
      refine st_seq ?_
      refine st_region [(0, false)] (by rfl) ?_
      refine ops_run (is := [(0, false)]) (r := []) (l' := [(4, .int .i64 1)]) [4] (by kernel_rfl) ?_
      refine ops_nil ?_
      refine fin_then ?_
      refine st_ret ?_
      refine fin_ret_then ?_
      refine fin_ret [.tmp 4] [.int .i64 1] rfl rfl (fun w_ hM => (.tmp rfl .nil)) (fun w_ hM => ?_)
      refine ⟨?_, hM.done⟩
      exfalso
      have := (by simpa using hc2 : (lo = min (max lo (-1099511627776)) 1099511627776))
      have := (by simpa using hc3 : ¬ (hi = min (max hi (-1099511627776)) 1099511627776))
      omega
    · --!(hi == min (max hi (-1099511627776)) 1099511627776)
      refine ops_run (is := [(15, true)]) (r := [(16, true), (17, true), (18, true), (19, true), (20, true), (21, true), (22, true), (23, true), (24, true), (25, true), (26, true), (27, true), (28, true)]) (l' := [(20, .pointer (some ⟨b1, 0, none⟩)), (19, .bool false), (2, .pointer (some ⟨b1, 0, none⟩)), (1, .int .i64 n)]) [20, 19, 2, 1] (by kernel_rfl) ?_
      refine ops_load (d := some 21) (an := [.v (.int .i64 lo)]) (evs := [.load ⟨b1, 0, none⟩ (.int .i64 lo)]) (v := .int .i64 lo) ⟨by kernel_rfl⟩ (fun w_ hM => ⟨hM.cell 0 rfl rfl, rfl⟩) ?_
      refine ops_run (is := [(17, true)]) (r := [(18, true), (19, true), (20, true), (21, true), (22, true), (23, true), (24, true), (25, true), (26, true), (27, true), (28, true)]) (l' := [(22, .pointer (some ⟨b1, 1, none⟩)), (21, .int .i64 lo), (19, .bool false), (1, .int .i64 n)]) [22, 21, 19, 1] (by kernel_rfl) ?_
      refine ops_load (d := some 23) (an := [.v (.int .i64 hi)]) (evs := [.load ⟨b1, 1, none⟩ (.int .i64 hi)]) (v := .int .i64 hi) ⟨by kernel_rfl⟩ (fun w_ hM => ⟨hM.cell 0 rfl rfl, rfl⟩) ?_
      refine ops_run (is := [(19, true), (20, true), (21, true)]) (r := [(22, true), (23, true), (24, true), (25, true), (26, true), (27, true), (28, true)]) (l' := [(26, .bool (decide (hi ≤ lo))), (1, .int .i64 n)]) [26, 1] (by kernel_rfl) ?_
      refine ops_bool (t := decide (hi ≤ lo)) (l1 := [(26, .bool true), (1, .int .i64 n)]) (l2 := [(26, .bool false), (1, .int .i64 n)]) (fun h => by rw [h]) (fun h => by rw [h]) (fun hc4 => ?_) (fun hc4 => ?_)
      · --decide (hi ≤ lo)
        refine ops_run (is := [(22, true), (23, true), (24, true), (25, true), (26, true), (27, true), (28, true)]) (r := []) (l' := [(33, .bool true)]) [33] (by kernel_rfl) ?_
        refine ops_nil ?_
        refine fin_then ?_
        refine st_true rfl ?_
        refine st_seq ?_
        refine st_region [(0, false)] (by rfl) ?_
        refine ops_run (is := [(0, false)]) (r := []) (l' := [(4, .int .i64 1)]) [4] (by kernel_rfl) ?_
        refine ops_nil ?_
        refine fin_then ?_
        refine st_ret ?_
        refine fin_ret_then ?_
        refine fin_ret [.tmp 4] [.int .i64 1] rfl rfl (fun w_ hM => (.tmp rfl .nil)) (fun w_ hM => ?_)
        refine ⟨?_, hM.done⟩
        exfalso
        have := (by simpa using hc2 : (lo = min (max lo (-1099511627776)) 1099511627776))
        have := (by simpa using hc3 : (hi = min (max hi (-1099511627776)) 1099511627776))
        have := of_decide_eq_true hc4
        omega
      · --decide (hi ≤ lo)
        refine ops_run (is := [(22, true), (23, true), (24, true), (25, true)]) (r := [(26, true), (27, true), (28, true)]) (l' := [(30, .bool (decide (n < 1))), (1, .int .i64 n)]) [30, 1] (by kernel_rfl) ?_
        refine ops_bool (t := decide (n < 1)) (l1 := [(30, .bool true), (1, .int .i64 n)]) (l2 := [(30, .bool false), (1, .int .i64 n)]) (fun h => by rw [h]) (fun h => by rw [h]) (fun hc5 => ?_) (fun hc5 => ?_)
        · --decide (n < 1)
          refine ops_run (is := [(26, true), (27, true), (28, true)]) (r := []) (l' := [(33, .bool true)]) [33] (by kernel_rfl) ?_
          refine ops_nil ?_
          refine fin_then ?_
          refine st_true rfl ?_
          refine st_seq ?_
          refine st_region [(0, false)] (by rfl) ?_
          refine ops_run (is := [(0, false)]) (r := []) (l' := [(4, .int .i64 1)]) [4] (by kernel_rfl) ?_
          refine ops_nil ?_
          refine fin_then ?_
          refine st_ret ?_
          refine fin_ret_then ?_
          refine fin_ret [.tmp 4] [.int .i64 1] rfl rfl (fun w_ hM => (.tmp rfl .nil)) (fun w_ hM => ?_)
          refine ⟨?_, hM.done⟩
          exfalso
          have := (by simpa using hc2 : (lo = min (max lo (-1099511627776)) 1099511627776))
          have := (by simpa using hc3 : (hi = min (max hi (-1099511627776)) 1099511627776))
          have := of_decide_eq_false hc4
          have := of_decide_eq_true hc5
          omega
        · --decide (n < 1)
          refine ops_run (is := [(26, true), (27, true), (28, true)]) (r := []) (l' := [(33, .bool (decide (32 < n)))]) [33] (by kernel_rfl) ?_
          refine ops_nil ?_
          refine fin_then ?_
          refine st_if (b := decide (32 < n)) rfl (fun hc6 => ?_) (fun hc6 => ?_)
          · --
            refine st_seq ?_
            refine st_region [(0, false)] (by rfl) ?_
            refine ops_run (is := [(0, false)]) (r := []) (l' := [(4, .int .i64 1)]) [4] (by kernel_rfl) ?_
            refine ops_nil ?_
            refine fin_then ?_
            refine st_ret ?_
            refine fin_ret_then ?_
            refine fin_ret [.tmp 4] [.int .i64 1] rfl rfl (fun w_ hM => (.tmp rfl .nil)) (fun w_ hM => ?_)
            refine ⟨?_, hM.done⟩
            exfalso
            have := (by simpa using hc2 : (lo = min (max lo (-1099511627776)) 1099511627776))
            have := (by simpa using hc3 : (hi = min (max hi (-1099511627776)) 1099511627776))
            have := of_decide_eq_false hc4
            have := of_decide_eq_false hc5
            have := of_decide_eq_true hc6
            omega
          · --
            refine st_skip ?_
            refine fin_then ?_
            refine st_seq ?_
            refine st_region [(0, false)] (by rfl) ?_
            refine ops_run (is := [(0, false)]) (r := []) (l' := [(4, .int .i64 0)]) [4] (by kernel_rfl) ?_
            refine ops_nil ?_
            refine fin_then ?_
            refine st_ret ?_
            refine fin_ret [.tmp 4] [.int .i64 0] rfl rfl (fun w_ hM => (.tmp rfl .nil)) (fun w_ hM => ?_)
            refine ⟨?_, hM.done⟩
            rfl
set_option maxRecDepth 100000 in
theorem range1_bad (lo hi n : Int) (w : World) (hbad : ¬ (lo < hi ∧ -1099511627776 ≤ lo ∧ lo ≤ 1099511627776 ∧ -1099511627776 ≤ hi ∧ hi ≤ 1099511627776 ∧ 1 ≤ n ∧ n ≤ 32)) : Calls Try.prog 85 #[.agg #[.int .i64 lo, .int .i64 hi], .int .i64 n] w fun e w' => e = .returned (.int .i64 1) ∧ Below w.heap.size w w' := by
  refine sx_calls Try.func85 rfl (n := 34) (by kernel_rfl) (l := [(0, .agg #[.int .i64 lo, .int .i64 hi]), (1, .int .i64 n)]) rfl (by rfl) (Mem.nil w) ?_
  refine st_seq ?_
  refine st_region [(0, false), (1, false)] (by rfl) ?_
  refine ops_new (d := some 2) (o := .cells #[.int .i64 lo, .int .i64 hi] 81) (v := fun b1 => .pointer (some ⟨b1, 0, none⟩)) (M' := fun b1 => Mem w [.blk b1 [.int .i64 lo, .int .i64 hi] 81]) (fun b1 => ⟨by kernel_rfl⟩) (fun w_ hM hS => ⟨hM.blk [.int .i64 lo, .int .i64 hi] 81, trivial⟩) (fun b1 => ?_)
  refine ops_run (is := [(1, false)]) (r := []) (l' := [(2, .pointer (some ⟨b1, 0, none⟩)), (1, .int .i64 n)]) [2, 1] (by kernel_rfl) ?_
  refine ops_nil ?_
  refine fin_then ?_
  refine st_seq ?_
  refine st_seq ?_
  refine st_region_draw [(0, true), (1, true), (2, true), (3, true), (4, false), (5, true), (6, true), (7, true), (8, true), (9, true), (10, true), (11, false), (12, true), (13, true), (14, true), (15, true), (16, true), (17, true), (18, true), (19, true), (20, true), (21, true), (22, true), (23, true), (24, true), (25, true), (26, true), (27, true), (28, true)] (Mem w [.blk b1 [.int .i64 lo, .int .i64 hi] 81]) (by kernel_rfl) (by kernel_rfl) (by kernel_rfl) (fun _ d _ _ _ h => by cases d <;> exact h) (M' := Mem w [.blk b1 [.int .i64 lo, .int .i64 hi] 81]) (fun w_ hM => ⟨hM.drew, hM.drew.sub (by simp)⟩) ?_
  refine ops_run (is := [(0, true)]) (r := [(1, true), (2, true), (3, true), (4, false), (5, true), (6, true), (7, true), (8, true), (9, true), (10, true), (11, false), (12, true), (13, true), (14, true), (15, true), (16, true), (17, true), (18, true), (19, true), (20, true), (21, true), (22, true), (23, true), (24, true), (25, true), (26, true), (27, true), (28, true)]) (l' := [(5, .pointer (some ⟨b1, 0, none⟩)), (2, .pointer (some ⟨b1, 0, none⟩)), (1, .int .i64 n)]) [5, 2, 1] (by kernel_rfl) ?_
  refine ops_load (d := some 6) (an := [.v (.int .i64 lo)]) (evs := [.load ⟨b1, 0, none⟩ (.int .i64 lo)]) (v := .int .i64 lo) ⟨by kernel_rfl⟩ (fun w_ hM => ⟨hM.cell 0 rfl rfl, rfl⟩) ?_
  refine ops_run (is := [(2, true)]) (r := [(3, true), (4, false), (5, true), (6, true), (7, true), (8, true), (9, true), (10, true), (11, false), (12, true), (13, true), (14, true), (15, true), (16, true), (17, true), (18, true), (19, true), (20, true), (21, true), (22, true), (23, true), (24, true), (25, true), (26, true), (27, true), (28, true)]) (l' := [(7, .pointer (some ⟨b1, 0, none⟩)), (6, .int .i64 lo), (2, .pointer (some ⟨b1, 0, none⟩)), (1, .int .i64 n)]) [7, 6, 2, 1] (by kernel_rfl) ?_
  refine ops_load (d := some 8) (an := [.v (.int .i64 lo)]) (evs := [.load ⟨b1, 0, none⟩ (.int .i64 lo)]) (v := .int .i64 lo) ⟨by kernel_rfl⟩ (fun w_ hM => ⟨hM.cell 0 rfl rfl, rfl⟩) ?_
  refine ops_run (is := []) (r := [(4, false), (5, true), (6, true), (7, true), (8, true), (9, true), (10, true), (11, false), (12, true), (13, true), (14, true), (15, true), (16, true), (17, true), (18, true), (19, true), (20, true), (21, true), (22, true), (23, true), (24, true), (25, true), (26, true), (27, true), (28, true)]) (l' := [(8, .int .i64 lo), (6, .int .i64 lo), (2, .pointer (some ⟨b1, 0, none⟩)), (1, .int .i64 n)]) [8, 6, 2, 1] (by kernel_rfl) ?_
  refine ops_call (σ := Unit) (d := some 9) (f := 82) (args := #[.int .i64 lo]) (v := fun _ => .int .i64 (min (max lo (-1099511627776)) 1099511627776)) (M' := fun _ => Mem w [.blk b1 [.int .i64 lo, .int .i64 hi] 81]) ⟨by kernel_rfl⟩ (fun w_ hM hS => (Clamp_calls lo w_).mono (by rintro e w' ⟨rfl, hb⟩; exact ⟨(), rfl, hM.step hb, hS.step hb⟩)) (fun _ => ?_)
  refine ops_run (is := [(5, true), (6, true)]) (r := [(7, true), (8, true), (9, true), (10, true), (11, false), (12, true), (13, true), (14, true), (15, true), (16, true), (17, true), (18, true), (19, true), (20, true), (21, true), (22, true), (23, true), (24, true), (25, true), (26, true), (27, true), (28, true)]) (l' := [(11, .bool (!(lo == min (max lo (-1099511627776)) 1099511627776))), (2, .pointer (some ⟨b1, 0, none⟩)), (1, .int .i64 n)]) [11, 2, 1] (by kernel_rfl) ?_
  refine ops_bool (t := !(lo == min (max lo (-1099511627776)) 1099511627776)) (l1 := [(11, .bool true), (2, .pointer (some ⟨b1, 0, none⟩)), (1, .int .i64 n)]) (l2 := [(11, .bool false), (2, .pointer (some ⟨b1, 0, none⟩)), (1, .int .i64 n)]) (fun h => by rw [h]) (fun h => by rw [h]) (fun hc2 => ?_) (fun hc2 => ?_)
  · --!(lo == min (max lo (-1099511627776)) 1099511627776)
    refine ops_run (is := [(7, true), (8, true), (9, true), (10, true), (11, false), (12, true), (13, true), (14, true), (15, true), (16, true), (17, true), (18, true), (19, true), (20, true), (21, true), (22, true), (23, true), (24, true), (25, true), (26, true), (27, true), (28, true)]) (r := []) (l' := [(33, .bool true)]) [33] (by kernel_rfl) ?_
    refine ops_nil ?_
    refine fin_then ?_
    refine st_true rfl ?_
    refine st_seq ?_
    refine st_region [(0, false)] (by rfl) ?_
    refine ops_run (is := [(0, false)]) (r := []) (l' := [(4, .int .i64 1)]) [4] (by kernel_rfl) ?_
    refine ops_nil ?_
    refine fin_then ?_
    refine st_ret ?_
    refine fin_ret_then ?_
    refine fin_ret [.tmp 4] [.int .i64 1] rfl rfl (fun w_ hM => (.tmp rfl .nil)) (fun w_ hM => ?_)
    refine ⟨?_, hM.done⟩
    rfl
  · --!(lo == min (max lo (-1099511627776)) 1099511627776)
    refine ops_run (is := [(7, true)]) (r := [(8, true), (9, true), (10, true), (11, false), (12, true), (13, true), (14, true), (15, true), (16, true), (17, true), (18, true), (19, true), (20, true), (21, true), (22, true), (23, true), (24, true), (25, true), (26, true), (27, true), (28, true)]) (l' := [(12, .pointer (some ⟨b1, 1, none⟩)), (11, .bool false), (2, .pointer (some ⟨b1, 0, none⟩)), (1, .int .i64 n)]) [12, 11, 2, 1] (by kernel_rfl) ?_
    refine ops_load (d := some 13) (an := [.v (.int .i64 hi)]) (evs := [.load ⟨b1, 1, none⟩ (.int .i64 hi)]) (v := .int .i64 hi) ⟨by kernel_rfl⟩ (fun w_ hM => ⟨hM.cell 0 rfl rfl, rfl⟩) ?_
    refine ops_run (is := [(9, true)]) (r := [(10, true), (11, false), (12, true), (13, true), (14, true), (15, true), (16, true), (17, true), (18, true), (19, true), (20, true), (21, true), (22, true), (23, true), (24, true), (25, true), (26, true), (27, true), (28, true)]) (l' := [(14, .pointer (some ⟨b1, 1, none⟩)), (13, .int .i64 hi), (11, .bool false), (2, .pointer (some ⟨b1, 0, none⟩)), (1, .int .i64 n)]) [14, 13, 11, 2, 1] (by kernel_rfl) ?_
    refine ops_load (d := some 15) (an := [.v (.int .i64 hi)]) (evs := [.load ⟨b1, 1, none⟩ (.int .i64 hi)]) (v := .int .i64 hi) ⟨by kernel_rfl⟩ (fun w_ hM => ⟨hM.cell 0 rfl rfl, rfl⟩) ?_
    refine ops_run (is := []) (r := [(11, false), (12, true), (13, true), (14, true), (15, true), (16, true), (17, true), (18, true), (19, true), (20, true), (21, true), (22, true), (23, true), (24, true), (25, true), (26, true), (27, true), (28, true)]) (l' := [(15, .int .i64 hi), (13, .int .i64 hi), (11, .bool false), (2, .pointer (some ⟨b1, 0, none⟩)), (1, .int .i64 n)]) [15, 13, 11, 2, 1] (by kernel_rfl) ?_
    refine ops_call (σ := Unit) (d := some 16) (f := 82) (args := #[.int .i64 hi]) (v := fun _ => .int .i64 (min (max hi (-1099511627776)) 1099511627776)) (M' := fun _ => Mem w [.blk b1 [.int .i64 lo, .int .i64 hi] 81]) ⟨by kernel_rfl⟩ (fun w_ hM hS => (Clamp_calls hi w_).mono (by rintro e w' ⟨rfl, hb⟩; exact ⟨(), rfl, hM.step hb, hS.step hb⟩)) (fun _ => ?_)
    refine ops_run (is := [(12, true), (13, true), (14, true)]) (r := [(15, true), (16, true), (17, true), (18, true), (19, true), (20, true), (21, true), (22, true), (23, true), (24, true), (25, true), (26, true), (27, true), (28, true)]) (l' := [(19, .bool (!(hi == min (max hi (-1099511627776)) 1099511627776))), (2, .pointer (some ⟨b1, 0, none⟩)), (1, .int .i64 n)]) [19, 2, 1] (by kernel_rfl) ?_
    refine ops_bool (t := !(hi == min (max hi (-1099511627776)) 1099511627776)) (l1 := [(19, .bool true), (2, .pointer (some ⟨b1, 0, none⟩)), (1, .int .i64 n)]) (l2 := [(19, .bool false), (2, .pointer (some ⟨b1, 0, none⟩)), (1, .int .i64 n)]) (fun h => by rw [h]) (fun h => by rw [h]) (fun hc3 => ?_) (fun hc3 => ?_)
    · --!(hi == min (max hi (-1099511627776)) 1099511627776)
      refine ops_run (is := [(15, true), (16, true), (17, true), (18, true), (19, true), (20, true), (21, true), (22, true), (23, true), (24, true), (25, true), (26, true), (27, true), (28, true)]) (r := []) (l' := [(33, .bool true)]) [33] (by kernel_rfl) ?_
      refine ops_nil ?_
      refine fin_then ?_
      refine st_true rfl ?_
      refine st_seq ?_
      refine st_region [(0, false)] (by rfl) ?_
      refine ops_run (is := [(0, false)]) (r := []) (l' := [(4, .int .i64 1)]) [4] (by kernel_rfl) ?_
      refine ops_nil ?_
      refine fin_then ?_
      refine st_ret ?_
      refine fin_ret_then ?_
      refine fin_ret [.tmp 4] [.int .i64 1] rfl rfl (fun w_ hM => (.tmp rfl .nil)) (fun w_ hM => ?_)
      refine ⟨?_, hM.done⟩
      rfl
    · --!(hi == min (max hi (-1099511627776)) 1099511627776)
      refine ops_run (is := [(15, true)]) (r := [(16, true), (17, true), (18, true), (19, true), (20, true), (21, true), (22, true), (23, true), (24, true), (25, true), (26, true), (27, true), (28, true)]) (l' := [(20, .pointer (some ⟨b1, 0, none⟩)), (19, .bool false), (2, .pointer (some ⟨b1, 0, none⟩)), (1, .int .i64 n)]) [20, 19, 2, 1] (by kernel_rfl) ?_
      refine ops_load (d := some 21) (an := [.v (.int .i64 lo)]) (evs := [.load ⟨b1, 0, none⟩ (.int .i64 lo)]) (v := .int .i64 lo) ⟨by kernel_rfl⟩ (fun w_ hM => ⟨hM.cell 0 rfl rfl, rfl⟩) ?_
      refine ops_run (is := [(17, true)]) (r := [(18, true), (19, true), (20, true), (21, true), (22, true), (23, true), (24, true), (25, true), (26, true), (27, true), (28, true)]) (l' := [(22, .pointer (some ⟨b1, 1, none⟩)), (21, .int .i64 lo), (19, .bool false), (1, .int .i64 n)]) [22, 21, 19, 1] (by kernel_rfl) ?_
      refine ops_load (d := some 23) (an := [.v (.int .i64 hi)]) (evs := [.load ⟨b1, 1, none⟩ (.int .i64 hi)]) (v := .int .i64 hi) ⟨by kernel_rfl⟩ (fun w_ hM => ⟨hM.cell 0 rfl rfl, rfl⟩) ?_
      refine ops_run (is := [(19, true), (20, true), (21, true)]) (r := [(22, true), (23, true), (24, true), (25, true), (26, true), (27, true), (28, true)]) (l' := [(26, .bool (decide (hi ≤ lo))), (1, .int .i64 n)]) [26, 1] (by kernel_rfl) ?_
      refine ops_bool (t := decide (hi ≤ lo)) (l1 := [(26, .bool true), (1, .int .i64 n)]) (l2 := [(26, .bool false), (1, .int .i64 n)]) (fun h => by rw [h]) (fun h => by rw [h]) (fun hc4 => ?_) (fun hc4 => ?_)
      · --decide (hi ≤ lo)
        refine ops_run (is := [(22, true), (23, true), (24, true), (25, true), (26, true), (27, true), (28, true)]) (r := []) (l' := [(33, .bool true)]) [33] (by kernel_rfl) ?_
        refine ops_nil ?_
        refine fin_then ?_
        refine st_true rfl ?_
        refine st_seq ?_
        refine st_region [(0, false)] (by rfl) ?_
        refine ops_run (is := [(0, false)]) (r := []) (l' := [(4, .int .i64 1)]) [4] (by kernel_rfl) ?_
        refine ops_nil ?_
        refine fin_then ?_
        refine st_ret ?_
        refine fin_ret_then ?_
        refine fin_ret [.tmp 4] [.int .i64 1] rfl rfl (fun w_ hM => (.tmp rfl .nil)) (fun w_ hM => ?_)
        refine ⟨?_, hM.done⟩
        rfl
      · --decide (hi ≤ lo)
        refine ops_run (is := [(22, true), (23, true), (24, true), (25, true)]) (r := [(26, true), (27, true), (28, true)]) (l' := [(30, .bool (decide (n < 1))), (1, .int .i64 n)]) [30, 1] (by kernel_rfl) ?_
        refine ops_bool (t := decide (n < 1)) (l1 := [(30, .bool true), (1, .int .i64 n)]) (l2 := [(30, .bool false), (1, .int .i64 n)]) (fun h => by rw [h]) (fun h => by rw [h]) (fun hc5 => ?_) (fun hc5 => ?_)
        · --decide (n < 1)
          refine ops_run (is := [(26, true), (27, true), (28, true)]) (r := []) (l' := [(33, .bool true)]) [33] (by kernel_rfl) ?_
          refine ops_nil ?_
          refine fin_then ?_
          refine st_true rfl ?_
          refine st_seq ?_
          refine st_region [(0, false)] (by rfl) ?_
          refine ops_run (is := [(0, false)]) (r := []) (l' := [(4, .int .i64 1)]) [4] (by kernel_rfl) ?_
          refine ops_nil ?_
          refine fin_then ?_
          refine st_ret ?_
          refine fin_ret_then ?_
          refine fin_ret [.tmp 4] [.int .i64 1] rfl rfl (fun w_ hM => (.tmp rfl .nil)) (fun w_ hM => ?_)
          refine ⟨?_, hM.done⟩
          rfl
        · --decide (n < 1)
          refine ops_run (is := [(26, true), (27, true), (28, true)]) (r := []) (l' := [(33, .bool (decide (32 < n)))]) [33] (by kernel_rfl) ?_
          refine ops_nil ?_
          refine fin_then ?_
          refine st_if (b := decide (32 < n)) rfl (fun hc6 => ?_) (fun hc6 => ?_)
          · --
            refine st_seq ?_
            refine st_region [(0, false)] (by rfl) ?_
            refine ops_run (is := [(0, false)]) (r := []) (l' := [(4, .int .i64 1)]) [4] (by kernel_rfl) ?_
            refine ops_nil ?_
            refine fin_then ?_
            refine st_ret ?_
            refine fin_ret_then ?_
            refine fin_ret [.tmp 4] [.int .i64 1] rfl rfl (fun w_ hM => (.tmp rfl .nil)) (fun w_ hM => ?_)
            refine ⟨?_, hM.done⟩
            rfl
          · --
            refine st_skip ?_
            refine fin_then ?_
            refine st_seq ?_
            refine st_region [(0, false)] (by rfl) ?_
            refine ops_run (is := [(0, false)]) (r := []) (l' := [(4, .int .i64 0)]) [4] (by kernel_rfl) ?_
            refine ops_nil ?_
            refine fin_then ?_
            refine st_ret ?_
            refine fin_ret [.tmp 4] [.int .i64 0] rfl rfl (fun w_ hM => (.tmp rfl .nil)) (fun w_ hM => ?_)
            refine ⟨?_, hM.done⟩
            exfalso
            have := (by simpa using hc2 : (lo = min (max lo (-1099511627776)) 1099511627776))
            have := (by simpa using hc3 : (hi = min (max hi (-1099511627776)) 1099511627776))
            have := of_decide_eq_false hc4
            have := of_decide_eq_false hc5
            have := of_decide_eq_false hc6
            omega
set_option maxRecDepth 100000 in
theorem SpanIs_ok (lo hi n : Int) (w : World) (hok : lo < hi ∧ -1099511627776 ≤ lo ∧ lo ≤ 1099511627776 ∧ -1099511627776 ≤ hi ∧ hi ≤ 1099511627776 ∧ 1 ≤ n ∧ n ≤ 32) : Calls Try.prog 59 #[.agg #[.int .i64 lo, .int .i64 hi], .int .i64 n] w fun e w' => e = .returned (.bool true) ∧ Below w.heap.size w w' := by
  refine sx_calls Try.func59 rfl (n := 34) (by kernel_rfl) (l := [(0, .agg #[.int .i64 lo, .int .i64 hi]), (1, .int .i64 n)]) rfl (by rfl) (Mem.nil w) ?_
  refine st_seq ?_
  refine st_region [(0, false), (1, false)] (by rfl) ?_
  refine ops_new (d := some 2) (o := .cells #[.int .i64 lo, .int .i64 hi] 81) (v := fun b1 => .pointer (some ⟨b1, 0, none⟩)) (M' := fun b1 => Mem w [.blk b1 [.int .i64 lo, .int .i64 hi] 81]) (fun b1 => ⟨by kernel_rfl⟩) (fun w_ hM hS => ⟨hM.blk [.int .i64 lo, .int .i64 hi] 81, trivial⟩) (fun b1 => ?_)
  refine ops_run (is := [(1, false)]) (r := []) (l' := [(2, .pointer (some ⟨b1, 0, none⟩)), (1, .int .i64 n)]) [2, 1] (by kernel_rfl) ?_
  refine ops_nil ?_
  refine fin_then ?_
  refine st_seq ?_
  refine st_region_draw [(0, true), (1, true), (2, true), (3, true), (4, true), (5, true), (6, true), (7, true), (8, true), (9, true), (10, false), (11, true), (12, true), (13, true), (14, true), (15, true), (16, true), (17, true), (18, false), (19, true), (20, true), (21, true), (22, true), (23, true), (24, true), (25, true), (26, true), (27, true), (28, true), (29, true)] (Mem w [.blk b1 [.int .i64 lo, .int .i64 hi] 81]) (by kernel_rfl) (by kernel_rfl) (by kernel_rfl) (fun _ d _ _ _ h => by cases d <;> exact h) (M' := Mem w [.blk b1 [.int .i64 lo, .int .i64 hi] 81]) (fun w_ hM => ⟨hM.drew, hM.drew.sub (by simp)⟩) ?_
  refine ops_run (is := [(0, true)]) (r := [(1, true), (2, true), (3, true), (4, true), (5, true), (6, true), (7, true), (8, true), (9, true), (10, false), (11, true), (12, true), (13, true), (14, true), (15, true), (16, true), (17, true), (18, false), (19, true), (20, true), (21, true), (22, true), (23, true), (24, true), (25, true), (26, true), (27, true), (28, true), (29, true)]) (l' := [(5, .pointer (some ⟨b1, 0, none⟩)), (2, .pointer (some ⟨b1, 0, none⟩)), (1, .int .i64 n)]) [5, 2, 1] (by kernel_rfl) ?_
  refine ops_load (d := some 6) (an := [.v (.int .i64 lo)]) (evs := [.load ⟨b1, 0, none⟩ (.int .i64 lo)]) (v := .int .i64 lo) ⟨by kernel_rfl⟩ (fun w_ hM => ⟨hM.cell 0 rfl rfl, rfl⟩) ?_
  refine ops_run (is := [(2, true)]) (r := [(3, true), (4, true), (5, true), (6, true), (7, true), (8, true), (9, true), (10, false), (11, true), (12, true), (13, true), (14, true), (15, true), (16, true), (17, true), (18, false), (19, true), (20, true), (21, true), (22, true), (23, true), (24, true), (25, true), (26, true), (27, true), (28, true), (29, true)]) (l' := [(7, .pointer (some ⟨b1, 1, none⟩)), (6, .int .i64 lo), (2, .pointer (some ⟨b1, 0, none⟩)), (1, .int .i64 n)]) [7, 6, 2, 1] (by kernel_rfl) ?_
  refine ops_load (d := some 8) (an := [.v (.int .i64 hi)]) (evs := [.load ⟨b1, 1, none⟩ (.int .i64 hi)]) (v := .int .i64 hi) ⟨by kernel_rfl⟩ (fun w_ hM => ⟨hM.cell 0 rfl rfl, rfl⟩) ?_
  refine ops_run (is := [(4, true), (5, true)]) (r := [(6, true), (7, true), (8, true), (9, true), (10, false), (11, true), (12, true), (13, true), (14, true), (15, true), (16, true), (17, true), (18, false), (19, true), (20, true), (21, true), (22, true), (23, true), (24, true), (25, true), (26, true), (27, true), (28, true), (29, true)]) (l' := [(10, .bool (decide (lo < hi))), (2, .pointer (some ⟨b1, 0, none⟩)), (1, .int .i64 n)]) [10, 2, 1] (by kernel_rfl) ?_
  refine ops_bool (t := decide (lo < hi)) (l1 := [(10, .bool true), (2, .pointer (some ⟨b1, 0, none⟩)), (1, .int .i64 n)]) (l2 := [(10, .bool false), (2, .pointer (some ⟨b1, 0, none⟩)), (1, .int .i64 n)]) (fun h => by rw [h]) (fun h => by rw [h]) (fun hc2 => ?_) (fun hc2 => ?_)
  · --decide (lo < hi)
    refine ops_run (is := [(6, true)]) (r := [(7, true), (8, true), (9, true), (10, false), (11, true), (12, true), (13, true), (14, true), (15, true), (16, true), (17, true), (18, false), (19, true), (20, true), (21, true), (22, true), (23, true), (24, true), (25, true), (26, true), (27, true), (28, true), (29, true)]) (l' := [(11, .pointer (some ⟨b1, 0, none⟩)), (10, .bool true), (2, .pointer (some ⟨b1, 0, none⟩)), (1, .int .i64 n)]) [11, 10, 2, 1] (by kernel_rfl) ?_
    refine ops_load (d := some 12) (an := [.v (.int .i64 lo)]) (evs := [.load ⟨b1, 0, none⟩ (.int .i64 lo)]) (v := .int .i64 lo) ⟨by kernel_rfl⟩ (fun w_ hM => ⟨hM.cell 0 rfl rfl, rfl⟩) ?_
    refine ops_run (is := [(8, true)]) (r := [(9, true), (10, false), (11, true), (12, true), (13, true), (14, true), (15, true), (16, true), (17, true), (18, false), (19, true), (20, true), (21, true), (22, true), (23, true), (24, true), (25, true), (26, true), (27, true), (28, true), (29, true)]) (l' := [(13, .pointer (some ⟨b1, 0, none⟩)), (12, .int .i64 lo), (10, .bool true), (2, .pointer (some ⟨b1, 0, none⟩)), (1, .int .i64 n)]) [13, 12, 10, 2, 1] (by kernel_rfl) ?_
    refine ops_load (d := some 14) (an := [.v (.int .i64 lo)]) (evs := [.load ⟨b1, 0, none⟩ (.int .i64 lo)]) (v := .int .i64 lo) ⟨by kernel_rfl⟩ (fun w_ hM => ⟨hM.cell 0 rfl rfl, rfl⟩) ?_
    refine ops_run (is := []) (r := [(10, false), (11, true), (12, true), (13, true), (14, true), (15, true), (16, true), (17, true), (18, false), (19, true), (20, true), (21, true), (22, true), (23, true), (24, true), (25, true), (26, true), (27, true), (28, true), (29, true)]) (l' := [(14, .int .i64 lo), (12, .int .i64 lo), (10, .bool true), (2, .pointer (some ⟨b1, 0, none⟩)), (1, .int .i64 n)]) [14, 12, 10, 2, 1] (by kernel_rfl) ?_
    refine ops_call (σ := Unit) (d := some 15) (f := 77) (args := #[.int .i64 lo]) (v := fun _ => .int .i64 (min (max lo (-1099511627776)) 1099511627776)) (M' := fun _ => Mem w [.blk b1 [.int .i64 lo, .int .i64 hi] 81]) ⟨by kernel_rfl⟩ (fun w_ hM hS => (Limit_calls lo w_).mono (by rintro e w' ⟨rfl, hb⟩; exact ⟨(), rfl, hM.step hb, hS.step hb⟩)) (fun _ => ?_)
    refine ops_run (is := [(11, true), (12, true), (13, true)]) (r := [(14, true), (15, true), (16, true), (17, true), (18, false), (19, true), (20, true), (21, true), (22, true), (23, true), (24, true), (25, true), (26, true), (27, true), (28, true), (29, true)]) (l' := [(18, .bool (lo == min (max lo (-1099511627776)) 1099511627776)), (2, .pointer (some ⟨b1, 0, none⟩)), (1, .int .i64 n)]) [18, 2, 1] (by kernel_rfl) ?_
    refine ops_bool (t := (lo == min (max lo (-1099511627776)) 1099511627776)) (l1 := [(18, .bool true), (2, .pointer (some ⟨b1, 0, none⟩)), (1, .int .i64 n)]) (l2 := [(18, .bool false), (2, .pointer (some ⟨b1, 0, none⟩)), (1, .int .i64 n)]) (fun h => by rw [h]) (fun h => by rw [h]) (fun hc3 => ?_) (fun hc3 => ?_)
    · --(lo == min (max lo (-1099511627776)) 1099511627776)
      refine ops_run (is := [(14, true)]) (r := [(15, true), (16, true), (17, true), (18, false), (19, true), (20, true), (21, true), (22, true), (23, true), (24, true), (25, true), (26, true), (27, true), (28, true), (29, true)]) (l' := [(19, .pointer (some ⟨b1, 1, none⟩)), (18, .bool true), (2, .pointer (some ⟨b1, 0, none⟩)), (1, .int .i64 n)]) [19, 18, 2, 1] (by kernel_rfl) ?_
      refine ops_load (d := some 20) (an := [.v (.int .i64 hi)]) (evs := [.load ⟨b1, 1, none⟩ (.int .i64 hi)]) (v := .int .i64 hi) ⟨by kernel_rfl⟩ (fun w_ hM => ⟨hM.cell 0 rfl rfl, rfl⟩) ?_
      refine ops_run (is := [(16, true)]) (r := [(17, true), (18, false), (19, true), (20, true), (21, true), (22, true), (23, true), (24, true), (25, true), (26, true), (27, true), (28, true), (29, true)]) (l' := [(21, .pointer (some ⟨b1, 1, none⟩)), (20, .int .i64 hi), (18, .bool true), (1, .int .i64 n)]) [21, 20, 18, 1] (by kernel_rfl) ?_
      refine ops_load (d := some 22) (an := [.v (.int .i64 hi)]) (evs := [.load ⟨b1, 1, none⟩ (.int .i64 hi)]) (v := .int .i64 hi) ⟨by kernel_rfl⟩ (fun w_ hM => ⟨hM.cell 0 rfl rfl, rfl⟩) ?_
      refine ops_run (is := []) (r := [(18, false), (19, true), (20, true), (21, true), (22, true), (23, true), (24, true), (25, true), (26, true), (27, true), (28, true), (29, true)]) (l' := [(22, .int .i64 hi), (20, .int .i64 hi), (18, .bool true), (1, .int .i64 n)]) [22, 20, 18, 1] (by kernel_rfl) ?_
      refine ops_call (σ := Unit) (d := some 23) (f := 77) (args := #[.int .i64 hi]) (v := fun _ => .int .i64 (min (max hi (-1099511627776)) 1099511627776)) (M' := fun _ => Mem w [.blk b1 [.int .i64 lo, .int .i64 hi] 81]) ⟨by kernel_rfl⟩ (fun w_ hM hS => (Limit_calls hi w_).mono (by rintro e w' ⟨rfl, hb⟩; exact ⟨(), rfl, hM.step hb, hS.step hb⟩)) (fun _ => ?_)
      refine ops_run (is := [(19, true), (20, true), (21, true)]) (r := [(22, true), (23, true), (24, true), (25, true), (26, true), (27, true), (28, true), (29, true)]) (l' := [(26, .bool (hi == min (max hi (-1099511627776)) 1099511627776)), (1, .int .i64 n)]) [26, 1] (by kernel_rfl) ?_
      refine ops_bool (t := (hi == min (max hi (-1099511627776)) 1099511627776)) (l1 := [(26, .bool true), (1, .int .i64 n)]) (l2 := [(26, .bool false), (1, .int .i64 n)]) (fun h => by rw [h]) (fun h => by rw [h]) (fun hc4 => ?_) (fun hc4 => ?_)
      · --(hi == min (max hi (-1099511627776)) 1099511627776)
        refine ops_run (is := [(22, true), (23, true), (24, true), (25, true)]) (r := [(26, true), (27, true), (28, true), (29, true)]) (l' := [(30, .bool (decide (1 ≤ n))), (1, .int .i64 n)]) [30, 1] (by kernel_rfl) ?_
        refine ops_bool (t := decide (1 ≤ n)) (l1 := [(30, .bool true), (1, .int .i64 n)]) (l2 := [(30, .bool false), (1, .int .i64 n)]) (fun h => by rw [h]) (fun h => by rw [h]) (fun hc5 => ?_) (fun hc5 => ?_)
        · --decide (1 ≤ n)
          refine ops_run (is := [(26, true), (27, true), (28, true), (29, true)]) (r := []) (l' := [(4, .bool (decide (n ≤ 32)))]) [4] (by kernel_rfl) ?_
          refine ops_nil ?_
          refine fin_then ?_
          refine st_ret ?_
          refine fin_ret [.tmp 4] [.bool (decide (n ≤ 32))] rfl rfl (fun w_ hM => (.tmp rfl .nil)) (fun w_ hM => ?_)
          refine ⟨?_, hM.done⟩
          have := of_decide_eq_true hc2
          have := beq_iff_eq.1 hc3
          have := beq_iff_eq.1 hc4
          have := of_decide_eq_true hc5
          exact congrArg (fun z => Ending.returned (.bool z)) (decide_eq_true (by omega))
        · --decide (1 ≤ n)
          refine ops_run (is := [(26, true), (27, true), (28, true), (29, true)]) (r := []) (l' := [(4, .bool false)]) [4] (by kernel_rfl) ?_
          refine ops_nil ?_
          refine fin_then ?_
          refine st_ret ?_
          refine fin_ret [.tmp 4] [.bool false] rfl rfl (fun w_ hM => (.tmp rfl .nil)) (fun w_ hM => ?_)
          refine ⟨?_, hM.done⟩
          exfalso
          have := of_decide_eq_true hc2
          have := beq_iff_eq.1 hc3
          have := beq_iff_eq.1 hc4
          have := of_decide_eq_false hc5
          omega
      · --(hi == min (max hi (-1099511627776)) 1099511627776)
        refine ops_run (is := [(22, true), (23, true), (24, true), (25, true), (26, true), (27, true), (28, true), (29, true)]) (r := []) (l' := [(4, .bool false)]) [4] (by kernel_rfl) ?_
        refine ops_nil ?_
        refine fin_then ?_
        refine st_ret ?_
        refine fin_ret [.tmp 4] [.bool false] rfl rfl (fun w_ hM => (.tmp rfl .nil)) (fun w_ hM => ?_)
        refine ⟨?_, hM.done⟩
        exfalso
        have := of_decide_eq_true hc2
        have := beq_iff_eq.1 hc3
        have := beq_eq_false_iff_ne.1 hc4
        omega
    · --(lo == min (max lo (-1099511627776)) 1099511627776)
      refine ops_run (is := [(14, true), (15, true), (16, true), (17, true), (18, false), (19, true), (20, true), (21, true), (22, true), (23, true), (24, true), (25, true), (26, true), (27, true), (28, true), (29, true)]) (r := []) (l' := [(4, .bool false)]) [4] (by kernel_rfl) ?_
      refine ops_nil ?_
      refine fin_then ?_
      refine st_ret ?_
      refine fin_ret [.tmp 4] [.bool false] rfl rfl (fun w_ hM => (.tmp rfl .nil)) (fun w_ hM => ?_)
      refine ⟨?_, hM.done⟩
      exfalso
      have := of_decide_eq_true hc2
      have := beq_eq_false_iff_ne.1 hc3
      omega
  · --decide (lo < hi)
    refine ops_run (is := [(6, true), (7, true), (8, true), (9, true), (10, false), (11, true), (12, true), (13, true), (14, true), (15, true), (16, true), (17, true), (18, false), (19, true), (20, true), (21, true), (22, true), (23, true), (24, true), (25, true), (26, true), (27, true), (28, true), (29, true)]) (r := []) (l' := [(4, .bool false)]) [4] (by kernel_rfl) ?_
    refine ops_nil ?_
    refine fin_then ?_
    refine st_ret ?_
    refine fin_ret [.tmp 4] [.bool false] rfl rfl (fun w_ hM => (.tmp rfl .nil)) (fun w_ hM => ?_)
    refine ⟨?_, hM.done⟩
    exfalso
    have := of_decide_eq_false hc2
    omega
set_option maxRecDepth 100000 in
theorem SpanIs_bad (lo hi n : Int) (w : World) (hbad : ¬ (lo < hi ∧ -1099511627776 ≤ lo ∧ lo ≤ 1099511627776 ∧ -1099511627776 ≤ hi ∧ hi ≤ 1099511627776 ∧ 1 ≤ n ∧ n ≤ 32)) : Calls Try.prog 59 #[.agg #[.int .i64 lo, .int .i64 hi], .int .i64 n] w fun e w' => e = .returned (.bool false) ∧ Below w.heap.size w w' := by
  refine sx_calls Try.func59 rfl (n := 34) (by kernel_rfl) (l := [(0, .agg #[.int .i64 lo, .int .i64 hi]), (1, .int .i64 n)]) rfl (by rfl) (Mem.nil w) ?_
  refine st_seq ?_
  refine st_region [(0, false), (1, false)] (by rfl) ?_
  refine ops_new (d := some 2) (o := .cells #[.int .i64 lo, .int .i64 hi] 81) (v := fun b1 => .pointer (some ⟨b1, 0, none⟩)) (M' := fun b1 => Mem w [.blk b1 [.int .i64 lo, .int .i64 hi] 81]) (fun b1 => ⟨by kernel_rfl⟩) (fun w_ hM hS => ⟨hM.blk [.int .i64 lo, .int .i64 hi] 81, trivial⟩) (fun b1 => ?_)
  refine ops_run (is := [(1, false)]) (r := []) (l' := [(2, .pointer (some ⟨b1, 0, none⟩)), (1, .int .i64 n)]) [2, 1] (by kernel_rfl) ?_
  refine ops_nil ?_
  refine fin_then ?_
  refine st_seq ?_
  refine st_region_draw [(0, true), (1, true), (2, true), (3, true), (4, true), (5, true), (6, true), (7, true), (8, true), (9, true), (10, false), (11, true), (12, true), (13, true), (14, true), (15, true), (16, true), (17, true), (18, false), (19, true), (20, true), (21, true), (22, true), (23, true), (24, true), (25, true), (26, true), (27, true), (28, true), (29, true)] (Mem w [.blk b1 [.int .i64 lo, .int .i64 hi] 81]) (by kernel_rfl) (by kernel_rfl) (by kernel_rfl) (fun _ d _ _ _ h => by cases d <;> exact h) (M' := Mem w [.blk b1 [.int .i64 lo, .int .i64 hi] 81]) (fun w_ hM => ⟨hM.drew, hM.drew.sub (by simp)⟩) ?_
  refine ops_run (is := [(0, true)]) (r := [(1, true), (2, true), (3, true), (4, true), (5, true), (6, true), (7, true), (8, true), (9, true), (10, false), (11, true), (12, true), (13, true), (14, true), (15, true), (16, true), (17, true), (18, false), (19, true), (20, true), (21, true), (22, true), (23, true), (24, true), (25, true), (26, true), (27, true), (28, true), (29, true)]) (l' := [(5, .pointer (some ⟨b1, 0, none⟩)), (2, .pointer (some ⟨b1, 0, none⟩)), (1, .int .i64 n)]) [5, 2, 1] (by kernel_rfl) ?_
  refine ops_load (d := some 6) (an := [.v (.int .i64 lo)]) (evs := [.load ⟨b1, 0, none⟩ (.int .i64 lo)]) (v := .int .i64 lo) ⟨by kernel_rfl⟩ (fun w_ hM => ⟨hM.cell 0 rfl rfl, rfl⟩) ?_
  refine ops_run (is := [(2, true)]) (r := [(3, true), (4, true), (5, true), (6, true), (7, true), (8, true), (9, true), (10, false), (11, true), (12, true), (13, true), (14, true), (15, true), (16, true), (17, true), (18, false), (19, true), (20, true), (21, true), (22, true), (23, true), (24, true), (25, true), (26, true), (27, true), (28, true), (29, true)]) (l' := [(7, .pointer (some ⟨b1, 1, none⟩)), (6, .int .i64 lo), (2, .pointer (some ⟨b1, 0, none⟩)), (1, .int .i64 n)]) [7, 6, 2, 1] (by kernel_rfl) ?_
  refine ops_load (d := some 8) (an := [.v (.int .i64 hi)]) (evs := [.load ⟨b1, 1, none⟩ (.int .i64 hi)]) (v := .int .i64 hi) ⟨by kernel_rfl⟩ (fun w_ hM => ⟨hM.cell 0 rfl rfl, rfl⟩) ?_
  refine ops_run (is := [(4, true), (5, true)]) (r := [(6, true), (7, true), (8, true), (9, true), (10, false), (11, true), (12, true), (13, true), (14, true), (15, true), (16, true), (17, true), (18, false), (19, true), (20, true), (21, true), (22, true), (23, true), (24, true), (25, true), (26, true), (27, true), (28, true), (29, true)]) (l' := [(10, .bool (decide (lo < hi))), (2, .pointer (some ⟨b1, 0, none⟩)), (1, .int .i64 n)]) [10, 2, 1] (by kernel_rfl) ?_
  refine ops_bool (t := decide (lo < hi)) (l1 := [(10, .bool true), (2, .pointer (some ⟨b1, 0, none⟩)), (1, .int .i64 n)]) (l2 := [(10, .bool false), (2, .pointer (some ⟨b1, 0, none⟩)), (1, .int .i64 n)]) (fun h => by rw [h]) (fun h => by rw [h]) (fun hc2 => ?_) (fun hc2 => ?_)
  · --decide (lo < hi)
    refine ops_run (is := [(6, true)]) (r := [(7, true), (8, true), (9, true), (10, false), (11, true), (12, true), (13, true), (14, true), (15, true), (16, true), (17, true), (18, false), (19, true), (20, true), (21, true), (22, true), (23, true), (24, true), (25, true), (26, true), (27, true), (28, true), (29, true)]) (l' := [(11, .pointer (some ⟨b1, 0, none⟩)), (10, .bool true), (2, .pointer (some ⟨b1, 0, none⟩)), (1, .int .i64 n)]) [11, 10, 2, 1] (by kernel_rfl) ?_
    refine ops_load (d := some 12) (an := [.v (.int .i64 lo)]) (evs := [.load ⟨b1, 0, none⟩ (.int .i64 lo)]) (v := .int .i64 lo) ⟨by kernel_rfl⟩ (fun w_ hM => ⟨hM.cell 0 rfl rfl, rfl⟩) ?_
    refine ops_run (is := [(8, true)]) (r := [(9, true), (10, false), (11, true), (12, true), (13, true), (14, true), (15, true), (16, true), (17, true), (18, false), (19, true), (20, true), (21, true), (22, true), (23, true), (24, true), (25, true), (26, true), (27, true), (28, true), (29, true)]) (l' := [(13, .pointer (some ⟨b1, 0, none⟩)), (12, .int .i64 lo), (10, .bool true), (2, .pointer (some ⟨b1, 0, none⟩)), (1, .int .i64 n)]) [13, 12, 10, 2, 1] (by kernel_rfl) ?_
    refine ops_load (d := some 14) (an := [.v (.int .i64 lo)]) (evs := [.load ⟨b1, 0, none⟩ (.int .i64 lo)]) (v := .int .i64 lo) ⟨by kernel_rfl⟩ (fun w_ hM => ⟨hM.cell 0 rfl rfl, rfl⟩) ?_
    refine ops_run (is := []) (r := [(10, false), (11, true), (12, true), (13, true), (14, true), (15, true), (16, true), (17, true), (18, false), (19, true), (20, true), (21, true), (22, true), (23, true), (24, true), (25, true), (26, true), (27, true), (28, true), (29, true)]) (l' := [(14, .int .i64 lo), (12, .int .i64 lo), (10, .bool true), (2, .pointer (some ⟨b1, 0, none⟩)), (1, .int .i64 n)]) [14, 12, 10, 2, 1] (by kernel_rfl) ?_
    refine ops_call (σ := Unit) (d := some 15) (f := 77) (args := #[.int .i64 lo]) (v := fun _ => .int .i64 (min (max lo (-1099511627776)) 1099511627776)) (M' := fun _ => Mem w [.blk b1 [.int .i64 lo, .int .i64 hi] 81]) ⟨by kernel_rfl⟩ (fun w_ hM hS => (Limit_calls lo w_).mono (by rintro e w' ⟨rfl, hb⟩; exact ⟨(), rfl, hM.step hb, hS.step hb⟩)) (fun _ => ?_)
    refine ops_run (is := [(11, true), (12, true), (13, true)]) (r := [(14, true), (15, true), (16, true), (17, true), (18, false), (19, true), (20, true), (21, true), (22, true), (23, true), (24, true), (25, true), (26, true), (27, true), (28, true), (29, true)]) (l' := [(18, .bool (lo == min (max lo (-1099511627776)) 1099511627776)), (2, .pointer (some ⟨b1, 0, none⟩)), (1, .int .i64 n)]) [18, 2, 1] (by kernel_rfl) ?_
    refine ops_bool (t := (lo == min (max lo (-1099511627776)) 1099511627776)) (l1 := [(18, .bool true), (2, .pointer (some ⟨b1, 0, none⟩)), (1, .int .i64 n)]) (l2 := [(18, .bool false), (2, .pointer (some ⟨b1, 0, none⟩)), (1, .int .i64 n)]) (fun h => by rw [h]) (fun h => by rw [h]) (fun hc3 => ?_) (fun hc3 => ?_)
    · --(lo == min (max lo (-1099511627776)) 1099511627776)
      refine ops_run (is := [(14, true)]) (r := [(15, true), (16, true), (17, true), (18, false), (19, true), (20, true), (21, true), (22, true), (23, true), (24, true), (25, true), (26, true), (27, true), (28, true), (29, true)]) (l' := [(19, .pointer (some ⟨b1, 1, none⟩)), (18, .bool true), (2, .pointer (some ⟨b1, 0, none⟩)), (1, .int .i64 n)]) [19, 18, 2, 1] (by kernel_rfl) ?_
      refine ops_load (d := some 20) (an := [.v (.int .i64 hi)]) (evs := [.load ⟨b1, 1, none⟩ (.int .i64 hi)]) (v := .int .i64 hi) ⟨by kernel_rfl⟩ (fun w_ hM => ⟨hM.cell 0 rfl rfl, rfl⟩) ?_
      refine ops_run (is := [(16, true)]) (r := [(17, true), (18, false), (19, true), (20, true), (21, true), (22, true), (23, true), (24, true), (25, true), (26, true), (27, true), (28, true), (29, true)]) (l' := [(21, .pointer (some ⟨b1, 1, none⟩)), (20, .int .i64 hi), (18, .bool true), (1, .int .i64 n)]) [21, 20, 18, 1] (by kernel_rfl) ?_
      refine ops_load (d := some 22) (an := [.v (.int .i64 hi)]) (evs := [.load ⟨b1, 1, none⟩ (.int .i64 hi)]) (v := .int .i64 hi) ⟨by kernel_rfl⟩ (fun w_ hM => ⟨hM.cell 0 rfl rfl, rfl⟩) ?_
      refine ops_run (is := []) (r := [(18, false), (19, true), (20, true), (21, true), (22, true), (23, true), (24, true), (25, true), (26, true), (27, true), (28, true), (29, true)]) (l' := [(22, .int .i64 hi), (20, .int .i64 hi), (18, .bool true), (1, .int .i64 n)]) [22, 20, 18, 1] (by kernel_rfl) ?_
      refine ops_call (σ := Unit) (d := some 23) (f := 77) (args := #[.int .i64 hi]) (v := fun _ => .int .i64 (min (max hi (-1099511627776)) 1099511627776)) (M' := fun _ => Mem w [.blk b1 [.int .i64 lo, .int .i64 hi] 81]) ⟨by kernel_rfl⟩ (fun w_ hM hS => (Limit_calls hi w_).mono (by rintro e w' ⟨rfl, hb⟩; exact ⟨(), rfl, hM.step hb, hS.step hb⟩)) (fun _ => ?_)
      refine ops_run (is := [(19, true), (20, true), (21, true)]) (r := [(22, true), (23, true), (24, true), (25, true), (26, true), (27, true), (28, true), (29, true)]) (l' := [(26, .bool (hi == min (max hi (-1099511627776)) 1099511627776)), (1, .int .i64 n)]) [26, 1] (by kernel_rfl) ?_
      refine ops_bool (t := (hi == min (max hi (-1099511627776)) 1099511627776)) (l1 := [(26, .bool true), (1, .int .i64 n)]) (l2 := [(26, .bool false), (1, .int .i64 n)]) (fun h => by rw [h]) (fun h => by rw [h]) (fun hc4 => ?_) (fun hc4 => ?_)
      · --(hi == min (max hi (-1099511627776)) 1099511627776)
        refine ops_run (is := [(22, true), (23, true), (24, true), (25, true)]) (r := [(26, true), (27, true), (28, true), (29, true)]) (l' := [(30, .bool (decide (1 ≤ n))), (1, .int .i64 n)]) [30, 1] (by kernel_rfl) ?_
        refine ops_bool (t := decide (1 ≤ n)) (l1 := [(30, .bool true), (1, .int .i64 n)]) (l2 := [(30, .bool false), (1, .int .i64 n)]) (fun h => by rw [h]) (fun h => by rw [h]) (fun hc5 => ?_) (fun hc5 => ?_)
        · --decide (1 ≤ n)
          refine ops_run (is := [(26, true), (27, true), (28, true), (29, true)]) (r := []) (l' := [(4, .bool (decide (n ≤ 32)))]) [4] (by kernel_rfl) ?_
          refine ops_nil ?_
          refine fin_then ?_
          refine st_ret ?_
          refine fin_ret [.tmp 4] [.bool (decide (n ≤ 32))] rfl rfl (fun w_ hM => (.tmp rfl .nil)) (fun w_ hM => ?_)
          refine ⟨?_, hM.done⟩
          have := of_decide_eq_true hc2
          have := beq_iff_eq.1 hc3
          have := beq_iff_eq.1 hc4
          have := of_decide_eq_true hc5
          exact congrArg (fun z => Ending.returned (.bool z)) (decide_eq_false (by omega))
        · --decide (1 ≤ n)
          refine ops_run (is := [(26, true), (27, true), (28, true), (29, true)]) (r := []) (l' := [(4, .bool false)]) [4] (by kernel_rfl) ?_
          refine ops_nil ?_
          refine fin_then ?_
          refine st_ret ?_
          refine fin_ret [.tmp 4] [.bool false] rfl rfl (fun w_ hM => (.tmp rfl .nil)) (fun w_ hM => ?_)
          refine ⟨?_, hM.done⟩
          rfl
      · --(hi == min (max hi (-1099511627776)) 1099511627776)
        refine ops_run (is := [(22, true), (23, true), (24, true), (25, true), (26, true), (27, true), (28, true), (29, true)]) (r := []) (l' := [(4, .bool false)]) [4] (by kernel_rfl) ?_
        refine ops_nil ?_
        refine fin_then ?_
        refine st_ret ?_
        refine fin_ret [.tmp 4] [.bool false] rfl rfl (fun w_ hM => (.tmp rfl .nil)) (fun w_ hM => ?_)
        refine ⟨?_, hM.done⟩
        rfl
    · --(lo == min (max lo (-1099511627776)) 1099511627776)
      refine ops_run (is := [(14, true), (15, true), (16, true), (17, true), (18, false), (19, true), (20, true), (21, true), (22, true), (23, true), (24, true), (25, true), (26, true), (27, true), (28, true), (29, true)]) (r := []) (l' := [(4, .bool false)]) [4] (by kernel_rfl) ?_
      refine ops_nil ?_
      refine fin_then ?_
      refine st_ret ?_
      refine fin_ret [.tmp 4] [.bool false] rfl rfl (fun w_ hM => (.tmp rfl .nil)) (fun w_ hM => ?_)
      refine ⟨?_, hM.done⟩
      rfl
  · --decide (lo < hi)
    refine ops_run (is := [(6, true), (7, true), (8, true), (9, true), (10, false), (11, true), (12, true), (13, true), (14, true), (15, true), (16, true), (17, true), (18, false), (19, true), (20, true), (21, true), (22, true), (23, true), (24, true), (25, true), (26, true), (27, true), (28, true), (29, true)]) (r := []) (l' := [(4, .bool false)]) [4] (by kernel_rfl) ?_
    refine ops_nil ?_
    refine fin_then ?_
    refine st_ret ?_
    refine fin_ret [.tmp 4] [.bool false] rfl rfl (fun w_ hM => (.tmp rfl .nil)) (fun w_ hM => ?_)
    refine ⟨?_, hM.done⟩
    rfl
set_option maxRecDepth 100000 in
theorem Coarse_ok (lo hi n v : Int) (w : World) (q : Int) (hq : IntKind.i64.wrap (1 * 2 ^ min n.toNat 64) = q) (hq0 : 2 ≤ q) (hq1 : q ≤ 4294967296) (hok : lo < hi ∧ -1099511627776 ≤ lo ∧ lo ≤ 1099511627776 ∧ -1099511627776 ≤ hi ∧ hi ≤ 1099511627776 ∧ 1 ≤ n ∧ n ≤ 32) : Calls Try.prog 56 #[.agg #[.int .i64 lo, .int .i64 hi], .int .i64 n, .int .i64 v] w fun e w' => e = .returned (.tuple #[.int .i64 (shareV (min (max v lo) hi - lo) (q - 1) (hi - lo)), .int .i64 0]) ∧ Below w.heap.size w w' := by
  refine sx_calls Try.func56 rfl (n := 35) (by kernel_rfl) (l := [(0, .agg #[.int .i64 lo, .int .i64 hi]), (1, .int .i64 n), (2, .int .i64 v)]) rfl (by rfl) (Mem.nil w) ?_
  refine st_seq ?_
  refine st_region [(0, false), (1, false), (2, false)] (by rfl) ?_
  refine ops_new (d := some 3) (o := .cells #[.int .i64 lo, .int .i64 hi] 81) (v := fun b1 => .pointer (some ⟨b1, 0, none⟩)) (M' := fun b1 => Mem w [.blk b1 [.int .i64 lo, .int .i64 hi] 81]) (fun b1 => ⟨by kernel_rfl⟩) (fun w_ hM hS => ⟨hM.blk [.int .i64 lo, .int .i64 hi] 81, trivial⟩) (fun b1 => ?_)
  refine ops_run (is := [(1, false), (2, false)]) (r := []) (l' := [(3, .pointer (some ⟨b1, 0, none⟩)), (1, .int .i64 n), (2, .int .i64 v)]) [3, 1, 2] (by kernel_rfl) ?_
  refine ops_nil ?_
  refine fin_then ?_
  refine st_seq ?_
  refine st_seq ?_
  refine st_region [(0, false), (1, false), (2, false), (3, false)] (by rfl) ?_
  refine ops_mem (d := some 9) (an := [.v (.int .i64 lo), .v (.int .i64 hi)]) (evs := [.load ⟨b1, 0, none⟩ (.int .i64 lo), .load ⟨b1, 1, none⟩ (.int .i64 hi)]) (v := .agg #[.int .i64 lo, .int .i64 hi]) (M' := Mem w [.blk b1 [.int .i64 lo, .int .i64 hi] 81]) ⟨by kernel_rfl⟩ (fun w_ hM hS => ⟨w_, ⟨hM.cell 0 rfl rfl, hM.cell 0 rfl rfl, rfl⟩, hM, trivial⟩) ?_
  refine ops_run (is := [(1, false)]) (r := [(2, false), (3, false)]) (l' := [(10, .int .i64 n), (9, .agg #[.int .i64 lo, .int .i64 hi]), (3, .pointer (some ⟨b1, 0, none⟩)), (1, .int .i64 n), (2, .int .i64 v)]) [10, 9, 3, 1, 2] (by kernel_rfl) ?_
  refine ops_call (σ := Unit) (d := some 11) (f := 85) (args := #[.agg #[.int .i64 lo, .int .i64 hi], .int .i64 n]) (v := fun _ => .int .i64 0) (M' := fun _ => Mem w [.blk b1 [.int .i64 lo, .int .i64 hi] 81]) ⟨by kernel_rfl⟩ (fun w_ hM hS => (range1_ok lo hi n w_ hok).mono (by rintro e w' ⟨rfl, hb⟩; exact ⟨(), rfl, hM.step hb, trivial⟩)) (fun _ => ?_)
  refine ops_run (is := [(3, false)]) (r := []) (l' := [(8, .int .i64 0), (3, .pointer (some ⟨b1, 0, none⟩)), (1, .int .i64 n), (2, .int .i64 v)]) [8, 3, 1, 2] (by kernel_rfl) ?_
  refine ops_nil ?_
  refine fin_then ?_
  refine st_seq ?_
  refine st_region [(0, false), (1, false)] (by rfl) ?_
  refine ops_run (is := [(0, false), (1, false)]) (r := []) (l' := [(13, .bool false), (8, .int .i64 0), (3, .pointer (some ⟨b1, 0, none⟩)), (1, .int .i64 n), (2, .int .i64 v)]) [13, 8, 3, 1, 2] (by kernel_rfl) ?_
  refine ops_nil ?_
  refine fin_then ?_
  refine st_false rfl ?_
  refine st_skip ?_
  refine fin_then ?_
  refine st_seq ?_
  refine st_region [(0, false), (1, false), (2, false), (3, false), (4, false), (5, false), (6, false), (7, false)] (by rfl) ?_
  refine ops_run (is := [(0, false), (1, false)]) (r := [(2, false), (3, false), (4, false), (5, false), (6, false), (7, false)]) (l' := [(16, .pointer (some ⟨b1, 0, none⟩)), (15, .int .i64 v), (3, .pointer (some ⟨b1, 0, none⟩)), (1, .int .i64 n), (2, .int .i64 v)]) [16, 15, 3, 1, 2] (by kernel_rfl) ?_
  refine ops_mem (d := some 17) (an := [.v (.int .i64 lo)]) (evs := [.load ⟨b1, 0, none⟩ (.int .i64 lo)]) (v := .int .i64 lo) (M' := Mem w [.blk b1 [.int .i64 lo, .int .i64 hi] 81]) ⟨by kernel_rfl⟩ (fun w_ hM hS => ⟨w_, ⟨hM.cell 0 rfl rfl, rfl⟩, hM, trivial⟩) ?_
  refine ops_run (is := []) (r := [(3, false), (4, false), (5, false), (6, false), (7, false)]) (l' := [(17, .int .i64 lo), (15, .int .i64 v), (3, .pointer (some ⟨b1, 0, none⟩)), (1, .int .i64 n), (2, .int .i64 v)]) [17, 15, 3, 1, 2] (by kernel_rfl) ?_
  refine ops_val (op := (Go.Op.call { callee := (Go.Callee.builtin Go.Builtin.max), args := #[(Go.Operand.tmp 15), (Go.Operand.tmp 17)], argTypes := #[3, 3] })) (d := some 18) (v := .int .i64 (max v lo)) ⟨by kernel_rfl⟩ (run_max rfl rfl) ?_
  refine ops_run (is := [(4, false)]) (r := [(5, false), (6, false), (7, false)]) (l' := [(19, .pointer (some ⟨b1, 1, none⟩)), (18, .int .i64 (max v lo)), (3, .pointer (some ⟨b1, 0, none⟩)), (1, .int .i64 n), (2, .int .i64 v)]) [19, 18, 3, 1, 2] (by kernel_rfl) ?_
  refine ops_mem (d := some 20) (an := [.v (.int .i64 hi)]) (evs := [.load ⟨b1, 1, none⟩ (.int .i64 hi)]) (v := .int .i64 hi) (M' := Mem w [.blk b1 [.int .i64 lo, .int .i64 hi] 81]) ⟨by kernel_rfl⟩ (fun w_ hM hS => ⟨w_, ⟨hM.cell 0 rfl rfl, rfl⟩, hM, trivial⟩) ?_
  refine ops_run (is := []) (r := [(6, false), (7, false)]) (l' := [(20, .int .i64 hi), (18, .int .i64 (max v lo)), (3, .pointer (some ⟨b1, 0, none⟩)), (1, .int .i64 n), (2, .int .i64 v)]) [20, 18, 3, 1, 2] (by kernel_rfl) ?_
  refine ops_val (op := (Go.Op.call { callee := (Go.Callee.builtin Go.Builtin.min), args := #[(Go.Operand.tmp 18), (Go.Operand.tmp 20)], argTypes := #[3, 3] })) (d := some 21) (v := .int .i64 (min (max v lo) hi)) ⟨by kernel_rfl⟩ (run_min rfl rfl) ?_
  refine ops_run (is := [(7, false)]) (r := []) (l' := [(2, .int .i64 (min (max v lo) hi)), (3, .pointer (some ⟨b1, 0, none⟩)), (1, .int .i64 n)]) [2, 3, 1] (by kernel_rfl) ?_
  refine ops_nil ?_
  refine fin_then ?_
  refine st_seq ?_
  refine st_region_draw [(0, true), (1, true), (2, true), (3, true), (4, true), (5, true), (6, true), (7, true), (8, true), (9, true), (10, true), (11, true), (12, false), (13, true), (14, true)] (Mem w [.blk b1 [.int .i64 lo, .int .i64 hi] 81]) (by kernel_rfl) (by kernel_rfl) (by kernel_rfl) (fun _ d _ _ _ h => by cases d <;> exact h) (M' := Mem w [.blk b1 [.int .i64 lo, .int .i64 hi] 81]) (fun w_ hM => ⟨hM.drew, hM.drew.sub (by simp)⟩) ?_
  refine ops_run (is := [(0, true), (1, true)]) (r := [(2, true), (3, true), (4, true), (5, true), (6, true), (7, true), (8, true), (9, true), (10, true), (11, true), (12, false), (13, true), (14, true)]) (l' := [(23, .pointer (some ⟨b1, 0, none⟩)), (22, .int .i64 (min (max v lo) hi)), (3, .pointer (some ⟨b1, 0, none⟩)), (1, .int .i64 n)]) [23, 22, 3, 1] (by kernel_rfl) ?_
  refine ops_load (d := some 24) (an := [.v (.int .i64 lo)]) (evs := [.load ⟨b1, 0, none⟩ (.int .i64 lo)]) (v := .int .i64 lo) ⟨by kernel_rfl⟩ (fun w_ hM => ⟨hM.cell 0 rfl rfl, rfl⟩) ?_
  refine ops_run (is := [(3, true)]) (r := [(4, true), (5, true), (6, true), (7, true), (8, true), (9, true), (10, true), (11, true), (12, false), (13, true), (14, true)]) (l' := [(25, .int .i64 (IntKind.i64.wrap (min (max v lo) hi - lo))), (3, .pointer (some ⟨b1, 0, none⟩)), (1, .int .i64 n)]) [25, 3, 1] (by kernel_rfl) ?_
  refine ops_conv (l' := [(25, .int .i64 (min (max v lo) hi - lo)), (3, .pointer (some ⟨b1, 0, none⟩)), (1, .int .i64 n)]) (by rw [(i64in (x := min (max v lo) hi - lo) (by omega) (by omega))]) (fun _ h => h) ?_
  refine ops_run (is := [(4, true)]) (r := [(5, true), (6, true), (7, true), (8, true), (9, true), (10, true), (11, true), (12, false), (13, true), (14, true)]) (l' := [(26, .int .i64 n), (25, .int .i64 (min (max v lo) hi - lo)), (3, .pointer (some ⟨b1, 0, none⟩))]) [26, 25, 3] (by kernel_rfl) ?_
  refine ops_val (op := (Go.Op.binOp Go.BinOp.shl 3 (Go.Operand.const (Go.Value.int Go.IntKind.i64 1)) (Go.Operand.tmp 26) 3)) (d := some 27) (v := .int .i64 (IntKind.i64.wrap (1 * 2 ^ min (n).toNat 64))) ⟨by kernel_rfl⟩ (run_shl rfl rfl (by omega)) ?_
  refine ops_run (is := []) (r := [(6, true), (7, true), (8, true), (9, true), (10, true), (11, true), (12, false), (13, true), (14, true)]) (l' := [(27, .int .i64 (IntKind.i64.wrap (1 * 2 ^ min (n).toNat 64))), (25, .int .i64 (min (max v lo) hi - lo)), (3, .pointer (some ⟨b1, 0, none⟩))]) [27, 25, 3] (by kernel_rfl) ?_
  refine ops_conv (l' := [(27, .int .i64 q), (25, .int .i64 (min (max v lo) hi - lo)), (3, .pointer (some ⟨b1, 0, none⟩))]) (by rw [hq]) (fun _ h => h) ?_
  refine ops_run (is := [(6, true)]) (r := [(7, true), (8, true), (9, true), (10, true), (11, true), (12, false), (13, true), (14, true)]) (l' := [(28, .int .i64 (IntKind.i64.wrap (q - 1))), (25, .int .i64 (min (max v lo) hi - lo)), (3, .pointer (some ⟨b1, 0, none⟩))]) [28, 25, 3] (by kernel_rfl) ?_
  refine ops_conv (l' := [(28, .int .i64 (q - 1)), (25, .int .i64 (min (max v lo) hi - lo)), (3, .pointer (some ⟨b1, 0, none⟩))]) (by rw [(i64in (x := q - 1) (by omega) (by omega))]) (fun _ h => h) ?_
  refine ops_run (is := [(7, true)]) (r := [(8, true), (9, true), (10, true), (11, true), (12, false), (13, true), (14, true)]) (l' := [(29, .pointer (some ⟨b1, 1, none⟩)), (28, .int .i64 (q - 1)), (25, .int .i64 (min (max v lo) hi - lo)), (3, .pointer (some ⟨b1, 0, none⟩))]) [29, 28, 25, 3] (by kernel_rfl) ?_
  refine ops_load (d := some 30) (an := [.v (.int .i64 hi)]) (evs := [.load ⟨b1, 1, none⟩ (.int .i64 hi)]) (v := .int .i64 hi) ⟨by kernel_rfl⟩ (fun w_ hM => ⟨hM.cell 0 rfl rfl, rfl⟩) ?_
  refine ops_run (is := [(9, true)]) (r := [(10, true), (11, true), (12, false), (13, true), (14, true)]) (l' := [(31, .pointer (some ⟨b1, 0, none⟩)), (30, .int .i64 hi), (28, .int .i64 (q - 1)), (25, .int .i64 (min (max v lo) hi - lo))]) [31, 30, 28, 25] (by kernel_rfl) ?_
  refine ops_load (d := some 32) (an := [.v (.int .i64 lo)]) (evs := [.load ⟨b1, 0, none⟩ (.int .i64 lo)]) (v := .int .i64 lo) ⟨by kernel_rfl⟩ (fun w_ hM => ⟨hM.cell 0 rfl rfl, rfl⟩) ?_
  refine ops_run (is := [(11, true)]) (r := [(12, false), (13, true), (14, true)]) (l' := [(33, .int .i64 (IntKind.i64.wrap (hi - lo))), (28, .int .i64 (q - 1)), (25, .int .i64 (min (max v lo) hi - lo))]) [33, 28, 25] (by kernel_rfl) ?_
  refine ops_conv (l' := [(33, .int .i64 (hi - lo)), (28, .int .i64 (q - 1)), (25, .int .i64 (min (max v lo) hi - lo))]) (by rw [(i64in (x := hi - lo) (by omega) (by omega))]) (fun _ h => h) ?_
  refine ops_call (σ := Unit) (d := some 34) (f := 86) (args := #[.int .i64 (min (max v lo) hi - lo), .int .i64 (q - 1), .int .i64 (hi - lo)]) (v := fun _ => .int .i64 (shareV (min (max v lo) hi - lo) (q - 1) (hi - lo))) (M' := fun _ => Mem w [.blk b1 [.int .i64 lo, .int .i64 hi] 81]) ⟨by kernel_rfl⟩ (fun w_ hM hS => (through_calls (min (max v lo) hi - lo) (q - 1) (hi - lo) w_ (by omega) (by omega) (by omega) (by omega) (by omega) (by omega)).mono (by rintro e w' ⟨rfl, hb⟩; exact ⟨(), rfl, hM.step hb, hS.step hb⟩)) (fun _ => ?_)
  refine ops_run (is := [(13, true), (14, true)]) (r := []) (l' := [(7, .int .i64 0), (6, .int .i64 (shareV (min (max v lo) hi - lo) (q - 1) (hi - lo)))]) [7, 6] (by kernel_rfl) ?_
  refine ops_nil ?_
  refine fin_then ?_
  refine st_ret ?_
  refine fin_ret [.tmp 6, .tmp 7] [.int .i64 (shareV (min (max v lo) hi - lo) (q - 1) (hi - lo)), .int .i64 0] rfl rfl (fun w_ hM => (.tmp rfl (.tmp rfl .nil))) (fun w_ hM => ?_)
  refine ⟨?_, hM.done⟩
  rfl
set_option maxRecDepth 100000 in
theorem Coarse_bad (lo hi n v : Int) (w : World) (hbad : ¬ (lo < hi ∧ -1099511627776 ≤ lo ∧ lo ≤ 1099511627776 ∧ -1099511627776 ≤ hi ∧ hi ≤ 1099511627776 ∧ 1 ≤ n ∧ n ≤ 32)) : Calls Try.prog 56 #[.agg #[.int .i64 lo, .int .i64 hi], .int .i64 n, .int .i64 v] w fun e w' => e = .returned (.tuple #[.int .i64 0, .int .i64 1]) ∧ Below w.heap.size w w' := by
  refine sx_calls Try.func56 rfl (n := 35) (by kernel_rfl) (l := [(0, .agg #[.int .i64 lo, .int .i64 hi]), (1, .int .i64 n), (2, .int .i64 v)]) rfl (by rfl) (Mem.nil w) ?_
  refine st_seq ?_
  refine st_region [(0, false), (1, false), (2, false)] (by rfl) ?_
  refine ops_new (d := some 3) (o := .cells #[.int .i64 lo, .int .i64 hi] 81) (v := fun b1 => .pointer (some ⟨b1, 0, none⟩)) (M' := fun b1 => Mem w [.blk b1 [.int .i64 lo, .int .i64 hi] 81]) (fun b1 => ⟨by kernel_rfl⟩) (fun w_ hM hS => ⟨hM.blk [.int .i64 lo, .int .i64 hi] 81, trivial⟩) (fun b1 => ?_)
  refine ops_run (is := [(1, false), (2, false)]) (r := []) (l' := [(3, .pointer (some ⟨b1, 0, none⟩)), (1, .int .i64 n), (2, .int .i64 v)]) [3, 1, 2] (by kernel_rfl) ?_
  refine ops_nil ?_
  refine fin_then ?_
  refine st_seq ?_
  refine st_seq ?_
  refine st_region [(0, false), (1, false), (2, false), (3, false)] (by rfl) ?_
  refine ops_mem (d := some 9) (an := [.v (.int .i64 lo), .v (.int .i64 hi)]) (evs := [.load ⟨b1, 0, none⟩ (.int .i64 lo), .load ⟨b1, 1, none⟩ (.int .i64 hi)]) (v := .agg #[.int .i64 lo, .int .i64 hi]) (M' := Mem w [.blk b1 [.int .i64 lo, .int .i64 hi] 81]) ⟨by kernel_rfl⟩ (fun w_ hM hS => ⟨w_, ⟨hM.cell 0 rfl rfl, hM.cell 0 rfl rfl, rfl⟩, hM, trivial⟩) ?_
  refine ops_run (is := [(1, false)]) (r := [(2, false), (3, false)]) (l' := [(10, .int .i64 n), (9, .agg #[.int .i64 lo, .int .i64 hi]), (3, .pointer (some ⟨b1, 0, none⟩)), (1, .int .i64 n), (2, .int .i64 v)]) [10, 9, 3, 1, 2] (by kernel_rfl) ?_
  refine ops_call (σ := Unit) (d := some 11) (f := 85) (args := #[.agg #[.int .i64 lo, .int .i64 hi], .int .i64 n]) (v := fun _ => .int .i64 1) (M' := fun _ => Mem w [.blk b1 [.int .i64 lo, .int .i64 hi] 81]) ⟨by kernel_rfl⟩ (fun w_ hM hS => (range1_bad lo hi n w_ hbad).mono (by rintro e w' ⟨rfl, hb⟩; exact ⟨(), rfl, hM.step hb, trivial⟩)) (fun _ => ?_)
  refine ops_run (is := [(3, false)]) (r := []) (l' := [(8, .int .i64 1), (3, .pointer (some ⟨b1, 0, none⟩)), (1, .int .i64 n), (2, .int .i64 v)]) [8, 3, 1, 2] (by kernel_rfl) ?_
  refine ops_nil ?_
  refine fin_then ?_
  refine st_seq ?_
  refine st_region [(0, false), (1, false)] (by rfl) ?_
  refine ops_run (is := [(0, false), (1, false)]) (r := []) (l' := [(13, .bool true), (8, .int .i64 1), (3, .pointer (some ⟨b1, 0, none⟩)), (1, .int .i64 n), (2, .int .i64 v)]) [13, 8, 3, 1, 2] (by kernel_rfl) ?_
  refine ops_nil ?_
  refine fin_then ?_
  refine st_true rfl ?_
  refine st_seq ?_
  refine st_region [(0, false), (1, false), (2, false)] (by rfl) ?_
  refine ops_run (is := [(0, false), (1, false), (2, false)]) (r := []) (l' := [(7, .int .i64 1), (6, .int .i64 0)]) [7, 6] (by kernel_rfl) ?_
  refine ops_nil ?_
  refine fin_then ?_
  refine st_ret ?_
  refine fin_ret_then ?_
  refine fin_ret [.tmp 6, .tmp 7] [.int .i64 0, .int .i64 1] rfl rfl (fun w_ hM => (.tmp rfl (.tmp rfl .nil))) (fun w_ hM => ?_)
  refine ⟨?_, hM.done⟩
  rfl
set_option maxRecDepth 100000 in
theorem Fine_ok (lo hi n k : Int) (w : World) (q : Int) (hq : IntKind.i64.wrap (1 * 2 ^ min n.toNat 64) = q) (hq0 : 2 ≤ q) (hq1 : q ≤ 4294967296) (hok : lo < hi ∧ -1099511627776 ≤ lo ∧ lo ≤ 1099511627776 ∧ -1099511627776 ≤ hi ∧ hi ≤ 1099511627776 ∧ 1 ≤ n ∧ n ≤ 32) (hk0 : 0 ≤ k) (hk1 : k < q) : Calls Try.prog 57 #[.agg #[.int .i64 lo, .int .i64 hi], .int .i64 n, .int .i64 k] w fun e w' => e = .returned (.tuple #[.int .i64 (lo + shareV k (hi - lo) (q - 1)), .int .i64 0]) ∧ Below w.heap.size w w' := by
  have hsr := share_range (a := k) (b := hi - lo) (c := q - 1) (by omega) (by omega) (by omega) (by omega)
  have hf1 : decide (k < 0) = false := by simp; omega
  have hf2 : decide (q ≤ k) = false := by simp; omega
  refine sx_calls Try.func57 rfl (n := 36) (by kernel_rfl) (l := [(0, .agg #[.int .i64 lo, .int .i64 hi]), (1, .int .i64 n), (2, .int .i64 k)]) rfl (by rfl) (Mem.nil w) ?_
  refine st_seq ?_
  refine st_region [(0, false), (1, false), (2, false)] (by rfl) ?_
  refine ops_new (d := some 3) (o := .cells #[.int .i64 lo, .int .i64 hi] 81) (v := fun b1 => .pointer (some ⟨b1, 0, none⟩)) (M' := fun b1 => Mem w [.blk b1 [.int .i64 lo, .int .i64 hi] 81]) (fun b1 => ⟨by kernel_rfl⟩) (fun w_ hM hS => ⟨hM.blk [.int .i64 lo, .int .i64 hi] 81, trivial⟩) (fun b1 => ?_)
  refine ops_run (is := [(1, false), (2, false)]) (r := []) (l' := [(3, .pointer (some ⟨b1, 0, none⟩)), (1, .int .i64 n), (2, .int .i64 k)]) [3, 1, 2] (by kernel_rfl) ?_
  refine ops_nil ?_
  refine fin_then ?_
  refine st_seq ?_
  refine st_seq ?_
  refine st_region [(0, false), (1, false), (2, false), (3, false)] (by rfl) ?_
  refine ops_mem (d := some 9) (an := [.v (.int .i64 lo), .v (.int .i64 hi)]) (evs := [.load ⟨b1, 0, none⟩ (.int .i64 lo), .load ⟨b1, 1, none⟩ (.int .i64 hi)]) (v := .agg #[.int .i64 lo, .int .i64 hi]) (M' := Mem w [.blk b1 [.int .i64 lo, .int .i64 hi] 81]) ⟨by kernel_rfl⟩ (fun w_ hM hS => ⟨w_, ⟨hM.cell 0 rfl rfl, hM.cell 0 rfl rfl, rfl⟩, hM, trivial⟩) ?_
  refine ops_run (is := [(1, false)]) (r := [(2, false), (3, false)]) (l' := [(10, .int .i64 n), (9, .agg #[.int .i64 lo, .int .i64 hi]), (3, .pointer (some ⟨b1, 0, none⟩)), (1, .int .i64 n), (2, .int .i64 k)]) [10, 9, 3, 1, 2] (by kernel_rfl) ?_
  refine ops_call (σ := Unit) (d := some 11) (f := 85) (args := #[.agg #[.int .i64 lo, .int .i64 hi], .int .i64 n]) (v := fun _ => .int .i64 0) (M' := fun _ => Mem w [.blk b1 [.int .i64 lo, .int .i64 hi] 81]) ⟨by kernel_rfl⟩ (fun w_ hM hS => (range1_ok lo hi n w_ hok).mono (by rintro e w' ⟨rfl, hb⟩; exact ⟨(), rfl, hM.step hb, trivial⟩)) (fun _ => ?_)
  refine ops_run (is := [(3, false)]) (r := []) (l' := [(8, .int .i64 0), (3, .pointer (some ⟨b1, 0, none⟩)), (1, .int .i64 n), (2, .int .i64 k)]) [8, 3, 1, 2] (by kernel_rfl) ?_
  refine ops_nil ?_
  refine fin_then ?_
  refine st_seq ?_
  refine st_region [(0, false), (1, false)] (by rfl) ?_
  refine ops_run (is := [(0, false), (1, false)]) (r := []) (l' := [(13, .bool false), (8, .int .i64 0), (3, .pointer (some ⟨b1, 0, none⟩)), (1, .int .i64 n), (2, .int .i64 k)]) [13, 8, 3, 1, 2] (by kernel_rfl) ?_
  refine ops_nil ?_
  refine fin_then ?_
  refine st_false rfl ?_
  refine st_skip ?_
  refine fin_then ?_
  refine st_seq ?_
  refine st_seq ?_
  refine st_region [(0, false), (1, false), (2, false), (3, false), (4, false), (5, false), (6, false), (7, false)] (by rfl) ?_
  refine ops_run (is := [(0, false), (1, false), (2, false)]) (r := [(3, false), (4, false), (5, false), (6, false), (7, false)]) (l' := [(17, .bool (decide (k < 0))), (3, .pointer (some ⟨b1, 0, none⟩)), (1, .int .i64 n), (2, .int .i64 k)]) [17, 3, 1, 2] (by kernel_rfl) ?_
  refine ops_conv (l' := [(17, .bool false), (3, .pointer (some ⟨b1, 0, none⟩)), (1, .int .i64 n), (2, .int .i64 k)]) (by rw [hf1]) (fun _ h => h) ?_
  refine ops_run (is := [(3, false), (4, false)]) (r := [(5, false), (6, false), (7, false)]) (l' := [(19, .int .i64 n), (18, .int .i64 k), (17, .bool false), (3, .pointer (some ⟨b1, 0, none⟩)), (1, .int .i64 n), (2, .int .i64 k)]) [19, 18, 17, 3, 1, 2] (by kernel_rfl) ?_
  refine ops_val (op := (Go.Op.binOp Go.BinOp.shl 3 (Go.Operand.const (Go.Value.int Go.IntKind.i64 1)) (Go.Operand.tmp 19) 3)) (d := some 20) (v := .int .i64 (IntKind.i64.wrap (1 * 2 ^ min (n).toNat 64))) ⟨by kernel_rfl⟩ (run_shl rfl rfl (by omega)) ?_
  refine ops_run (is := []) (r := [(6, false), (7, false)]) (l' := [(20, .int .i64 (IntKind.i64.wrap (1 * 2 ^ min (n).toNat 64))), (18, .int .i64 k), (17, .bool false), (3, .pointer (some ⟨b1, 0, none⟩)), (1, .int .i64 n), (2, .int .i64 k)]) [20, 18, 17, 3, 1, 2] (by kernel_rfl) ?_
  refine ops_conv (l' := [(20, .int .i64 q), (18, .int .i64 k), (17, .bool false), (3, .pointer (some ⟨b1, 0, none⟩)), (1, .int .i64 n), (2, .int .i64 k)]) (by rw [hq]) (fun _ h => h) ?_
  refine ops_run (is := [(6, false), (7, false)]) (r := []) (l' := [(22, .bool (decide (q ≤ k))), (3, .pointer (some ⟨b1, 0, none⟩)), (1, .int .i64 n), (2, .int .i64 k)]) [22, 3, 1, 2] (by kernel_rfl) ?_
  refine ops_nil ?_
  refine fin_then ?_
  refine st_conv (l' := [(22, .bool false), (3, .pointer (some ⟨b1, 0, none⟩)), (1, .int .i64 n), (2, .int .i64 k)]) (by rw [hf2]) (fun _ h => h) ?_
  refine st_false rfl ?_
  refine st_skip ?_
  refine fin_then ?_
  refine st_seq ?_
  refine st_region_draw [(0, true), (1, true), (2, true), (3, true), (4, true), (5, true), (6, true), (7, true), (8, true), (9, true), (10, true), (11, false), (12, true), (13, true), (14, true)] (Mem w [.blk b1 [.int .i64 lo, .int .i64 hi] 81]) (by kernel_rfl) (by kernel_rfl) (by kernel_rfl) (fun _ d _ _ _ h => by cases d <;> exact h) (M' := Mem w [.blk b1 [.int .i64 lo, .int .i64 hi] 81]) (fun w_ hM => ⟨hM.drew, hM.drew.sub (by simp)⟩) ?_
  refine ops_run (is := [(0, true)]) (r := [(1, true), (2, true), (3, true), (4, true), (5, true), (6, true), (7, true), (8, true), (9, true), (10, true), (11, false), (12, true), (13, true), (14, true)]) (l' := [(23, .pointer (some ⟨b1, 0, none⟩)), (3, .pointer (some ⟨b1, 0, none⟩)), (1, .int .i64 n), (2, .int .i64 k)]) [23, 3, 1, 2] (by kernel_rfl) ?_
  refine ops_load (d := some 24) (an := [.v (.int .i64 lo)]) (evs := [.load ⟨b1, 0, none⟩ (.int .i64 lo)]) (v := .int .i64 lo) ⟨by kernel_rfl⟩ (fun w_ hM => ⟨hM.cell 0 rfl rfl, rfl⟩) ?_
  refine ops_run (is := [(2, true), (3, true)]) (r := [(4, true), (5, true), (6, true), (7, true), (8, true), (9, true), (10, true), (11, false), (12, true), (13, true), (14, true)]) (l' := [(26, .pointer (some ⟨b1, 1, none⟩)), (25, .int .i64 k), (24, .int .i64 lo), (3, .pointer (some ⟨b1, 0, none⟩)), (1, .int .i64 n)]) [26, 25, 24, 3, 1] (by kernel_rfl) ?_
  refine ops_load (d := some 27) (an := [.v (.int .i64 hi)]) (evs := [.load ⟨b1, 1, none⟩ (.int .i64 hi)]) (v := .int .i64 hi) ⟨by kernel_rfl⟩ (fun w_ hM => ⟨hM.cell 0 rfl rfl, rfl⟩) ?_
  refine ops_run (is := [(5, true)]) (r := [(6, true), (7, true), (8, true), (9, true), (10, true), (11, false), (12, true), (13, true), (14, true)]) (l' := [(28, .pointer (some ⟨b1, 0, none⟩)), (27, .int .i64 hi), (25, .int .i64 k), (24, .int .i64 lo), (1, .int .i64 n)]) [28, 27, 25, 24, 1] (by kernel_rfl) ?_
  refine ops_load (d := some 29) (an := [.v (.int .i64 lo)]) (evs := [.load ⟨b1, 0, none⟩ (.int .i64 lo)]) (v := .int .i64 lo) ⟨by kernel_rfl⟩ (fun w_ hM => ⟨hM.cell 0 rfl rfl, rfl⟩) ?_
  refine ops_run (is := [(7, true)]) (r := [(8, true), (9, true), (10, true), (11, false), (12, true), (13, true), (14, true)]) (l' := [(30, .int .i64 (IntKind.i64.wrap (hi - lo))), (25, .int .i64 k), (24, .int .i64 lo), (1, .int .i64 n)]) [30, 25, 24, 1] (by kernel_rfl) ?_
  refine ops_conv (l' := [(30, .int .i64 (hi - lo)), (25, .int .i64 k), (24, .int .i64 lo), (1, .int .i64 n)]) (by rw [(i64in (x := hi - lo) (by omega) (by omega))]) (fun _ h => h) ?_
  refine ops_run (is := [(8, true)]) (r := [(9, true), (10, true), (11, false), (12, true), (13, true), (14, true)]) (l' := [(31, .int .i64 n), (30, .int .i64 (hi - lo)), (25, .int .i64 k), (24, .int .i64 lo)]) [31, 30, 25, 24] (by kernel_rfl) ?_
  refine ops_val (op := (Go.Op.binOp Go.BinOp.shl 3 (Go.Operand.const (Go.Value.int Go.IntKind.i64 1)) (Go.Operand.tmp 31) 3)) (d := some 32) (v := .int .i64 (IntKind.i64.wrap (1 * 2 ^ min (n).toNat 64))) ⟨by kernel_rfl⟩ (run_shl rfl rfl (by omega)) ?_
  refine ops_run (is := []) (r := [(10, true), (11, false), (12, true), (13, true), (14, true)]) (l' := [(32, .int .i64 (IntKind.i64.wrap (1 * 2 ^ min (n).toNat 64))), (30, .int .i64 (hi - lo)), (25, .int .i64 k), (24, .int .i64 lo)]) [32, 30, 25, 24] (by kernel_rfl) ?_
  refine ops_conv (l' := [(32, .int .i64 q), (30, .int .i64 (hi - lo)), (25, .int .i64 k), (24, .int .i64 lo)]) (by rw [hq]) (fun _ h => h) ?_
  refine ops_run (is := [(10, true)]) (r := [(11, false), (12, true), (13, true), (14, true)]) (l' := [(33, .int .i64 (IntKind.i64.wrap (q - 1))), (30, .int .i64 (hi - lo)), (25, .int .i64 k), (24, .int .i64 lo)]) [33, 30, 25, 24] (by kernel_rfl) ?_
  refine ops_conv (l' := [(33, .int .i64 (q - 1)), (30, .int .i64 (hi - lo)), (25, .int .i64 k), (24, .int .i64 lo)]) (by rw [(i64in (x := q - 1) (by omega) (by omega))]) (fun _ h => h) ?_
  refine ops_call (σ := Unit) (d := some 34) (f := 86) (args := #[.int .i64 k, .int .i64 (hi - lo), .int .i64 (q - 1)]) (v := fun _ => .int .i64 (shareV k (hi - lo) (q - 1))) (M' := fun _ => Mem w [.blk b1 [.int .i64 lo, .int .i64 hi] 81]) ⟨by kernel_rfl⟩ (fun w_ hM hS => (through_calls k (hi - lo) (q - 1) w_ (by omega) (by omega) (by omega) (by omega) (by omega) (by omega)).mono (by rintro e w' ⟨rfl, hb⟩; exact ⟨(), rfl, hM.step hb, hS.step hb⟩)) (fun _ => ?_)
  refine ops_run (is := [(12, true)]) (r := [(13, true), (14, true)]) (l' := [(35, .int .i64 (IntKind.i64.wrap (lo + shareV k (hi - lo) (q - 1))))]) [35] (by kernel_rfl) ?_
  refine ops_conv (l' := [(35, .int .i64 (lo + shareV k (hi - lo) (q - 1)))]) (by rw [(i64in (x := lo + shareV k (hi - lo) (q - 1)) (by omega) (by omega))]) (fun _ h => h) ?_
  refine ops_run (is := [(13, true), (14, true)]) (r := []) (l' := [(7, .int .i64 0), (6, .int .i64 (lo + shareV k (hi - lo) (q - 1)))]) [7, 6] (by kernel_rfl) ?_
  refine ops_nil ?_
  refine fin_then ?_
  refine st_ret ?_
  refine fin_ret [.tmp 6, .tmp 7] [.int .i64 (lo + shareV k (hi - lo) (q - 1)), .int .i64 0] rfl rfl (fun w_ hM => (.tmp rfl (.tmp rfl .nil))) (fun w_ hM => ?_)
  refine ⟨?_, hM.done⟩
  rfl
set_option maxRecDepth 100000 in
theorem Fine_bad (lo hi n k : Int) (w : World) (hbad : ¬ (lo < hi ∧ -1099511627776 ≤ lo ∧ lo ≤ 1099511627776 ∧ -1099511627776 ≤ hi ∧ hi ≤ 1099511627776 ∧ 1 ≤ n ∧ n ≤ 32)) : Calls Try.prog 57 #[.agg #[.int .i64 lo, .int .i64 hi], .int .i64 n, .int .i64 k] w fun e w' => e = .returned (.tuple #[.int .i64 0, .int .i64 1]) ∧ Below w.heap.size w w' := by
  refine sx_calls Try.func57 rfl (n := 36) (by kernel_rfl) (l := [(0, .agg #[.int .i64 lo, .int .i64 hi]), (1, .int .i64 n), (2, .int .i64 k)]) rfl (by rfl) (Mem.nil w) ?_
  refine st_seq ?_
  refine st_region [(0, false), (1, false), (2, false)] (by rfl) ?_
  refine ops_new (d := some 3) (o := .cells #[.int .i64 lo, .int .i64 hi] 81) (v := fun b1 => .pointer (some ⟨b1, 0, none⟩)) (M' := fun b1 => Mem w [.blk b1 [.int .i64 lo, .int .i64 hi] 81]) (fun b1 => ⟨by kernel_rfl⟩) (fun w_ hM hS => ⟨hM.blk [.int .i64 lo, .int .i64 hi] 81, trivial⟩) (fun b1 => ?_)
  refine ops_run (is := [(1, false), (2, false)]) (r := []) (l' := [(3, .pointer (some ⟨b1, 0, none⟩)), (1, .int .i64 n), (2, .int .i64 k)]) [3, 1, 2] (by kernel_rfl) ?_
  refine ops_nil ?_
  refine fin_then ?_
  refine st_seq ?_
  refine st_seq ?_
  refine st_region [(0, false), (1, false), (2, false), (3, false)] (by rfl) ?_
  refine ops_mem (d := some 9) (an := [.v (.int .i64 lo), .v (.int .i64 hi)]) (evs := [.load ⟨b1, 0, none⟩ (.int .i64 lo), .load ⟨b1, 1, none⟩ (.int .i64 hi)]) (v := .agg #[.int .i64 lo, .int .i64 hi]) (M' := Mem w [.blk b1 [.int .i64 lo, .int .i64 hi] 81]) ⟨by kernel_rfl⟩ (fun w_ hM hS => ⟨w_, ⟨hM.cell 0 rfl rfl, hM.cell 0 rfl rfl, rfl⟩, hM, trivial⟩) ?_
  refine ops_run (is := [(1, false)]) (r := [(2, false), (3, false)]) (l' := [(10, .int .i64 n), (9, .agg #[.int .i64 lo, .int .i64 hi]), (3, .pointer (some ⟨b1, 0, none⟩)), (1, .int .i64 n), (2, .int .i64 k)]) [10, 9, 3, 1, 2] (by kernel_rfl) ?_
  refine ops_call (σ := Unit) (d := some 11) (f := 85) (args := #[.agg #[.int .i64 lo, .int .i64 hi], .int .i64 n]) (v := fun _ => .int .i64 1) (M' := fun _ => Mem w [.blk b1 [.int .i64 lo, .int .i64 hi] 81]) ⟨by kernel_rfl⟩ (fun w_ hM hS => (range1_bad lo hi n w_ hbad).mono (by rintro e w' ⟨rfl, hb⟩; exact ⟨(), rfl, hM.step hb, trivial⟩)) (fun _ => ?_)
  refine ops_run (is := [(3, false)]) (r := []) (l' := [(8, .int .i64 1), (3, .pointer (some ⟨b1, 0, none⟩)), (1, .int .i64 n), (2, .int .i64 k)]) [8, 3, 1, 2] (by kernel_rfl) ?_
  refine ops_nil ?_
  refine fin_then ?_
  refine st_seq ?_
  refine st_region [(0, false), (1, false)] (by rfl) ?_
  refine ops_run (is := [(0, false), (1, false)]) (r := []) (l' := [(13, .bool true), (8, .int .i64 1), (3, .pointer (some ⟨b1, 0, none⟩)), (1, .int .i64 n), (2, .int .i64 k)]) [13, 8, 3, 1, 2] (by kernel_rfl) ?_
  refine ops_nil ?_
  refine fin_then ?_
  refine st_true rfl ?_
  refine st_seq ?_
  refine st_region [(0, false), (1, false), (2, false)] (by rfl) ?_
  refine ops_run (is := [(0, false), (1, false), (2, false)]) (r := []) (l' := [(7, .int .i64 1), (6, .int .i64 0)]) [7, 6] (by kernel_rfl) ?_
  refine ops_nil ?_
  refine fin_then ?_
  refine st_ret ?_
  refine fin_ret_then ?_
  refine fin_ret [.tmp 6, .tmp 7] [.int .i64 0, .int .i64 1] rfl rfl (fun w_ hM => (.tmp rfl (.tmp rfl .nil))) (fun w_ hM => ?_)
  refine ⟨?_, hM.done⟩
  rfl
set_option maxRecDepth 100000 in
theorem Fine_neg (lo hi n k : Int) (w : World) (q : Int) (hq : IntKind.i64.wrap (1 * 2 ^ min n.toNat 64) = q) (hq0 : 2 ≤ q) (hq1 : q ≤ 4294967296) (hok : lo < hi ∧ -1099511627776 ≤ lo ∧ lo ≤ 1099511627776 ∧ -1099511627776 ≤ hi ∧ hi ≤ 1099511627776 ∧ 1 ≤ n ∧ n ≤ 32) (hk : k < 0) : Calls Try.prog 57 #[.agg #[.int .i64 lo, .int .i64 hi], .int .i64 n, .int .i64 k] w fun e w' => e = .returned (.tuple #[.int .i64 0, .int .i64 1]) ∧ Below w.heap.size w w' := by
  have hf1 : decide (k < 0) = true := by simpa using hk
  refine sx_calls Try.func57 rfl (n := 36) (by kernel_rfl) (l := [(0, .agg #[.int .i64 lo, .int .i64 hi]), (1, .int .i64 n), (2, .int .i64 k)]) rfl (by rfl) (Mem.nil w) ?_
  refine st_seq ?_
  refine st_region [(0, false), (1, false), (2, false)] (by rfl) ?_
  refine ops_new (d := some 3) (o := .cells #[.int .i64 lo, .int .i64 hi] 81) (v := fun b1 => .pointer (some ⟨b1, 0, none⟩)) (M' := fun b1 => Mem w [.blk b1 [.int .i64 lo, .int .i64 hi] 81]) (fun b1 => ⟨by kernel_rfl⟩) (fun w_ hM hS => ⟨hM.blk [.int .i64 lo, .int .i64 hi] 81, trivial⟩) (fun b1 => ?_)
  refine ops_run (is := [(1, false), (2, false)]) (r := []) (l' := [(3, .pointer (some ⟨b1, 0, none⟩)), (1, .int .i64 n), (2, .int .i64 k)]) [3, 1, 2] (by kernel_rfl) ?_
  refine ops_nil ?_
  refine fin_then ?_
  refine st_seq ?_
  refine st_seq ?_
  refine st_region [(0, false), (1, false), (2, false), (3, false)] (by rfl) ?_
  refine ops_mem (d := some 9) (an := [.v (.int .i64 lo), .v (.int .i64 hi)]) (evs := [.load ⟨b1, 0, none⟩ (.int .i64 lo), .load ⟨b1, 1, none⟩ (.int .i64 hi)]) (v := .agg #[.int .i64 lo, .int .i64 hi]) (M' := Mem w [.blk b1 [.int .i64 lo, .int .i64 hi] 81]) ⟨by kernel_rfl⟩ (fun w_ hM hS => ⟨w_, ⟨hM.cell 0 rfl rfl, hM.cell 0 rfl rfl, rfl⟩, hM, trivial⟩) ?_
  refine ops_run (is := [(1, false)]) (r := [(2, false), (3, false)]) (l' := [(10, .int .i64 n), (9, .agg #[.int .i64 lo, .int .i64 hi]), (3, .pointer (some ⟨b1, 0, none⟩)), (1, .int .i64 n), (2, .int .i64 k)]) [10, 9, 3, 1, 2] (by kernel_rfl) ?_
  refine ops_call (σ := Unit) (d := some 11) (f := 85) (args := #[.agg #[.int .i64 lo, .int .i64 hi], .int .i64 n]) (v := fun _ => .int .i64 0) (M' := fun _ => Mem w [.blk b1 [.int .i64 lo, .int .i64 hi] 81]) ⟨by kernel_rfl⟩ (fun w_ hM hS => (range1_ok lo hi n w_ hok).mono (by rintro e w' ⟨rfl, hb⟩; exact ⟨(), rfl, hM.step hb, trivial⟩)) (fun _ => ?_)
  refine ops_run (is := [(3, false)]) (r := []) (l' := [(8, .int .i64 0), (3, .pointer (some ⟨b1, 0, none⟩)), (1, .int .i64 n), (2, .int .i64 k)]) [8, 3, 1, 2] (by kernel_rfl) ?_
  refine ops_nil ?_
  refine fin_then ?_
  refine st_seq ?_
  refine st_region [(0, false), (1, false)] (by rfl) ?_
  refine ops_run (is := [(0, false), (1, false)]) (r := []) (l' := [(13, .bool false), (8, .int .i64 0), (3, .pointer (some ⟨b1, 0, none⟩)), (1, .int .i64 n), (2, .int .i64 k)]) [13, 8, 3, 1, 2] (by kernel_rfl) ?_
  refine ops_nil ?_
  refine fin_then ?_
  refine st_false rfl ?_
  refine st_skip ?_
  refine fin_then ?_
  refine st_seq ?_
  refine st_seq ?_
  refine st_region [(0, false), (1, false), (2, false), (3, false), (4, false), (5, false), (6, false), (7, false)] (by rfl) ?_
  refine ops_run (is := [(0, false), (1, false), (2, false)]) (r := [(3, false), (4, false), (5, false), (6, false), (7, false)]) (l' := [(17, .bool (decide (k < 0))), (3, .pointer (some ⟨b1, 0, none⟩)), (1, .int .i64 n), (2, .int .i64 k)]) [17, 3, 1, 2] (by kernel_rfl) ?_
  refine ops_conv (l' := [(17, .bool true), (3, .pointer (some ⟨b1, 0, none⟩)), (1, .int .i64 n), (2, .int .i64 k)]) (by rw [hf1]) (fun _ h => h) ?_
  refine ops_run (is := [(3, false), (4, false), (5, false), (6, false), (7, false)]) (r := []) (l' := [(22, .bool true), (3, .pointer (some ⟨b1, 0, none⟩)), (1, .int .i64 n), (2, .int .i64 k)]) [22, 3, 1, 2] (by kernel_rfl) ?_
  refine ops_nil ?_
  refine fin_then ?_
  refine st_true rfl ?_
  refine st_seq ?_
  refine st_region [(0, false), (1, false)] (by rfl) ?_
  refine ops_run (is := [(0, false), (1, false)]) (r := []) (l' := [(7, .int .i64 1), (6, .int .i64 0)]) [7, 6] (by kernel_rfl) ?_
  refine ops_nil ?_
  refine fin_then ?_
  refine st_ret ?_
  refine fin_ret_then ?_
  refine fin_ret [.tmp 6, .tmp 7] [.int .i64 0, .int .i64 1] rfl rfl (fun w_ hM => (.tmp rfl (.tmp rfl .nil))) (fun w_ hM => ?_)
  refine ⟨?_, hM.done⟩
  rfl
set_option maxRecDepth 100000 in
theorem Fine_big (lo hi n k : Int) (w : World) (q : Int) (hq : IntKind.i64.wrap (1 * 2 ^ min n.toNat 64) = q) (hq0 : 2 ≤ q) (hq1 : q ≤ 4294967296) (hok : lo < hi ∧ -1099511627776 ≤ lo ∧ lo ≤ 1099511627776 ∧ -1099511627776 ≤ hi ∧ hi ≤ 1099511627776 ∧ 1 ≤ n ∧ n ≤ 32) (hk0 : 0 ≤ k) (hk1 : q ≤ k) : Calls Try.prog 57 #[.agg #[.int .i64 lo, .int .i64 hi], .int .i64 n, .int .i64 k] w fun e w' => e = .returned (.tuple #[.int .i64 0, .int .i64 1]) ∧ Below w.heap.size w w' := by
  have hf1 : decide (k < 0) = false := by simp; omega
  have hf2 : decide (q ≤ k) = true := by simpa using hk1
  refine sx_calls Try.func57 rfl (n := 36) (by kernel_rfl) (l := [(0, .agg #[.int .i64 lo, .int .i64 hi]), (1, .int .i64 n), (2, .int .i64 k)]) rfl (by rfl) (Mem.nil w) ?_
  refine st_seq ?_
  refine st_region [(0, false), (1, false), (2, false)] (by rfl) ?_
  refine ops_new (d := some 3) (o := .cells #[.int .i64 lo, .int .i64 hi] 81) (v := fun b1 => .pointer (some ⟨b1, 0, none⟩)) (M' := fun b1 => Mem w [.blk b1 [.int .i64 lo, .int .i64 hi] 81]) (fun b1 => ⟨by kernel_rfl⟩) (fun w_ hM hS => ⟨hM.blk [.int .i64 lo, .int .i64 hi] 81, trivial⟩) (fun b1 => ?_)
  refine ops_run (is := [(1, false), (2, false)]) (r := []) (l' := [(3, .pointer (some ⟨b1, 0, none⟩)), (1, .int .i64 n), (2, .int .i64 k)]) [3, 1, 2] (by kernel_rfl) ?_
  refine ops_nil ?_
  refine fin_then ?_
  refine st_seq ?_
  refine st_seq ?_
  refine st_region [(0, false), (1, false), (2, false), (3, false)] (by rfl) ?_
  refine ops_mem (d := some 9) (an := [.v (.int .i64 lo), .v (.int .i64 hi)]) (evs := [.load ⟨b1, 0, none⟩ (.int .i64 lo), .load ⟨b1, 1, none⟩ (.int .i64 hi)]) (v := .agg #[.int .i64 lo, .int .i64 hi]) (M' := Mem w [.blk b1 [.int .i64 lo, .int .i64 hi] 81]) ⟨by kernel_rfl⟩ (fun w_ hM hS => ⟨w_, ⟨hM.cell 0 rfl rfl, hM.cell 0 rfl rfl, rfl⟩, hM, trivial⟩) ?_
  refine ops_run (is := [(1, false)]) (r := [(2, false), (3, false)]) (l' := [(10, .int .i64 n), (9, .agg #[.int .i64 lo, .int .i64 hi]), (3, .pointer (some ⟨b1, 0, none⟩)), (1, .int .i64 n), (2, .int .i64 k)]) [10, 9, 3, 1, 2] (by kernel_rfl) ?_
  refine ops_call (σ := Unit) (d := some 11) (f := 85) (args := #[.agg #[.int .i64 lo, .int .i64 hi], .int .i64 n]) (v := fun _ => .int .i64 0) (M' := fun _ => Mem w [.blk b1 [.int .i64 lo, .int .i64 hi] 81]) ⟨by kernel_rfl⟩ (fun w_ hM hS => (range1_ok lo hi n w_ hok).mono (by rintro e w' ⟨rfl, hb⟩; exact ⟨(), rfl, hM.step hb, trivial⟩)) (fun _ => ?_)
  refine ops_run (is := [(3, false)]) (r := []) (l' := [(8, .int .i64 0), (3, .pointer (some ⟨b1, 0, none⟩)), (1, .int .i64 n), (2, .int .i64 k)]) [8, 3, 1, 2] (by kernel_rfl) ?_
  refine ops_nil ?_
  refine fin_then ?_
  refine st_seq ?_
  refine st_region [(0, false), (1, false)] (by rfl) ?_
  refine ops_run (is := [(0, false), (1, false)]) (r := []) (l' := [(13, .bool false), (8, .int .i64 0), (3, .pointer (some ⟨b1, 0, none⟩)), (1, .int .i64 n), (2, .int .i64 k)]) [13, 8, 3, 1, 2] (by kernel_rfl) ?_
  refine ops_nil ?_
  refine fin_then ?_
  refine st_false rfl ?_
  refine st_skip ?_
  refine fin_then ?_
  refine st_seq ?_
  refine st_seq ?_
  refine st_region [(0, false), (1, false), (2, false), (3, false), (4, false), (5, false), (6, false), (7, false)] (by rfl) ?_
  refine ops_run (is := [(0, false), (1, false), (2, false)]) (r := [(3, false), (4, false), (5, false), (6, false), (7, false)]) (l' := [(17, .bool (decide (k < 0))), (3, .pointer (some ⟨b1, 0, none⟩)), (1, .int .i64 n), (2, .int .i64 k)]) [17, 3, 1, 2] (by kernel_rfl) ?_
  refine ops_conv (l' := [(17, .bool false), (3, .pointer (some ⟨b1, 0, none⟩)), (1, .int .i64 n), (2, .int .i64 k)]) (by rw [hf1]) (fun _ h => h) ?_
  refine ops_run (is := [(3, false), (4, false)]) (r := [(5, false), (6, false), (7, false)]) (l' := [(19, .int .i64 n), (18, .int .i64 k), (17, .bool false), (3, .pointer (some ⟨b1, 0, none⟩)), (1, .int .i64 n), (2, .int .i64 k)]) [19, 18, 17, 3, 1, 2] (by kernel_rfl) ?_
  refine ops_val (op := (Go.Op.binOp Go.BinOp.shl 3 (Go.Operand.const (Go.Value.int Go.IntKind.i64 1)) (Go.Operand.tmp 19) 3)) (d := some 20) (v := .int .i64 (IntKind.i64.wrap (1 * 2 ^ min (n).toNat 64))) ⟨by kernel_rfl⟩ (run_shl rfl rfl (by omega)) ?_
  refine ops_run (is := []) (r := [(6, false), (7, false)]) (l' := [(20, .int .i64 (IntKind.i64.wrap (1 * 2 ^ min (n).toNat 64))), (18, .int .i64 k), (17, .bool false), (3, .pointer (some ⟨b1, 0, none⟩)), (1, .int .i64 n), (2, .int .i64 k)]) [20, 18, 17, 3, 1, 2] (by kernel_rfl) ?_
  refine ops_conv (l' := [(20, .int .i64 q), (18, .int .i64 k), (17, .bool false), (3, .pointer (some ⟨b1, 0, none⟩)), (1, .int .i64 n), (2, .int .i64 k)]) (by rw [hq]) (fun _ h => h) ?_
  refine ops_run (is := [(6, false), (7, false)]) (r := []) (l' := [(22, .bool (decide (q ≤ k))), (3, .pointer (some ⟨b1, 0, none⟩)), (1, .int .i64 n), (2, .int .i64 k)]) [22, 3, 1, 2] (by kernel_rfl) ?_
  refine ops_nil ?_
  refine fin_then ?_
  refine st_conv (l' := [(22, .bool true), (3, .pointer (some ⟨b1, 0, none⟩)), (1, .int .i64 n), (2, .int .i64 k)]) (by rw [hf2]) (fun _ h => h) ?_
  refine st_true rfl ?_
  refine st_seq ?_
  refine st_region [(0, false), (1, false)] (by rfl) ?_
  refine ops_run (is := [(0, false), (1, false)]) (r := []) (l' := [(7, .int .i64 1), (6, .int .i64 0)]) [7, 6] (by kernel_rfl) ?_
  refine ops_nil ?_
  refine fin_then ?_
  refine st_ret ?_
  refine fin_ret_then ?_
  refine fin_ret [.tmp 6, .tmp 7] [.int .i64 0, .int .i64 1] rfl rfl (fun w_ hM => (.tmp rfl (.tmp rfl .nil))) (fun w_ hM => ?_)
  refine ⟨?_, hM.done⟩
  rfl
set_option maxRecDepth 100000 in
theorem Bound_ok (lo hi n : Int) (w : World) (q : Int) (hq : IntKind.i64.wrap (1 * 2 ^ min n.toNat 64) = q) (hq0 : 2 ≤ q) (hq1 : q ≤ 4294967296) (hok : lo < hi ∧ -1099511627776 ≤ lo ∧ lo ≤ 1099511627776 ∧ -1099511627776 ≤ hi ∧ hi ≤ 1099511627776 ∧ 1 ≤ n ∧ n ≤ 32) : Calls Try.prog 58 #[.agg #[.int .i64 lo, .int .i64 hi], .int .i64 n] w fun e w' => e = .returned (.tuple #[.int .i64 ((hi - lo + (q - 1) - 1) / (q - 1) / 2 + 1), .int .i64 0]) ∧ Below w.heap.size w w' := by
  have hq2 : q - 1 ≠ 0 := by omega
  have hb1 : Int.tdiv (hi - lo + (q - 1) - 1) (q - 1) = (hi - lo + (q - 1) - 1) / (q - 1) := Int.tdiv_eq_ediv_of_nonneg (by omega)
  have hb2 : 0 ≤ (hi - lo + (q - 1) - 1) / (q - 1) := Int.ediv_nonneg (by omega) (by omega)
  have hb3 : (hi - lo + (q - 1) - 1) / (q - 1) ≤ hi - lo + (q - 1) - 1 := Int.ediv_le_self _ (by omega)
  have hb4 : Int.tdiv ((hi - lo + (q - 1) - 1) / (q - 1)) 2 = (hi - lo + (q - 1) - 1) / (q - 1) / 2 := Int.tdiv_eq_ediv_of_nonneg hb2
  have hb5 : IntKind.i64.wrap (Int.tdiv (hi - lo + (q - 1) - 1) (q - 1)) = (hi - lo + (q - 1) - 1) / (q - 1) := by rw [hb1]; exact i64in (by omega) (by omega)
  have hb6 : IntKind.i64.wrap (Int.tdiv ((hi - lo + (q - 1) - 1) / (q - 1)) 2) = (hi - lo + (q - 1) - 1) / (q - 1) / 2 := by rw [hb4]; exact i64in (by omega) (by omega)
  refine sx_calls Try.func58 rfl (n := 29) (by kernel_rfl) (l := [(0, .agg #[.int .i64 lo, .int .i64 hi]), (1, .int .i64 n)]) rfl (by rfl) (Mem.nil w) ?_
  refine st_seq ?_
  refine st_region [(0, false), (1, false), (2, false)] (by rfl) ?_
  refine ops_new (d := some 2) (o := .cells #[.int .i64 lo, .int .i64 hi] 81) (v := fun b1 => .pointer (some ⟨b1, 0, none⟩)) (M' := fun b1 => Mem w [.blk b1 [.int .i64 lo, .int .i64 hi] 81]) (fun b1 => ⟨by kernel_rfl⟩) (fun w_ hM hS => ⟨hM.blk [.int .i64 lo, .int .i64 hi] 81, trivial⟩) (fun b1 => ?_)
  refine ops_run (is := [(1, false), (2, false)]) (r := []) (l' := [(2, .pointer (some ⟨b1, 0, none⟩)), (1, .int .i64 n)]) [2, 1] (by kernel_rfl) ?_
  refine ops_nil ?_
  refine fin_then ?_
  refine st_seq ?_
  refine st_seq ?_
  refine st_region [(0, false), (1, false), (2, false), (3, false)] (by rfl) ?_
  refine ops_mem (d := some 8) (an := [.v (.int .i64 lo), .v (.int .i64 hi)]) (evs := [.load ⟨b1, 0, none⟩ (.int .i64 lo), .load ⟨b1, 1, none⟩ (.int .i64 hi)]) (v := .agg #[.int .i64 lo, .int .i64 hi]) (M' := Mem w [.blk b1 [.int .i64 lo, .int .i64 hi] 81]) ⟨by kernel_rfl⟩ (fun w_ hM hS => ⟨w_, ⟨hM.cell 0 rfl rfl, hM.cell 0 rfl rfl, rfl⟩, hM, trivial⟩) ?_
  refine ops_run (is := [(1, false)]) (r := [(2, false), (3, false)]) (l' := [(9, .int .i64 n), (8, .agg #[.int .i64 lo, .int .i64 hi]), (2, .pointer (some ⟨b1, 0, none⟩)), (1, .int .i64 n)]) [9, 8, 2, 1] (by kernel_rfl) ?_
  refine ops_call (σ := Unit) (d := some 10) (f := 85) (args := #[.agg #[.int .i64 lo, .int .i64 hi], .int .i64 n]) (v := fun _ => .int .i64 0) (M' := fun _ => Mem w [.blk b1 [.int .i64 lo, .int .i64 hi] 81]) ⟨by kernel_rfl⟩ (fun w_ hM hS => (range1_ok lo hi n w_ hok).mono (by rintro e w' ⟨rfl, hb⟩; exact ⟨(), rfl, hM.step hb, trivial⟩)) (fun _ => ?_)
  refine ops_run (is := [(3, false)]) (r := []) (l' := [(6, .int .i64 0), (2, .pointer (some ⟨b1, 0, none⟩)), (1, .int .i64 n)]) [6, 2, 1] (by kernel_rfl) ?_
  refine ops_nil ?_
  refine fin_then ?_
  refine st_seq ?_
  refine st_region [(0, false), (1, false)] (by rfl) ?_
  refine ops_run (is := [(0, false), (1, false)]) (r := []) (l' := [(12, .bool false), (6, .int .i64 0), (2, .pointer (some ⟨b1, 0, none⟩)), (1, .int .i64 n)]) [12, 6, 2, 1] (by kernel_rfl) ?_
  refine ops_nil ?_
  refine fin_then ?_
  refine st_false rfl ?_
  refine st_skip ?_
  refine fin_then ?_
  refine st_seq ?_
  refine st_region [(0, false), (1, false), (2, false), (3, false)] (by rfl) ?_
  refine ops_run (is := [(0, false)]) (r := [(1, false), (2, false), (3, false)]) (l' := [(14, .int .i64 n), (2, .pointer (some ⟨b1, 0, none⟩))]) [14, 2] (by kernel_rfl) ?_
  refine ops_val (op := (Go.Op.binOp Go.BinOp.shl 3 (Go.Operand.const (Go.Value.int Go.IntKind.i64 1)) (Go.Operand.tmp 14) 3)) (d := some 15) (v := .int .i64 (IntKind.i64.wrap (1 * 2 ^ min (n).toNat 64))) ⟨by kernel_rfl⟩ (run_shl rfl rfl (by omega)) ?_
  refine ops_run (is := []) (r := [(2, false), (3, false)]) (l' := [(15, .int .i64 (IntKind.i64.wrap (1 * 2 ^ min (n).toNat 64))), (2, .pointer (some ⟨b1, 0, none⟩))]) [15, 2] (by kernel_rfl) ?_
  refine ops_conv (l' := [(15, .int .i64 q), (2, .pointer (some ⟨b1, 0, none⟩))]) (by rw [hq]) (fun _ h => h) ?_
  refine ops_run (is := [(2, false)]) (r := [(3, false)]) (l' := [(16, .int .i64 (IntKind.i64.wrap (q - 1))), (2, .pointer (some ⟨b1, 0, none⟩))]) [16, 2] (by kernel_rfl) ?_
  refine ops_conv (l' := [(16, .int .i64 (q - 1)), (2, .pointer (some ⟨b1, 0, none⟩))]) (by rw [(i64in (x := q - 1) (by omega) (by omega))]) (fun _ h => h) ?_
  refine ops_run (is := [(3, false)]) (r := []) (l' := [(7, .int .i64 (q - 1)), (2, .pointer (some ⟨b1, 0, none⟩))]) [7, 2] (by kernel_rfl) ?_
  refine ops_nil ?_
  refine fin_then ?_
  refine st_seq ?_
  refine st_region [(0, false), (1, false), (2, false), (3, false), (4, false), (5, false), (6, false), (7, false), (8, false), (9, false), (10, false), (11, false), (12, false), (13, false)] (by rfl) ?_
  refine ops_run (is := [(0, false)]) (r := [(1, false), (2, false), (3, false), (4, false), (5, false), (6, false), (7, false), (8, false), (9, false), (10, false), (11, false), (12, false), (13, false)]) (l' := [(17, .pointer (some ⟨b1, 1, none⟩)), (7, .int .i64 (q - 1)), (2, .pointer (some ⟨b1, 0, none⟩))]) [17, 7, 2] (by kernel_rfl) ?_
  refine ops_mem (d := some 18) (an := [.v (.int .i64 hi)]) (evs := [.load ⟨b1, 1, none⟩ (.int .i64 hi)]) (v := .int .i64 hi) (M' := Mem w [.blk b1 [.int .i64 lo, .int .i64 hi] 81]) ⟨by kernel_rfl⟩ (fun w_ hM hS => ⟨w_, ⟨hM.cell 0 rfl rfl, rfl⟩, hM, trivial⟩) ?_
  refine ops_run (is := [(2, false)]) (r := [(3, false), (4, false), (5, false), (6, false), (7, false), (8, false), (9, false), (10, false), (11, false), (12, false), (13, false)]) (l' := [(19, .pointer (some ⟨b1, 0, none⟩)), (18, .int .i64 hi), (7, .int .i64 (q - 1))]) [19, 18, 7] (by kernel_rfl) ?_
  refine ops_mem (d := some 20) (an := [.v (.int .i64 lo)]) (evs := [.load ⟨b1, 0, none⟩ (.int .i64 lo)]) (v := .int .i64 lo) (M' := Mem w [.blk b1 [.int .i64 lo, .int .i64 hi] 81]) ⟨by kernel_rfl⟩ (fun w_ hM hS => ⟨w_, ⟨hM.cell 0 rfl rfl, rfl⟩, hM, trivial⟩) ?_
  refine ops_run (is := [(4, false)]) (r := [(5, false), (6, false), (7, false), (8, false), (9, false), (10, false), (11, false), (12, false), (13, false)]) (l' := [(21, .int .i64 (IntKind.i64.wrap (hi - lo))), (7, .int .i64 (q - 1))]) [21, 7] (by kernel_rfl) ?_
  refine ops_conv (l' := [(21, .int .i64 (hi - lo)), (7, .int .i64 (q - 1))]) (by rw [(i64in (x := hi - lo) (by omega) (by omega))]) (fun _ h => h) ?_
  refine ops_run (is := [(5, false), (6, false)]) (r := [(7, false), (8, false), (9, false), (10, false), (11, false), (12, false), (13, false)]) (l' := [(23, .int .i64 (IntKind.i64.wrap ((hi - lo) + (q - 1)))), (7, .int .i64 (q - 1))]) [23, 7] (by kernel_rfl) ?_
  refine ops_conv (l' := [(23, .int .i64 ((hi - lo) + (q - 1))), (7, .int .i64 (q - 1))]) (by rw [(i64in (x := (hi - lo) + (q - 1)) (by omega) (by omega))]) (fun _ h => h) ?_
  refine ops_run (is := [(7, false)]) (r := [(8, false), (9, false), (10, false), (11, false), (12, false), (13, false)]) (l' := [(24, .int .i64 (IntKind.i64.wrap (((hi - lo) + (q - 1)) - 1))), (7, .int .i64 (q - 1))]) [24, 7] (by kernel_rfl) ?_
  refine ops_conv (l' := [(24, .int .i64 (((hi - lo) + (q - 1)) - 1)), (7, .int .i64 (q - 1))]) (by rw [(i64in (x := ((hi - lo) + (q - 1)) - 1) (by omega) (by omega))]) (fun _ h => h) ?_
  refine ops_run (is := [(8, false)]) (r := [(9, false), (10, false), (11, false), (12, false), (13, false)]) (l' := [(25, .int .i64 (q - 1)), (24, .int .i64 (((hi - lo) + (q - 1)) - 1))]) [25, 24] (by kernel_rfl) ?_
  refine ops_val (op := (Go.Op.binOp Go.BinOp.quo 3 (Go.Operand.tmp 24) (Go.Operand.tmp 25) 3)) (d := some 26) (v := .int .i64 (IntKind.i64.wrap (Int.tdiv (((hi - lo) + (q - 1)) - 1) (q - 1)))) ⟨by kernel_rfl⟩ (run_quo rfl rfl (by omega)) ?_
  refine ops_run (is := []) (r := [(10, false), (11, false), (12, false), (13, false)]) (l' := [(26, .int .i64 (IntKind.i64.wrap (Int.tdiv (((hi - lo) + (q - 1)) - 1) (q - 1))))]) [26] (by kernel_rfl) ?_
  refine ops_conv (l' := [(26, .int .i64 ((hi - lo + (q - 1) - 1) / (q - 1)))]) (by rw [hb5]) (fun _ h => h) ?_
  refine ops_run (is := [(10, false)]) (r := [(11, false), (12, false), (13, false)]) (l' := [(27, .int .i64 (IntKind.i64.wrap (Int.tdiv ((hi - lo + (q - 1) - 1) / (q - 1)) 2)))]) [27] (by kernel_rfl) ?_
  refine ops_conv (l' := [(27, .int .i64 ((hi - lo + (q - 1) - 1) / (q - 1) / 2))]) (by rw [hb6]) (fun _ h => h) ?_
  refine ops_run (is := [(11, false)]) (r := [(12, false), (13, false)]) (l' := [(28, .int .i64 (IntKind.i64.wrap (((hi - lo + (q - 1) - 1) / (q - 1) / 2) + 1)))]) [28] (by kernel_rfl) ?_
  refine ops_conv (l' := [(28, .int .i64 (((hi - lo + (q - 1) - 1) / (q - 1) / 2) + 1))]) (by rw [(i64in (x := ((hi - lo + (q - 1) - 1) / (q - 1) / 2) + 1) (by omega) (by omega))]) (fun _ h => h) ?_
  refine ops_run (is := [(12, false), (13, false)]) (r := []) (l' := [(5, .int .i64 0), (4, .int .i64 (((hi - lo + (q - 1) - 1) / (q - 1) / 2) + 1))]) [5, 4] (by kernel_rfl) ?_
  refine ops_nil ?_
  refine fin_then ?_
  refine st_ret ?_
  refine fin_ret [.tmp 4, .tmp 5] [.int .i64 (((hi - lo + (q - 1) - 1) / (q - 1) / 2) + 1), .int .i64 0] rfl rfl (fun w_ hM => (.tmp rfl (.tmp rfl .nil))) (fun w_ hM => ?_)
  refine ⟨?_, hM.done⟩
  rfl
set_option maxRecDepth 100000 in
theorem Bound_bad (lo hi n : Int) (w : World) (hbad : ¬ (lo < hi ∧ -1099511627776 ≤ lo ∧ lo ≤ 1099511627776 ∧ -1099511627776 ≤ hi ∧ hi ≤ 1099511627776 ∧ 1 ≤ n ∧ n ≤ 32)) : Calls Try.prog 58 #[.agg #[.int .i64 lo, .int .i64 hi], .int .i64 n] w fun e w' => e = .returned (.tuple #[.int .i64 0, .int .i64 1]) ∧ Below w.heap.size w w' := by
  refine sx_calls Try.func58 rfl (n := 29) (by kernel_rfl) (l := [(0, .agg #[.int .i64 lo, .int .i64 hi]), (1, .int .i64 n)]) rfl (by rfl) (Mem.nil w) ?_
  refine st_seq ?_
  refine st_region [(0, false), (1, false), (2, false)] (by rfl) ?_
  refine ops_new (d := some 2) (o := .cells #[.int .i64 lo, .int .i64 hi] 81) (v := fun b1 => .pointer (some ⟨b1, 0, none⟩)) (M' := fun b1 => Mem w [.blk b1 [.int .i64 lo, .int .i64 hi] 81]) (fun b1 => ⟨by kernel_rfl⟩) (fun w_ hM hS => ⟨hM.blk [.int .i64 lo, .int .i64 hi] 81, trivial⟩) (fun b1 => ?_)
  refine ops_run (is := [(1, false), (2, false)]) (r := []) (l' := [(2, .pointer (some ⟨b1, 0, none⟩)), (1, .int .i64 n)]) [2, 1] (by kernel_rfl) ?_
  refine ops_nil ?_
  refine fin_then ?_
  refine st_seq ?_
  refine st_seq ?_
  refine st_region [(0, false), (1, false), (2, false), (3, false)] (by rfl) ?_
  refine ops_mem (d := some 8) (an := [.v (.int .i64 lo), .v (.int .i64 hi)]) (evs := [.load ⟨b1, 0, none⟩ (.int .i64 lo), .load ⟨b1, 1, none⟩ (.int .i64 hi)]) (v := .agg #[.int .i64 lo, .int .i64 hi]) (M' := Mem w [.blk b1 [.int .i64 lo, .int .i64 hi] 81]) ⟨by kernel_rfl⟩ (fun w_ hM hS => ⟨w_, ⟨hM.cell 0 rfl rfl, hM.cell 0 rfl rfl, rfl⟩, hM, trivial⟩) ?_
  refine ops_run (is := [(1, false)]) (r := [(2, false), (3, false)]) (l' := [(9, .int .i64 n), (8, .agg #[.int .i64 lo, .int .i64 hi]), (2, .pointer (some ⟨b1, 0, none⟩)), (1, .int .i64 n)]) [9, 8, 2, 1] (by kernel_rfl) ?_
  refine ops_call (σ := Unit) (d := some 10) (f := 85) (args := #[.agg #[.int .i64 lo, .int .i64 hi], .int .i64 n]) (v := fun _ => .int .i64 1) (M' := fun _ => Mem w [.blk b1 [.int .i64 lo, .int .i64 hi] 81]) ⟨by kernel_rfl⟩ (fun w_ hM hS => (range1_bad lo hi n w_ hbad).mono (by rintro e w' ⟨rfl, hb⟩; exact ⟨(), rfl, hM.step hb, trivial⟩)) (fun _ => ?_)
  refine ops_run (is := [(3, false)]) (r := []) (l' := [(6, .int .i64 1), (2, .pointer (some ⟨b1, 0, none⟩)), (1, .int .i64 n)]) [6, 2, 1] (by kernel_rfl) ?_
  refine ops_nil ?_
  refine fin_then ?_
  refine st_seq ?_
  refine st_region [(0, false), (1, false)] (by rfl) ?_
  refine ops_run (is := [(0, false), (1, false)]) (r := []) (l' := [(12, .bool true), (6, .int .i64 1), (2, .pointer (some ⟨b1, 0, none⟩)), (1, .int .i64 n)]) [12, 6, 2, 1] (by kernel_rfl) ?_
  refine ops_nil ?_
  refine fin_then ?_
  refine st_true rfl ?_
  refine st_seq ?_
  refine st_region [(0, false), (1, false), (2, false)] (by rfl) ?_
  refine ops_run (is := [(0, false), (1, false), (2, false)]) (r := []) (l' := [(5, .int .i64 1), (4, .int .i64 0)]) [5, 4] (by kernel_rfl) ?_
  refine ops_nil ?_
  refine fin_then ?_
  refine st_ret ?_
  refine fin_ret_then ?_
  refine fin_ret [.tmp 4, .tmp 5] [.int .i64 0, .int .i64 1] rfl rfl (fun w_ hM => (.tmp rfl (.tmp rfl .nil))) (fun w_ hM => ?_)
  refine ⟨?_, hM.done⟩
  rfl
theorem share_z (a b c : Int) (w : World) (ha : 0 ≤ a) (hac : a ≤ c) (hc0 : 0 < c) (hb0 : 0 ≤ b) (hb : b ≤ 4398046511104) (hc : c ≤ 4398046511104) : Calls Try.prog 87 #[.int .i64 a, .int .i64 b, .int .i64 c] w fun e w' => e = .returned (.int .i64 (shareV a b c)) ∧ Below w.heap.size w w' := by
  obtain ⟨a, rfl⟩ := Int.eq_ofNat_of_zero_le ha
  obtain ⟨b, rfl⟩ := Int.eq_ofNat_of_zero_le hb0
  obtain ⟨c, rfl⟩ := Int.eq_ofNat_of_zero_le (Int.le_of_lt hc0)
  exact share_calls a b c w (by omega) (by omega) (by omega) (by omega)
set_option maxRecDepth 100000 in
theorem Coarsened_ok (lo hi n v : Int) (w : World) (q : Int) (hq : IntKind.i64.wrap (1 * 2 ^ min n.toNat 64) = q) (hq0 : 2 ≤ q) (hq1 : q ≤ 4294967296) (hok : lo < hi ∧ -1099511627776 ≤ lo ∧ lo ≤ 1099511627776 ∧ -1099511627776 ≤ hi ∧ hi ≤ 1099511627776 ∧ 1 ≤ n ∧ n ≤ 32) : Calls Try.prog 60 #[.agg #[.int .i64 lo, .int .i64 hi], .int .i64 n, .int .i64 v] w fun e w' => e = .returned (.int .i64 (shareV (min (max v lo) hi - lo) (q - 1) (hi - lo))) ∧ Below w.heap.size w w' := by
  refine sx_calls Try.func60 rfl (n := 26) (by kernel_rfl) (l := [(0, .agg #[.int .i64 lo, .int .i64 hi]), (1, .int .i64 n), (2, .int .i64 v)]) rfl (by rfl) (Mem.nil w) ?_
  refine st_seq ?_
  refine st_region [(0, false), (1, false)] (by rfl) ?_
  refine ops_new (d := some 3) (o := .cells #[.int .i64 lo, .int .i64 hi] 81) (v := fun b1 => .pointer (some ⟨b1, 0, none⟩)) (M' := fun b1 => Mem w [.blk b1 [.int .i64 lo, .int .i64 hi] 81]) (fun b1 => ⟨by kernel_rfl⟩) (fun w_ hM hS => ⟨hM.blk [.int .i64 lo, .int .i64 hi] 81, trivial⟩) (fun b1 => ?_)
  refine ops_run (is := [(1, false)]) (r := []) (l' := [(3, .pointer (some ⟨b1, 0, none⟩)), (1, .int .i64 n), (2, .int .i64 v)]) [3, 1, 2] (by kernel_rfl) ?_
  refine ops_nil ?_
  refine fin_then ?_
  refine st_seq ?_
  refine st_region_draw [(0, true), (1, true), (2, true), (3, true), (4, true), (5, true), (6, true), (7, true), (8, true), (9, true), (10, true), (11, true), (12, true), (13, true), (14, true), (15, true), (16, true), (17, true), (18, false), (19, true)] (Mem w [.blk b1 [.int .i64 lo, .int .i64 hi] 81]) (by kernel_rfl) (by kernel_rfl) (by kernel_rfl) (fun _ d _ _ _ h => by cases d <;> exact h) (M' := Mem w [.blk b1 [.int .i64 lo, .int .i64 hi] 81]) (fun w_ hM => ⟨hM.drew, hM.drew.sub (by simp)⟩) ?_
  refine ops_run (is := [(0, true), (1, true)]) (r := [(2, true), (3, true), (4, true), (5, true), (6, true), (7, true), (8, true), (9, true), (10, true), (11, true), (12, true), (13, true), (14, true), (15, true), (16, true), (17, true), (18, false), (19, true)]) (l' := [(8, .pointer (some ⟨b1, 0, none⟩)), (7, .int .i64 v), (3, .pointer (some ⟨b1, 0, none⟩)), (1, .int .i64 n)]) [8, 7, 3, 1] (by kernel_rfl) ?_
  refine ops_load (d := some 9) (an := [.v (.int .i64 lo)]) (evs := [.load ⟨b1, 0, none⟩ (.int .i64 lo)]) (v := .int .i64 lo) ⟨by kernel_rfl⟩ (fun w_ hM => ⟨hM.cell 0 rfl rfl, rfl⟩) ?_
  refine ops_run (is := []) (r := [(3, true), (4, true), (5, true), (6, true), (7, true), (8, true), (9, true), (10, true), (11, true), (12, true), (13, true), (14, true), (15, true), (16, true), (17, true), (18, false), (19, true)]) (l' := [(9, .int .i64 lo), (7, .int .i64 v), (3, .pointer (some ⟨b1, 0, none⟩)), (1, .int .i64 n)]) [9, 7, 3, 1] (by kernel_rfl) ?_
  refine ops_val (op := (Go.Op.call { callee := (Go.Callee.builtin Go.Builtin.max), args := #[(Go.Operand.tmp 7), (Go.Operand.tmp 9)], argTypes := #[3, 3] })) (d := some 10) (v := .int .i64 (max v lo)) ⟨by kernel_rfl⟩ (run_max rfl rfl) ?_
  refine ops_run (is := [(4, true)]) (r := [(5, true), (6, true), (7, true), (8, true), (9, true), (10, true), (11, true), (12, true), (13, true), (14, true), (15, true), (16, true), (17, true), (18, false), (19, true)]) (l' := [(11, .pointer (some ⟨b1, 1, none⟩)), (10, .int .i64 (max v lo)), (3, .pointer (some ⟨b1, 0, none⟩)), (1, .int .i64 n)]) [11, 10, 3, 1] (by kernel_rfl) ?_
  refine ops_load (d := some 12) (an := [.v (.int .i64 hi)]) (evs := [.load ⟨b1, 1, none⟩ (.int .i64 hi)]) (v := .int .i64 hi) ⟨by kernel_rfl⟩ (fun w_ hM => ⟨hM.cell 0 rfl rfl, rfl⟩) ?_
  refine ops_run (is := []) (r := [(6, true), (7, true), (8, true), (9, true), (10, true), (11, true), (12, true), (13, true), (14, true), (15, true), (16, true), (17, true), (18, false), (19, true)]) (l' := [(12, .int .i64 hi), (10, .int .i64 (max v lo)), (3, .pointer (some ⟨b1, 0, none⟩)), (1, .int .i64 n)]) [12, 10, 3, 1] (by kernel_rfl) ?_
  refine ops_val (op := (Go.Op.call { callee := (Go.Callee.builtin Go.Builtin.min), args := #[(Go.Operand.tmp 10), (Go.Operand.tmp 12)], argTypes := #[3, 3] })) (d := some 13) (v := .int .i64 (min (max v lo) hi)) ⟨by kernel_rfl⟩ (run_min rfl rfl) ?_
  refine ops_run (is := [(7, true)]) (r := [(8, true), (9, true), (10, true), (11, true), (12, true), (13, true), (14, true), (15, true), (16, true), (17, true), (18, false), (19, true)]) (l' := [(14, .pointer (some ⟨b1, 0, none⟩)), (13, .int .i64 (min (max v lo) hi)), (3, .pointer (some ⟨b1, 0, none⟩)), (1, .int .i64 n)]) [14, 13, 3, 1] (by kernel_rfl) ?_
  refine ops_load (d := some 15) (an := [.v (.int .i64 lo)]) (evs := [.load ⟨b1, 0, none⟩ (.int .i64 lo)]) (v := .int .i64 lo) ⟨by kernel_rfl⟩ (fun w_ hM => ⟨hM.cell 0 rfl rfl, rfl⟩) ?_
  refine ops_run (is := [(9, true)]) (r := [(10, true), (11, true), (12, true), (13, true), (14, true), (15, true), (16, true), (17, true), (18, false), (19, true)]) (l' := [(16, .int .i64 (IntKind.i64.wrap (min (max v lo) hi - lo))), (3, .pointer (some ⟨b1, 0, none⟩)), (1, .int .i64 n)]) [16, 3, 1] (by kernel_rfl) ?_
  refine ops_conv (l' := [(16, .int .i64 (min (max v lo) hi - lo)), (3, .pointer (some ⟨b1, 0, none⟩)), (1, .int .i64 n)]) (by rw [(i64in (x := min (max v lo) hi - lo) (by omega) (by omega))]) (fun _ h => h) ?_
  refine ops_run (is := [(10, true)]) (r := [(11, true), (12, true), (13, true), (14, true), (15, true), (16, true), (17, true), (18, false), (19, true)]) (l' := [(17, .int .i64 n), (16, .int .i64 (min (max v lo) hi - lo)), (3, .pointer (some ⟨b1, 0, none⟩))]) [17, 16, 3] (by kernel_rfl) ?_
  refine ops_val (op := (Go.Op.binOp Go.BinOp.shl 3 (Go.Operand.const (Go.Value.int Go.IntKind.i64 1)) (Go.Operand.tmp 17) 3)) (d := some 18) (v := .int .i64 (IntKind.i64.wrap (1 * 2 ^ min (n).toNat 64))) ⟨by kernel_rfl⟩ (run_shl rfl rfl (by omega)) ?_
  refine ops_run (is := []) (r := [(12, true), (13, true), (14, true), (15, true), (16, true), (17, true), (18, false), (19, true)]) (l' := [(18, .int .i64 (IntKind.i64.wrap (1 * 2 ^ min (n).toNat 64))), (16, .int .i64 (min (max v lo) hi - lo)), (3, .pointer (some ⟨b1, 0, none⟩))]) [18, 16, 3] (by kernel_rfl) ?_
  refine ops_conv (l' := [(18, .int .i64 q), (16, .int .i64 (min (max v lo) hi - lo)), (3, .pointer (some ⟨b1, 0, none⟩))]) (by rw [hq]) (fun _ h => h) ?_
  refine ops_run (is := [(12, true)]) (r := [(13, true), (14, true), (15, true), (16, true), (17, true), (18, false), (19, true)]) (l' := [(19, .int .i64 (IntKind.i64.wrap (q - 1))), (16, .int .i64 (min (max v lo) hi - lo)), (3, .pointer (some ⟨b1, 0, none⟩))]) [19, 16, 3] (by kernel_rfl) ?_
  refine ops_conv (l' := [(19, .int .i64 (q - 1)), (16, .int .i64 (min (max v lo) hi - lo)), (3, .pointer (some ⟨b1, 0, none⟩))]) (by rw [(i64in (x := q - 1) (by omega) (by omega))]) (fun _ h => h) ?_
  refine ops_run (is := [(13, true)]) (r := [(14, true), (15, true), (16, true), (17, true), (18, false), (19, true)]) (l' := [(20, .pointer (some ⟨b1, 1, none⟩)), (19, .int .i64 (q - 1)), (16, .int .i64 (min (max v lo) hi - lo)), (3, .pointer (some ⟨b1, 0, none⟩))]) [20, 19, 16, 3] (by kernel_rfl) ?_
  refine ops_load (d := some 21) (an := [.v (.int .i64 hi)]) (evs := [.load ⟨b1, 1, none⟩ (.int .i64 hi)]) (v := .int .i64 hi) ⟨by kernel_rfl⟩ (fun w_ hM => ⟨hM.cell 0 rfl rfl, rfl⟩) ?_
  refine ops_run (is := [(15, true)]) (r := [(16, true), (17, true), (18, false), (19, true)]) (l' := [(22, .pointer (some ⟨b1, 0, none⟩)), (21, .int .i64 hi), (19, .int .i64 (q - 1)), (16, .int .i64 (min (max v lo) hi - lo))]) [22, 21, 19, 16] (by kernel_rfl) ?_
  refine ops_load (d := some 23) (an := [.v (.int .i64 lo)]) (evs := [.load ⟨b1, 0, none⟩ (.int .i64 lo)]) (v := .int .i64 lo) ⟨by kernel_rfl⟩ (fun w_ hM => ⟨hM.cell 0 rfl rfl, rfl⟩) ?_
  refine ops_run (is := [(17, true)]) (r := [(18, false), (19, true)]) (l' := [(24, .int .i64 (IntKind.i64.wrap (hi - lo))), (19, .int .i64 (q - 1)), (16, .int .i64 (min (max v lo) hi - lo))]) [24, 19, 16] (by kernel_rfl) ?_
  refine ops_conv (l' := [(24, .int .i64 (hi - lo)), (19, .int .i64 (q - 1)), (16, .int .i64 (min (max v lo) hi - lo))]) (by rw [(i64in (x := hi - lo) (by omega) (by omega))]) (fun _ h => h) ?_
  refine ops_call (σ := Unit) (d := some 25) (f := 87) (args := #[.int .i64 (min (max v lo) hi - lo), .int .i64 (q - 1), .int .i64 (hi - lo)]) (v := fun _ => .int .i64 (shareV (min (max v lo) hi - lo) (q - 1) (hi - lo))) (M' := fun _ => Mem w [.blk b1 [.int .i64 lo, .int .i64 hi] 81]) ⟨by kernel_rfl⟩ (fun w_ hM hS => (share_z (min (max v lo) hi - lo) (q - 1) (hi - lo) w_ (by omega) (by omega) (by omega) (by omega) (by omega) (by omega)).mono (by rintro e w' ⟨rfl, hb⟩; exact ⟨(), rfl, hM.step hb, hS.step hb⟩)) (fun _ => ?_)
  refine ops_run (is := [(19, true)]) (r := []) (l' := [(6, .int .i64 (shareV (min (max v lo) hi - lo) (q - 1) (hi - lo)))]) [6] (by kernel_rfl) ?_
  refine ops_nil ?_
  refine fin_then ?_
  refine st_ret ?_
  refine fin_ret [.tmp 6] [.int .i64 (shareV (min (max v lo) hi - lo) (q - 1) (hi - lo))] rfl rfl (fun w_ hM => (.tmp rfl .nil)) (fun w_ hM => ?_)
  refine ⟨?_, hM.done⟩
  rfl
set_option maxRecDepth 100000 in
theorem Refined_ok (lo hi n k : Int) (w : World) (q : Int) (hq : IntKind.i64.wrap (1 * 2 ^ min n.toNat 64) = q) (hq0 : 2 ≤ q) (hq1 : q ≤ 4294967296) (hok : lo < hi ∧ -1099511627776 ≤ lo ∧ lo ≤ 1099511627776 ∧ -1099511627776 ≤ hi ∧ hi ≤ 1099511627776 ∧ 1 ≤ n ∧ n ≤ 32) (hk0 : 0 ≤ k) (hk1 : k < q) : Calls Try.prog 61 #[.agg #[.int .i64 lo, .int .i64 hi], .int .i64 n, .int .i64 k] w fun e w' => e = .returned (.int .i64 (lo + shareV k (hi - lo) (q - 1))) ∧ Below w.heap.size w w' := by
  have hsr := share_range (a := k) (b := hi - lo) (c := q - 1) (by omega) (by omega) (by omega) (by omega)
  refine sx_calls Try.func61 rfl (n := 20) (by kernel_rfl) (l := [(0, .agg #[.int .i64 lo, .int .i64 hi]), (1, .int .i64 n), (2, .int .i64 k)]) rfl (by rfl) (Mem.nil w) ?_
  refine st_seq ?_
  refine st_region [(0, false), (1, false)] (by rfl) ?_
  refine ops_new (d := some 3) (o := .cells #[.int .i64 lo, .int .i64 hi] 81) (v := fun b1 => .pointer (some ⟨b1, 0, none⟩)) (M' := fun b1 => Mem w [.blk b1 [.int .i64 lo, .int .i64 hi] 81]) (fun b1 => ⟨by kernel_rfl⟩) (fun w_ hM hS => ⟨hM.blk [.int .i64 lo, .int .i64 hi] 81, trivial⟩) (fun b1 => ?_)
  refine ops_run (is := [(1, false)]) (r := []) (l' := [(3, .pointer (some ⟨b1, 0, none⟩)), (1, .int .i64 n), (2, .int .i64 k)]) [3, 1, 2] (by kernel_rfl) ?_
  refine ops_nil ?_
  refine fin_then ?_
  refine st_seq ?_
  refine st_region_draw [(0, true), (1, true), (2, true), (3, true), (4, true), (5, true), (6, true), (7, true), (8, true), (9, true), (10, true), (11, false), (12, true), (13, true)] (Mem w [.blk b1 [.int .i64 lo, .int .i64 hi] 81]) (by kernel_rfl) (by kernel_rfl) (by kernel_rfl) (fun _ d _ _ _ h => by cases d <;> exact h) (M' := Mem w [.blk b1 [.int .i64 lo, .int .i64 hi] 81]) (fun w_ hM => ⟨hM.drew, hM.drew.sub (by simp)⟩) ?_
  refine ops_run (is := [(0, true)]) (r := [(1, true), (2, true), (3, true), (4, true), (5, true), (6, true), (7, true), (8, true), (9, true), (10, true), (11, false), (12, true), (13, true)]) (l' := [(7, .pointer (some ⟨b1, 0, none⟩)), (3, .pointer (some ⟨b1, 0, none⟩)), (1, .int .i64 n), (2, .int .i64 k)]) [7, 3, 1, 2] (by kernel_rfl) ?_
  refine ops_load (d := some 8) (an := [.v (.int .i64 lo)]) (evs := [.load ⟨b1, 0, none⟩ (.int .i64 lo)]) (v := .int .i64 lo) ⟨by kernel_rfl⟩ (fun w_ hM => ⟨hM.cell 0 rfl rfl, rfl⟩) ?_
  refine ops_run (is := [(2, true), (3, true)]) (r := [(4, true), (5, true), (6, true), (7, true), (8, true), (9, true), (10, true), (11, false), (12, true), (13, true)]) (l' := [(10, .pointer (some ⟨b1, 1, none⟩)), (9, .int .i64 k), (8, .int .i64 lo), (3, .pointer (some ⟨b1, 0, none⟩)), (1, .int .i64 n)]) [10, 9, 8, 3, 1] (by kernel_rfl) ?_
  refine ops_load (d := some 11) (an := [.v (.int .i64 hi)]) (evs := [.load ⟨b1, 1, none⟩ (.int .i64 hi)]) (v := .int .i64 hi) ⟨by kernel_rfl⟩ (fun w_ hM => ⟨hM.cell 0 rfl rfl, rfl⟩) ?_
  refine ops_run (is := [(5, true)]) (r := [(6, true), (7, true), (8, true), (9, true), (10, true), (11, false), (12, true), (13, true)]) (l' := [(12, .pointer (some ⟨b1, 0, none⟩)), (11, .int .i64 hi), (9, .int .i64 k), (8, .int .i64 lo), (1, .int .i64 n)]) [12, 11, 9, 8, 1] (by kernel_rfl) ?_
  refine ops_load (d := some 13) (an := [.v (.int .i64 lo)]) (evs := [.load ⟨b1, 0, none⟩ (.int .i64 lo)]) (v := .int .i64 lo) ⟨by kernel_rfl⟩ (fun w_ hM => ⟨hM.cell 0 rfl rfl, rfl⟩) ?_
  refine ops_run (is := [(7, true)]) (r := [(8, true), (9, true), (10, true), (11, false), (12, true), (13, true)]) (l' := [(14, .int .i64 (IntKind.i64.wrap (hi - lo))), (9, .int .i64 k), (8, .int .i64 lo), (1, .int .i64 n)]) [14, 9, 8, 1] (by kernel_rfl) ?_
  refine ops_conv (l' := [(14, .int .i64 (hi - lo)), (9, .int .i64 k), (8, .int .i64 lo), (1, .int .i64 n)]) (by rw [(i64in (x := hi - lo) (by omega) (by omega))]) (fun _ h => h) ?_
  refine ops_run (is := [(8, true)]) (r := [(9, true), (10, true), (11, false), (12, true), (13, true)]) (l' := [(15, .int .i64 n), (14, .int .i64 (hi - lo)), (9, .int .i64 k), (8, .int .i64 lo)]) [15, 14, 9, 8] (by kernel_rfl) ?_
  refine ops_val (op := (Go.Op.binOp Go.BinOp.shl 3 (Go.Operand.const (Go.Value.int Go.IntKind.i64 1)) (Go.Operand.tmp 15) 3)) (d := some 16) (v := .int .i64 (IntKind.i64.wrap (1 * 2 ^ min (n).toNat 64))) ⟨by kernel_rfl⟩ (run_shl rfl rfl (by omega)) ?_
  refine ops_run (is := []) (r := [(10, true), (11, false), (12, true), (13, true)]) (l' := [(16, .int .i64 (IntKind.i64.wrap (1 * 2 ^ min (n).toNat 64))), (14, .int .i64 (hi - lo)), (9, .int .i64 k), (8, .int .i64 lo)]) [16, 14, 9, 8] (by kernel_rfl) ?_
  refine ops_conv (l' := [(16, .int .i64 q), (14, .int .i64 (hi - lo)), (9, .int .i64 k), (8, .int .i64 lo)]) (by rw [hq]) (fun _ h => h) ?_
  refine ops_run (is := [(10, true)]) (r := [(11, false), (12, true), (13, true)]) (l' := [(17, .int .i64 (IntKind.i64.wrap (q - 1))), (14, .int .i64 (hi - lo)), (9, .int .i64 k), (8, .int .i64 lo)]) [17, 14, 9, 8] (by kernel_rfl) ?_
  refine ops_conv (l' := [(17, .int .i64 (q - 1)), (14, .int .i64 (hi - lo)), (9, .int .i64 k), (8, .int .i64 lo)]) (by rw [(i64in (x := q - 1) (by omega) (by omega))]) (fun _ h => h) ?_
  refine ops_call (σ := Unit) (d := some 18) (f := 87) (args := #[.int .i64 k, .int .i64 (hi - lo), .int .i64 (q - 1)]) (v := fun _ => .int .i64 (shareV k (hi - lo) (q - 1))) (M' := fun _ => Mem w [.blk b1 [.int .i64 lo, .int .i64 hi] 81]) ⟨by kernel_rfl⟩ (fun w_ hM hS => (share_z k (hi - lo) (q - 1) w_ (by omega) (by omega) (by omega) (by omega) (by omega) (by omega)).mono (by rintro e w' ⟨rfl, hb⟩; exact ⟨(), rfl, hM.step hb, hS.step hb⟩)) (fun _ => ?_)
  refine ops_run (is := [(12, true)]) (r := [(13, true)]) (l' := [(19, .int .i64 (IntKind.i64.wrap (lo + shareV k (hi - lo) (q - 1))))]) [19] (by kernel_rfl) ?_
  refine ops_conv (l' := [(19, .int .i64 (lo + shareV k (hi - lo) (q - 1)))]) (by rw [(i64in (x := lo + shareV k (hi - lo) (q - 1)) (by omega) (by omega))]) (fun _ h => h) ?_
  refine ops_run (is := [(13, true)]) (r := []) (l' := [(6, .int .i64 (lo + shareV k (hi - lo) (q - 1)))]) [6] (by kernel_rfl) ?_
  refine ops_nil ?_
  refine fin_then ?_
  refine st_ret ?_
  refine fin_ret [.tmp 6] [.int .i64 (lo + shareV k (hi - lo) (q - 1))] rfl rfl (fun w_ hM => (.tmp rfl .nil)) (fun w_ hM => ?_)
  refine ⟨?_, hM.done⟩
  rfl
theorem Coarse_begun (w : World) : Calls Try.prog 56 #[.agg #[.int .i64 0, .int .i64 4], .int .i64 1, .int .i64 2] w fun e w' => e = .returned (.tuple #[.int .i64 1, .int .i64 0]) ∧ Below w.heap.size w w' := by
  have h := Coarse_ok 0 4 1 2 w 2 (by decide) (by decide) (by decide) (by decide)
  have e : shareV (min (max 2 0) 4 - 0) (2 - 1) (4 - 0) = 1 := by decide
  rwa [e] at h
set_option maxRecDepth 100000 in
theorem QuantCoarse_in (lo hi n v k : Int) (w : World) (q : Int) (hq : IntKind.i64.wrap (1 * 2 ^ min n.toNat 64) = q) (hq0 : 2 ≤ q) (hq1 : q ≤ 4294967296) (hok : lo < hi ∧ -1099511627776 ≤ lo ∧ lo ≤ 1099511627776 ∧ -1099511627776 ≤ hi ∧ hi ≤ 1099511627776 ∧ 1 ≤ n ∧ n ≤ 32) (hk0 : 0 ≤ k) (hk1 : k < q) : Calls Try.prog 11 #[.agg #[.int .i64 lo, .int .i64 hi], .int .i64 n, .int .i64 v, .int .i64 k] w fun e w' => e = .returned (.bool true) ∧ Below w.heap.size w w' := by
  have hq2 : q - 1 ≠ 0 := by omega
  have hb1 : Int.tdiv (hi - lo + (q - 1) - 1) (q - 1) = (hi - lo + (q - 1) - 1) / (q - 1) := Int.tdiv_eq_ediv_of_nonneg (by omega)
  have hb2 : 0 ≤ (hi - lo + (q - 1) - 1) / (q - 1) := Int.ediv_nonneg (by omega) (by omega)
  have hb3 : (hi - lo + (q - 1) - 1) / (q - 1) ≤ hi - lo + (q - 1) - 1 := Int.ediv_le_self _ (by omega)
  have hb4 : Int.tdiv ((hi - lo + (q - 1) - 1) / (q - 1)) 2 = (hi - lo + (q - 1) - 1) / (q - 1) / 2 := Int.tdiv_eq_ediv_of_nonneg hb2
  have hb5 : IntKind.i64.wrap (Int.tdiv (hi - lo + (q - 1) - 1) (q - 1)) = (hi - lo + (q - 1) - 1) / (q - 1) := by rw [hb1]; exact i64in (by omega) (by omega)
  have hb6 : IntKind.i64.wrap (Int.tdiv ((hi - lo + (q - 1) - 1) / (q - 1)) 2) = (hi - lo + (q - 1) - 1) / (q - 1) / 2 := by rw [hb4]; exact i64in (by omega) (by omega)
  have hf1 : decide (k < 0) = false := by simp; omega
  have hf2 : decide (q - 1 < k) = false := by simp; omega
  refine sx_calls Try.func11 rfl (n := 133) (by kernel_rfl) (l := [(0, .agg #[.int .i64 lo, .int .i64 hi]), (1, .int .i64 n), (2, .int .i64 v), (3, .int .i64 k)]) rfl (by rfl) (Mem.nil w) ?_
  refine st_seq ?_
  refine st_region [(0, false), (1, false)] (by rfl) ?_
  refine ops_new (d := some 4) (o := .cells #[.int .i64 lo, .int .i64 hi] 81) (v := fun b1 => .pointer (some ⟨b1, 0, none⟩)) (M' := fun b1 => Mem w [.blk b1 [.int .i64 lo, .int .i64 hi] 81]) (fun b1 => ⟨by kernel_rfl⟩) (fun w_ hM hS => ⟨hM.blk [.int .i64 lo, .int .i64 hi] 81, trivial⟩) (fun b1 => ?_)
  refine ops_run (is := [(1, false)]) (r := []) (l' := [(4, .pointer (some ⟨b1, 0, none⟩)), (1, .int .i64 n), (2, .int .i64 v), (3, .int .i64 k)]) [4, 1, 2, 3] (by kernel_rfl) ?_
  refine ops_nil ?_
  refine fin_then ?_
  refine st_seq ?_
  refine st_seq ?_
  refine st_region [(0, false), (1, false), (2, false), (3, false), (4, false), (5, false), (6, false)] (by rfl) ?_
  refine ops_run (is := [(0, false)]) (r := [(1, false), (2, false), (3, false), (4, false), (5, false), (6, false)]) (l' := [(19, .agg #[.int .i64 0, .int .i64 4]), (4, .pointer (some ⟨b1, 0, none⟩)), (1, .int .i64 n), (2, .int .i64 v), (3, .int .i64 k)]) [19, 4, 1, 2, 3] (by kernel_rfl) ?_
  refine ops_call (σ := Unit) (d := some 20) (f := 56) (args := #[.agg #[.int .i64 0, .int .i64 4], .int .i64 1, .int .i64 2]) (v := fun _ => .tuple #[.int .i64 1, .int .i64 0]) (M' := fun _ => Mem w [.blk b1 [.int .i64 lo, .int .i64 hi] 81]) ⟨by kernel_rfl⟩ (fun w_ hM hS => (Coarse_begun w_).mono (by rintro e w' ⟨rfl, hb⟩; exact ⟨(), rfl, hM.step hb, trivial⟩)) (fun _ => ?_)
  refine ops_run (is := [(2, false), (3, false), (4, false), (5, false), (6, false)]) (r := []) (l' := [(10, .int .i64 0), (9, .int .i64 1), (4, .pointer (some ⟨b1, 0, none⟩)), (1, .int .i64 n), (2, .int .i64 v), (3, .int .i64 k)]) [10, 9, 4, 1, 2, 3] (by kernel_rfl) ?_
  refine ops_nil ?_
  refine fin_then ?_
  refine st_seq ?_
  refine st_region [(0, false), (1, false), (2, false), (3, false), (4, false), (5, false)] (by rfl) ?_
  refine ops_run (is := [(0, false), (1, false), (2, false), (3, false), (4, false), (5, false)]) (r := []) (l' := [(28, .bool false), (4, .pointer (some ⟨b1, 0, none⟩)), (1, .int .i64 n), (2, .int .i64 v), (3, .int .i64 k)]) [28, 4, 1, 2, 3] (by kernel_rfl) ?_
  refine ops_nil ?_
  refine fin_then ?_
  refine st_false rfl ?_
  refine st_skip ?_
  refine fin_then ?_
  refine st_seq ?_
  refine st_region [(0, false), (1, false), (2, false), (3, false), (4, false), (5, false), (6, false), (7, false), (8, false)] (by rfl) ?_
  refine ops_run (is := []) (r := [(0, false), (1, false), (2, false), (3, false), (4, false), (5, false), (6, false), (7, false), (8, false)]) (l' := [(4, .pointer (some ⟨b1, 0, none⟩)), (1, .int .i64 n), (2, .int .i64 v), (3, .int .i64 k)]) [4, 1, 2, 3] (by kernel_rfl) ?_
  refine ops_mem (d := some 30) (an := [.v (.int .i64 lo), .v (.int .i64 hi)]) (evs := [.load ⟨b1, 0, none⟩ (.int .i64 lo), .load ⟨b1, 1, none⟩ (.int .i64 hi)]) (v := .agg #[.int .i64 lo, .int .i64 hi]) (M' := Mem w [.blk b1 [.int .i64 lo, .int .i64 hi] 81]) ⟨by kernel_rfl⟩ (fun w_ hM hS => ⟨w_, ⟨hM.cell 0 rfl rfl, hM.cell 0 rfl rfl, rfl⟩, hM, trivial⟩) ?_
  refine ops_run (is := [(1, false), (2, false)]) (r := [(3, false), (4, false), (5, false), (6, false), (7, false), (8, false)]) (l' := [(32, .int .i64 v), (31, .int .i64 n), (30, .agg #[.int .i64 lo, .int .i64 hi]), (4, .pointer (some ⟨b1, 0, none⟩)), (1, .int .i64 n), (2, .int .i64 v), (3, .int .i64 k)]) [32, 31, 30, 4, 1, 2, 3] (by kernel_rfl) ?_
  refine ops_call (σ := Unit) (d := some 33) (f := 56) (args := #[.agg #[.int .i64 lo, .int .i64 hi], .int .i64 n, .int .i64 v]) (v := fun _ => .tuple #[.int .i64 (shareV (min (max v lo) hi - lo) (q - 1) (hi - lo)), .int .i64 0]) (M' := fun _ => Mem w [.blk b1 [.int .i64 lo, .int .i64 hi] 81]) ⟨by kernel_rfl⟩ (fun w_ hM hS => (Coarse_ok lo hi n v w_ q hq hq0 hq1 hok).mono (by rintro e w' ⟨rfl, hb⟩; exact ⟨(), rfl, hM.step hb, trivial⟩)) (fun _ => ?_)
  refine ops_run (is := [(4, false), (5, false), (6, false), (7, false), (8, false)]) (r := []) (l' := [(12, .int .i64 0), (11, .int .i64 (shareV (min (max v lo) hi - lo) (q - 1) (hi - lo))), (4, .pointer (some ⟨b1, 0, none⟩)), (1, .int .i64 n), (2, .int .i64 v), (3, .int .i64 k)]) [12, 11, 4, 1, 2, 3] (by kernel_rfl) ?_
  refine ops_nil ?_
  refine fin_then ?_
  refine st_seq ?_
  refine st_region [(0, false), (1, false), (2, false), (3, false), (4, false), (5, false), (6, false), (7, false), (8, false)] (by rfl) ?_
  refine ops_mem (d := some 37) (an := [.v (.int .i64 lo), .v (.int .i64 hi)]) (evs := [.load ⟨b1, 0, none⟩ (.int .i64 lo), .load ⟨b1, 1, none⟩ (.int .i64 hi)]) (v := .agg #[.int .i64 lo, .int .i64 hi]) (M' := Mem w [.blk b1 [.int .i64 lo, .int .i64 hi] 81]) ⟨by kernel_rfl⟩ (fun w_ hM hS => ⟨w_, ⟨hM.cell 0 rfl rfl, hM.cell 0 rfl rfl, rfl⟩, hM, trivial⟩) ?_
  refine ops_run (is := [(1, false), (2, false)]) (r := [(3, false), (4, false), (5, false), (6, false), (7, false), (8, false)]) (l' := [(39, .int .i64 k), (38, .int .i64 n), (37, .agg #[.int .i64 lo, .int .i64 hi]), (12, .int .i64 0), (11, .int .i64 (shareV (min (max v lo) hi - lo) (q - 1) (hi - lo))), (4, .pointer (some ⟨b1, 0, none⟩)), (1, .int .i64 n), (2, .int .i64 v), (3, .int .i64 k)]) [39, 38, 37, 12, 11, 4, 1, 2, 3] (by kernel_rfl) ?_
  refine ops_call (σ := Unit) (d := some 40) (f := 57) (args := #[.agg #[.int .i64 lo, .int .i64 hi], .int .i64 n, .int .i64 k]) (v := fun _ => .tuple #[.int .i64 (lo + shareV k (hi - lo) (q - 1)), .int .i64 0]) (M' := fun _ => Mem w [.blk b1 [.int .i64 lo, .int .i64 hi] 81]) ⟨by kernel_rfl⟩ (fun w_ hM hS => (Fine_ok lo hi n k w_ q hq hq0 hq1 hok hk0 hk1).mono (by rintro e w' ⟨rfl, hb⟩; exact ⟨(), rfl, hM.step hb, trivial⟩)) (fun _ => ?_)
  refine ops_run (is := [(4, false), (5, false), (6, false), (7, false), (8, false)]) (r := []) (l' := [(14, .int .i64 0), (13, .int .i64 (lo + shareV k (hi - lo) (q - 1))), (12, .int .i64 0), (11, .int .i64 (shareV (min (max v lo) hi - lo) (q - 1) (hi - lo))), (4, .pointer (some ⟨b1, 0, none⟩)), (1, .int .i64 n), (2, .int .i64 v), (3, .int .i64 k)]) [14, 13, 12, 11, 4, 1, 2, 3] (by kernel_rfl) ?_
  refine ops_nil ?_
  refine fin_then ?_
  refine st_seq ?_
  refine st_region [(0, false), (1, false), (2, false), (3, false), (4, false), (5, false), (6, false), (7, false)] (by rfl) ?_
  refine ops_mem (d := some 44) (an := [.v (.int .i64 lo), .v (.int .i64 hi)]) (evs := [.load ⟨b1, 0, none⟩ (.int .i64 lo), .load ⟨b1, 1, none⟩ (.int .i64 hi)]) (v := .agg #[.int .i64 lo, .int .i64 hi]) (M' := Mem w [.blk b1 [.int .i64 lo, .int .i64 hi] 81]) ⟨by kernel_rfl⟩ (fun w_ hM hS => ⟨w_, ⟨hM.cell 0 rfl rfl, hM.cell 0 rfl rfl, rfl⟩, hM, trivial⟩) ?_
  refine ops_run (is := [(1, false)]) (r := [(2, false), (3, false), (4, false), (5, false), (6, false), (7, false)]) (l' := [(45, .int .i64 n), (44, .agg #[.int .i64 lo, .int .i64 hi]), (14, .int .i64 0), (13, .int .i64 (lo + shareV k (hi - lo) (q - 1))), (12, .int .i64 0), (11, .int .i64 (shareV (min (max v lo) hi - lo) (q - 1) (hi - lo))), (4, .pointer (some ⟨b1, 0, none⟩)), (1, .int .i64 n), (2, .int .i64 v), (3, .int .i64 k)]) [45, 44, 14, 13, 12, 11, 4, 1, 2, 3] (by kernel_rfl) ?_
  refine ops_call (σ := Unit) (d := some 46) (f := 58) (args := #[.agg #[.int .i64 lo, .int .i64 hi], .int .i64 n]) (v := fun _ => .tuple #[.int .i64 ((hi - lo + (q - 1) - 1) / (q - 1) / 2 + 1), .int .i64 0]) (M' := fun _ => Mem w [.blk b1 [.int .i64 lo, .int .i64 hi] 81]) ⟨by kernel_rfl⟩ (fun w_ hM hS => (Bound_ok lo hi n w_ q hq hq0 hq1 hok).mono (by rintro e w' ⟨rfl, hb⟩; exact ⟨(), rfl, hM.step hb, trivial⟩)) (fun _ => ?_)
  refine ops_run (is := [(3, false), (4, false), (5, false), (6, false), (7, false)]) (r := []) (l' := [(16, .int .i64 0), (15, .int .i64 ((hi - lo + (q - 1) - 1) / (q - 1) / 2 + 1)), (14, .int .i64 0), (13, .int .i64 (lo + shareV k (hi - lo) (q - 1))), (12, .int .i64 0), (11, .int .i64 (shareV (min (max v lo) hi - lo) (q - 1) (hi - lo))), (4, .pointer (some ⟨b1, 0, none⟩)), (1, .int .i64 n), (2, .int .i64 v), (3, .int .i64 k)]) [16, 15, 14, 13, 12, 11, 4, 1, 2, 3] (by kernel_rfl) ?_
  refine ops_nil ?_
  refine fin_then ?_
  refine st_seq ?_
  refine st_seq ?_
  refine st_region [(0, false), (1, false), (2, false), (3, false)] (by rfl) ?_
  refine ops_mem (d := some 49) (an := [.v (.int .i64 lo), .v (.int .i64 hi)]) (evs := [.load ⟨b1, 0, none⟩ (.int .i64 lo), .load ⟨b1, 1, none⟩ (.int .i64 hi)]) (v := .agg #[.int .i64 lo, .int .i64 hi]) (M' := Mem w [.blk b1 [.int .i64 lo, .int .i64 hi] 81]) ⟨by kernel_rfl⟩ (fun w_ hM hS => ⟨w_, ⟨hM.cell 0 rfl rfl, hM.cell 0 rfl rfl, rfl⟩, hM, trivial⟩) ?_
  refine ops_run (is := [(1, false)]) (r := [(2, false), (3, false)]) (l' := [(50, .int .i64 n), (49, .agg #[.int .i64 lo, .int .i64 hi]), (16, .int .i64 0), (15, .int .i64 ((hi - lo + (q - 1) - 1) / (q - 1) / 2 + 1)), (14, .int .i64 0), (13, .int .i64 (lo + shareV k (hi - lo) (q - 1))), (12, .int .i64 0), (11, .int .i64 (shareV (min (max v lo) hi - lo) (q - 1) (hi - lo))), (4, .pointer (some ⟨b1, 0, none⟩)), (1, .int .i64 n), (2, .int .i64 v), (3, .int .i64 k)]) [50, 49, 16, 15, 14, 13, 12, 11, 4, 1, 2, 3] (by kernel_rfl) ?_
  refine ops_call (σ := Unit) (d := some 51) (f := 59) (args := #[.agg #[.int .i64 lo, .int .i64 hi], .int .i64 n]) (v := fun _ => .bool true) (M' := fun _ => Mem w [.blk b1 [.int .i64 lo, .int .i64 hi] 81]) ⟨by kernel_rfl⟩ (fun w_ hM hS => (SpanIs_ok lo hi n w_ hok).mono (by rintro e w' ⟨rfl, hb⟩; exact ⟨(), rfl, hM.step hb, trivial⟩)) (fun _ => ?_)
  refine ops_run (is := [(3, false)]) (r := []) (l' := [(52, .bool false), (16, .int .i64 0), (15, .int .i64 ((hi - lo + (q - 1) - 1) / (q - 1) / 2 + 1)), (14, .int .i64 0), (13, .int .i64 (lo + shareV k (hi - lo) (q - 1))), (12, .int .i64 0), (11, .int .i64 (shareV (min (max v lo) hi - lo) (q - 1) (hi - lo))), (4, .pointer (some ⟨b1, 0, none⟩)), (1, .int .i64 n), (2, .int .i64 v), (3, .int .i64 k)]) [52, 16, 15, 14, 13, 12, 11, 4, 1, 2, 3] (by kernel_rfl) ?_
  refine ops_nil ?_
  refine fin_then ?_
  refine st_false rfl ?_
  refine st_skip ?_
  refine fin_then ?_
  refine st_seq ?_
  refine st_region [(0, false), (1, false), (2, false), (3, false)] (by rfl) ?_
  refine ops_run (is := [(0, false)]) (r := [(1, false), (2, false), (3, false)]) (l' := [(77, .int .i64 n), (16, .int .i64 0), (15, .int .i64 ((hi - lo + (q - 1) - 1) / (q - 1) / 2 + 1)), (14, .int .i64 0), (13, .int .i64 (lo + shareV k (hi - lo) (q - 1))), (12, .int .i64 0), (11, .int .i64 (shareV (min (max v lo) hi - lo) (q - 1) (hi - lo))), (4, .pointer (some ⟨b1, 0, none⟩)), (1, .int .i64 n), (2, .int .i64 v), (3, .int .i64 k)]) [77, 16, 15, 14, 13, 12, 11, 4, 1, 2, 3] (by kernel_rfl) ?_
  refine ops_val (op := (Go.Op.binOp Go.BinOp.shl 3 (Go.Operand.const (Go.Value.int Go.IntKind.i64 1)) (Go.Operand.tmp 77) 3)) (d := some 78) (v := .int .i64 (IntKind.i64.wrap (1 * 2 ^ min (n).toNat 64))) ⟨by kernel_rfl⟩ (run_shl rfl rfl (by omega)) ?_
  refine ops_run (is := []) (r := [(2, false), (3, false)]) (l' := [(78, .int .i64 (IntKind.i64.wrap (1 * 2 ^ min (n).toNat 64))), (16, .int .i64 0), (15, .int .i64 ((hi - lo + (q - 1) - 1) / (q - 1) / 2 + 1)), (14, .int .i64 0), (13, .int .i64 (lo + shareV k (hi - lo) (q - 1))), (12, .int .i64 0), (11, .int .i64 (shareV (min (max v lo) hi - lo) (q - 1) (hi - lo))), (4, .pointer (some ⟨b1, 0, none⟩)), (1, .int .i64 n), (2, .int .i64 v), (3, .int .i64 k)]) [78, 16, 15, 14, 13, 12, 11, 4, 1, 2, 3] (by kernel_rfl) ?_
  refine ops_conv (l' := [(78, .int .i64 q), (16, .int .i64 0), (15, .int .i64 ((hi - lo + (q - 1) - 1) / (q - 1) / 2 + 1)), (14, .int .i64 0), (13, .int .i64 (lo + shareV k (hi - lo) (q - 1))), (12, .int .i64 0), (11, .int .i64 (shareV (min (max v lo) hi - lo) (q - 1) (hi - lo))), (4, .pointer (some ⟨b1, 0, none⟩)), (1, .int .i64 n), (2, .int .i64 v), (3, .int .i64 k)]) (by rw [hq]) (fun _ h => h) ?_
  refine ops_run (is := [(2, false)]) (r := [(3, false)]) (l' := [(79, .int .i64 (IntKind.i64.wrap (q - 1))), (16, .int .i64 0), (15, .int .i64 ((hi - lo + (q - 1) - 1) / (q - 1) / 2 + 1)), (14, .int .i64 0), (13, .int .i64 (lo + shareV k (hi - lo) (q - 1))), (12, .int .i64 0), (11, .int .i64 (shareV (min (max v lo) hi - lo) (q - 1) (hi - lo))), (4, .pointer (some ⟨b1, 0, none⟩)), (1, .int .i64 n), (2, .int .i64 v), (3, .int .i64 k)]) [79, 16, 15, 14, 13, 12, 11, 4, 1, 2, 3] (by kernel_rfl) ?_
  refine ops_conv (l' := [(79, .int .i64 (q - 1)), (16, .int .i64 0), (15, .int .i64 ((hi - lo + (q - 1) - 1) / (q - 1) / 2 + 1)), (14, .int .i64 0), (13, .int .i64 (lo + shareV k (hi - lo) (q - 1))), (12, .int .i64 0), (11, .int .i64 (shareV (min (max v lo) hi - lo) (q - 1) (hi - lo))), (4, .pointer (some ⟨b1, 0, none⟩)), (1, .int .i64 n), (2, .int .i64 v), (3, .int .i64 k)]) (by rw [(i64in (x := q - 1) (by omega) (by omega))]) (fun _ h => h) ?_
  refine ops_run (is := [(3, false)]) (r := []) (l' := [(17, .int .i64 (q - 1)), (16, .int .i64 0), (15, .int .i64 ((hi - lo + (q - 1) - 1) / (q - 1) / 2 + 1)), (14, .int .i64 0), (13, .int .i64 (lo + shareV k (hi - lo) (q - 1))), (12, .int .i64 0), (11, .int .i64 (shareV (min (max v lo) hi - lo) (q - 1) (hi - lo))), (4, .pointer (some ⟨b1, 0, none⟩)), (1, .int .i64 n), (2, .int .i64 v), (3, .int .i64 k)]) [17, 16, 15, 14, 13, 12, 11, 4, 1, 2, 3] (by kernel_rfl) ?_
  refine ops_nil ?_
  refine fin_then ?_
  refine st_seq ?_
  refine st_seq ?_
  refine st_region [(0, false), (1, false), (2, false), (3, false), (4, false), (5, false), (6, false), (7, false), (8, false), (9, false), (10, false), (11, false), (12, false), (13, false), (14, false), (15, false), (16, false), (17, false), (18, false), (19, false), (20, false), (21, false), (22, false), (23, false), (24, false), (25, false), (26, false), (27, false), (28, false), (29, false)] (by rfl) ?_
  refine ops_run (is := [(0, false), (1, false), (2, false), (3, false), (4, false), (5, false), (6, false), (7, false)]) (r := [(8, false), (9, false), (10, false), (11, false), (12, false), (13, false), (14, false), (15, false), (16, false), (17, false), (18, false), (19, false), (20, false), (21, false), (22, false), (23, false), (24, false), (25, false), (26, false), (27, false), (28, false), (29, false)]) (l' := [(87, .int .i64 (shareV (min (max v lo) hi - lo) (q - 1) (hi - lo))), (86, .bool false), (17, .int .i64 (q - 1)), (15, .int .i64 ((hi - lo + (q - 1) - 1) / (q - 1) / 2 + 1)), (14, .int .i64 0), (13, .int .i64 (lo + shareV k (hi - lo) (q - 1))), (4, .pointer (some ⟨b1, 0, none⟩)), (1, .int .i64 n), (2, .int .i64 v), (3, .int .i64 k)]) [87, 86, 17, 15, 14, 13, 4, 1, 2, 3] (by kernel_rfl) ?_
  refine ops_mem (d := some 88) (an := [.v (.int .i64 lo), .v (.int .i64 hi)]) (evs := [.load ⟨b1, 0, none⟩ (.int .i64 lo), .load ⟨b1, 1, none⟩ (.int .i64 hi)]) (v := .agg #[.int .i64 lo, .int .i64 hi]) (M' := Mem w [.blk b1 [.int .i64 lo, .int .i64 hi] 81]) ⟨by kernel_rfl⟩ (fun w_ hM hS => ⟨w_, ⟨hM.cell 0 rfl rfl, hM.cell 0 rfl rfl, rfl⟩, hM, trivial⟩) ?_
  refine ops_run (is := [(9, false), (10, false)]) (r := [(11, false), (12, false), (13, false), (14, false), (15, false), (16, false), (17, false), (18, false), (19, false), (20, false), (21, false), (22, false), (23, false), (24, false), (25, false), (26, false), (27, false), (28, false), (29, false)]) (l' := [(90, .int .i64 v), (89, .int .i64 n), (88, .agg #[.int .i64 lo, .int .i64 hi]), (87, .int .i64 (shareV (min (max v lo) hi - lo) (q - 1) (hi - lo))), (86, .bool false), (17, .int .i64 (q - 1)), (15, .int .i64 ((hi - lo + (q - 1) - 1) / (q - 1) / 2 + 1)), (14, .int .i64 0), (13, .int .i64 (lo + shareV k (hi - lo) (q - 1))), (4, .pointer (some ⟨b1, 0, none⟩)), (1, .int .i64 n), (3, .int .i64 k)]) [90, 89, 88, 87, 86, 17, 15, 14, 13, 4, 1, 3] (by kernel_rfl) ?_
  refine ops_call (σ := Unit) (d := some 91) (f := 60) (args := #[.agg #[.int .i64 lo, .int .i64 hi], .int .i64 n, .int .i64 v]) (v := fun _ => .int .i64 (shareV (min (max v lo) hi - lo) (q - 1) (hi - lo))) (M' := fun _ => Mem w [.blk b1 [.int .i64 lo, .int .i64 hi] 81]) ⟨by kernel_rfl⟩ (fun w_ hM hS => (Coarsened_ok lo hi n v w_ q hq hq0 hq1 hok).mono (by rintro e w' ⟨rfl, hb⟩; exact ⟨(), rfl, hM.step hb, trivial⟩)) (fun _ => ?_)
  refine ops_run (is := []) (r := [(12, false), (13, false), (14, false), (15, false), (16, false), (17, false), (18, false), (19, false), (20, false), (21, false), (22, false), (23, false), (24, false), (25, false), (26, false), (27, false), (28, false), (29, false)]) (l' := [(91, .int .i64 (shareV (min (max v lo) hi - lo) (q - 1) (hi - lo))), (87, .int .i64 (shareV (min (max v lo) hi - lo) (q - 1) (hi - lo))), (86, .bool false), (17, .int .i64 (q - 1)), (15, .int .i64 ((hi - lo + (q - 1) - 1) / (q - 1) / 2 + 1)), (14, .int .i64 0), (13, .int .i64 (lo + shareV k (hi - lo) (q - 1))), (4, .pointer (some ⟨b1, 0, none⟩)), (1, .int .i64 n), (3, .int .i64 k)]) [91, 87, 86, 17, 15, 14, 13, 4, 1, 3] (by kernel_rfl) ?_
  refine ops_val (op := (Go.Op.binOp Go.BinOp.neq 3 (Go.Operand.tmp 87) (Go.Operand.tmp 91) 3)) (d := some 92) (v := .bool false) ⟨by kernel_rfl⟩ (run_neq_same rfl rfl) ?_
  refine ops_run (is := [(13, false), (14, false), (15, false), (16, false)]) (r := [(17, false), (18, false), (19, false), (20, false), (21, false), (22, false), (23, false), (24, false), (25, false), (26, false), (27, false), (28, false), (29, false)]) (l' := [(96, .pointer (some ⟨b1, 1, none⟩)), (95, .int .i64 ((hi - lo + (q - 1) - 1) / (q - 1) / 2 + 1)), (94, .bool false), (17, .int .i64 (q - 1)), (14, .int .i64 0), (13, .int .i64 (lo + shareV k (hi - lo) (q - 1))), (4, .pointer (some ⟨b1, 0, none⟩)), (1, .int .i64 n), (3, .int .i64 k)]) [96, 95, 94, 17, 14, 13, 4, 1, 3] (by kernel_rfl) ?_
  refine ops_mem (d := some 97) (an := [.v (.int .i64 hi)]) (evs := [.load ⟨b1, 1, none⟩ (.int .i64 hi)]) (v := .int .i64 hi) (M' := Mem w [.blk b1 [.int .i64 lo, .int .i64 hi] 81]) ⟨by kernel_rfl⟩ (fun w_ hM hS => ⟨w_, ⟨hM.cell 0 rfl rfl, rfl⟩, hM, trivial⟩) ?_
  refine ops_run (is := [(18, false)]) (r := [(19, false), (20, false), (21, false), (22, false), (23, false), (24, false), (25, false), (26, false), (27, false), (28, false), (29, false)]) (l' := [(98, .pointer (some ⟨b1, 0, none⟩)), (97, .int .i64 hi), (95, .int .i64 ((hi - lo + (q - 1) - 1) / (q - 1) / 2 + 1)), (94, .bool false), (17, .int .i64 (q - 1)), (14, .int .i64 0), (13, .int .i64 (lo + shareV k (hi - lo) (q - 1))), (4, .pointer (some ⟨b1, 0, none⟩)), (1, .int .i64 n), (3, .int .i64 k)]) [98, 97, 95, 94, 17, 14, 13, 4, 1, 3] (by kernel_rfl) ?_
  refine ops_mem (d := some 99) (an := [.v (.int .i64 lo)]) (evs := [.load ⟨b1, 0, none⟩ (.int .i64 lo)]) (v := .int .i64 lo) (M' := Mem w [.blk b1 [.int .i64 lo, .int .i64 hi] 81]) ⟨by kernel_rfl⟩ (fun w_ hM hS => ⟨w_, ⟨hM.cell 0 rfl rfl, rfl⟩, hM, trivial⟩) ?_
  refine ops_run (is := [(20, false)]) (r := [(21, false), (22, false), (23, false), (24, false), (25, false), (26, false), (27, false), (28, false), (29, false)]) (l' := [(100, .int .i64 (IntKind.i64.wrap (hi - lo))), (95, .int .i64 ((hi - lo + (q - 1) - 1) / (q - 1) / 2 + 1)), (94, .bool false), (17, .int .i64 (q - 1)), (14, .int .i64 0), (13, .int .i64 (lo + shareV k (hi - lo) (q - 1))), (4, .pointer (some ⟨b1, 0, none⟩)), (1, .int .i64 n), (3, .int .i64 k)]) [100, 95, 94, 17, 14, 13, 4, 1, 3] (by kernel_rfl) ?_
  refine ops_conv (l' := [(100, .int .i64 (hi - lo)), (95, .int .i64 ((hi - lo + (q - 1) - 1) / (q - 1) / 2 + 1)), (94, .bool false), (17, .int .i64 (q - 1)), (14, .int .i64 0), (13, .int .i64 (lo + shareV k (hi - lo) (q - 1))), (4, .pointer (some ⟨b1, 0, none⟩)), (1, .int .i64 n), (3, .int .i64 k)]) (by rw [(i64in (x := hi - lo) (by omega) (by omega))]) (fun _ h => h) ?_
  refine ops_run (is := [(21, false), (22, false)]) (r := [(23, false), (24, false), (25, false), (26, false), (27, false), (28, false), (29, false)]) (l' := [(102, .int .i64 (IntKind.i64.wrap ((hi - lo) + (q - 1)))), (95, .int .i64 ((hi - lo + (q - 1) - 1) / (q - 1) / 2 + 1)), (94, .bool false), (17, .int .i64 (q - 1)), (14, .int .i64 0), (13, .int .i64 (lo + shareV k (hi - lo) (q - 1))), (4, .pointer (some ⟨b1, 0, none⟩)), (1, .int .i64 n), (3, .int .i64 k)]) [102, 95, 94, 17, 14, 13, 4, 1, 3] (by kernel_rfl) ?_
  refine ops_conv (l' := [(102, .int .i64 ((hi - lo) + (q - 1))), (95, .int .i64 ((hi - lo + (q - 1) - 1) / (q - 1) / 2 + 1)), (94, .bool false), (17, .int .i64 (q - 1)), (14, .int .i64 0), (13, .int .i64 (lo + shareV k (hi - lo) (q - 1))), (4, .pointer (some ⟨b1, 0, none⟩)), (1, .int .i64 n), (3, .int .i64 k)]) (by rw [(i64in (x := (hi - lo) + (q - 1)) (by omega) (by omega))]) (fun _ h => h) ?_
  refine ops_run (is := [(23, false)]) (r := [(24, false), (25, false), (26, false), (27, false), (28, false), (29, false)]) (l' := [(103, .int .i64 (IntKind.i64.wrap (((hi - lo) + (q - 1)) - 1))), (95, .int .i64 ((hi - lo + (q - 1) - 1) / (q - 1) / 2 + 1)), (94, .bool false), (17, .int .i64 (q - 1)), (14, .int .i64 0), (13, .int .i64 (lo + shareV k (hi - lo) (q - 1))), (4, .pointer (some ⟨b1, 0, none⟩)), (1, .int .i64 n), (3, .int .i64 k)]) [103, 95, 94, 17, 14, 13, 4, 1, 3] (by kernel_rfl) ?_
  refine ops_conv (l' := [(103, .int .i64 (((hi - lo) + (q - 1)) - 1)), (95, .int .i64 ((hi - lo + (q - 1) - 1) / (q - 1) / 2 + 1)), (94, .bool false), (17, .int .i64 (q - 1)), (14, .int .i64 0), (13, .int .i64 (lo + shareV k (hi - lo) (q - 1))), (4, .pointer (some ⟨b1, 0, none⟩)), (1, .int .i64 n), (3, .int .i64 k)]) (by rw [(i64in (x := ((hi - lo) + (q - 1)) - 1) (by omega) (by omega))]) (fun _ h => h) ?_
  refine ops_run (is := [(24, false)]) (r := [(25, false), (26, false), (27, false), (28, false), (29, false)]) (l' := [(104, .int .i64 (q - 1)), (103, .int .i64 (((hi - lo) + (q - 1)) - 1)), (95, .int .i64 ((hi - lo + (q - 1) - 1) / (q - 1) / 2 + 1)), (94, .bool false), (17, .int .i64 (q - 1)), (14, .int .i64 0), (13, .int .i64 (lo + shareV k (hi - lo) (q - 1))), (4, .pointer (some ⟨b1, 0, none⟩)), (1, .int .i64 n), (3, .int .i64 k)]) [104, 103, 95, 94, 17, 14, 13, 4, 1, 3] (by kernel_rfl) ?_
  refine ops_val (op := (Go.Op.binOp Go.BinOp.quo 3 (Go.Operand.tmp 103) (Go.Operand.tmp 104) 3)) (d := some 105) (v := .int .i64 (IntKind.i64.wrap (Int.tdiv (((hi - lo) + (q - 1)) - 1) (q - 1)))) ⟨by kernel_rfl⟩ (run_quo rfl rfl (by omega)) ?_
  refine ops_run (is := []) (r := [(26, false), (27, false), (28, false), (29, false)]) (l' := [(105, .int .i64 (IntKind.i64.wrap (Int.tdiv (((hi - lo) + (q - 1)) - 1) (q - 1)))), (95, .int .i64 ((hi - lo + (q - 1) - 1) / (q - 1) / 2 + 1)), (94, .bool false), (17, .int .i64 (q - 1)), (14, .int .i64 0), (13, .int .i64 (lo + shareV k (hi - lo) (q - 1))), (4, .pointer (some ⟨b1, 0, none⟩)), (1, .int .i64 n), (3, .int .i64 k)]) [105, 95, 94, 17, 14, 13, 4, 1, 3] (by kernel_rfl) ?_
  refine ops_conv (l' := [(105, .int .i64 ((hi - lo + (q - 1) - 1) / (q - 1))), (95, .int .i64 ((hi - lo + (q - 1) - 1) / (q - 1) / 2 + 1)), (94, .bool false), (17, .int .i64 (q - 1)), (14, .int .i64 0), (13, .int .i64 (lo + shareV k (hi - lo) (q - 1))), (4, .pointer (some ⟨b1, 0, none⟩)), (1, .int .i64 n), (3, .int .i64 k)]) (by rw [hb5]) (fun _ h => h) ?_
  refine ops_run (is := [(26, false)]) (r := [(27, false), (28, false), (29, false)]) (l' := [(106, .int .i64 (IntKind.i64.wrap (Int.tdiv ((hi - lo + (q - 1) - 1) / (q - 1)) 2))), (95, .int .i64 ((hi - lo + (q - 1) - 1) / (q - 1) / 2 + 1)), (94, .bool false), (17, .int .i64 (q - 1)), (14, .int .i64 0), (13, .int .i64 (lo + shareV k (hi - lo) (q - 1))), (4, .pointer (some ⟨b1, 0, none⟩)), (1, .int .i64 n), (3, .int .i64 k)]) [106, 95, 94, 17, 14, 13, 4, 1, 3] (by kernel_rfl) ?_
  refine ops_conv (l' := [(106, .int .i64 ((hi - lo + (q - 1) - 1) / (q - 1) / 2)), (95, .int .i64 ((hi - lo + (q - 1) - 1) / (q - 1) / 2 + 1)), (94, .bool false), (17, .int .i64 (q - 1)), (14, .int .i64 0), (13, .int .i64 (lo + shareV k (hi - lo) (q - 1))), (4, .pointer (some ⟨b1, 0, none⟩)), (1, .int .i64 n), (3, .int .i64 k)]) (by rw [hb6]) (fun _ h => h) ?_
  refine ops_run (is := [(27, false)]) (r := [(28, false), (29, false)]) (l' := [(107, .int .i64 (IntKind.i64.wrap (((hi - lo + (q - 1) - 1) / (q - 1) / 2) + 1))), (95, .int .i64 ((hi - lo + (q - 1) - 1) / (q - 1) / 2 + 1)), (94, .bool false), (17, .int .i64 (q - 1)), (14, .int .i64 0), (13, .int .i64 (lo + shareV k (hi - lo) (q - 1))), (4, .pointer (some ⟨b1, 0, none⟩)), (1, .int .i64 n), (3, .int .i64 k)]) [107, 95, 94, 17, 14, 13, 4, 1, 3] (by kernel_rfl) ?_
  refine ops_conv (l' := [(107, .int .i64 (((hi - lo + (q - 1) - 1) / (q - 1) / 2) + 1)), (95, .int .i64 ((hi - lo + (q - 1) - 1) / (q - 1) / 2 + 1)), (94, .bool false), (17, .int .i64 (q - 1)), (14, .int .i64 0), (13, .int .i64 (lo + shareV k (hi - lo) (q - 1))), (4, .pointer (some ⟨b1, 0, none⟩)), (1, .int .i64 n), (3, .int .i64 k)]) (by rw [(i64in (x := ((hi - lo + (q - 1) - 1) / (q - 1) / 2) + 1) (by omega) (by omega))]) (fun _ h => h) ?_
  refine ops_val (op := (Go.Op.binOp Go.BinOp.neq 3 (Go.Operand.tmp 95) (Go.Operand.tmp 107) 3)) (d := some 108) (v := .bool false) ⟨by kernel_rfl⟩ (run_neq_same rfl rfl) ?_
  refine ops_run (is := [(29, false)]) (r := []) (l' := [(109, .bool false), (17, .int .i64 (q - 1)), (14, .int .i64 0), (13, .int .i64 (lo + shareV k (hi - lo) (q - 1))), (4, .pointer (some ⟨b1, 0, none⟩)), (1, .int .i64 n), (3, .int .i64 k)]) [109, 17, 14, 13, 4, 1, 3] (by kernel_rfl) ?_
  refine ops_nil ?_
  refine fin_then ?_
  refine st_false rfl ?_
  refine st_skip ?_
  refine fin_then ?_
  refine st_seq ?_
  refine st_seq ?_
  refine st_region [(0, false), (1, false), (2, false), (3, false), (4, false), (5, false), (6, false)] (by rfl) ?_
  refine ops_run (is := [(0, false), (1, false), (2, false)]) (r := [(3, false), (4, false), (5, false), (6, false)]) (l' := [(112, .bool (decide (k < 0))), (17, .int .i64 (q - 1)), (14, .int .i64 0), (13, .int .i64 (lo + shareV k (hi - lo) (q - 1))), (4, .pointer (some ⟨b1, 0, none⟩)), (1, .int .i64 n), (3, .int .i64 k)]) [112, 17, 14, 13, 4, 1, 3] (by kernel_rfl) ?_
  refine ops_conv (l' := [(112, .bool false), (17, .int .i64 (q - 1)), (14, .int .i64 0), (13, .int .i64 (lo + shareV k (hi - lo) (q - 1))), (4, .pointer (some ⟨b1, 0, none⟩)), (1, .int .i64 n), (3, .int .i64 k)]) (by rw [hf1]) (fun _ h => h) ?_
  refine ops_run (is := [(3, false), (4, false), (5, false), (6, false)]) (r := []) (l' := [(116, .bool (decide ((q - 1) < k))), (14, .int .i64 0), (13, .int .i64 (lo + shareV k (hi - lo) (q - 1))), (4, .pointer (some ⟨b1, 0, none⟩)), (1, .int .i64 n), (3, .int .i64 k)]) [116, 14, 13, 4, 1, 3] (by kernel_rfl) ?_
  refine ops_nil ?_
  refine fin_then ?_
  refine st_conv (l' := [(116, .bool false), (14, .int .i64 0), (13, .int .i64 (lo + shareV k (hi - lo) (q - 1))), (4, .pointer (some ⟨b1, 0, none⟩)), (1, .int .i64 n), (3, .int .i64 k)]) (by rw [hf2]) (fun _ h => h) ?_
  refine st_false rfl ?_
  refine st_skip ?_
  refine fin_then ?_
  refine st_seq ?_
  refine st_region [(0, false), (1, false), (2, false), (3, false), (4, false), (5, false), (6, false), (7, false), (8, false), (9, false), (10, false)] (by rfl) ?_
  refine ops_run (is := [(0, false), (1, false), (2, false), (3, false)]) (r := [(4, false), (5, false), (6, false), (7, false), (8, false), (9, false), (10, false)]) (l' := [(126, .int .i64 (lo + shareV k (hi - lo) (q - 1))), (125, .bool true), (4, .pointer (some ⟨b1, 0, none⟩)), (1, .int .i64 n), (3, .int .i64 k)]) [126, 125, 4, 1, 3] (by kernel_rfl) ?_
  refine ops_mem (d := some 127) (an := [.v (.int .i64 lo), .v (.int .i64 hi)]) (evs := [.load ⟨b1, 0, none⟩ (.int .i64 lo), .load ⟨b1, 1, none⟩ (.int .i64 hi)]) (v := .agg #[.int .i64 lo, .int .i64 hi]) (M' := Mem w [.blk b1 [.int .i64 lo, .int .i64 hi] 81]) ⟨by kernel_rfl⟩ (fun w_ hM hS => ⟨w_, ⟨hM.cell 0 rfl rfl, hM.cell 0 rfl rfl, rfl⟩, hM, trivial⟩) ?_
  refine ops_run (is := [(5, false), (6, false)]) (r := [(7, false), (8, false), (9, false), (10, false)]) (l' := [(129, .int .i64 k), (128, .int .i64 n), (127, .agg #[.int .i64 lo, .int .i64 hi]), (126, .int .i64 (lo + shareV k (hi - lo) (q - 1))), (125, .bool true)]) [129, 128, 127, 126, 125] (by kernel_rfl) ?_
  refine ops_call (σ := Unit) (d := some 130) (f := 61) (args := #[.agg #[.int .i64 lo, .int .i64 hi], .int .i64 n, .int .i64 k]) (v := fun _ => .int .i64 (lo + shareV k (hi - lo) (q - 1))) (M' := fun _ => Mem w [.blk b1 [.int .i64 lo, .int .i64 hi] 81]) ⟨by kernel_rfl⟩ (fun w_ hM hS => (Refined_ok lo hi n k w_ q hq hq0 hq1 hok hk0 hk1).mono (by rintro e w' ⟨rfl, hb⟩; exact ⟨(), rfl, hM.step hb, trivial⟩)) (fun _ => ?_)
  refine ops_run (is := []) (r := [(8, false), (9, false), (10, false)]) (l' := [(130, .int .i64 (lo + shareV k (hi - lo) (q - 1))), (126, .int .i64 (lo + shareV k (hi - lo) (q - 1))), (125, .bool true)]) [130, 126, 125] (by kernel_rfl) ?_
  refine ops_val (op := (Go.Op.binOp Go.BinOp.eql 3 (Go.Operand.tmp 126) (Go.Operand.tmp 130) 3)) (d := some 131) (v := .bool true) ⟨by kernel_rfl⟩ (run_eql_same rfl rfl) ?_
  refine ops_run (is := [(9, false), (10, false)]) (r := []) (l' := [(8, .bool true)]) [8] (by kernel_rfl) ?_
  refine ops_nil ?_
  refine fin_then ?_
  refine st_ret ?_
  refine fin_ret [.tmp 8] [.bool true] rfl rfl (fun w_ hM => (.tmp rfl .nil)) (fun w_ hM => ?_)
  refine ⟨?_, hM.done⟩
  rfl
set_option maxRecDepth 100000 in
theorem QuantCoarse_neg (lo hi n v k : Int) (w : World) (q : Int) (hq : IntKind.i64.wrap (1 * 2 ^ min n.toNat 64) = q) (hq0 : 2 ≤ q) (hq1 : q ≤ 4294967296) (hok : lo < hi ∧ -1099511627776 ≤ lo ∧ lo ≤ 1099511627776 ∧ -1099511627776 ≤ hi ∧ hi ≤ 1099511627776 ∧ 1 ≤ n ∧ n ≤ 32) (hk : k < 0) : Calls Try.prog 11 #[.agg #[.int .i64 lo, .int .i64 hi], .int .i64 n, .int .i64 v, .int .i64 k] w fun e w' => e = .returned (.bool true) ∧ Below w.heap.size w w' := by
  have hq2 : q - 1 ≠ 0 := by omega
  have hb1 : Int.tdiv (hi - lo + (q - 1) - 1) (q - 1) = (hi - lo + (q - 1) - 1) / (q - 1) := Int.tdiv_eq_ediv_of_nonneg (by omega)
  have hb2 : 0 ≤ (hi - lo + (q - 1) - 1) / (q - 1) := Int.ediv_nonneg (by omega) (by omega)
  have hb3 : (hi - lo + (q - 1) - 1) / (q - 1) ≤ hi - lo + (q - 1) - 1 := Int.ediv_le_self _ (by omega)
  have hb4 : Int.tdiv ((hi - lo + (q - 1) - 1) / (q - 1)) 2 = (hi - lo + (q - 1) - 1) / (q - 1) / 2 := Int.tdiv_eq_ediv_of_nonneg hb2
  have hb5 : IntKind.i64.wrap (Int.tdiv (hi - lo + (q - 1) - 1) (q - 1)) = (hi - lo + (q - 1) - 1) / (q - 1) := by rw [hb1]; exact i64in (by omega) (by omega)
  have hb6 : IntKind.i64.wrap (Int.tdiv ((hi - lo + (q - 1) - 1) / (q - 1)) 2) = (hi - lo + (q - 1) - 1) / (q - 1) / 2 := by rw [hb4]; exact i64in (by omega) (by omega)
  have hf1 : decide (k < 0) = true := by simpa using hk
  refine sx_calls Try.func11 rfl (n := 133) (by kernel_rfl) (l := [(0, .agg #[.int .i64 lo, .int .i64 hi]), (1, .int .i64 n), (2, .int .i64 v), (3, .int .i64 k)]) rfl (by rfl) (Mem.nil w) ?_
  refine st_seq ?_
  refine st_region [(0, false), (1, false)] (by rfl) ?_
  refine ops_new (d := some 4) (o := .cells #[.int .i64 lo, .int .i64 hi] 81) (v := fun b1 => .pointer (some ⟨b1, 0, none⟩)) (M' := fun b1 => Mem w [.blk b1 [.int .i64 lo, .int .i64 hi] 81]) (fun b1 => ⟨by kernel_rfl⟩) (fun w_ hM hS => ⟨hM.blk [.int .i64 lo, .int .i64 hi] 81, trivial⟩) (fun b1 => ?_)
  refine ops_run (is := [(1, false)]) (r := []) (l' := [(4, .pointer (some ⟨b1, 0, none⟩)), (1, .int .i64 n), (2, .int .i64 v), (3, .int .i64 k)]) [4, 1, 2, 3] (by kernel_rfl) ?_
  refine ops_nil ?_
  refine fin_then ?_
  refine st_seq ?_
  refine st_seq ?_
  refine st_region [(0, false), (1, false), (2, false), (3, false), (4, false), (5, false), (6, false)] (by rfl) ?_
  refine ops_run (is := [(0, false)]) (r := [(1, false), (2, false), (3, false), (4, false), (5, false), (6, false)]) (l' := [(19, .agg #[.int .i64 0, .int .i64 4]), (4, .pointer (some ⟨b1, 0, none⟩)), (1, .int .i64 n), (2, .int .i64 v), (3, .int .i64 k)]) [19, 4, 1, 2, 3] (by kernel_rfl) ?_
  refine ops_call (σ := Unit) (d := some 20) (f := 56) (args := #[.agg #[.int .i64 0, .int .i64 4], .int .i64 1, .int .i64 2]) (v := fun _ => .tuple #[.int .i64 1, .int .i64 0]) (M' := fun _ => Mem w [.blk b1 [.int .i64 lo, .int .i64 hi] 81]) ⟨by kernel_rfl⟩ (fun w_ hM hS => (Coarse_begun w_).mono (by rintro e w' ⟨rfl, hb⟩; exact ⟨(), rfl, hM.step hb, trivial⟩)) (fun _ => ?_)
  refine ops_run (is := [(2, false), (3, false), (4, false), (5, false), (6, false)]) (r := []) (l' := [(10, .int .i64 0), (9, .int .i64 1), (4, .pointer (some ⟨b1, 0, none⟩)), (1, .int .i64 n), (2, .int .i64 v), (3, .int .i64 k)]) [10, 9, 4, 1, 2, 3] (by kernel_rfl) ?_
  refine ops_nil ?_
  refine fin_then ?_
  refine st_seq ?_
  refine st_region [(0, false), (1, false), (2, false), (3, false), (4, false), (5, false)] (by rfl) ?_
  refine ops_run (is := [(0, false), (1, false), (2, false), (3, false), (4, false), (5, false)]) (r := []) (l' := [(28, .bool false), (4, .pointer (some ⟨b1, 0, none⟩)), (1, .int .i64 n), (2, .int .i64 v), (3, .int .i64 k)]) [28, 4, 1, 2, 3] (by kernel_rfl) ?_
  refine ops_nil ?_
  refine fin_then ?_
  refine st_false rfl ?_
  refine st_skip ?_
  refine fin_then ?_
  refine st_seq ?_
  refine st_region [(0, false), (1, false), (2, false), (3, false), (4, false), (5, false), (6, false), (7, false), (8, false)] (by rfl) ?_
  refine ops_run (is := []) (r := [(0, false), (1, false), (2, false), (3, false), (4, false), (5, false), (6, false), (7, false), (8, false)]) (l' := [(4, .pointer (some ⟨b1, 0, none⟩)), (1, .int .i64 n), (2, .int .i64 v), (3, .int .i64 k)]) [4, 1, 2, 3] (by kernel_rfl) ?_
  refine ops_mem (d := some 30) (an := [.v (.int .i64 lo), .v (.int .i64 hi)]) (evs := [.load ⟨b1, 0, none⟩ (.int .i64 lo), .load ⟨b1, 1, none⟩ (.int .i64 hi)]) (v := .agg #[.int .i64 lo, .int .i64 hi]) (M' := Mem w [.blk b1 [.int .i64 lo, .int .i64 hi] 81]) ⟨by kernel_rfl⟩ (fun w_ hM hS => ⟨w_, ⟨hM.cell 0 rfl rfl, hM.cell 0 rfl rfl, rfl⟩, hM, trivial⟩) ?_
  refine ops_run (is := [(1, false), (2, false)]) (r := [(3, false), (4, false), (5, false), (6, false), (7, false), (8, false)]) (l' := [(32, .int .i64 v), (31, .int .i64 n), (30, .agg #[.int .i64 lo, .int .i64 hi]), (4, .pointer (some ⟨b1, 0, none⟩)), (1, .int .i64 n), (2, .int .i64 v), (3, .int .i64 k)]) [32, 31, 30, 4, 1, 2, 3] (by kernel_rfl) ?_
  refine ops_call (σ := Unit) (d := some 33) (f := 56) (args := #[.agg #[.int .i64 lo, .int .i64 hi], .int .i64 n, .int .i64 v]) (v := fun _ => .tuple #[.int .i64 (shareV (min (max v lo) hi - lo) (q - 1) (hi - lo)), .int .i64 0]) (M' := fun _ => Mem w [.blk b1 [.int .i64 lo, .int .i64 hi] 81]) ⟨by kernel_rfl⟩ (fun w_ hM hS => (Coarse_ok lo hi n v w_ q hq hq0 hq1 hok).mono (by rintro e w' ⟨rfl, hb⟩; exact ⟨(), rfl, hM.step hb, trivial⟩)) (fun _ => ?_)
  refine ops_run (is := [(4, false), (5, false), (6, false), (7, false), (8, false)]) (r := []) (l' := [(12, .int .i64 0), (11, .int .i64 (shareV (min (max v lo) hi - lo) (q - 1) (hi - lo))), (4, .pointer (some ⟨b1, 0, none⟩)), (1, .int .i64 n), (2, .int .i64 v), (3, .int .i64 k)]) [12, 11, 4, 1, 2, 3] (by kernel_rfl) ?_
  refine ops_nil ?_
  refine fin_then ?_
  refine st_seq ?_
  refine st_region [(0, false), (1, false), (2, false), (3, false), (4, false), (5, false), (6, false), (7, false), (8, false)] (by rfl) ?_
  refine ops_mem (d := some 37) (an := [.v (.int .i64 lo), .v (.int .i64 hi)]) (evs := [.load ⟨b1, 0, none⟩ (.int .i64 lo), .load ⟨b1, 1, none⟩ (.int .i64 hi)]) (v := .agg #[.int .i64 lo, .int .i64 hi]) (M' := Mem w [.blk b1 [.int .i64 lo, .int .i64 hi] 81]) ⟨by kernel_rfl⟩ (fun w_ hM hS => ⟨w_, ⟨hM.cell 0 rfl rfl, hM.cell 0 rfl rfl, rfl⟩, hM, trivial⟩) ?_
  refine ops_run (is := [(1, false), (2, false)]) (r := [(3, false), (4, false), (5, false), (6, false), (7, false), (8, false)]) (l' := [(39, .int .i64 k), (38, .int .i64 n), (37, .agg #[.int .i64 lo, .int .i64 hi]), (12, .int .i64 0), (11, .int .i64 (shareV (min (max v lo) hi - lo) (q - 1) (hi - lo))), (4, .pointer (some ⟨b1, 0, none⟩)), (1, .int .i64 n), (2, .int .i64 v), (3, .int .i64 k)]) [39, 38, 37, 12, 11, 4, 1, 2, 3] (by kernel_rfl) ?_
  refine ops_call (σ := Unit) (d := some 40) (f := 57) (args := #[.agg #[.int .i64 lo, .int .i64 hi], .int .i64 n, .int .i64 k]) (v := fun _ => .tuple #[.int .i64 0, .int .i64 1]) (M' := fun _ => Mem w [.blk b1 [.int .i64 lo, .int .i64 hi] 81]) ⟨by kernel_rfl⟩ (fun w_ hM hS => (Fine_neg lo hi n k w_ q hq hq0 hq1 hok hk).mono (by rintro e w' ⟨rfl, hb⟩; exact ⟨(), rfl, hM.step hb, trivial⟩)) (fun _ => ?_)
  refine ops_run (is := [(4, false), (5, false), (6, false), (7, false), (8, false)]) (r := []) (l' := [(14, .int .i64 1), (13, .int .i64 0), (12, .int .i64 0), (11, .int .i64 (shareV (min (max v lo) hi - lo) (q - 1) (hi - lo))), (4, .pointer (some ⟨b1, 0, none⟩)), (1, .int .i64 n), (2, .int .i64 v), (3, .int .i64 k)]) [14, 13, 12, 11, 4, 1, 2, 3] (by kernel_rfl) ?_
  refine ops_nil ?_
  refine fin_then ?_
  refine st_seq ?_
  refine st_region [(0, false), (1, false), (2, false), (3, false), (4, false), (5, false), (6, false), (7, false)] (by rfl) ?_
  refine ops_mem (d := some 44) (an := [.v (.int .i64 lo), .v (.int .i64 hi)]) (evs := [.load ⟨b1, 0, none⟩ (.int .i64 lo), .load ⟨b1, 1, none⟩ (.int .i64 hi)]) (v := .agg #[.int .i64 lo, .int .i64 hi]) (M' := Mem w [.blk b1 [.int .i64 lo, .int .i64 hi] 81]) ⟨by kernel_rfl⟩ (fun w_ hM hS => ⟨w_, ⟨hM.cell 0 rfl rfl, hM.cell 0 rfl rfl, rfl⟩, hM, trivial⟩) ?_
  refine ops_run (is := [(1, false)]) (r := [(2, false), (3, false), (4, false), (5, false), (6, false), (7, false)]) (l' := [(45, .int .i64 n), (44, .agg #[.int .i64 lo, .int .i64 hi]), (14, .int .i64 1), (13, .int .i64 0), (12, .int .i64 0), (11, .int .i64 (shareV (min (max v lo) hi - lo) (q - 1) (hi - lo))), (4, .pointer (some ⟨b1, 0, none⟩)), (1, .int .i64 n), (2, .int .i64 v), (3, .int .i64 k)]) [45, 44, 14, 13, 12, 11, 4, 1, 2, 3] (by kernel_rfl) ?_
  refine ops_call (σ := Unit) (d := some 46) (f := 58) (args := #[.agg #[.int .i64 lo, .int .i64 hi], .int .i64 n]) (v := fun _ => .tuple #[.int .i64 ((hi - lo + (q - 1) - 1) / (q - 1) / 2 + 1), .int .i64 0]) (M' := fun _ => Mem w [.blk b1 [.int .i64 lo, .int .i64 hi] 81]) ⟨by kernel_rfl⟩ (fun w_ hM hS => (Bound_ok lo hi n w_ q hq hq0 hq1 hok).mono (by rintro e w' ⟨rfl, hb⟩; exact ⟨(), rfl, hM.step hb, trivial⟩)) (fun _ => ?_)
  refine ops_run (is := [(3, false), (4, false), (5, false), (6, false), (7, false)]) (r := []) (l' := [(16, .int .i64 0), (15, .int .i64 ((hi - lo + (q - 1) - 1) / (q - 1) / 2 + 1)), (14, .int .i64 1), (13, .int .i64 0), (12, .int .i64 0), (11, .int .i64 (shareV (min (max v lo) hi - lo) (q - 1) (hi - lo))), (4, .pointer (some ⟨b1, 0, none⟩)), (1, .int .i64 n), (2, .int .i64 v), (3, .int .i64 k)]) [16, 15, 14, 13, 12, 11, 4, 1, 2, 3] (by kernel_rfl) ?_
  refine ops_nil ?_
  refine fin_then ?_
  refine st_seq ?_
  refine st_seq ?_
  refine st_region [(0, false), (1, false), (2, false), (3, false)] (by rfl) ?_
  refine ops_mem (d := some 49) (an := [.v (.int .i64 lo), .v (.int .i64 hi)]) (evs := [.load ⟨b1, 0, none⟩ (.int .i64 lo), .load ⟨b1, 1, none⟩ (.int .i64 hi)]) (v := .agg #[.int .i64 lo, .int .i64 hi]) (M' := Mem w [.blk b1 [.int .i64 lo, .int .i64 hi] 81]) ⟨by kernel_rfl⟩ (fun w_ hM hS => ⟨w_, ⟨hM.cell 0 rfl rfl, hM.cell 0 rfl rfl, rfl⟩, hM, trivial⟩) ?_
  refine ops_run (is := [(1, false)]) (r := [(2, false), (3, false)]) (l' := [(50, .int .i64 n), (49, .agg #[.int .i64 lo, .int .i64 hi]), (16, .int .i64 0), (15, .int .i64 ((hi - lo + (q - 1) - 1) / (q - 1) / 2 + 1)), (14, .int .i64 1), (13, .int .i64 0), (12, .int .i64 0), (11, .int .i64 (shareV (min (max v lo) hi - lo) (q - 1) (hi - lo))), (4, .pointer (some ⟨b1, 0, none⟩)), (1, .int .i64 n), (2, .int .i64 v), (3, .int .i64 k)]) [50, 49, 16, 15, 14, 13, 12, 11, 4, 1, 2, 3] (by kernel_rfl) ?_
  refine ops_call (σ := Unit) (d := some 51) (f := 59) (args := #[.agg #[.int .i64 lo, .int .i64 hi], .int .i64 n]) (v := fun _ => .bool true) (M' := fun _ => Mem w [.blk b1 [.int .i64 lo, .int .i64 hi] 81]) ⟨by kernel_rfl⟩ (fun w_ hM hS => (SpanIs_ok lo hi n w_ hok).mono (by rintro e w' ⟨rfl, hb⟩; exact ⟨(), rfl, hM.step hb, trivial⟩)) (fun _ => ?_)
  refine ops_run (is := [(3, false)]) (r := []) (l' := [(52, .bool false), (16, .int .i64 0), (15, .int .i64 ((hi - lo + (q - 1) - 1) / (q - 1) / 2 + 1)), (14, .int .i64 1), (13, .int .i64 0), (12, .int .i64 0), (11, .int .i64 (shareV (min (max v lo) hi - lo) (q - 1) (hi - lo))), (4, .pointer (some ⟨b1, 0, none⟩)), (1, .int .i64 n), (2, .int .i64 v), (3, .int .i64 k)]) [52, 16, 15, 14, 13, 12, 11, 4, 1, 2, 3] (by kernel_rfl) ?_
  refine ops_nil ?_
  refine fin_then ?_
  refine st_false rfl ?_
  refine st_skip ?_
  refine fin_then ?_
  refine st_seq ?_
  refine st_region [(0, false), (1, false), (2, false), (3, false)] (by rfl) ?_
  refine ops_run (is := [(0, false)]) (r := [(1, false), (2, false), (3, false)]) (l' := [(77, .int .i64 n), (16, .int .i64 0), (15, .int .i64 ((hi - lo + (q - 1) - 1) / (q - 1) / 2 + 1)), (14, .int .i64 1), (13, .int .i64 0), (12, .int .i64 0), (11, .int .i64 (shareV (min (max v lo) hi - lo) (q - 1) (hi - lo))), (4, .pointer (some ⟨b1, 0, none⟩)), (1, .int .i64 n), (2, .int .i64 v), (3, .int .i64 k)]) [77, 16, 15, 14, 13, 12, 11, 4, 1, 2, 3] (by kernel_rfl) ?_
  refine ops_val (op := (Go.Op.binOp Go.BinOp.shl 3 (Go.Operand.const (Go.Value.int Go.IntKind.i64 1)) (Go.Operand.tmp 77) 3)) (d := some 78) (v := .int .i64 (IntKind.i64.wrap (1 * 2 ^ min (n).toNat 64))) ⟨by kernel_rfl⟩ (run_shl rfl rfl (by omega)) ?_
  refine ops_run (is := []) (r := [(2, false), (3, false)]) (l' := [(78, .int .i64 (IntKind.i64.wrap (1 * 2 ^ min (n).toNat 64))), (16, .int .i64 0), (15, .int .i64 ((hi - lo + (q - 1) - 1) / (q - 1) / 2 + 1)), (14, .int .i64 1), (13, .int .i64 0), (12, .int .i64 0), (11, .int .i64 (shareV (min (max v lo) hi - lo) (q - 1) (hi - lo))), (4, .pointer (some ⟨b1, 0, none⟩)), (1, .int .i64 n), (2, .int .i64 v), (3, .int .i64 k)]) [78, 16, 15, 14, 13, 12, 11, 4, 1, 2, 3] (by kernel_rfl) ?_
  refine ops_conv (l' := [(78, .int .i64 q), (16, .int .i64 0), (15, .int .i64 ((hi - lo + (q - 1) - 1) / (q - 1) / 2 + 1)), (14, .int .i64 1), (13, .int .i64 0), (12, .int .i64 0), (11, .int .i64 (shareV (min (max v lo) hi - lo) (q - 1) (hi - lo))), (4, .pointer (some ⟨b1, 0, none⟩)), (1, .int .i64 n), (2, .int .i64 v), (3, .int .i64 k)]) (by rw [hq]) (fun _ h => h) ?_
  refine ops_run (is := [(2, false)]) (r := [(3, false)]) (l' := [(79, .int .i64 (IntKind.i64.wrap (q - 1))), (16, .int .i64 0), (15, .int .i64 ((hi - lo + (q - 1) - 1) / (q - 1) / 2 + 1)), (14, .int .i64 1), (13, .int .i64 0), (12, .int .i64 0), (11, .int .i64 (shareV (min (max v lo) hi - lo) (q - 1) (hi - lo))), (4, .pointer (some ⟨b1, 0, none⟩)), (1, .int .i64 n), (2, .int .i64 v), (3, .int .i64 k)]) [79, 16, 15, 14, 13, 12, 11, 4, 1, 2, 3] (by kernel_rfl) ?_
  refine ops_conv (l' := [(79, .int .i64 (q - 1)), (16, .int .i64 0), (15, .int .i64 ((hi - lo + (q - 1) - 1) / (q - 1) / 2 + 1)), (14, .int .i64 1), (13, .int .i64 0), (12, .int .i64 0), (11, .int .i64 (shareV (min (max v lo) hi - lo) (q - 1) (hi - lo))), (4, .pointer (some ⟨b1, 0, none⟩)), (1, .int .i64 n), (2, .int .i64 v), (3, .int .i64 k)]) (by rw [(i64in (x := q - 1) (by omega) (by omega))]) (fun _ h => h) ?_
  refine ops_run (is := [(3, false)]) (r := []) (l' := [(17, .int .i64 (q - 1)), (16, .int .i64 0), (15, .int .i64 ((hi - lo + (q - 1) - 1) / (q - 1) / 2 + 1)), (14, .int .i64 1), (13, .int .i64 0), (12, .int .i64 0), (11, .int .i64 (shareV (min (max v lo) hi - lo) (q - 1) (hi - lo))), (4, .pointer (some ⟨b1, 0, none⟩)), (1, .int .i64 n), (2, .int .i64 v), (3, .int .i64 k)]) [17, 16, 15, 14, 13, 12, 11, 4, 1, 2, 3] (by kernel_rfl) ?_
  refine ops_nil ?_
  refine fin_then ?_
  refine st_seq ?_
  refine st_seq ?_
  refine st_region [(0, false), (1, false), (2, false), (3, false), (4, false), (5, false), (6, false), (7, false), (8, false), (9, false), (10, false), (11, false), (12, false), (13, false), (14, false), (15, false), (16, false), (17, false), (18, false), (19, false), (20, false), (21, false), (22, false), (23, false), (24, false), (25, false), (26, false), (27, false), (28, false), (29, false)] (by rfl) ?_
  refine ops_run (is := [(0, false), (1, false), (2, false), (3, false), (4, false), (5, false), (6, false), (7, false)]) (r := [(8, false), (9, false), (10, false), (11, false), (12, false), (13, false), (14, false), (15, false), (16, false), (17, false), (18, false), (19, false), (20, false), (21, false), (22, false), (23, false), (24, false), (25, false), (26, false), (27, false), (28, false), (29, false)]) (l' := [(87, .int .i64 (shareV (min (max v lo) hi - lo) (q - 1) (hi - lo))), (86, .bool false), (17, .int .i64 (q - 1)), (15, .int .i64 ((hi - lo + (q - 1) - 1) / (q - 1) / 2 + 1)), (14, .int .i64 1), (13, .int .i64 0), (4, .pointer (some ⟨b1, 0, none⟩)), (1, .int .i64 n), (2, .int .i64 v), (3, .int .i64 k)]) [87, 86, 17, 15, 14, 13, 4, 1, 2, 3] (by kernel_rfl) ?_
  refine ops_mem (d := some 88) (an := [.v (.int .i64 lo), .v (.int .i64 hi)]) (evs := [.load ⟨b1, 0, none⟩ (.int .i64 lo), .load ⟨b1, 1, none⟩ (.int .i64 hi)]) (v := .agg #[.int .i64 lo, .int .i64 hi]) (M' := Mem w [.blk b1 [.int .i64 lo, .int .i64 hi] 81]) ⟨by kernel_rfl⟩ (fun w_ hM hS => ⟨w_, ⟨hM.cell 0 rfl rfl, hM.cell 0 rfl rfl, rfl⟩, hM, trivial⟩) ?_
  refine ops_run (is := [(9, false), (10, false)]) (r := [(11, false), (12, false), (13, false), (14, false), (15, false), (16, false), (17, false), (18, false), (19, false), (20, false), (21, false), (22, false), (23, false), (24, false), (25, false), (26, false), (27, false), (28, false), (29, false)]) (l' := [(90, .int .i64 v), (89, .int .i64 n), (88, .agg #[.int .i64 lo, .int .i64 hi]), (87, .int .i64 (shareV (min (max v lo) hi - lo) (q - 1) (hi - lo))), (86, .bool false), (17, .int .i64 (q - 1)), (15, .int .i64 ((hi - lo + (q - 1) - 1) / (q - 1) / 2 + 1)), (14, .int .i64 1), (13, .int .i64 0), (4, .pointer (some ⟨b1, 0, none⟩)), (1, .int .i64 n), (3, .int .i64 k)]) [90, 89, 88, 87, 86, 17, 15, 14, 13, 4, 1, 3] (by kernel_rfl) ?_
  refine ops_call (σ := Unit) (d := some 91) (f := 60) (args := #[.agg #[.int .i64 lo, .int .i64 hi], .int .i64 n, .int .i64 v]) (v := fun _ => .int .i64 (shareV (min (max v lo) hi - lo) (q - 1) (hi - lo))) (M' := fun _ => Mem w [.blk b1 [.int .i64 lo, .int .i64 hi] 81]) ⟨by kernel_rfl⟩ (fun w_ hM hS => (Coarsened_ok lo hi n v w_ q hq hq0 hq1 hok).mono (by rintro e w' ⟨rfl, hb⟩; exact ⟨(), rfl, hM.step hb, trivial⟩)) (fun _ => ?_)
  refine ops_run (is := []) (r := [(12, false), (13, false), (14, false), (15, false), (16, false), (17, false), (18, false), (19, false), (20, false), (21, false), (22, false), (23, false), (24, false), (25, false), (26, false), (27, false), (28, false), (29, false)]) (l' := [(91, .int .i64 (shareV (min (max v lo) hi - lo) (q - 1) (hi - lo))), (87, .int .i64 (shareV (min (max v lo) hi - lo) (q - 1) (hi - lo))), (86, .bool false), (17, .int .i64 (q - 1)), (15, .int .i64 ((hi - lo + (q - 1) - 1) / (q - 1) / 2 + 1)), (14, .int .i64 1), (13, .int .i64 0), (4, .pointer (some ⟨b1, 0, none⟩)), (1, .int .i64 n), (3, .int .i64 k)]) [91, 87, 86, 17, 15, 14, 13, 4, 1, 3] (by kernel_rfl) ?_
  refine ops_val (op := (Go.Op.binOp Go.BinOp.neq 3 (Go.Operand.tmp 87) (Go.Operand.tmp 91) 3)) (d := some 92) (v := .bool false) ⟨by kernel_rfl⟩ (run_neq_same rfl rfl) ?_
  refine ops_run (is := [(13, false), (14, false), (15, false), (16, false)]) (r := [(17, false), (18, false), (19, false), (20, false), (21, false), (22, false), (23, false), (24, false), (25, false), (26, false), (27, false), (28, false), (29, false)]) (l' := [(96, .pointer (some ⟨b1, 1, none⟩)), (95, .int .i64 ((hi - lo + (q - 1) - 1) / (q - 1) / 2 + 1)), (94, .bool false), (17, .int .i64 (q - 1)), (14, .int .i64 1), (13, .int .i64 0), (4, .pointer (some ⟨b1, 0, none⟩)), (1, .int .i64 n), (3, .int .i64 k)]) [96, 95, 94, 17, 14, 13, 4, 1, 3] (by kernel_rfl) ?_
  refine ops_mem (d := some 97) (an := [.v (.int .i64 hi)]) (evs := [.load ⟨b1, 1, none⟩ (.int .i64 hi)]) (v := .int .i64 hi) (M' := Mem w [.blk b1 [.int .i64 lo, .int .i64 hi] 81]) ⟨by kernel_rfl⟩ (fun w_ hM hS => ⟨w_, ⟨hM.cell 0 rfl rfl, rfl⟩, hM, trivial⟩) ?_
  refine ops_run (is := [(18, false)]) (r := [(19, false), (20, false), (21, false), (22, false), (23, false), (24, false), (25, false), (26, false), (27, false), (28, false), (29, false)]) (l' := [(98, .pointer (some ⟨b1, 0, none⟩)), (97, .int .i64 hi), (95, .int .i64 ((hi - lo + (q - 1) - 1) / (q - 1) / 2 + 1)), (94, .bool false), (17, .int .i64 (q - 1)), (14, .int .i64 1), (13, .int .i64 0), (4, .pointer (some ⟨b1, 0, none⟩)), (1, .int .i64 n), (3, .int .i64 k)]) [98, 97, 95, 94, 17, 14, 13, 4, 1, 3] (by kernel_rfl) ?_
  refine ops_mem (d := some 99) (an := [.v (.int .i64 lo)]) (evs := [.load ⟨b1, 0, none⟩ (.int .i64 lo)]) (v := .int .i64 lo) (M' := Mem w [.blk b1 [.int .i64 lo, .int .i64 hi] 81]) ⟨by kernel_rfl⟩ (fun w_ hM hS => ⟨w_, ⟨hM.cell 0 rfl rfl, rfl⟩, hM, trivial⟩) ?_
  refine ops_run (is := [(20, false)]) (r := [(21, false), (22, false), (23, false), (24, false), (25, false), (26, false), (27, false), (28, false), (29, false)]) (l' := [(100, .int .i64 (IntKind.i64.wrap (hi - lo))), (95, .int .i64 ((hi - lo + (q - 1) - 1) / (q - 1) / 2 + 1)), (94, .bool false), (17, .int .i64 (q - 1)), (14, .int .i64 1), (13, .int .i64 0), (4, .pointer (some ⟨b1, 0, none⟩)), (1, .int .i64 n), (3, .int .i64 k)]) [100, 95, 94, 17, 14, 13, 4, 1, 3] (by kernel_rfl) ?_
  refine ops_conv (l' := [(100, .int .i64 (hi - lo)), (95, .int .i64 ((hi - lo + (q - 1) - 1) / (q - 1) / 2 + 1)), (94, .bool false), (17, .int .i64 (q - 1)), (14, .int .i64 1), (13, .int .i64 0), (4, .pointer (some ⟨b1, 0, none⟩)), (1, .int .i64 n), (3, .int .i64 k)]) (by rw [(i64in (x := hi - lo) (by omega) (by omega))]) (fun _ h => h) ?_
  refine ops_run (is := [(21, false), (22, false)]) (r := [(23, false), (24, false), (25, false), (26, false), (27, false), (28, false), (29, false)]) (l' := [(102, .int .i64 (IntKind.i64.wrap ((hi - lo) + (q - 1)))), (95, .int .i64 ((hi - lo + (q - 1) - 1) / (q - 1) / 2 + 1)), (94, .bool false), (17, .int .i64 (q - 1)), (14, .int .i64 1), (13, .int .i64 0), (4, .pointer (some ⟨b1, 0, none⟩)), (1, .int .i64 n), (3, .int .i64 k)]) [102, 95, 94, 17, 14, 13, 4, 1, 3] (by kernel_rfl) ?_
  refine ops_conv (l' := [(102, .int .i64 ((hi - lo) + (q - 1))), (95, .int .i64 ((hi - lo + (q - 1) - 1) / (q - 1) / 2 + 1)), (94, .bool false), (17, .int .i64 (q - 1)), (14, .int .i64 1), (13, .int .i64 0), (4, .pointer (some ⟨b1, 0, none⟩)), (1, .int .i64 n), (3, .int .i64 k)]) (by rw [(i64in (x := (hi - lo) + (q - 1)) (by omega) (by omega))]) (fun _ h => h) ?_
  refine ops_run (is := [(23, false)]) (r := [(24, false), (25, false), (26, false), (27, false), (28, false), (29, false)]) (l' := [(103, .int .i64 (IntKind.i64.wrap (((hi - lo) + (q - 1)) - 1))), (95, .int .i64 ((hi - lo + (q - 1) - 1) / (q - 1) / 2 + 1)), (94, .bool false), (17, .int .i64 (q - 1)), (14, .int .i64 1), (13, .int .i64 0), (4, .pointer (some ⟨b1, 0, none⟩)), (1, .int .i64 n), (3, .int .i64 k)]) [103, 95, 94, 17, 14, 13, 4, 1, 3] (by kernel_rfl) ?_
  refine ops_conv (l' := [(103, .int .i64 (((hi - lo) + (q - 1)) - 1)), (95, .int .i64 ((hi - lo + (q - 1) - 1) / (q - 1) / 2 + 1)), (94, .bool false), (17, .int .i64 (q - 1)), (14, .int .i64 1), (13, .int .i64 0), (4, .pointer (some ⟨b1, 0, none⟩)), (1, .int .i64 n), (3, .int .i64 k)]) (by rw [(i64in (x := ((hi - lo) + (q - 1)) - 1) (by omega) (by omega))]) (fun _ h => h) ?_
  refine ops_run (is := [(24, false)]) (r := [(25, false), (26, false), (27, false), (28, false), (29, false)]) (l' := [(104, .int .i64 (q - 1)), (103, .int .i64 (((hi - lo) + (q - 1)) - 1)), (95, .int .i64 ((hi - lo + (q - 1) - 1) / (q - 1) / 2 + 1)), (94, .bool false), (17, .int .i64 (q - 1)), (14, .int .i64 1), (13, .int .i64 0), (4, .pointer (some ⟨b1, 0, none⟩)), (1, .int .i64 n), (3, .int .i64 k)]) [104, 103, 95, 94, 17, 14, 13, 4, 1, 3] (by kernel_rfl) ?_
  refine ops_val (op := (Go.Op.binOp Go.BinOp.quo 3 (Go.Operand.tmp 103) (Go.Operand.tmp 104) 3)) (d := some 105) (v := .int .i64 (IntKind.i64.wrap (Int.tdiv (((hi - lo) + (q - 1)) - 1) (q - 1)))) ⟨by kernel_rfl⟩ (run_quo rfl rfl (by omega)) ?_
  refine ops_run (is := []) (r := [(26, false), (27, false), (28, false), (29, false)]) (l' := [(105, .int .i64 (IntKind.i64.wrap (Int.tdiv (((hi - lo) + (q - 1)) - 1) (q - 1)))), (95, .int .i64 ((hi - lo + (q - 1) - 1) / (q - 1) / 2 + 1)), (94, .bool false), (17, .int .i64 (q - 1)), (14, .int .i64 1), (13, .int .i64 0), (4, .pointer (some ⟨b1, 0, none⟩)), (1, .int .i64 n), (3, .int .i64 k)]) [105, 95, 94, 17, 14, 13, 4, 1, 3] (by kernel_rfl) ?_
  refine ops_conv (l' := [(105, .int .i64 ((hi - lo + (q - 1) - 1) / (q - 1))), (95, .int .i64 ((hi - lo + (q - 1) - 1) / (q - 1) / 2 + 1)), (94, .bool false), (17, .int .i64 (q - 1)), (14, .int .i64 1), (13, .int .i64 0), (4, .pointer (some ⟨b1, 0, none⟩)), (1, .int .i64 n), (3, .int .i64 k)]) (by rw [hb5]) (fun _ h => h) ?_
  refine ops_run (is := [(26, false)]) (r := [(27, false), (28, false), (29, false)]) (l' := [(106, .int .i64 (IntKind.i64.wrap (Int.tdiv ((hi - lo + (q - 1) - 1) / (q - 1)) 2))), (95, .int .i64 ((hi - lo + (q - 1) - 1) / (q - 1) / 2 + 1)), (94, .bool false), (17, .int .i64 (q - 1)), (14, .int .i64 1), (13, .int .i64 0), (4, .pointer (some ⟨b1, 0, none⟩)), (1, .int .i64 n), (3, .int .i64 k)]) [106, 95, 94, 17, 14, 13, 4, 1, 3] (by kernel_rfl) ?_
  refine ops_conv (l' := [(106, .int .i64 ((hi - lo + (q - 1) - 1) / (q - 1) / 2)), (95, .int .i64 ((hi - lo + (q - 1) - 1) / (q - 1) / 2 + 1)), (94, .bool false), (17, .int .i64 (q - 1)), (14, .int .i64 1), (13, .int .i64 0), (4, .pointer (some ⟨b1, 0, none⟩)), (1, .int .i64 n), (3, .int .i64 k)]) (by rw [hb6]) (fun _ h => h) ?_
  refine ops_run (is := [(27, false)]) (r := [(28, false), (29, false)]) (l' := [(107, .int .i64 (IntKind.i64.wrap (((hi - lo + (q - 1) - 1) / (q - 1) / 2) + 1))), (95, .int .i64 ((hi - lo + (q - 1) - 1) / (q - 1) / 2 + 1)), (94, .bool false), (17, .int .i64 (q - 1)), (14, .int .i64 1), (13, .int .i64 0), (4, .pointer (some ⟨b1, 0, none⟩)), (1, .int .i64 n), (3, .int .i64 k)]) [107, 95, 94, 17, 14, 13, 4, 1, 3] (by kernel_rfl) ?_
  refine ops_conv (l' := [(107, .int .i64 (((hi - lo + (q - 1) - 1) / (q - 1) / 2) + 1)), (95, .int .i64 ((hi - lo + (q - 1) - 1) / (q - 1) / 2 + 1)), (94, .bool false), (17, .int .i64 (q - 1)), (14, .int .i64 1), (13, .int .i64 0), (4, .pointer (some ⟨b1, 0, none⟩)), (1, .int .i64 n), (3, .int .i64 k)]) (by rw [(i64in (x := ((hi - lo + (q - 1) - 1) / (q - 1) / 2) + 1) (by omega) (by omega))]) (fun _ h => h) ?_
  refine ops_val (op := (Go.Op.binOp Go.BinOp.neq 3 (Go.Operand.tmp 95) (Go.Operand.tmp 107) 3)) (d := some 108) (v := .bool false) ⟨by kernel_rfl⟩ (run_neq_same rfl rfl) ?_
  refine ops_run (is := [(29, false)]) (r := []) (l' := [(109, .bool false), (17, .int .i64 (q - 1)), (14, .int .i64 1), (13, .int .i64 0), (4, .pointer (some ⟨b1, 0, none⟩)), (1, .int .i64 n), (3, .int .i64 k)]) [109, 17, 14, 13, 4, 1, 3] (by kernel_rfl) ?_
  refine ops_nil ?_
  refine fin_then ?_
  refine st_false rfl ?_
  refine st_skip ?_
  refine fin_then ?_
  refine st_seq ?_
  refine st_seq ?_
  refine st_region [(0, false), (1, false), (2, false), (3, false), (4, false), (5, false), (6, false)] (by rfl) ?_
  refine ops_run (is := [(0, false), (1, false), (2, false)]) (r := [(3, false), (4, false), (5, false), (6, false)]) (l' := [(112, .bool (decide (k < 0))), (17, .int .i64 (q - 1)), (14, .int .i64 1), (13, .int .i64 0), (4, .pointer (some ⟨b1, 0, none⟩)), (1, .int .i64 n), (3, .int .i64 k)]) [112, 17, 14, 13, 4, 1, 3] (by kernel_rfl) ?_
  refine ops_conv (l' := [(112, .bool true), (17, .int .i64 (q - 1)), (14, .int .i64 1), (13, .int .i64 0), (4, .pointer (some ⟨b1, 0, none⟩)), (1, .int .i64 n), (3, .int .i64 k)]) (by rw [hf1]) (fun _ h => h) ?_
  refine ops_run (is := [(3, false), (4, false), (5, false), (6, false)]) (r := []) (l' := [(116, .bool true), (14, .int .i64 1), (13, .int .i64 0), (4, .pointer (some ⟨b1, 0, none⟩)), (1, .int .i64 n), (3, .int .i64 k)]) [116, 14, 13, 4, 1, 3] (by kernel_rfl) ?_
  refine ops_nil ?_
  refine fin_then ?_
  refine st_true rfl ?_
  refine st_seq ?_
  refine st_region [(0, false), (1, false), (2, false), (3, false), (4, false), (5, false), (6, false)] (by rfl) ?_
  refine ops_run (is := [(0, false), (1, false), (2, false), (3, false), (4, false), (5, false), (6, false)]) (r := []) (l' := [(8, .bool true)]) [8] (by kernel_rfl) ?_
  refine ops_nil ?_
  refine fin_then ?_
  refine st_ret ?_
  refine fin_ret_then ?_
  refine fin_ret [.tmp 8] [.bool true] rfl rfl (fun w_ hM => (.tmp rfl .nil)) (fun w_ hM => ?_)
  refine ⟨?_, hM.done⟩
  rfl
set_option maxRecDepth 100000 in
theorem QuantCoarse_big (lo hi n v k : Int) (w : World) (q : Int) (hq : IntKind.i64.wrap (1 * 2 ^ min n.toNat 64) = q) (hq0 : 2 ≤ q) (hq1 : q ≤ 4294967296) (hok : lo < hi ∧ -1099511627776 ≤ lo ∧ lo ≤ 1099511627776 ∧ -1099511627776 ≤ hi ∧ hi ≤ 1099511627776 ∧ 1 ≤ n ∧ n ≤ 32) (hk0 : 0 ≤ k) (hk1 : q ≤ k) : Calls Try.prog 11 #[.agg #[.int .i64 lo, .int .i64 hi], .int .i64 n, .int .i64 v, .int .i64 k] w fun e w' => e = .returned (.bool true) ∧ Below w.heap.size w w' := by
  have hq2 : q - 1 ≠ 0 := by omega
  have hb1 : Int.tdiv (hi - lo + (q - 1) - 1) (q - 1) = (hi - lo + (q - 1) - 1) / (q - 1) := Int.tdiv_eq_ediv_of_nonneg (by omega)
  have hb2 : 0 ≤ (hi - lo + (q - 1) - 1) / (q - 1) := Int.ediv_nonneg (by omega) (by omega)
  have hb3 : (hi - lo + (q - 1) - 1) / (q - 1) ≤ hi - lo + (q - 1) - 1 := Int.ediv_le_self _ (by omega)
  have hb4 : Int.tdiv ((hi - lo + (q - 1) - 1) / (q - 1)) 2 = (hi - lo + (q - 1) - 1) / (q - 1) / 2 := Int.tdiv_eq_ediv_of_nonneg hb2
  have hb5 : IntKind.i64.wrap (Int.tdiv (hi - lo + (q - 1) - 1) (q - 1)) = (hi - lo + (q - 1) - 1) / (q - 1) := by rw [hb1]; exact i64in (by omega) (by omega)
  have hb6 : IntKind.i64.wrap (Int.tdiv ((hi - lo + (q - 1) - 1) / (q - 1)) 2) = (hi - lo + (q - 1) - 1) / (q - 1) / 2 := by rw [hb4]; exact i64in (by omega) (by omega)
  have hf1 : decide (k < 0) = false := by simp; omega
  have hf2 : decide (q - 1 < k) = true := by simp; omega
  refine sx_calls Try.func11 rfl (n := 133) (by kernel_rfl) (l := [(0, .agg #[.int .i64 lo, .int .i64 hi]), (1, .int .i64 n), (2, .int .i64 v), (3, .int .i64 k)]) rfl (by rfl) (Mem.nil w) ?_
  refine st_seq ?_
  refine st_region [(0, false), (1, false)] (by rfl) ?_
  refine ops_new (d := some 4) (o := .cells #[.int .i64 lo, .int .i64 hi] 81) (v := fun b1 => .pointer (some ⟨b1, 0, none⟩)) (M' := fun b1 => Mem w [.blk b1 [.int .i64 lo, .int .i64 hi] 81]) (fun b1 => ⟨by kernel_rfl⟩) (fun w_ hM hS => ⟨hM.blk [.int .i64 lo, .int .i64 hi] 81, trivial⟩) (fun b1 => ?_)
  refine ops_run (is := [(1, false)]) (r := []) (l' := [(4, .pointer (some ⟨b1, 0, none⟩)), (1, .int .i64 n), (2, .int .i64 v), (3, .int .i64 k)]) [4, 1, 2, 3] (by kernel_rfl) ?_
  refine ops_nil ?_
  refine fin_then ?_
  refine st_seq ?_
  refine st_seq ?_
  refine st_region [(0, false), (1, false), (2, false), (3, false), (4, false), (5, false), (6, false)] (by rfl) ?_
  refine ops_run (is := [(0, false)]) (r := [(1, false), (2, false), (3, false), (4, false), (5, false), (6, false)]) (l' := [(19, .agg #[.int .i64 0, .int .i64 4]), (4, .pointer (some ⟨b1, 0, none⟩)), (1, .int .i64 n), (2, .int .i64 v), (3, .int .i64 k)]) [19, 4, 1, 2, 3] (by kernel_rfl) ?_
  refine ops_call (σ := Unit) (d := some 20) (f := 56) (args := #[.agg #[.int .i64 0, .int .i64 4], .int .i64 1, .int .i64 2]) (v := fun _ => .tuple #[.int .i64 1, .int .i64 0]) (M' := fun _ => Mem w [.blk b1 [.int .i64 lo, .int .i64 hi] 81]) ⟨by kernel_rfl⟩ (fun w_ hM hS => (Coarse_begun w_).mono (by rintro e w' ⟨rfl, hb⟩; exact ⟨(), rfl, hM.step hb, trivial⟩)) (fun _ => ?_)
  refine ops_run (is := [(2, false), (3, false), (4, false), (5, false), (6, false)]) (r := []) (l' := [(10, .int .i64 0), (9, .int .i64 1), (4, .pointer (some ⟨b1, 0, none⟩)), (1, .int .i64 n), (2, .int .i64 v), (3, .int .i64 k)]) [10, 9, 4, 1, 2, 3] (by kernel_rfl) ?_
  refine ops_nil ?_
  refine fin_then ?_
  refine st_seq ?_
  refine st_region [(0, false), (1, false), (2, false), (3, false), (4, false), (5, false)] (by rfl) ?_
  refine ops_run (is := [(0, false), (1, false), (2, false), (3, false), (4, false), (5, false)]) (r := []) (l' := [(28, .bool false), (4, .pointer (some ⟨b1, 0, none⟩)), (1, .int .i64 n), (2, .int .i64 v), (3, .int .i64 k)]) [28, 4, 1, 2, 3] (by kernel_rfl) ?_
  refine ops_nil ?_
  refine fin_then ?_
  refine st_false rfl ?_
  refine st_skip ?_
  refine fin_then ?_
  refine st_seq ?_
  refine st_region [(0, false), (1, false), (2, false), (3, false), (4, false), (5, false), (6, false), (7, false), (8, false)] (by rfl) ?_
  refine ops_run (is := []) (r := [(0, false), (1, false), (2, false), (3, false), (4, false), (5, false), (6, false), (7, false), (8, false)]) (l' := [(4, .pointer (some ⟨b1, 0, none⟩)), (1, .int .i64 n), (2, .int .i64 v), (3, .int .i64 k)]) [4, 1, 2, 3] (by kernel_rfl) ?_
  refine ops_mem (d := some 30) (an := [.v (.int .i64 lo), .v (.int .i64 hi)]) (evs := [.load ⟨b1, 0, none⟩ (.int .i64 lo), .load ⟨b1, 1, none⟩ (.int .i64 hi)]) (v := .agg #[.int .i64 lo, .int .i64 hi]) (M' := Mem w [.blk b1 [.int .i64 lo, .int .i64 hi] 81]) ⟨by kernel_rfl⟩ (fun w_ hM hS => ⟨w_, ⟨hM.cell 0 rfl rfl, hM.cell 0 rfl rfl, rfl⟩, hM, trivial⟩) ?_
  refine ops_run (is := [(1, false), (2, false)]) (r := [(3, false), (4, false), (5, false), (6, false), (7, false), (8, false)]) (l' := [(32, .int .i64 v), (31, .int .i64 n), (30, .agg #[.int .i64 lo, .int .i64 hi]), (4, .pointer (some ⟨b1, 0, none⟩)), (1, .int .i64 n), (2, .int .i64 v), (3, .int .i64 k)]) [32, 31, 30, 4, 1, 2, 3] (by kernel_rfl) ?_
  refine ops_call (σ := Unit) (d := some 33) (f := 56) (args := #[.agg #[.int .i64 lo, .int .i64 hi], .int .i64 n, .int .i64 v]) (v := fun _ => .tuple #[.int .i64 (shareV (min (max v lo) hi - lo) (q - 1) (hi - lo)), .int .i64 0]) (M' := fun _ => Mem w [.blk b1 [.int .i64 lo, .int .i64 hi] 81]) ⟨by kernel_rfl⟩ (fun w_ hM hS => (Coarse_ok lo hi n v w_ q hq hq0 hq1 hok).mono (by rintro e w' ⟨rfl, hb⟩; exact ⟨(), rfl, hM.step hb, trivial⟩)) (fun _ => ?_)
  refine ops_run (is := [(4, false), (5, false), (6, false), (7, false), (8, false)]) (r := []) (l' := [(12, .int .i64 0), (11, .int .i64 (shareV (min (max v lo) hi - lo) (q - 1) (hi - lo))), (4, .pointer (some ⟨b1, 0, none⟩)), (1, .int .i64 n), (2, .int .i64 v), (3, .int .i64 k)]) [12, 11, 4, 1, 2, 3] (by kernel_rfl) ?_
  refine ops_nil ?_
  refine fin_then ?_
  refine st_seq ?_
  refine st_region [(0, false), (1, false), (2, false), (3, false), (4, false), (5, false), (6, false), (7, false), (8, false)] (by rfl) ?_
  refine ops_mem (d := some 37) (an := [.v (.int .i64 lo), .v (.int .i64 hi)]) (evs := [.load ⟨b1, 0, none⟩ (.int .i64 lo), .load ⟨b1, 1, none⟩ (.int .i64 hi)]) (v := .agg #[.int .i64 lo, .int .i64 hi]) (M' := Mem w [.blk b1 [.int .i64 lo, .int .i64 hi] 81]) ⟨by kernel_rfl⟩ (fun w_ hM hS => ⟨w_, ⟨hM.cell 0 rfl rfl, hM.cell 0 rfl rfl, rfl⟩, hM, trivial⟩) ?_
  refine ops_run (is := [(1, false), (2, false)]) (r := [(3, false), (4, false), (5, false), (6, false), (7, false), (8, false)]) (l' := [(39, .int .i64 k), (38, .int .i64 n), (37, .agg #[.int .i64 lo, .int .i64 hi]), (12, .int .i64 0), (11, .int .i64 (shareV (min (max v lo) hi - lo) (q - 1) (hi - lo))), (4, .pointer (some ⟨b1, 0, none⟩)), (1, .int .i64 n), (2, .int .i64 v), (3, .int .i64 k)]) [39, 38, 37, 12, 11, 4, 1, 2, 3] (by kernel_rfl) ?_
  refine ops_call (σ := Unit) (d := some 40) (f := 57) (args := #[.agg #[.int .i64 lo, .int .i64 hi], .int .i64 n, .int .i64 k]) (v := fun _ => .tuple #[.int .i64 0, .int .i64 1]) (M' := fun _ => Mem w [.blk b1 [.int .i64 lo, .int .i64 hi] 81]) ⟨by kernel_rfl⟩ (fun w_ hM hS => (Fine_big lo hi n k w_ q hq hq0 hq1 hok hk0 hk1).mono (by rintro e w' ⟨rfl, hb⟩; exact ⟨(), rfl, hM.step hb, trivial⟩)) (fun _ => ?_)
  refine ops_run (is := [(4, false), (5, false), (6, false), (7, false), (8, false)]) (r := []) (l' := [(14, .int .i64 1), (13, .int .i64 0), (12, .int .i64 0), (11, .int .i64 (shareV (min (max v lo) hi - lo) (q - 1) (hi - lo))), (4, .pointer (some ⟨b1, 0, none⟩)), (1, .int .i64 n), (2, .int .i64 v), (3, .int .i64 k)]) [14, 13, 12, 11, 4, 1, 2, 3] (by kernel_rfl) ?_
  refine ops_nil ?_
  refine fin_then ?_
  refine st_seq ?_
  refine st_region [(0, false), (1, false), (2, false), (3, false), (4, false), (5, false), (6, false), (7, false)] (by rfl) ?_
  refine ops_mem (d := some 44) (an := [.v (.int .i64 lo), .v (.int .i64 hi)]) (evs := [.load ⟨b1, 0, none⟩ (.int .i64 lo), .load ⟨b1, 1, none⟩ (.int .i64 hi)]) (v := .agg #[.int .i64 lo, .int .i64 hi]) (M' := Mem w [.blk b1 [.int .i64 lo, .int .i64 hi] 81]) ⟨by kernel_rfl⟩ (fun w_ hM hS => ⟨w_, ⟨hM.cell 0 rfl rfl, hM.cell 0 rfl rfl, rfl⟩, hM, trivial⟩) ?_
  refine ops_run (is := [(1, false)]) (r := [(2, false), (3, false), (4, false), (5, false), (6, false), (7, false)]) (l' := [(45, .int .i64 n), (44, .agg #[.int .i64 lo, .int .i64 hi]), (14, .int .i64 1), (13, .int .i64 0), (12, .int .i64 0), (11, .int .i64 (shareV (min (max v lo) hi - lo) (q - 1) (hi - lo))), (4, .pointer (some ⟨b1, 0, none⟩)), (1, .int .i64 n), (2, .int .i64 v), (3, .int .i64 k)]) [45, 44, 14, 13, 12, 11, 4, 1, 2, 3] (by kernel_rfl) ?_
  refine ops_call (σ := Unit) (d := some 46) (f := 58) (args := #[.agg #[.int .i64 lo, .int .i64 hi], .int .i64 n]) (v := fun _ => .tuple #[.int .i64 ((hi - lo + (q - 1) - 1) / (q - 1) / 2 + 1), .int .i64 0]) (M' := fun _ => Mem w [.blk b1 [.int .i64 lo, .int .i64 hi] 81]) ⟨by kernel_rfl⟩ (fun w_ hM hS => (Bound_ok lo hi n w_ q hq hq0 hq1 hok).mono (by rintro e w' ⟨rfl, hb⟩; exact ⟨(), rfl, hM.step hb, trivial⟩)) (fun _ => ?_)
  refine ops_run (is := [(3, false), (4, false), (5, false), (6, false), (7, false)]) (r := []) (l' := [(16, .int .i64 0), (15, .int .i64 ((hi - lo + (q - 1) - 1) / (q - 1) / 2 + 1)), (14, .int .i64 1), (13, .int .i64 0), (12, .int .i64 0), (11, .int .i64 (shareV (min (max v lo) hi - lo) (q - 1) (hi - lo))), (4, .pointer (some ⟨b1, 0, none⟩)), (1, .int .i64 n), (2, .int .i64 v), (3, .int .i64 k)]) [16, 15, 14, 13, 12, 11, 4, 1, 2, 3] (by kernel_rfl) ?_
  refine ops_nil ?_
  refine fin_then ?_
  refine st_seq ?_
  refine st_seq ?_
  refine st_region [(0, false), (1, false), (2, false), (3, false)] (by rfl) ?_
  refine ops_mem (d := some 49) (an := [.v (.int .i64 lo), .v (.int .i64 hi)]) (evs := [.load ⟨b1, 0, none⟩ (.int .i64 lo), .load ⟨b1, 1, none⟩ (.int .i64 hi)]) (v := .agg #[.int .i64 lo, .int .i64 hi]) (M' := Mem w [.blk b1 [.int .i64 lo, .int .i64 hi] 81]) ⟨by kernel_rfl⟩ (fun w_ hM hS => ⟨w_, ⟨hM.cell 0 rfl rfl, hM.cell 0 rfl rfl, rfl⟩, hM, trivial⟩) ?_
  refine ops_run (is := [(1, false)]) (r := [(2, false), (3, false)]) (l' := [(50, .int .i64 n), (49, .agg #[.int .i64 lo, .int .i64 hi]), (16, .int .i64 0), (15, .int .i64 ((hi - lo + (q - 1) - 1) / (q - 1) / 2 + 1)), (14, .int .i64 1), (13, .int .i64 0), (12, .int .i64 0), (11, .int .i64 (shareV (min (max v lo) hi - lo) (q - 1) (hi - lo))), (4, .pointer (some ⟨b1, 0, none⟩)), (1, .int .i64 n), (2, .int .i64 v), (3, .int .i64 k)]) [50, 49, 16, 15, 14, 13, 12, 11, 4, 1, 2, 3] (by kernel_rfl) ?_
  refine ops_call (σ := Unit) (d := some 51) (f := 59) (args := #[.agg #[.int .i64 lo, .int .i64 hi], .int .i64 n]) (v := fun _ => .bool true) (M' := fun _ => Mem w [.blk b1 [.int .i64 lo, .int .i64 hi] 81]) ⟨by kernel_rfl⟩ (fun w_ hM hS => (SpanIs_ok lo hi n w_ hok).mono (by rintro e w' ⟨rfl, hb⟩; exact ⟨(), rfl, hM.step hb, trivial⟩)) (fun _ => ?_)
  refine ops_run (is := [(3, false)]) (r := []) (l' := [(52, .bool false), (16, .int .i64 0), (15, .int .i64 ((hi - lo + (q - 1) - 1) / (q - 1) / 2 + 1)), (14, .int .i64 1), (13, .int .i64 0), (12, .int .i64 0), (11, .int .i64 (shareV (min (max v lo) hi - lo) (q - 1) (hi - lo))), (4, .pointer (some ⟨b1, 0, none⟩)), (1, .int .i64 n), (2, .int .i64 v), (3, .int .i64 k)]) [52, 16, 15, 14, 13, 12, 11, 4, 1, 2, 3] (by kernel_rfl) ?_
  refine ops_nil ?_
  refine fin_then ?_
  refine st_false rfl ?_
  refine st_skip ?_
  refine fin_then ?_
  refine st_seq ?_
  refine st_region [(0, false), (1, false), (2, false), (3, false)] (by rfl) ?_
  refine ops_run (is := [(0, false)]) (r := [(1, false), (2, false), (3, false)]) (l' := [(77, .int .i64 n), (16, .int .i64 0), (15, .int .i64 ((hi - lo + (q - 1) - 1) / (q - 1) / 2 + 1)), (14, .int .i64 1), (13, .int .i64 0), (12, .int .i64 0), (11, .int .i64 (shareV (min (max v lo) hi - lo) (q - 1) (hi - lo))), (4, .pointer (some ⟨b1, 0, none⟩)), (1, .int .i64 n), (2, .int .i64 v), (3, .int .i64 k)]) [77, 16, 15, 14, 13, 12, 11, 4, 1, 2, 3] (by kernel_rfl) ?_
  refine ops_val (op := (Go.Op.binOp Go.BinOp.shl 3 (Go.Operand.const (Go.Value.int Go.IntKind.i64 1)) (Go.Operand.tmp 77) 3)) (d := some 78) (v := .int .i64 (IntKind.i64.wrap (1 * 2 ^ min (n).toNat 64))) ⟨by kernel_rfl⟩ (run_shl rfl rfl (by omega)) ?_
  refine ops_run (is := []) (r := [(2, false), (3, false)]) (l' := [(78, .int .i64 (IntKind.i64.wrap (1 * 2 ^ min (n).toNat 64))), (16, .int .i64 0), (15, .int .i64 ((hi - lo + (q - 1) - 1) / (q - 1) / 2 + 1)), (14, .int .i64 1), (13, .int .i64 0), (12, .int .i64 0), (11, .int .i64 (shareV (min (max v lo) hi - lo) (q - 1) (hi - lo))), (4, .pointer (some ⟨b1, 0, none⟩)), (1, .int .i64 n), (2, .int .i64 v), (3, .int .i64 k)]) [78, 16, 15, 14, 13, 12, 11, 4, 1, 2, 3] (by kernel_rfl) ?_
  refine ops_conv (l' := [(78, .int .i64 q), (16, .int .i64 0), (15, .int .i64 ((hi - lo + (q - 1) - 1) / (q - 1) / 2 + 1)), (14, .int .i64 1), (13, .int .i64 0), (12, .int .i64 0), (11, .int .i64 (shareV (min (max v lo) hi - lo) (q - 1) (hi - lo))), (4, .pointer (some ⟨b1, 0, none⟩)), (1, .int .i64 n), (2, .int .i64 v), (3, .int .i64 k)]) (by rw [hq]) (fun _ h => h) ?_
  refine ops_run (is := [(2, false)]) (r := [(3, false)]) (l' := [(79, .int .i64 (IntKind.i64.wrap (q - 1))), (16, .int .i64 0), (15, .int .i64 ((hi - lo + (q - 1) - 1) / (q - 1) / 2 + 1)), (14, .int .i64 1), (13, .int .i64 0), (12, .int .i64 0), (11, .int .i64 (shareV (min (max v lo) hi - lo) (q - 1) (hi - lo))), (4, .pointer (some ⟨b1, 0, none⟩)), (1, .int .i64 n), (2, .int .i64 v), (3, .int .i64 k)]) [79, 16, 15, 14, 13, 12, 11, 4, 1, 2, 3] (by kernel_rfl) ?_
  refine ops_conv (l' := [(79, .int .i64 (q - 1)), (16, .int .i64 0), (15, .int .i64 ((hi - lo + (q - 1) - 1) / (q - 1) / 2 + 1)), (14, .int .i64 1), (13, .int .i64 0), (12, .int .i64 0), (11, .int .i64 (shareV (min (max v lo) hi - lo) (q - 1) (hi - lo))), (4, .pointer (some ⟨b1, 0, none⟩)), (1, .int .i64 n), (2, .int .i64 v), (3, .int .i64 k)]) (by rw [(i64in (x := q - 1) (by omega) (by omega))]) (fun _ h => h) ?_
  refine ops_run (is := [(3, false)]) (r := []) (l' := [(17, .int .i64 (q - 1)), (16, .int .i64 0), (15, .int .i64 ((hi - lo + (q - 1) - 1) / (q - 1) / 2 + 1)), (14, .int .i64 1), (13, .int .i64 0), (12, .int .i64 0), (11, .int .i64 (shareV (min (max v lo) hi - lo) (q - 1) (hi - lo))), (4, .pointer (some ⟨b1, 0, none⟩)), (1, .int .i64 n), (2, .int .i64 v), (3, .int .i64 k)]) [17, 16, 15, 14, 13, 12, 11, 4, 1, 2, 3] (by kernel_rfl) ?_
  refine ops_nil ?_
  refine fin_then ?_
  refine st_seq ?_
  refine st_seq ?_
  refine st_region [(0, false), (1, false), (2, false), (3, false), (4, false), (5, false), (6, false), (7, false), (8, false), (9, false), (10, false), (11, false), (12, false), (13, false), (14, false), (15, false), (16, false), (17, false), (18, false), (19, false), (20, false), (21, false), (22, false), (23, false), (24, false), (25, false), (26, false), (27, false), (28, false), (29, false)] (by rfl) ?_
  refine ops_run (is := [(0, false), (1, false), (2, false), (3, false), (4, false), (5, false), (6, false), (7, false)]) (r := [(8, false), (9, false), (10, false), (11, false), (12, false), (13, false), (14, false), (15, false), (16, false), (17, false), (18, false), (19, false), (20, false), (21, false), (22, false), (23, false), (24, false), (25, false), (26, false), (27, false), (28, false), (29, false)]) (l' := [(87, .int .i64 (shareV (min (max v lo) hi - lo) (q - 1) (hi - lo))), (86, .bool false), (17, .int .i64 (q - 1)), (15, .int .i64 ((hi - lo + (q - 1) - 1) / (q - 1) / 2 + 1)), (14, .int .i64 1), (13, .int .i64 0), (4, .pointer (some ⟨b1, 0, none⟩)), (1, .int .i64 n), (2, .int .i64 v), (3, .int .i64 k)]) [87, 86, 17, 15, 14, 13, 4, 1, 2, 3] (by kernel_rfl) ?_
  refine ops_mem (d := some 88) (an := [.v (.int .i64 lo), .v (.int .i64 hi)]) (evs := [.load ⟨b1, 0, none⟩ (.int .i64 lo), .load ⟨b1, 1, none⟩ (.int .i64 hi)]) (v := .agg #[.int .i64 lo, .int .i64 hi]) (M' := Mem w [.blk b1 [.int .i64 lo, .int .i64 hi] 81]) ⟨by kernel_rfl⟩ (fun w_ hM hS => ⟨w_, ⟨hM.cell 0 rfl rfl, hM.cell 0 rfl rfl, rfl⟩, hM, trivial⟩) ?_
  refine ops_run (is := [(9, false), (10, false)]) (r := [(11, false), (12, false), (13, false), (14, false), (15, false), (16, false), (17, false), (18, false), (19, false), (20, false), (21, false), (22, false), (23, false), (24, false), (25, false), (26, false), (27, false), (28, false), (29, false)]) (l' := [(90, .int .i64 v), (89, .int .i64 n), (88, .agg #[.int .i64 lo, .int .i64 hi]), (87, .int .i64 (shareV (min (max v lo) hi - lo) (q - 1) (hi - lo))), (86, .bool false), (17, .int .i64 (q - 1)), (15, .int .i64 ((hi - lo + (q - 1) - 1) / (q - 1) / 2 + 1)), (14, .int .i64 1), (13, .int .i64 0), (4, .pointer (some ⟨b1, 0, none⟩)), (1, .int .i64 n), (3, .int .i64 k)]) [90, 89, 88, 87, 86, 17, 15, 14, 13, 4, 1, 3] (by kernel_rfl) ?_
  refine ops_call (σ := Unit) (d := some 91) (f := 60) (args := #[.agg #[.int .i64 lo, .int .i64 hi], .int .i64 n, .int .i64 v]) (v := fun _ => .int .i64 (shareV (min (max v lo) hi - lo) (q - 1) (hi - lo))) (M' := fun _ => Mem w [.blk b1 [.int .i64 lo, .int .i64 hi] 81]) ⟨by kernel_rfl⟩ (fun w_ hM hS => (Coarsened_ok lo hi n v w_ q hq hq0 hq1 hok).mono (by rintro e w' ⟨rfl, hb⟩; exact ⟨(), rfl, hM.step hb, trivial⟩)) (fun _ => ?_)
  refine ops_run (is := []) (r := [(12, false), (13, false), (14, false), (15, false), (16, false), (17, false), (18, false), (19, false), (20, false), (21, false), (22, false), (23, false), (24, false), (25, false), (26, false), (27, false), (28, false), (29, false)]) (l' := [(91, .int .i64 (shareV (min (max v lo) hi - lo) (q - 1) (hi - lo))), (87, .int .i64 (shareV (min (max v lo) hi - lo) (q - 1) (hi - lo))), (86, .bool false), (17, .int .i64 (q - 1)), (15, .int .i64 ((hi - lo + (q - 1) - 1) / (q - 1) / 2 + 1)), (14, .int .i64 1), (13, .int .i64 0), (4, .pointer (some ⟨b1, 0, none⟩)), (1, .int .i64 n), (3, .int .i64 k)]) [91, 87, 86, 17, 15, 14, 13, 4, 1, 3] (by kernel_rfl) ?_
  refine ops_val (op := (Go.Op.binOp Go.BinOp.neq 3 (Go.Operand.tmp 87) (Go.Operand.tmp 91) 3)) (d := some 92) (v := .bool false) ⟨by kernel_rfl⟩ (run_neq_same rfl rfl) ?_
  refine ops_run (is := [(13, false), (14, false), (15, false), (16, false)]) (r := [(17, false), (18, false), (19, false), (20, false), (21, false), (22, false), (23, false), (24, false), (25, false), (26, false), (27, false), (28, false), (29, false)]) (l' := [(96, .pointer (some ⟨b1, 1, none⟩)), (95, .int .i64 ((hi - lo + (q - 1) - 1) / (q - 1) / 2 + 1)), (94, .bool false), (17, .int .i64 (q - 1)), (14, .int .i64 1), (13, .int .i64 0), (4, .pointer (some ⟨b1, 0, none⟩)), (1, .int .i64 n), (3, .int .i64 k)]) [96, 95, 94, 17, 14, 13, 4, 1, 3] (by kernel_rfl) ?_
  refine ops_mem (d := some 97) (an := [.v (.int .i64 hi)]) (evs := [.load ⟨b1, 1, none⟩ (.int .i64 hi)]) (v := .int .i64 hi) (M' := Mem w [.blk b1 [.int .i64 lo, .int .i64 hi] 81]) ⟨by kernel_rfl⟩ (fun w_ hM hS => ⟨w_, ⟨hM.cell 0 rfl rfl, rfl⟩, hM, trivial⟩) ?_
  refine ops_run (is := [(18, false)]) (r := [(19, false), (20, false), (21, false), (22, false), (23, false), (24, false), (25, false), (26, false), (27, false), (28, false), (29, false)]) (l' := [(98, .pointer (some ⟨b1, 0, none⟩)), (97, .int .i64 hi), (95, .int .i64 ((hi - lo + (q - 1) - 1) / (q - 1) / 2 + 1)), (94, .bool false), (17, .int .i64 (q - 1)), (14, .int .i64 1), (13, .int .i64 0), (4, .pointer (some ⟨b1, 0, none⟩)), (1, .int .i64 n), (3, .int .i64 k)]) [98, 97, 95, 94, 17, 14, 13, 4, 1, 3] (by kernel_rfl) ?_
  refine ops_mem (d := some 99) (an := [.v (.int .i64 lo)]) (evs := [.load ⟨b1, 0, none⟩ (.int .i64 lo)]) (v := .int .i64 lo) (M' := Mem w [.blk b1 [.int .i64 lo, .int .i64 hi] 81]) ⟨by kernel_rfl⟩ (fun w_ hM hS => ⟨w_, ⟨hM.cell 0 rfl rfl, rfl⟩, hM, trivial⟩) ?_
  refine ops_run (is := [(20, false)]) (r := [(21, false), (22, false), (23, false), (24, false), (25, false), (26, false), (27, false), (28, false), (29, false)]) (l' := [(100, .int .i64 (IntKind.i64.wrap (hi - lo))), (95, .int .i64 ((hi - lo + (q - 1) - 1) / (q - 1) / 2 + 1)), (94, .bool false), (17, .int .i64 (q - 1)), (14, .int .i64 1), (13, .int .i64 0), (4, .pointer (some ⟨b1, 0, none⟩)), (1, .int .i64 n), (3, .int .i64 k)]) [100, 95, 94, 17, 14, 13, 4, 1, 3] (by kernel_rfl) ?_
  refine ops_conv (l' := [(100, .int .i64 (hi - lo)), (95, .int .i64 ((hi - lo + (q - 1) - 1) / (q - 1) / 2 + 1)), (94, .bool false), (17, .int .i64 (q - 1)), (14, .int .i64 1), (13, .int .i64 0), (4, .pointer (some ⟨b1, 0, none⟩)), (1, .int .i64 n), (3, .int .i64 k)]) (by rw [(i64in (x := hi - lo) (by omega) (by omega))]) (fun _ h => h) ?_
  refine ops_run (is := [(21, false), (22, false)]) (r := [(23, false), (24, false), (25, false), (26, false), (27, false), (28, false), (29, false)]) (l' := [(102, .int .i64 (IntKind.i64.wrap ((hi - lo) + (q - 1)))), (95, .int .i64 ((hi - lo + (q - 1) - 1) / (q - 1) / 2 + 1)), (94, .bool false), (17, .int .i64 (q - 1)), (14, .int .i64 1), (13, .int .i64 0), (4, .pointer (some ⟨b1, 0, none⟩)), (1, .int .i64 n), (3, .int .i64 k)]) [102, 95, 94, 17, 14, 13, 4, 1, 3] (by kernel_rfl) ?_
  refine ops_conv (l' := [(102, .int .i64 ((hi - lo) + (q - 1))), (95, .int .i64 ((hi - lo + (q - 1) - 1) / (q - 1) / 2 + 1)), (94, .bool false), (17, .int .i64 (q - 1)), (14, .int .i64 1), (13, .int .i64 0), (4, .pointer (some ⟨b1, 0, none⟩)), (1, .int .i64 n), (3, .int .i64 k)]) (by rw [(i64in (x := (hi - lo) + (q - 1)) (by omega) (by omega))]) (fun _ h => h) ?_
  refine ops_run (is := [(23, false)]) (r := [(24, false), (25, false), (26, false), (27, false), (28, false), (29, false)]) (l' := [(103, .int .i64 (IntKind.i64.wrap (((hi - lo) + (q - 1)) - 1))), (95, .int .i64 ((hi - lo + (q - 1) - 1) / (q - 1) / 2 + 1)), (94, .bool false), (17, .int .i64 (q - 1)), (14, .int .i64 1), (13, .int .i64 0), (4, .pointer (some ⟨b1, 0, none⟩)), (1, .int .i64 n), (3, .int .i64 k)]) [103, 95, 94, 17, 14, 13, 4, 1, 3] (by kernel_rfl) ?_
  refine ops_conv (l' := [(103, .int .i64 (((hi - lo) + (q - 1)) - 1)), (95, .int .i64 ((hi - lo + (q - 1) - 1) / (q - 1) / 2 + 1)), (94, .bool false), (17, .int .i64 (q - 1)), (14, .int .i64 1), (13, .int .i64 0), (4, .pointer (some ⟨b1, 0, none⟩)), (1, .int .i64 n), (3, .int .i64 k)]) (by rw [(i64in (x := ((hi - lo) + (q - 1)) - 1) (by omega) (by omega))]) (fun _ h => h) ?_
  refine ops_run (is := [(24, false)]) (r := [(25, false), (26, false), (27, false), (28, false), (29, false)]) (l' := [(104, .int .i64 (q - 1)), (103, .int .i64 (((hi - lo) + (q - 1)) - 1)), (95, .int .i64 ((hi - lo + (q - 1) - 1) / (q - 1) / 2 + 1)), (94, .bool false), (17, .int .i64 (q - 1)), (14, .int .i64 1), (13, .int .i64 0), (4, .pointer (some ⟨b1, 0, none⟩)), (1, .int .i64 n), (3, .int .i64 k)]) [104, 103, 95, 94, 17, 14, 13, 4, 1, 3] (by kernel_rfl) ?_
  refine ops_val (op := (Go.Op.binOp Go.BinOp.quo 3 (Go.Operand.tmp 103) (Go.Operand.tmp 104) 3)) (d := some 105) (v := .int .i64 (IntKind.i64.wrap (Int.tdiv (((hi - lo) + (q - 1)) - 1) (q - 1)))) ⟨by kernel_rfl⟩ (run_quo rfl rfl (by omega)) ?_
  refine ops_run (is := []) (r := [(26, false), (27, false), (28, false), (29, false)]) (l' := [(105, .int .i64 (IntKind.i64.wrap (Int.tdiv (((hi - lo) + (q - 1)) - 1) (q - 1)))), (95, .int .i64 ((hi - lo + (q - 1) - 1) / (q - 1) / 2 + 1)), (94, .bool false), (17, .int .i64 (q - 1)), (14, .int .i64 1), (13, .int .i64 0), (4, .pointer (some ⟨b1, 0, none⟩)), (1, .int .i64 n), (3, .int .i64 k)]) [105, 95, 94, 17, 14, 13, 4, 1, 3] (by kernel_rfl) ?_
  refine ops_conv (l' := [(105, .int .i64 ((hi - lo + (q - 1) - 1) / (q - 1))), (95, .int .i64 ((hi - lo + (q - 1) - 1) / (q - 1) / 2 + 1)), (94, .bool false), (17, .int .i64 (q - 1)), (14, .int .i64 1), (13, .int .i64 0), (4, .pointer (some ⟨b1, 0, none⟩)), (1, .int .i64 n), (3, .int .i64 k)]) (by rw [hb5]) (fun _ h => h) ?_
  refine ops_run (is := [(26, false)]) (r := [(27, false), (28, false), (29, false)]) (l' := [(106, .int .i64 (IntKind.i64.wrap (Int.tdiv ((hi - lo + (q - 1) - 1) / (q - 1)) 2))), (95, .int .i64 ((hi - lo + (q - 1) - 1) / (q - 1) / 2 + 1)), (94, .bool false), (17, .int .i64 (q - 1)), (14, .int .i64 1), (13, .int .i64 0), (4, .pointer (some ⟨b1, 0, none⟩)), (1, .int .i64 n), (3, .int .i64 k)]) [106, 95, 94, 17, 14, 13, 4, 1, 3] (by kernel_rfl) ?_
  refine ops_conv (l' := [(106, .int .i64 ((hi - lo + (q - 1) - 1) / (q - 1) / 2)), (95, .int .i64 ((hi - lo + (q - 1) - 1) / (q - 1) / 2 + 1)), (94, .bool false), (17, .int .i64 (q - 1)), (14, .int .i64 1), (13, .int .i64 0), (4, .pointer (some ⟨b1, 0, none⟩)), (1, .int .i64 n), (3, .int .i64 k)]) (by rw [hb6]) (fun _ h => h) ?_
  refine ops_run (is := [(27, false)]) (r := [(28, false), (29, false)]) (l' := [(107, .int .i64 (IntKind.i64.wrap (((hi - lo + (q - 1) - 1) / (q - 1) / 2) + 1))), (95, .int .i64 ((hi - lo + (q - 1) - 1) / (q - 1) / 2 + 1)), (94, .bool false), (17, .int .i64 (q - 1)), (14, .int .i64 1), (13, .int .i64 0), (4, .pointer (some ⟨b1, 0, none⟩)), (1, .int .i64 n), (3, .int .i64 k)]) [107, 95, 94, 17, 14, 13, 4, 1, 3] (by kernel_rfl) ?_
  refine ops_conv (l' := [(107, .int .i64 (((hi - lo + (q - 1) - 1) / (q - 1) / 2) + 1)), (95, .int .i64 ((hi - lo + (q - 1) - 1) / (q - 1) / 2 + 1)), (94, .bool false), (17, .int .i64 (q - 1)), (14, .int .i64 1), (13, .int .i64 0), (4, .pointer (some ⟨b1, 0, none⟩)), (1, .int .i64 n), (3, .int .i64 k)]) (by rw [(i64in (x := ((hi - lo + (q - 1) - 1) / (q - 1) / 2) + 1) (by omega) (by omega))]) (fun _ h => h) ?_
  refine ops_val (op := (Go.Op.binOp Go.BinOp.neq 3 (Go.Operand.tmp 95) (Go.Operand.tmp 107) 3)) (d := some 108) (v := .bool false) ⟨by kernel_rfl⟩ (run_neq_same rfl rfl) ?_
  refine ops_run (is := [(29, false)]) (r := []) (l' := [(109, .bool false), (17, .int .i64 (q - 1)), (14, .int .i64 1), (13, .int .i64 0), (4, .pointer (some ⟨b1, 0, none⟩)), (1, .int .i64 n), (3, .int .i64 k)]) [109, 17, 14, 13, 4, 1, 3] (by kernel_rfl) ?_
  refine ops_nil ?_
  refine fin_then ?_
  refine st_false rfl ?_
  refine st_skip ?_
  refine fin_then ?_
  refine st_seq ?_
  refine st_seq ?_
  refine st_region [(0, false), (1, false), (2, false), (3, false), (4, false), (5, false), (6, false)] (by rfl) ?_
  refine ops_run (is := [(0, false), (1, false), (2, false)]) (r := [(3, false), (4, false), (5, false), (6, false)]) (l' := [(112, .bool (decide (k < 0))), (17, .int .i64 (q - 1)), (14, .int .i64 1), (13, .int .i64 0), (4, .pointer (some ⟨b1, 0, none⟩)), (1, .int .i64 n), (3, .int .i64 k)]) [112, 17, 14, 13, 4, 1, 3] (by kernel_rfl) ?_
  refine ops_conv (l' := [(112, .bool false), (17, .int .i64 (q - 1)), (14, .int .i64 1), (13, .int .i64 0), (4, .pointer (some ⟨b1, 0, none⟩)), (1, .int .i64 n), (3, .int .i64 k)]) (by rw [hf1]) (fun _ h => h) ?_
  refine ops_run (is := [(3, false), (4, false), (5, false), (6, false)]) (r := []) (l' := [(116, .bool (decide ((q - 1) < k))), (14, .int .i64 1), (13, .int .i64 0), (4, .pointer (some ⟨b1, 0, none⟩)), (1, .int .i64 n), (3, .int .i64 k)]) [116, 14, 13, 4, 1, 3] (by kernel_rfl) ?_
  refine ops_nil ?_
  refine fin_then ?_
  refine st_conv (l' := [(116, .bool true), (14, .int .i64 1), (13, .int .i64 0), (4, .pointer (some ⟨b1, 0, none⟩)), (1, .int .i64 n), (3, .int .i64 k)]) (by rw [hf2]) (fun _ h => h) ?_
  refine st_true rfl ?_
  refine st_seq ?_
  refine st_region [(0, false), (1, false), (2, false), (3, false), (4, false), (5, false), (6, false)] (by rfl) ?_
  refine ops_run (is := [(0, false), (1, false), (2, false), (3, false), (4, false), (5, false), (6, false)]) (r := []) (l' := [(8, .bool true)]) [8] (by kernel_rfl) ?_
  refine ops_nil ?_
  refine fin_then ?_
  refine st_ret ?_
  refine fin_ret_then ?_
  refine fin_ret [.tmp 8] [.bool true] rfl rfl (fun w_ hM => (.tmp rfl .nil)) (fun w_ hM => ?_)
  refine ⟨?_, hM.done⟩
  rfl
set_option maxRecDepth 100000 in
theorem QuantCoarse_bad (lo hi n v k : Int) (w : World) (hbad : ¬ (lo < hi ∧ -1099511627776 ≤ lo ∧ lo ≤ 1099511627776 ∧ -1099511627776 ≤ hi ∧ hi ≤ 1099511627776 ∧ 1 ≤ n ∧ n ≤ 32)) : Calls Try.prog 11 #[.agg #[.int .i64 lo, .int .i64 hi], .int .i64 n, .int .i64 v, .int .i64 k] w fun e w' => e = .returned (.bool true) ∧ Below w.heap.size w w' := by
  refine sx_calls Try.func11 rfl (n := 133) (by kernel_rfl) (l := [(0, .agg #[.int .i64 lo, .int .i64 hi]), (1, .int .i64 n), (2, .int .i64 v), (3, .int .i64 k)]) rfl (by rfl) (Mem.nil w) ?_
  refine st_seq ?_
  refine st_region [(0, false), (1, false)] (by rfl) ?_
  refine ops_new (d := some 4) (o := .cells #[.int .i64 lo, .int .i64 hi] 81) (v := fun b1 => .pointer (some ⟨b1, 0, none⟩)) (M' := fun b1 => Mem w [.blk b1 [.int .i64 lo, .int .i64 hi] 81]) (fun b1 => ⟨by kernel_rfl⟩) (fun w_ hM hS => ⟨hM.blk [.int .i64 lo, .int .i64 hi] 81, trivial⟩) (fun b1 => ?_)
  refine ops_run (is := [(1, false)]) (r := []) (l' := [(4, .pointer (some ⟨b1, 0, none⟩)), (1, .int .i64 n), (2, .int .i64 v), (3, .int .i64 k)]) [4, 1, 2, 3] (by kernel_rfl) ?_
  refine ops_nil ?_
  refine fin_then ?_
  refine st_seq ?_
  refine st_seq ?_
  refine st_region [(0, false), (1, false), (2, false), (3, false), (4, false), (5, false), (6, false)] (by rfl) ?_
  refine ops_run (is := [(0, false)]) (r := [(1, false), (2, false), (3, false), (4, false), (5, false), (6, false)]) (l' := [(19, .agg #[.int .i64 0, .int .i64 4]), (4, .pointer (some ⟨b1, 0, none⟩)), (1, .int .i64 n), (2, .int .i64 v), (3, .int .i64 k)]) [19, 4, 1, 2, 3] (by kernel_rfl) ?_
  refine ops_call (σ := Unit) (d := some 20) (f := 56) (args := #[.agg #[.int .i64 0, .int .i64 4], .int .i64 1, .int .i64 2]) (v := fun _ => .tuple #[.int .i64 1, .int .i64 0]) (M' := fun _ => Mem w [.blk b1 [.int .i64 lo, .int .i64 hi] 81]) ⟨by kernel_rfl⟩ (fun w_ hM hS => (Coarse_begun w_).mono (by rintro e w' ⟨rfl, hb⟩; exact ⟨(), rfl, hM.step hb, trivial⟩)) (fun _ => ?_)
  refine ops_run (is := [(2, false), (3, false), (4, false), (5, false), (6, false)]) (r := []) (l' := [(10, .int .i64 0), (9, .int .i64 1), (4, .pointer (some ⟨b1, 0, none⟩)), (1, .int .i64 n), (2, .int .i64 v), (3, .int .i64 k)]) [10, 9, 4, 1, 2, 3] (by kernel_rfl) ?_
  refine ops_nil ?_
  refine fin_then ?_
  refine st_seq ?_
  refine st_region [(0, false), (1, false), (2, false), (3, false), (4, false), (5, false)] (by rfl) ?_
  refine ops_run (is := [(0, false), (1, false), (2, false), (3, false), (4, false), (5, false)]) (r := []) (l' := [(28, .bool false), (4, .pointer (some ⟨b1, 0, none⟩)), (1, .int .i64 n), (2, .int .i64 v), (3, .int .i64 k)]) [28, 4, 1, 2, 3] (by kernel_rfl) ?_
  refine ops_nil ?_
  refine fin_then ?_
  refine st_false rfl ?_
  refine st_skip ?_
  refine fin_then ?_
  refine st_seq ?_
  refine st_region [(0, false), (1, false), (2, false), (3, false), (4, false), (5, false), (6, false), (7, false), (8, false)] (by rfl) ?_
  refine ops_run (is := []) (r := [(0, false), (1, false), (2, false), (3, false), (4, false), (5, false), (6, false), (7, false), (8, false)]) (l' := [(4, .pointer (some ⟨b1, 0, none⟩)), (1, .int .i64 n), (2, .int .i64 v), (3, .int .i64 k)]) [4, 1, 2, 3] (by kernel_rfl) ?_
  refine ops_mem (d := some 30) (an := [.v (.int .i64 lo), .v (.int .i64 hi)]) (evs := [.load ⟨b1, 0, none⟩ (.int .i64 lo), .load ⟨b1, 1, none⟩ (.int .i64 hi)]) (v := .agg #[.int .i64 lo, .int .i64 hi]) (M' := Mem w [.blk b1 [.int .i64 lo, .int .i64 hi] 81]) ⟨by kernel_rfl⟩ (fun w_ hM hS => ⟨w_, ⟨hM.cell 0 rfl rfl, hM.cell 0 rfl rfl, rfl⟩, hM, trivial⟩) ?_
  refine ops_run (is := [(1, false), (2, false)]) (r := [(3, false), (4, false), (5, false), (6, false), (7, false), (8, false)]) (l' := [(32, .int .i64 v), (31, .int .i64 n), (30, .agg #[.int .i64 lo, .int .i64 hi]), (4, .pointer (some ⟨b1, 0, none⟩)), (1, .int .i64 n), (2, .int .i64 v), (3, .int .i64 k)]) [32, 31, 30, 4, 1, 2, 3] (by kernel_rfl) ?_
  refine ops_call (σ := Unit) (d := some 33) (f := 56) (args := #[.agg #[.int .i64 lo, .int .i64 hi], .int .i64 n, .int .i64 v]) (v := fun _ => .tuple #[.int .i64 0, .int .i64 1]) (M' := fun _ => Mem w [.blk b1 [.int .i64 lo, .int .i64 hi] 81]) ⟨by kernel_rfl⟩ (fun w_ hM hS => (Coarse_bad lo hi n v w_ hbad).mono (by rintro e w' ⟨rfl, hb⟩; exact ⟨(), rfl, hM.step hb, trivial⟩)) (fun _ => ?_)
  refine ops_run (is := [(4, false), (5, false), (6, false), (7, false), (8, false)]) (r := []) (l' := [(12, .int .i64 1), (11, .int .i64 0), (4, .pointer (some ⟨b1, 0, none⟩)), (1, .int .i64 n), (2, .int .i64 v), (3, .int .i64 k)]) [12, 11, 4, 1, 2, 3] (by kernel_rfl) ?_
  refine ops_nil ?_
  refine fin_then ?_
  refine st_seq ?_
  refine st_region [(0, false), (1, false), (2, false), (3, false), (4, false), (5, false), (6, false), (7, false), (8, false)] (by rfl) ?_
  refine ops_mem (d := some 37) (an := [.v (.int .i64 lo), .v (.int .i64 hi)]) (evs := [.load ⟨b1, 0, none⟩ (.int .i64 lo), .load ⟨b1, 1, none⟩ (.int .i64 hi)]) (v := .agg #[.int .i64 lo, .int .i64 hi]) (M' := Mem w [.blk b1 [.int .i64 lo, .int .i64 hi] 81]) ⟨by kernel_rfl⟩ (fun w_ hM hS => ⟨w_, ⟨hM.cell 0 rfl rfl, hM.cell 0 rfl rfl, rfl⟩, hM, trivial⟩) ?_
  refine ops_run (is := [(1, false), (2, false)]) (r := [(3, false), (4, false), (5, false), (6, false), (7, false), (8, false)]) (l' := [(39, .int .i64 k), (38, .int .i64 n), (37, .agg #[.int .i64 lo, .int .i64 hi]), (12, .int .i64 1), (11, .int .i64 0), (4, .pointer (some ⟨b1, 0, none⟩)), (1, .int .i64 n), (2, .int .i64 v), (3, .int .i64 k)]) [39, 38, 37, 12, 11, 4, 1, 2, 3] (by kernel_rfl) ?_
  refine ops_call (σ := Unit) (d := some 40) (f := 57) (args := #[.agg #[.int .i64 lo, .int .i64 hi], .int .i64 n, .int .i64 k]) (v := fun _ => .tuple #[.int .i64 0, .int .i64 1]) (M' := fun _ => Mem w [.blk b1 [.int .i64 lo, .int .i64 hi] 81]) ⟨by kernel_rfl⟩ (fun w_ hM hS => (Fine_bad lo hi n k w_ hbad).mono (by rintro e w' ⟨rfl, hb⟩; exact ⟨(), rfl, hM.step hb, trivial⟩)) (fun _ => ?_)
  refine ops_run (is := [(4, false), (5, false), (6, false), (7, false), (8, false)]) (r := []) (l' := [(14, .int .i64 1), (13, .int .i64 0), (12, .int .i64 1), (11, .int .i64 0), (4, .pointer (some ⟨b1, 0, none⟩)), (1, .int .i64 n), (2, .int .i64 v), (3, .int .i64 k)]) [14, 13, 12, 11, 4, 1, 2, 3] (by kernel_rfl) ?_
  refine ops_nil ?_
  refine fin_then ?_
  refine st_seq ?_
  refine st_region [(0, false), (1, false), (2, false), (3, false), (4, false), (5, false), (6, false), (7, false)] (by rfl) ?_
  refine ops_mem (d := some 44) (an := [.v (.int .i64 lo), .v (.int .i64 hi)]) (evs := [.load ⟨b1, 0, none⟩ (.int .i64 lo), .load ⟨b1, 1, none⟩ (.int .i64 hi)]) (v := .agg #[.int .i64 lo, .int .i64 hi]) (M' := Mem w [.blk b1 [.int .i64 lo, .int .i64 hi] 81]) ⟨by kernel_rfl⟩ (fun w_ hM hS => ⟨w_, ⟨hM.cell 0 rfl rfl, hM.cell 0 rfl rfl, rfl⟩, hM, trivial⟩) ?_
  refine ops_run (is := [(1, false)]) (r := [(2, false), (3, false), (4, false), (5, false), (6, false), (7, false)]) (l' := [(45, .int .i64 n), (44, .agg #[.int .i64 lo, .int .i64 hi]), (14, .int .i64 1), (13, .int .i64 0), (12, .int .i64 1), (11, .int .i64 0), (4, .pointer (some ⟨b1, 0, none⟩)), (1, .int .i64 n), (2, .int .i64 v), (3, .int .i64 k)]) [45, 44, 14, 13, 12, 11, 4, 1, 2, 3] (by kernel_rfl) ?_
  refine ops_call (σ := Unit) (d := some 46) (f := 58) (args := #[.agg #[.int .i64 lo, .int .i64 hi], .int .i64 n]) (v := fun _ => .tuple #[.int .i64 0, .int .i64 1]) (M' := fun _ => Mem w [.blk b1 [.int .i64 lo, .int .i64 hi] 81]) ⟨by kernel_rfl⟩ (fun w_ hM hS => (Bound_bad lo hi n w_ hbad).mono (by rintro e w' ⟨rfl, hb⟩; exact ⟨(), rfl, hM.step hb, trivial⟩)) (fun _ => ?_)
  refine ops_run (is := [(3, false), (4, false), (5, false), (6, false), (7, false)]) (r := []) (l' := [(16, .int .i64 1), (15, .int .i64 0), (14, .int .i64 1), (13, .int .i64 0), (12, .int .i64 1), (11, .int .i64 0), (4, .pointer (some ⟨b1, 0, none⟩)), (1, .int .i64 n), (2, .int .i64 v), (3, .int .i64 k)]) [16, 15, 14, 13, 12, 11, 4, 1, 2, 3] (by kernel_rfl) ?_
  refine ops_nil ?_
  refine fin_then ?_
  refine st_seq ?_
  refine st_seq ?_
  refine st_region [(0, false), (1, false), (2, false), (3, false)] (by rfl) ?_
  refine ops_mem (d := some 49) (an := [.v (.int .i64 lo), .v (.int .i64 hi)]) (evs := [.load ⟨b1, 0, none⟩ (.int .i64 lo), .load ⟨b1, 1, none⟩ (.int .i64 hi)]) (v := .agg #[.int .i64 lo, .int .i64 hi]) (M' := Mem w [.blk b1 [.int .i64 lo, .int .i64 hi] 81]) ⟨by kernel_rfl⟩ (fun w_ hM hS => ⟨w_, ⟨hM.cell 0 rfl rfl, hM.cell 0 rfl rfl, rfl⟩, hM, trivial⟩) ?_
  refine ops_run (is := [(1, false)]) (r := [(2, false), (3, false)]) (l' := [(50, .int .i64 n), (49, .agg #[.int .i64 lo, .int .i64 hi]), (16, .int .i64 1), (15, .int .i64 0), (14, .int .i64 1), (13, .int .i64 0), (12, .int .i64 1), (11, .int .i64 0), (4, .pointer (some ⟨b1, 0, none⟩)), (1, .int .i64 n), (2, .int .i64 v), (3, .int .i64 k)]) [50, 49, 16, 15, 14, 13, 12, 11, 4, 1, 2, 3] (by kernel_rfl) ?_
  refine ops_call (σ := Unit) (d := some 51) (f := 59) (args := #[.agg #[.int .i64 lo, .int .i64 hi], .int .i64 n]) (v := fun _ => .bool false) (M' := fun _ => Mem w [.blk b1 [.int .i64 lo, .int .i64 hi] 81]) ⟨by kernel_rfl⟩ (fun w_ hM hS => (SpanIs_bad lo hi n w_ hbad).mono (by rintro e w' ⟨rfl, hb⟩; exact ⟨(), rfl, hM.step hb, trivial⟩)) (fun _ => ?_)
  refine ops_run (is := [(3, false)]) (r := []) (l' := [(52, .bool true), (16, .int .i64 1), (15, .int .i64 0), (14, .int .i64 1), (13, .int .i64 0), (12, .int .i64 1), (11, .int .i64 0), (4, .pointer (some ⟨b1, 0, none⟩)), (1, .int .i64 n), (2, .int .i64 v), (3, .int .i64 k)]) [52, 16, 15, 14, 13, 12, 11, 4, 1, 2, 3] (by kernel_rfl) ?_
  refine ops_nil ?_
  refine fin_then ?_
  refine st_true rfl ?_
  refine st_seq ?_
  refine st_region [(0, false), (1, false), (2, false), (3, false), (4, false), (5, false), (6, false), (7, false), (8, false), (9, false), (10, false), (11, false), (12, false), (13, false), (14, false), (15, false), (16, false), (17, false), (18, false), (19, false), (20, false), (21, false), (22, false), (23, false), (24, false)] (by rfl) ?_
  refine ops_run (is := [(0, false), (1, false), (2, false), (3, false), (4, false), (5, false), (6, false), (7, false), (8, false), (9, false), (10, false), (11, false), (12, false), (13, false), (14, false), (15, false), (16, false), (17, false), (18, false), (19, false), (20, false), (21, false), (22, false), (23, false), (24, false)]) (r := []) (l' := [(8, .bool true)]) [8] (by kernel_rfl) ?_
  refine ops_nil ?_
  refine fin_then ?_
  refine st_ret ?_
  refine fin_ret_then ?_
  refine fin_ret [.tmp 8] [.bool true] rfl rfl (fun w_ hM => (.tmp rfl .nil)) (fun w_ hM => ?_)
  refine ⟨?_, hM.done⟩
  rfl
theorem pow_n {n : Int} (h0 : 1 ≤ n) (h1 : n ≤ 32) : IntKind.i64.wrap (1 * 2 ^ min n.toNat 64) = 2 ^ n.toNat ∧ (2 : Int) ≤ 2 ^ n.toNat ∧ (2 : Int) ^ n.toNat ≤ 4294967296 := by
  obtain ⟨m, rfl⟩ := Int.eq_ofNat_of_zero_le (show 0 ≤ n by omega)
  have hm : m ≤ 32 := by omega
  have key : ∀ m : Nat, m ≤ 32 → 1 ≤ m → IntKind.i64.wrap (1 * 2 ^ min (m : Int).toNat 64) = 2 ^ (m : Int).toNat ∧ (2 : Int) ≤ 2 ^ (m : Int).toNat ∧ (2 : Int) ^ (m : Int).toNat ≤ 4294967296 := by decide
  exact key m hm (by omega)
theorem QuantCoarse_calls (lo hi n v k : Int) (w : World) (h1 : (Lit.int .i64 lo).wf = true) (h2 : (Lit.int .i64 hi).wf = true) (h3 : (Lit.int .i64 n).wf = true) (h4 : (Lit.int .i64 v).wf = true) (h5 : (Lit.int .i64 k).wf = true) :
    Calls Try.prog 11 #[.agg #[.int .i64 lo, .int .i64 hi], .int .i64 n, .int .i64 v, .int .i64 k] w fun e w' => e = .returned (.bool true) ∧ Below w.heap.size w w' := by
  by_cases hok : lo < hi ∧ -1099511627776 ≤ lo ∧ lo ≤ 1099511627776 ∧ -1099511627776 ≤ hi ∧ hi ≤ 1099511627776 ∧ 1 ≤ n ∧ n ≤ 32
  · obtain ⟨hq, hq0, hq1⟩ := pow_n hok.2.2.2.2.2.1 hok.2.2.2.2.2.2
    by_cases hk : k < 0
    · exact QuantCoarse_neg lo hi n v k w _ hq hq0 hq1 hok hk
    · by_cases hk1 : k < 2 ^ n.toNat
      · exact QuantCoarse_in lo hi n v k w _ hq hq0 hq1 hok (by omega) hk1
      · exact QuantCoarse_big lo hi n v k w _ hq hq0 hq1 hok (by omega) (by omega)
  · exact QuantCoarse_bad lo hi n v k w hok
end Go.Proofs.Ytdmlapkindoghaa.WQuant
