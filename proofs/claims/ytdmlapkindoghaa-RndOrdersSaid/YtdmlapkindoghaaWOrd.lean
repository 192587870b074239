/- Walks of rnd.Order and of the reference's Shuffled: each comes to the same exchanges. No condition. -/
import Derived.Test.YtdmlapkindoghaaProg
import Derived.Test.YtdmlapkindoghaaSxOps
import Derived.Test.YtdmlapkindoghaaOrdSpec
import Derived.Test.YtdmlapkindoghaaWRnd
import Derived.Test.YtdmlapkindoghaaWStd
import Derived.Test.YtdmlapkindoghaaWEqStruct
namespace Go.Proofs.Ytdmlapkindoghaa.WOrd
open Go Go.RowKit Go.Proofs.Ytdmlapkindoghaa.Sx Go.Proofs.Ytdmlapkindoghaa.Rnd Go.Proofs.Ytdmlapkindoghaa.WStd Go.Proofs.YtdmlapkindoghaaW.PrintWords
set_option linter.unusedVariables false
set_option linter.unusedSimpArgs false
theorem eqA27 (d : Nat) (w : World) (x0 y0 : Int) (x1 y1 : Int) :
    (Op.equalIn (d + 2) 27 (.agg #[.int .u64 x0, .int .u64 x1]) (.agg #[.int .u64 y0, .int .u64 y1])).run Try.prog w = .ok (x0 == y0 && (x1 == y1)) w := by
  refine eqA_of Try.underlying27 (by kernel_rfl) ?_
  refine eqf_cons (by rfl) (by go_simp; rfl) (by go_simp; rfl) (by go_simp) ?_
  exact eqf_last (by rfl) (by go_simp; rfl) (by go_simp; rfl) (by go_simp)
theorem odd_of {g : Int} (hg0 : 0 ≤ g) (h2 : Int.tmod g 2 ≠ 0) : g % 2 = 1 := by rw [Int.tmod_eq_emod_of_nonneg hg0] at h2; omega
theorem Below_bk (s g : Int) (m : Nat) (w : World) (h : 1 ≤ m) (h1 : m ≤ 9223372036854775807) (hg0 : 0 ≤ g) (h2 : Int.tmod g 2 ≠ 0) (hs : 0 ≤ s ∧ s < 18446744073709551616) :
    Calls Try.prog 16 #[.agg #[.int .u64 s, .int .u64 g], .int .i64 (m : Int)] w fun e w' => e = .returned (.tuple #[.int .i64 ((bkN s g m : Nat) : Int), .agg #[.int .u64 (bs s g m), .int .u64 g], .int .i64 0]) ∧ Below w.heap.size w w' := by
  have z := jof_spec s g m (odd_of hg0 h2)
  rw [← bk_eq s g h h1]
  exact Below_calls s g m w (jof s g m) (by omega) (by omega) h2 hs.1 hs.2 z.1 z.2
theorem Under_bk (s g : Int) (m : Nat) (w : World) (h : 1 ≤ m) (h1 : m ≤ 9223372036854775807) (hg0 : 0 ≤ g) (h2 : Int.tmod g 2 ≠ 0) :
    Calls Try.prog 17 #[.agg #[.int .u64 s, .int .u64 g], .int .i64 (m : Int)] w fun e w' => e = .returned (.tuple #[.int .i64 ((bkN s g m : Nat) : Int), .int .i64 (cnt (jof s g m))]) ∧ Below w.heap.size w w' := by
  have z := jof_spec s g m (odd_of hg0 h2)
  rw [← bk_eq s g h h1]
  exact Under_calls s g m w (jof s g m) (by omega) (by omega) z.1 z.2
theorem Behind_bk (s g : Int) (m : Nat) (w : World) : Calls Try.prog 18 #[.agg #[.int .u64 s, .int .u64 g], .int .i64 (cnt (jof s g m))] w fun e w' => e = .returned (.agg #[.int .u64 (bs s g m), .int .u64 g]) ∧ Below w.heap.size w w' := Behind_st s g (jof s g m) w
set_option maxRecDepth 100000 in
theorem Order_ok (s g : Int) (n : Nat) (w : World) (hn : n ≤ 1000) (hg0 : 0 ≤ g) (h2 : Int.tmod g 2 ≠ 0) (hs0 : 0 ≤ s) (hs1 : s < 18446744073709551616) : Calls Try.prog 53 #[.agg #[.int .u64 s, .int .u64 g], .int .i64 (n : Int)] w fun e w' => ∃ x_ : Option Addr × Nat, e = .returned ((match x_ with | (A, c) => .tuple #[.slice A n c, .agg #[.int .u64 ((sh s g n (n - 1)).2), .int .u64 g], .int .i64 0])) ∧ Mem w (match x_ with | (A, c) => [.row A n c 3 1 (iv .i64 ((sh s g n (n - 1)).1))]) w' := by
  have hn1 : IntKind.i64.wrap ((n : Int) - 1) = ((n : Nat) : Int) - 1 := by rw [i64w]; omega
  have hk1 : decide ((n : Int) < 0) = false := by simp
  have hk2 : decide (1000 < (n : Int)) = false := by simp; omega
  have hk3 : (Int.tmod g 2 == 0) = false := by simp [h2]
  refine sx_calls Try.func53 rfl (n := 69) (by kernel_rfl) (l := [(0, .agg #[.int .u64 s, .int .u64 g]), (1, .int .i64 (n : Int))]) rfl (by rfl) (Mem.nil w) ?_
  refine st_seq ?_
  refine st_region [(0, false), (1, false), (2, false), (3, false)] (by rfl) ?_
  refine ops_new (d := some 2) (o := .cells #[.int .u64 s, .int .u64 g] 27) (v := fun b1 => .pointer (some ⟨b1, 0, none⟩)) (M' := fun b1 => Mem w [.blk b1 [.int .u64 s, .int .u64 g] 27]) (fun b1 => ⟨by kernel_rfl⟩) (fun w_ hM hS => ⟨hM.blk [.int .u64 s, .int .u64 g] 27, trivial⟩) (fun b1 => ?_)
  refine ops_run (is := [(1, false)]) (r := [(2, false), (3, false)]) (l' := [(2, .pointer (some ⟨b1, 0, none⟩)), (1, .int .i64 (n : Int))]) [2, 1] (by kernel_rfl) ?_
  refine ops_new (d := some 5) (o := .cells #[.int .u64 0, .int .u64 0] 27) (v := fun b2 => .pointer (some ⟨b2, 0, none⟩)) (M' := fun b2 => Mem w [.blk b2 [.int .u64 0, .int .u64 0] 27, .blk b1 [.int .u64 s, .int .u64 g] 27]) (fun b2 => ⟨by kernel_rfl⟩) (fun w_ hM hS => ⟨hM.blk [.int .u64 0, .int .u64 0] 27, trivial⟩) (fun b2 => ?_)
  refine ops_run (is := [(3, false)]) (r := []) (l' := [(5, .pointer (some ⟨b2, 0, none⟩)), (2, .pointer (some ⟨b1, 0, none⟩)), (1, .int .i64 (n : Int))]) [5, 2, 1] (by kernel_rfl) ?_
  refine ops_nil ?_
  refine fin_then ?_
  refine st_seq ?_
  refine st_seq ?_
  refine st_region [(0, false), (1, false), (2, false), (3, false), (4, false), (5, false), (6, false), (7, false), (8, false), (9, false), (10, false), (11, false)] (by rfl) ?_
  refine ops_run (is := [(0, false), (1, false), (2, false)]) (r := [(3, false), (4, false), (5, false), (6, false), (7, false), (8, false), (9, false), (10, false), (11, false)]) (l' := [(15, .bool (decide ((n : Int) < 0))), (5, .pointer (some ⟨b2, 0, none⟩)), (2, .pointer (some ⟨b1, 0, none⟩)), (1, .int .i64 (n : Int))]) [15, 5, 2, 1] (by kernel_rfl) ?_
  refine ops_conv (l' := [(15, .bool false), (5, .pointer (some ⟨b2, 0, none⟩)), (2, .pointer (some ⟨b1, 0, none⟩)), (1, .int .i64 (n : Int))]) (by rw [hk1]) (fun _ h => h) ?_
  refine ops_run (is := [(3, false), (4, false), (5, false), (6, false)]) (r := [(7, false), (8, false), (9, false), (10, false), (11, false)]) (l' := [(19, .bool (decide (1000 < (n : Int)))), (5, .pointer (some ⟨b2, 0, none⟩)), (2, .pointer (some ⟨b1, 0, none⟩)), (1, .int .i64 (n : Int))]) [19, 5, 2, 1] (by kernel_rfl) ?_
  refine ops_conv (l' := [(19, .bool false), (5, .pointer (some ⟨b2, 0, none⟩)), (2, .pointer (some ⟨b1, 0, none⟩)), (1, .int .i64 (n : Int))]) (by rw [hk2]) (fun _ h => h) ?_
  refine ops_run (is := [(7, false)]) (r := [(8, false), (9, false), (10, false), (11, false)]) (l' := [(20, .pointer (some ⟨b1, 1, none⟩)), (19, .bool false), (5, .pointer (some ⟨b2, 0, none⟩)), (2, .pointer (some ⟨b1, 0, none⟩)), (1, .int .i64 (n : Int))]) [20, 19, 5, 2, 1] (by kernel_rfl) ?_
  refine ops_mem (d := some 21) (an := [.v (.int .u64 g)]) (evs := [.load ⟨b1, 1, none⟩ (.int .u64 g)]) (v := .int .u64 g) (M' := Mem w [.blk b2 [.int .u64 0, .int .u64 0] 27, .blk b1 [.int .u64 s, .int .u64 g] 27]) ⟨by kernel_rfl⟩ (fun w_ hM hS => ⟨w_, ⟨hM.cell 1 rfl rfl, rfl⟩, hM, trivial⟩) ?_
  refine ops_run (is := [(9, false), (10, false), (11, false)]) (r := []) (l' := [(24, .bool (Int.tmod g 2 == 0)), (5, .pointer (some ⟨b2, 0, none⟩)), (2, .pointer (some ⟨b1, 0, none⟩)), (1, .int .i64 (n : Int))]) [24, 5, 2, 1] (by kernel_rfl) ?_
  refine ops_nil ?_
  refine fin_then ?_
  refine st_conv (l' := [(24, .bool false), (5, .pointer (some ⟨b2, 0, none⟩)), (2, .pointer (some ⟨b1, 0, none⟩)), (1, .int .i64 (n : Int))]) (by rw [hk3]) (fun _ h => h) ?_
  refine st_false rfl ?_
  refine st_skip ?_
  refine fin_then ?_
  refine st_seq ?_
  refine st_region [(0, false), (1, false), (2, false)] (by rfl) ?_
  refine ops_run (is := [(0, false)]) (r := [(1, false), (2, false)]) (l' := [(26, .int .i64 (n : Int)), (5, .pointer (some ⟨b2, 0, none⟩)), (2, .pointer (some ⟨b1, 0, none⟩)), (1, .int .i64 (n : Int))]) [26, 5, 2, 1] (by kernel_rfl) ?_
  refine ops_make (t := 37) (x := (Go.Operand.tmp 26)) (y := (Go.Operand.tmp 26)) (d := some 27) (nn := n) (z := 1) (bytes := 8) (xs := iv .i64 (List.replicate n 0)) ⟨by kernel_rfl⟩ rfl rfl (by first | rfl | omega) (by first | rfl | omega) Try.underlying37 (by kernel_rfl) (by omega) (by rfl) (made_ints _ _) (fun _ _ _ hS h' => trivial) (fun b3 => ?_)
  refine ops_run (is := [(2, false)]) (r := []) (l' := [(7, .slice (some ⟨b3, 0, none⟩) n n), (5, .pointer (some ⟨b2, 0, none⟩)), (2, .pointer (some ⟨b1, 0, none⟩)), (1, .int .i64 (n : Int))]) [7, 5, 2, 1] (by kernel_rfl) ?_
  refine ops_nil ?_
  refine fin_then ?_
  refine st_seq ?_
  refine st_seq ?_
  refine st_region [(0, false), (1, false), (2, false)] (by rfl) ?_
  refine ops_run (is := [(0, false), (1, false), (2, false)]) (r := []) (l' := [(30, .int .i64 0), (29, .int .i64 (n : Int)), (7, .slice (some ⟨b3, 0, none⟩) n n), (5, .pointer (some ⟨b2, 0, none⟩)), (2, .pointer (some ⟨b1, 0, none⟩)), (1, .int .i64 (n : Int))]) [30, 29, 7, 5, 2, 1] (by kernel_rfl) ?_
  refine ops_nil ?_
  refine fin_then ?_
  refine st_block ?_
  refine st_loop (σ := Nat) 0 (fun k => [(30, .int .i64 (k : Int)), (29, .int .i64 (n : Int)), (7, .slice (some ⟨b3, 0, none⟩) n n), (5, .pointer (some ⟨b2, 0, none⟩)), (2, .pointer (some ⟨b1, 0, none⟩)), (1, .int .i64 (n : Int))]) (fun k => Mem w [.row (some ⟨b3, 0, none⟩) n n 3 1 (iv .i64 (fillL n k)), .blk b2 [.int .u64 0, .int .u64 0] 27, .blk b1 [.int .u64 s, .int .u64 g] 27]) (fun k => k ≤ n) (fun k => n - k) (by exact Nat.zero_le _) (look_has ⟨rfl, rfl, rfl, rfl, rfl, rfl, trivial⟩) (fun w_ hM => by rw [fillL_zero] at hM; exact hM) ?_
  rintro k hI
  have hIk : k ≤ n := hI
  refine st_seq ?_
  refine st_region [(0, false)] (by rfl) ?_
  refine ops_run (is := [(0, false)]) (r := []) (l' := [(31, .bool (decide ((k : Int) < (n : Int)))), (30, .int .i64 (k : Int)), (29, .int .i64 (n : Int)), (7, .slice (some ⟨b3, 0, none⟩) n n), (5, .pointer (some ⟨b2, 0, none⟩)), (2, .pointer (some ⟨b1, 0, none⟩)), (1, .int .i64 (n : Int))]) [31, 30, 29, 7, 5, 2, 1] (by kernel_rfl) ?_
  refine ops_nil ?_
  refine fin_then ?_
  refine st_seq ?_
  refine st_if (b := decide ((k : Int) < (n : Int))) rfl (fun hc4 => ?_) (fun hc4 => ?_)
  · --
    have hk : k < n := by have := of_decide_eq_true hc4; omega
    have hk1 : IntKind.i64.wrap ((k : Int) + 1) = ((k + 1 : Nat) : Int) := succ_i64 (by omega)
    refine st_skip ?_
    refine fin_then ?_
    refine st_seq ?_
    refine st_block ?_
    refine st_seq ?_
    refine st_region [(0, false), (1, false)] (by rfl) ?_
    refine ops_run (is := [(0, false), (1, false)]) (r := []) (l' := [(8, .int .i64 (k : Int)), (30, .int .i64 (k : Int)), (29, .int .i64 (n : Int)), (7, .slice (some ⟨b3, 0, none⟩) n n), (5, .pointer (some ⟨b2, 0, none⟩)), (2, .pointer (some ⟨b1, 0, none⟩)), (1, .int .i64 (n : Int))]) [8, 30, 29, 7, 5, 2, 1] (by kernel_rfl) ?_
    refine ops_nil ?_
    refine fin_then ?_
    refine st_region [(0, false), (1, false), (2, false), (3, false), (4, false)] (by rfl) ?_
    refine ops_run (is := [(0, false), (1, false), (2, false)]) (r := [(3, false), (4, false)]) (l' := [(35, .int .i64 (k : Int)), (34, .int .i64 (k : Int)), (33, .slice (some ⟨b3, 0, none⟩) n n), (30, .int .i64 (k : Int)), (29, .int .i64 (n : Int)), (7, .slice (some ⟨b3, 0, none⟩) n n), (5, .pointer (some ⟨b2, 0, none⟩)), (2, .pointer (some ⟨b1, 0, none⟩)), (1, .int .i64 (n : Int))]) [35, 34, 33, 30, 29, 7, 5, 2, 1] (by kernel_rfl) ?_
    refine ops_val (op := (Go.Op.indexAddr 37 (Go.Operand.tmp 33) (Go.Operand.tmp 34))) (d := some 36) (v := .pointer (some ⟨b3, k, none⟩)) ⟨by kernel_rfl⟩ (run_indexRow Try.underlying37 (z := 1) (by kernel_rfl) rfl rfl (m := k) (by first | rfl | omega) (by first | omega | (simp only [fillL_length, List.length_set, List.length_append, List.length_cons, List.length_nil, List.length_replicate] at *; omega) | (simp [fillL_length, List.length_set, List.length_append, List.length_cons, List.length_nil, List.length_replicate]; done)) (by exact Nat.mul_one _)) ?_
    refine ops_run (is := []) (r := [(4, false)]) (l' := [(36, .pointer (some ⟨b3, k, none⟩)), (35, .int .i64 (k : Int)), (30, .int .i64 (k : Int)), (29, .int .i64 (n : Int)), (7, .slice (some ⟨b3, 0, none⟩) n n), (5, .pointer (some ⟨b2, 0, none⟩)), (2, .pointer (some ⟨b1, 0, none⟩)), (1, .int .i64 (n : Int))]) [36, 35, 30, 29, 7, 5, 2, 1] (by kernel_rfl) ?_
    refine ops_store (an := []) (evs := [.store ⟨b3, k, none⟩ (.int .i64 (k : Int))]) (M' := Mem w [.row (some ⟨b3, 0, none⟩) n n 3 1 (iv .i64 ((fillL n k).set k (k : Int))), .blk b2 [.int .u64 0, .int .u64 0] 27, .blk b1 [.int .u64 s, .int .u64 g] 27]) ⟨by kernel_rfl⟩ (fun w_ hM hS => let ⟨w', he, h'⟩ := hM.rowstore 0 rfl (k) (.int .i64 (k : Int)) (by rw [iv_length]; first | omega | (simp only [fillL_length, List.length_set, List.length_append, List.length_cons, List.length_nil, List.length_replicate] at *; omega) | (simp [fillL_length, List.length_set, List.length_append, List.length_cons, List.length_nil, List.length_replicate]; done)); ⟨w', he, (by rw [iv_set] at h'; exact h'), trivial⟩) ?_
    refine ops_run (is := []) (r := []) (l' := [(30, .int .i64 (k : Int)), (29, .int .i64 (n : Int)), (7, .slice (some ⟨b3, 0, none⟩) n n), (5, .pointer (some ⟨b2, 0, none⟩)), (2, .pointer (some ⟨b1, 0, none⟩)), (1, .int .i64 (n : Int))]) [30, 29, 7, 5, 2, 1] (by kernel_rfl) ?_
    refine ops_nil ?_
    refine fin_block ?_
    refine fin_then ?_
    refine st_region [(0, false), (1, false)] (by rfl) ?_
    refine ops_run (is := [(0, false), (1, false)]) (r := []) (l' := [(30, .int .i64 (IntKind.i64.wrap ((k : Int) + 1))), (29, .int .i64 (n : Int)), (7, .slice (some ⟨b3, 0, none⟩) n n), (5, .pointer (some ⟨b2, 0, none⟩)), (2, .pointer (some ⟨b1, 0, none⟩)), (1, .int .i64 (n : Int))]) [30, 29, 7, 5, 2, 1] (by kernel_rfl) ?_
    refine ops_conv (l' := [(30, .int .i64 ((k + 1 : Nat) : Int)), (29, .int .i64 (n : Int)), (7, .slice (some ⟨b3, 0, none⟩) n n), (5, .pointer (some ⟨b2, 0, none⟩)), (2, .pointer (some ⟨b1, 0, none⟩)), (1, .int .i64 (n : Int))]) (by rw [hk1]) (fun _ h => h) ?_
    refine ops_nil ?_
    refine fin_round (k + 1) (by omega) (by omega) (look_has ⟨rfl, rfl, rfl, rfl, rfl, rfl, trivial⟩) (fun w_ hM => by exact (by rw [fillL_set hk] at hM; exact hM))
  · --
    have hk : k = n := by have := of_decide_eq_false hc4; omega
    refine st_exit ?_
    refine fin_exit_then ?_
    refine fin_exit_then ?_
    refine fin_exit ?_
    refine fin_then ?_
    refine st_seq ?_
    refine st_seq ?_
    refine st_region [(0, false), (1, false), (2, false)] (by rfl) ?_
    refine ops_run (is := [(0, false), (1, false), (2, false)]) (r := []) (l' := [(9, .int .i64 (IntKind.i64.wrap ((n : Int) - 1))), (7, .slice (some ⟨b3, 0, none⟩) n n), (5, .pointer (some ⟨b2, 0, none⟩)), (2, .pointer (some ⟨b1, 0, none⟩))]) [9, 7, 5, 2] (by kernel_rfl) ?_
    refine ops_conv (l' := [(9, .int .i64 (((n : Nat) : Int) - 1)), (7, .slice (some ⟨b3, 0, none⟩) n n), (5, .pointer (some ⟨b2, 0, none⟩)), (2, .pointer (some ⟨b1, 0, none⟩))]) (by rw [hn1]) (fun _ h => h) ?_
    refine ops_nil ?_
    refine fin_then ?_
    refine st_block ?_
    have hk' : k = n := hk
    refine st_loop (σ := Nat) 0 (fun t => [(9, .int .i64 (((n - t : Nat) : Int) - 1)), (7, .slice (some ⟨b3, 0, none⟩) n n), (5, .pointer (some ⟨b2, 0, none⟩)), (2, .pointer (some ⟨b1, 0, none⟩))]) (fun t => Mem w [.row (some ⟨b3, 0, none⟩) n n 3 1 (iv .i64 ((sh s g n t).1)), .blk b2 [.int .u64 0, .int .u64 0] 27, .blk b1 [.int .u64 ((sh s g n t).2), .int .u64 g] 27]) (fun t => t ≤ n - 1) (fun t => n - t) (by exact Nat.zero_le _) (look_has ⟨rfl, rfl, rfl, rfl, trivial⟩) (fun w_ hM => by rw [show k = n from hk] at hM; exact hM) ?_
    rintro t hI
    have hI' : t ≤ n - 1 := hI
    refine st_seq ?_
    refine st_seq ?_
    refine st_region [(0, false), (1, false)] (by rfl) ?_
    refine ops_run (is := [(0, false), (1, false)]) (r := []) (l' := [(41, .bool (decide (0 < (((n - t : Nat) : Int) - 1)))), (9, .int .i64 (((n - t : Nat) : Int) - 1)), (7, .slice (some ⟨b3, 0, none⟩) n n), (5, .pointer (some ⟨b2, 0, none⟩)), (2, .pointer (some ⟨b1, 0, none⟩))]) [41, 9, 7, 5, 2] (by kernel_rfl) ?_
    refine ops_nil ?_
    refine fin_then ?_
    refine st_if (b := decide (0 < (((n - t : Nat) : Int) - 1))) rfl (fun hc5 => ?_) (fun hc5 => ?_)
    · --
      have hlt : t + 1 < n := by have := of_decide_eq_true hc5; omega
      have hs2t : ((n - t : Nat) : Int) - 1 = ((n - t - 1 : Nat) : Int) := by omega
      have hs1t : IntKind.i64.wrap (((n - t : Nat) : Int) - 1 + 1) = ((n - t : Nat) : Int) := by rw [i64w]; omega
      have hs4t : IntKind.i64.wrap (((n - t - 1 : Nat) : Int) + 1) = ((n - t : Nat) : Int) := by rw [i64w]; omega
      have hs3t : IntKind.i64.wrap (((n - t - 1 : Nat) : Int) - 1) = ((n - (t + 1) : Nat) : Int) - 1 := by rw [i64w]; omega
      have hbk : bkN (sh s g n t).2 g (n - t) < n := Nat.lt_of_lt_of_le (bk_lt (sh s g n t).2 g (m := n - t) (by omega) (by omega)) (by omega)
      refine st_skip ?_
      refine fin_then ?_
      refine st_seq ?_
      refine st_block ?_
      refine st_seq ?_
      refine st_region [(0, false), (1, false), (2, false), (3, false), (4, false), (5, false), (6, false), (7, false), (8, false), (9, false), (10, false), (11, false)] (by rfl) ?_
      refine ops_run (is := []) (r := [(0, false), (1, false), (2, false), (3, false), (4, false), (5, false), (6, false), (7, false), (8, false), (9, false), (10, false), (11, false)]) (l' := [(9, .int .i64 (((n - t : Nat) : Int) - 1)), (7, .slice (some ⟨b3, 0, none⟩) n n), (5, .pointer (some ⟨b2, 0, none⟩)), (2, .pointer (some ⟨b1, 0, none⟩))]) [9, 7, 5, 2] (by kernel_rfl) ?_
      refine ops_conv (l' := [(9, .int .i64 ((n - t - 1 : Nat) : Int)), (7, .slice (some ⟨b3, 0, none⟩) n n), (5, .pointer (some ⟨b2, 0, none⟩)), (2, .pointer (some ⟨b1, 0, none⟩))]) (by rw [hs2t]) (fun _ h => h) ?_
      refine ops_mem (d := some 45) (an := [.v (.int .u64 ((sh s g n t).2)), .v (.int .u64 g)]) (evs := [.load ⟨b1, 0, none⟩ (.int .u64 ((sh s g n t).2)), .load ⟨b1, 1, none⟩ (.int .u64 g)]) (v := .agg #[.int .u64 ((sh s g n t).2), .int .u64 g]) (M' := Mem w [.row (some ⟨b3, 0, none⟩) n n 3 1 (iv .i64 ((sh s g n t).1)), .blk b2 [.int .u64 0, .int .u64 0] 27, .blk b1 [.int .u64 ((sh s g n t).2), .int .u64 g] 27]) ⟨by kernel_rfl⟩ (fun w_ hM hS => ⟨w_, ⟨hM.cell 2 rfl rfl, hM.cell 2 rfl rfl, rfl⟩, hM, trivial⟩) ?_
      refine ops_run (is := [(1, false), (2, false)]) (r := [(3, false), (4, false), (5, false), (6, false), (7, false), (8, false), (9, false), (10, false), (11, false)]) (l' := [(47, .int .i64 (IntKind.i64.wrap (((n - t - 1 : Nat) : Int) + 1))), (45, .agg #[.int .u64 ((sh s g n t).2), .int .u64 g]), (9, .int .i64 ((n - t - 1 : Nat) : Int)), (7, .slice (some ⟨b3, 0, none⟩) n n), (5, .pointer (some ⟨b2, 0, none⟩)), (2, .pointer (some ⟨b1, 0, none⟩))]) [47, 45, 9, 7, 5, 2] (by kernel_rfl) ?_
      refine ops_conv (l' := [(47, .int .i64 ((n - t : Nat) : Int)), (45, .agg #[.int .u64 ((sh s g n t).2), .int .u64 g]), (9, .int .i64 ((n - t - 1 : Nat) : Int)), (7, .slice (some ⟨b3, 0, none⟩) n n), (5, .pointer (some ⟨b2, 0, none⟩)), (2, .pointer (some ⟨b1, 0, none⟩))]) (by rw [hs4t]) (fun _ h => h) ?_
      refine ops_call (σ := Unit) (d := some 48) (f := 16) (args := #[.agg #[.int .u64 ((sh s g n t).2), .int .u64 g], .int .i64 ((n - t : Nat) : Int)]) (v := fun _ => .tuple #[.int .i64 ((bkN (sh s g n t).2 g (n - t) : Nat) : Int), .agg #[.int .u64 (bs (sh s g n t).2 g (n - t)), .int .u64 g], .int .i64 0]) (M' := fun _ => Mem w [.row (some ⟨b3, 0, none⟩) n n 3 1 (iv .i64 ((sh s g n t).1)), .blk b2 [.int .u64 0, .int .u64 0] 27, .blk b1 [.int .u64 ((sh s g n t).2), .int .u64 g] 27]) ⟨by kernel_rfl⟩ (fun w_ hM hS => (Below_bk (sh s g n t).2 g (n - t) w_ (by omega) (by omega) hg0 h2 (sh_lo hs0 hs1 t)).mono (by rintro e w' ⟨rfl, hb⟩; exact ⟨(), rfl, hM.step hb, trivial⟩)) (fun _ => ?_)
      refine ops_run (is := [(4, false), (5, false), (6, false), (7, false)]) (r := [(8, false), (9, false), (10, false), (11, false)]) (l' := [(51, .int .i64 0), (50, .agg #[.int .u64 (bs (sh s g n t).2 g (n - t)), .int .u64 g]), (49, .int .i64 ((bkN (sh s g n t).2 g (n - t) : Nat) : Int)), (9, .int .i64 ((n - t - 1 : Nat) : Int)), (7, .slice (some ⟨b3, 0, none⟩) n n), (5, .pointer (some ⟨b2, 0, none⟩)), (2, .pointer (some ⟨b1, 0, none⟩))]) [51, 50, 49, 9, 7, 5, 2] (by kernel_rfl) ?_
      refine ops_new (d := some 11) (o := .cells #[.int .u64 0, .int .u64 0] 27) (v := fun b6 => .pointer (some ⟨b6, 0, none⟩)) (M' := fun b6 => Mem w [.blk b6 [.int .u64 0, .int .u64 0] 27, .row (some ⟨b3, 0, none⟩) n n 3 1 (iv .i64 ((sh s g n t).1)), .blk b2 [.int .u64 0, .int .u64 0] 27, .blk b1 [.int .u64 ((sh s g n t).2), .int .u64 g] 27]) (fun b6 => ⟨by kernel_rfl⟩) (fun w_ hM hS => ⟨hM.blk [.int .u64 0, .int .u64 0] 27, trivial⟩) (fun b6 => ?_)
      refine ops_run (is := [(9, false)]) (r := [(10, false), (11, false)]) (l' := [(10, .int .i64 ((bkN (sh s g n t).2 g (n - t) : Nat) : Int)), (11, .pointer (some ⟨b6, 0, none⟩)), (51, .int .i64 0), (50, .agg #[.int .u64 (bs (sh s g n t).2 g (n - t)), .int .u64 g]), (9, .int .i64 ((n - t - 1 : Nat) : Int)), (7, .slice (some ⟨b3, 0, none⟩) n n), (5, .pointer (some ⟨b2, 0, none⟩)), (2, .pointer (some ⟨b1, 0, none⟩))]) [10, 11, 51, 50, 9, 7, 5, 2] (by kernel_rfl) ?_
      refine ops_store (an := []) (evs := [.store ⟨b6, 0, none⟩ (.int .u64 (bs (sh s g n t).2 g (n - t))), .store ⟨b6, 1, none⟩ (.int .u64 g)]) (M' := Mem w [.blk b6 [.int .u64 (bs (sh s g n t).2 g (n - t)), .int .u64 g] 27, .row (some ⟨b3, 0, none⟩) n n 3 1 (iv .i64 ((sh s g n t).1)), .blk b2 [.int .u64 0, .int .u64 0] 27, .blk b1 [.int .u64 ((sh s g n t).2), .int .u64 g] 27]) ⟨by kernel_rfl⟩ (fun w_ hM hS => let ⟨w', he, h'⟩ := hM.evs_stores [.int .u64 (bs (sh s g n t).2 g (n - t)), .int .u64 g] 0 rfl 0 (Nat.le_of_ble_eq_true rfl); ⟨w', he, h', trivial⟩) ?_
      refine ops_run (is := [(11, false)]) (r := []) (l' := [(10, .int .i64 ((bkN (sh s g n t).2 g (n - t) : Nat) : Int)), (11, .pointer (some ⟨b6, 0, none⟩)), (9, .int .i64 ((n - t - 1 : Nat) : Int)), (7, .slice (some ⟨b3, 0, none⟩) n n), (5, .pointer (some ⟨b2, 0, none⟩)), (2, .pointer (some ⟨b1, 0, none⟩))]) [10, 11, 9, 7, 5, 2] (by kernel_rfl) ?_
      refine ops_nil ?_
      refine fin_then ?_
      refine st_seq ?_
      refine st_region [(0, false), (1, false)] (by rfl) ?_
      refine ops_mem (d := some 52) (an := [.v (.int .u64 (bs (sh s g n t).2 g (n - t))), .v (.int .u64 g)]) (evs := [.load ⟨b6, 0, none⟩ (.int .u64 (bs (sh s g n t).2 g (n - t))), .load ⟨b6, 1, none⟩ (.int .u64 g)]) (v := .agg #[.int .u64 (bs (sh s g n t).2 g (n - t)), .int .u64 g]) (M' := Mem w [.blk b6 [.int .u64 (bs (sh s g n t).2 g (n - t)), .int .u64 g] 27, .row (some ⟨b3, 0, none⟩) n n 3 1 (iv .i64 ((sh s g n t).1)), .blk b2 [.int .u64 0, .int .u64 0] 27, .blk b1 [.int .u64 ((sh s g n t).2), .int .u64 g] 27]) ⟨by kernel_rfl⟩ (fun w_ hM hS => ⟨w_, ⟨hM.cell 0 rfl rfl, hM.cell 0 rfl rfl, rfl⟩, hM, trivial⟩) ?_
      refine ops_run (is := []) (r := [(1, false)]) (l' := [(52, .agg #[.int .u64 (bs (sh s g n t).2 g (n - t)), .int .u64 g]), (10, .int .i64 ((bkN (sh s g n t).2 g (n - t) : Nat) : Int)), (9, .int .i64 ((n - t - 1 : Nat) : Int)), (7, .slice (some ⟨b3, 0, none⟩) n n), (5, .pointer (some ⟨b2, 0, none⟩)), (2, .pointer (some ⟨b1, 0, none⟩))]) [52, 10, 9, 7, 5, 2] (by kernel_rfl) ?_
      refine ops_store (an := []) (evs := [.store ⟨b1, 0, none⟩ (.int .u64 (bs (sh s g n t).2 g (n - t))), .store ⟨b1, 1, none⟩ (.int .u64 g)]) (M' := Mem w [.blk b6 [.int .u64 (bs (sh s g n t).2 g (n - t)), .int .u64 g] 27, .row (some ⟨b3, 0, none⟩) n n 3 1 (iv .i64 ((sh s g n t).1)), .blk b2 [.int .u64 0, .int .u64 0] 27, .blk b1 [.int .u64 (bs (sh s g n t).2 g (n - t)), .int .u64 g] 27]) ⟨by kernel_rfl⟩ (fun w_ hM hS => let ⟨w', he, h'⟩ := hM.evs_stores [.int .u64 (bs (sh s g n t).2 g (n - t)), .int .u64 g] 3 rfl 0 (Nat.le_of_ble_eq_true rfl); ⟨w', he, h', trivial⟩) ?_
      refine ops_run (is := []) (r := []) (l' := [(10, .int .i64 ((bkN (sh s g n t).2 g (n - t) : Nat) : Int)), (9, .int .i64 ((n - t - 1 : Nat) : Int)), (7, .slice (some ⟨b3, 0, none⟩) n n), (5, .pointer (some ⟨b2, 0, none⟩)), (2, .pointer (some ⟨b1, 0, none⟩))]) [10, 9, 7, 5, 2] (by kernel_rfl) ?_
      refine ops_nil ?_
      refine fin_then ?_
      refine st_region_tree (.node [(0, true), (1, true), (2, true), (3, true), (4, true), (5, true), (6, true), (8, true), (9, true), (10, true)] (.leaf [(7, false), (11, false), (12, true), (13, false), (14, true), (15, false)]) (.leaf [(11, false), (7, false), (12, true), (13, false), (14, true), (15, false)])) (Mem w [.blk b6 [.int .u64 (bs (sh s g n t).2 g (n - t)), .int .u64 g] 27, .blk b2 [.int .u64 0, .int .u64 0] 27, .blk b1 [.int .u64 (bs (sh s g n t).2 g (n - t)), .int .u64 g] 27]) (by kernel_rfl) (by kernel_rfl) (by kernel_rfl) (fun _ d _ _ _ h => by cases d <;> exact h) (M' := Mem w [.blk b6 [.int .u64 (bs (sh s g n t).2 g (n - t)), .int .u64 g] 27, .row (some ⟨b3, 0, none⟩) n n 3 1 (iv .i64 ((sh s g n t).1)), .blk b2 [.int .u64 0, .int .u64 0] 27, .blk b1 [.int .u64 (bs (sh s g n t).2 g (n - t)), .int .u64 g] 27]) (fun w_ hM => ⟨hM.drew, hM.drew.sub (by simp)⟩) ?_
      refine tree_node ?_
      refine ops_run (is := [(0, true), (1, true), (2, true), (3, true), (4, true), (5, true)]) (r := [(6, true), (8, true), (9, true), (10, true)]) (l' := [(58, .int .i64 ((bkN (sh s g n t).2 g (n - t) : Nat) : Int)), (57, .slice (some ⟨b3, 0, none⟩) n n), (56, .int .i64 ((bkN (sh s g n t).2 g (n - t) : Nat) : Int)), (55, .slice (some ⟨b3, 0, none⟩) n n), (54, .int .i64 ((n - t - 1 : Nat) : Int)), (53, .slice (some ⟨b3, 0, none⟩) n n), (9, .int .i64 ((n - t - 1 : Nat) : Int)), (7, .slice (some ⟨b3, 0, none⟩) n n), (5, .pointer (some ⟨b2, 0, none⟩)), (2, .pointer (some ⟨b1, 0, none⟩))]) [58, 57, 56, 55, 54, 53, 9, 7, 5, 2] (by kernel_rfl) ?_
      refine ops_val (op := (Go.Op.indexAddr 37 (Go.Operand.tmp 57) (Go.Operand.tmp 58))) (d := some 59) (v := .pointer (some ⟨b3, bkN (sh s g n t).2 g (n - t), none⟩)) ⟨by kernel_rfl⟩ (run_indexRow Try.underlying37 (z := 1) (by kernel_rfl) rfl rfl (m := bkN (sh s g n t).2 g (n - t)) (by first | rfl | omega) (by first | omega | (simp only [sh_length, List.length_set, List.length_append, List.length_cons, List.length_nil, List.length_replicate] at *; omega) | (simp [sh_length, List.length_set, List.length_append, List.length_cons, List.length_nil, List.length_replicate]; done)) (by exact Nat.mul_one _)) ?_
      refine ops_run (is := [(8, true), (9, true)]) (r := [(10, true)]) (l' := [(62, .int .i64 ((n - t - 1 : Nat) : Int)), (61, .slice (some ⟨b3, 0, none⟩) n n), (59, .pointer (some ⟨b3, bkN (sh s g n t).2 g (n - t), none⟩)), (56, .int .i64 ((bkN (sh s g n t).2 g (n - t) : Nat) : Int)), (55, .slice (some ⟨b3, 0, none⟩) n n), (54, .int .i64 ((n - t - 1 : Nat) : Int)), (53, .slice (some ⟨b3, 0, none⟩) n n), (9, .int .i64 ((n - t - 1 : Nat) : Int)), (7, .slice (some ⟨b3, 0, none⟩) n n), (5, .pointer (some ⟨b2, 0, none⟩)), (2, .pointer (some ⟨b1, 0, none⟩))]) [62, 61, 59, 56, 55, 54, 53, 9, 7, 5, 2] (by kernel_rfl) ?_
      refine ops_val (op := (Go.Op.indexAddr 37 (Go.Operand.tmp 61) (Go.Operand.tmp 62))) (d := some 63) (v := .pointer (some ⟨b3, n - t - 1, none⟩)) ⟨by kernel_rfl⟩ (run_indexRow Try.underlying37 (z := 1) (by kernel_rfl) rfl rfl (m := n - t - 1) (by first | rfl | omega) (by first | omega | (simp only [sh_length, List.length_set, List.length_append, List.length_cons, List.length_nil, List.length_replicate] at *; omega) | (simp [sh_length, List.length_set, List.length_append, List.length_cons, List.length_nil, List.length_replicate]; done)) (by exact Nat.mul_one _)) ?_
      refine ops_run (is := []) (r := []) (l' := [(63, .pointer (some ⟨b3, n - t - 1, none⟩)), (59, .pointer (some ⟨b3, bkN (sh s g n t).2 g (n - t), none⟩)), (56, .int .i64 ((bkN (sh s g n t).2 g (n - t) : Nat) : Int)), (55, .slice (some ⟨b3, 0, none⟩) n n), (54, .int .i64 ((n - t - 1 : Nat) : Int)), (53, .slice (some ⟨b3, 0, none⟩) n n), (9, .int .i64 ((n - t - 1 : Nat) : Int)), (7, .slice (some ⟨b3, 0, none⟩) n n), (5, .pointer (some ⟨b2, 0, none⟩)), (2, .pointer (some ⟨b1, 0, none⟩))]) [63, 59, 56, 55, 54, 53, 9, 7, 5, 2] (by kernel_rfl) ?_
      refine ops_nil ?_
      refine tree_both ?_ ?_
      · --
        refine tree_leaf ?_
        refine ops_mem (d := some 60) (an := [.v (.int .i64 (((sh s g n t).1).getD (bkN (sh s g n t).2 g (n - t)) 0))]) (evs := [.load ⟨b3, bkN (sh s g n t).2 g (n - t), none⟩ (.int .i64 (((sh s g n t).1).getD (bkN (sh s g n t).2 g (n - t)) 0))]) (v := .int .i64 (((sh s g n t).1).getD (bkN (sh s g n t).2 g (n - t)) 0)) (M' := Mem w [.blk b6 [.int .u64 (bs (sh s g n t).2 g (n - t)), .int .u64 g] 27, .row (some ⟨b3, 0, none⟩) n n 3 1 (iv .i64 ((sh s g n t).1)), .blk b2 [.int .u64 0, .int .u64 0] 27, .blk b1 [.int .u64 (bs (sh s g n t).2 g (n - t)), .int .u64 g] 27]) ⟨by kernel_rfl⟩ (fun w_ hM hS => ⟨w_, ⟨hM.rowcell 1 rfl (iv_get (by first | omega | (simp only [sh_length, List.length_set, List.length_append, List.length_cons, List.length_nil, List.length_replicate] at *; omega) | (simp [sh_length, List.length_set, List.length_append, List.length_cons, List.length_nil, List.length_replicate]; done))), rfl⟩, hM, hS⟩) ?_
        refine ops_run (is := []) (r := [(11, false), (12, true), (13, false), (14, true), (15, false)]) (l' := [(60, .int .i64 (((sh s g n t).1).getD (bkN (sh s g n t).2 g (n - t)) 0)), (63, .pointer (some ⟨b3, n - t - 1, none⟩)), (56, .int .i64 ((bkN (sh s g n t).2 g (n - t) : Nat) : Int)), (55, .slice (some ⟨b3, 0, none⟩) n n), (54, .int .i64 ((n - t - 1 : Nat) : Int)), (53, .slice (some ⟨b3, 0, none⟩) n n), (9, .int .i64 ((n - t - 1 : Nat) : Int)), (7, .slice (some ⟨b3, 0, none⟩) n n), (5, .pointer (some ⟨b2, 0, none⟩)), (2, .pointer (some ⟨b1, 0, none⟩))]) [60, 63, 56, 55, 54, 53, 9, 7, 5, 2] (by kernel_rfl) ?_
        refine ops_mem (d := some 64) (an := [.v (.int .i64 (((sh s g n t).1).getD (n - t - 1) 0))]) (evs := [.load ⟨b3, n - t - 1, none⟩ (.int .i64 (((sh s g n t).1).getD (n - t - 1) 0))]) (v := .int .i64 (((sh s g n t).1).getD (n - t - 1) 0)) (M' := Mem w [.blk b6 [.int .u64 (bs (sh s g n t).2 g (n - t)), .int .u64 g] 27, .row (some ⟨b3, 0, none⟩) n n 3 1 (iv .i64 ((sh s g n t).1)), .blk b2 [.int .u64 0, .int .u64 0] 27, .blk b1 [.int .u64 (bs (sh s g n t).2 g (n - t)), .int .u64 g] 27]) ⟨by kernel_rfl⟩ (fun w_ hM hS => ⟨w_, ⟨hM.rowcell 1 rfl (iv_get (by first | omega | (simp only [sh_length, List.length_set, List.length_append, List.length_cons, List.length_nil, List.length_replicate] at *; omega) | (simp [sh_length, List.length_set, List.length_append, List.length_cons, List.length_nil, List.length_replicate]; done))), rfl⟩, hM, hS⟩) ?_
        refine ops_run (is := []) (r := [(12, true), (13, false), (14, true), (15, false)]) (l' := [(64, .int .i64 (((sh s g n t).1).getD (n - t - 1) 0)), (60, .int .i64 (((sh s g n t).1).getD (bkN (sh s g n t).2 g (n - t)) 0)), (56, .int .i64 ((bkN (sh s g n t).2 g (n - t) : Nat) : Int)), (55, .slice (some ⟨b3, 0, none⟩) n n), (54, .int .i64 ((n - t - 1 : Nat) : Int)), (53, .slice (some ⟨b3, 0, none⟩) n n), (9, .int .i64 ((n - t - 1 : Nat) : Int)), (7, .slice (some ⟨b3, 0, none⟩) n n), (5, .pointer (some ⟨b2, 0, none⟩)), (2, .pointer (some ⟨b1, 0, none⟩))]) [64, 60, 56, 55, 54, 53, 9, 7, 5, 2] (by kernel_rfl) ?_
        refine ops_val (op := (Go.Op.indexAddr 37 (Go.Operand.tmp 53) (Go.Operand.tmp 54))) (d := some 65) (v := .pointer (some ⟨b3, n - t - 1, none⟩)) ⟨by kernel_rfl⟩ (run_indexRow Try.underlying37 (z := 1) (by kernel_rfl) rfl rfl (m := n - t - 1) (by first | rfl | omega) (by first | omega | (simp only [sh_length, List.length_set, List.length_append, List.length_cons, List.length_nil, List.length_replicate] at *; omega) | (simp [sh_length, List.length_set, List.length_append, List.length_cons, List.length_nil, List.length_replicate]; done)) (by exact Nat.mul_one _)) ?_
        refine ops_run (is := []) (r := [(13, false), (14, true), (15, false)]) (l' := [(65, .pointer (some ⟨b3, n - t - 1, none⟩)), (64, .int .i64 (((sh s g n t).1).getD (n - t - 1) 0)), (60, .int .i64 (((sh s g n t).1).getD (bkN (sh s g n t).2 g (n - t)) 0)), (56, .int .i64 ((bkN (sh s g n t).2 g (n - t) : Nat) : Int)), (55, .slice (some ⟨b3, 0, none⟩) n n), (9, .int .i64 ((n - t - 1 : Nat) : Int)), (7, .slice (some ⟨b3, 0, none⟩) n n), (5, .pointer (some ⟨b2, 0, none⟩)), (2, .pointer (some ⟨b1, 0, none⟩))]) [65, 64, 60, 56, 55, 9, 7, 5, 2] (by kernel_rfl) ?_
        refine ops_store (an := []) (evs := [.store ⟨b3, n - t - 1, none⟩ (.int .i64 (((sh s g n t).1).getD (bkN (sh s g n t).2 g (n - t)) 0))]) (M' := Mem w [.blk b6 [.int .u64 (bs (sh s g n t).2 g (n - t)), .int .u64 g] 27, .row (some ⟨b3, 0, none⟩) n n 3 1 (iv .i64 (((sh s g n t).1).set (n - t - 1) (((sh s g n t).1).getD (bkN (sh s g n t).2 g (n - t)) 0))), .blk b2 [.int .u64 0, .int .u64 0] 27, .blk b1 [.int .u64 (bs (sh s g n t).2 g (n - t)), .int .u64 g] 27]) ⟨by kernel_rfl⟩ (fun w_ hM hS => let ⟨w', he, h'⟩ := hM.rowstore 1 rfl (n - t - 1) (.int .i64 (((sh s g n t).1).getD (bkN (sh s g n t).2 g (n - t)) 0)) (by rw [iv_length]; first | omega | (simp only [sh_length, List.length_set, List.length_append, List.length_cons, List.length_nil, List.length_replicate] at *; omega) | (simp [sh_length, List.length_set, List.length_append, List.length_cons, List.length_nil, List.length_replicate]; done)); ⟨w', he, (by rw [iv_set] at h'; exact h'), (by exact h'.sub (by simp))⟩) ?_
        refine ops_run (is := []) (r := [(14, true), (15, false)]) (l' := [(64, .int .i64 (((sh s g n t).1).getD (n - t - 1) 0)), (56, .int .i64 ((bkN (sh s g n t).2 g (n - t) : Nat) : Int)), (55, .slice (some ⟨b3, 0, none⟩) n n), (9, .int .i64 ((n - t - 1 : Nat) : Int)), (7, .slice (some ⟨b3, 0, none⟩) n n), (5, .pointer (some ⟨b2, 0, none⟩)), (2, .pointer (some ⟨b1, 0, none⟩))]) [64, 56, 55, 9, 7, 5, 2] (by kernel_rfl) ?_
        refine ops_val (op := (Go.Op.indexAddr 37 (Go.Operand.tmp 55) (Go.Operand.tmp 56))) (d := some 66) (v := .pointer (some ⟨b3, bkN (sh s g n t).2 g (n - t), none⟩)) ⟨by kernel_rfl⟩ (run_indexRow Try.underlying37 (z := 1) (by kernel_rfl) rfl rfl (m := bkN (sh s g n t).2 g (n - t)) (by first | rfl | omega) (by first | omega | (simp only [sh_length, List.length_set, List.length_append, List.length_cons, List.length_nil, List.length_replicate] at *; omega) | (simp [sh_length, List.length_set, List.length_append, List.length_cons, List.length_nil, List.length_replicate]; done)) (by exact Nat.mul_one _)) ?_
        refine ops_run (is := []) (r := [(15, false)]) (l' := [(66, .pointer (some ⟨b3, bkN (sh s g n t).2 g (n - t), none⟩)), (64, .int .i64 (((sh s g n t).1).getD (n - t - 1) 0)), (9, .int .i64 ((n - t - 1 : Nat) : Int)), (7, .slice (some ⟨b3, 0, none⟩) n n), (5, .pointer (some ⟨b2, 0, none⟩)), (2, .pointer (some ⟨b1, 0, none⟩))]) [66, 64, 9, 7, 5, 2] (by kernel_rfl) ?_
        refine ops_store (an := []) (evs := [.store ⟨b3, bkN (sh s g n t).2 g (n - t), none⟩ (.int .i64 (((sh s g n t).1).getD (n - t - 1) 0))]) (M' := Mem w [.blk b6 [.int .u64 (bs (sh s g n t).2 g (n - t)), .int .u64 g] 27, .row (some ⟨b3, 0, none⟩) n n 3 1 (iv .i64 ((((sh s g n t).1).set (n - t - 1) (((sh s g n t).1).getD (bkN (sh s g n t).2 g (n - t)) 0)).set (bkN (sh s g n t).2 g (n - t)) (((sh s g n t).1).getD (n - t - 1) 0))), .blk b2 [.int .u64 0, .int .u64 0] 27, .blk b1 [.int .u64 (bs (sh s g n t).2 g (n - t)), .int .u64 g] 27]) ⟨by kernel_rfl⟩ (fun w_ hM hS => let ⟨w', he, h'⟩ := hM.rowstore 1 rfl (bkN (sh s g n t).2 g (n - t)) (.int .i64 (((sh s g n t).1).getD (n - t - 1) 0)) (by rw [iv_length]; first | omega | (simp only [sh_length, List.length_set, List.length_append, List.length_cons, List.length_nil, List.length_replicate] at *; omega) | (simp [sh_length, List.length_set, List.length_append, List.length_cons, List.length_nil, List.length_replicate]; done)); ⟨w', he, (by rw [iv_set] at h'; exact h'), (by exact h'.sub (by simp))⟩) ?_
        refine ops_run (is := []) (r := []) (l' := [(9, .int .i64 ((n - t - 1 : Nat) : Int)), (7, .slice (some ⟨b3, 0, none⟩) n n), (5, .pointer (some ⟨b2, 0, none⟩)), (2, .pointer (some ⟨b1, 0, none⟩))]) [9, 7, 5, 2] (by kernel_rfl) ?_
        refine ops_nil ?_
        refine fin_block ?_
        refine fin_then ?_
        refine st_region [(0, false), (1, false), (2, false)] (by rfl) ?_
        refine ops_run (is := [(0, false), (1, false), (2, false)]) (r := []) (l' := [(9, .int .i64 (IntKind.i64.wrap (((n - t - 1 : Nat) : Int) - 1))), (7, .slice (some ⟨b3, 0, none⟩) n n), (5, .pointer (some ⟨b2, 0, none⟩)), (2, .pointer (some ⟨b1, 0, none⟩))]) [9, 7, 5, 2] (by kernel_rfl) ?_
        refine ops_conv (l' := [(9, .int .i64 (((n - (t + 1) : Nat) : Int) - 1)), (7, .slice (some ⟨b3, 0, none⟩) n n), (5, .pointer (some ⟨b2, 0, none⟩)), (2, .pointer (some ⟨b1, 0, none⟩))]) (by rw [hs3t]) (fun _ h => h) ?_
        refine ops_nil ?_
        refine fin_round (t + 1) (by show t + 1 ≤ n - 1; omega) (by omega) (look_has ⟨rfl, rfl, rfl, rfl, trivial⟩) (fun w_ hM => by exact (by have hM : Mem w [.row (some ⟨b3, 0, none⟩) n n 3 1 (iv .i64 ((((sh s g n t).1).set (n - t - 1) (((sh s g n t).1).getD (bkN (sh s g n t).2 g (n - t)) 0)).set (bkN (sh s g n t).2 g (n - t)) (((sh s g n t).1).getD (n - t - 1) 0))), .blk b2 [.int .u64 0, .int .u64 0] 27, .blk b1 [.int .u64 (bs (sh s g n t).2 g (n - t)), .int .u64 g] 27] w_ := hM.reorder [1, 2, 3] (by decide) rfl; exact (by rw [sh_succ] at hM; exact hM)))
      · --
        refine tree_leaf ?_
        refine ops_mem (d := some 64) (an := [.v (.int .i64 (((sh s g n t).1).getD (n - t - 1) 0))]) (evs := [.load ⟨b3, n - t - 1, none⟩ (.int .i64 (((sh s g n t).1).getD (n - t - 1) 0))]) (v := .int .i64 (((sh s g n t).1).getD (n - t - 1) 0)) (M' := Mem w [.blk b6 [.int .u64 (bs (sh s g n t).2 g (n - t)), .int .u64 g] 27, .row (some ⟨b3, 0, none⟩) n n 3 1 (iv .i64 ((sh s g n t).1)), .blk b2 [.int .u64 0, .int .u64 0] 27, .blk b1 [.int .u64 (bs (sh s g n t).2 g (n - t)), .int .u64 g] 27]) ⟨by kernel_rfl⟩ (fun w_ hM hS => ⟨w_, ⟨hM.rowcell 1 rfl (iv_get (by first | omega | (simp only [sh_length, List.length_set, List.length_append, List.length_cons, List.length_nil, List.length_replicate] at *; omega) | (simp [sh_length, List.length_set, List.length_append, List.length_cons, List.length_nil, List.length_replicate]; done))), rfl⟩, hM, hS⟩) ?_
        refine ops_run (is := []) (r := [(7, false), (12, true), (13, false), (14, true), (15, false)]) (l' := [(64, .int .i64 (((sh s g n t).1).getD (n - t - 1) 0)), (59, .pointer (some ⟨b3, bkN (sh s g n t).2 g (n - t), none⟩)), (56, .int .i64 ((bkN (sh s g n t).2 g (n - t) : Nat) : Int)), (55, .slice (some ⟨b3, 0, none⟩) n n), (54, .int .i64 ((n - t - 1 : Nat) : Int)), (53, .slice (some ⟨b3, 0, none⟩) n n), (9, .int .i64 ((n - t - 1 : Nat) : Int)), (7, .slice (some ⟨b3, 0, none⟩) n n), (5, .pointer (some ⟨b2, 0, none⟩)), (2, .pointer (some ⟨b1, 0, none⟩))]) [64, 59, 56, 55, 54, 53, 9, 7, 5, 2] (by kernel_rfl) ?_
        refine ops_mem (d := some 60) (an := [.v (.int .i64 (((sh s g n t).1).getD (bkN (sh s g n t).2 g (n - t)) 0))]) (evs := [.load ⟨b3, bkN (sh s g n t).2 g (n - t), none⟩ (.int .i64 (((sh s g n t).1).getD (bkN (sh s g n t).2 g (n - t)) 0))]) (v := .int .i64 (((sh s g n t).1).getD (bkN (sh s g n t).2 g (n - t)) 0)) (M' := Mem w [.blk b6 [.int .u64 (bs (sh s g n t).2 g (n - t)), .int .u64 g] 27, .row (some ⟨b3, 0, none⟩) n n 3 1 (iv .i64 ((sh s g n t).1)), .blk b2 [.int .u64 0, .int .u64 0] 27, .blk b1 [.int .u64 (bs (sh s g n t).2 g (n - t)), .int .u64 g] 27]) ⟨by kernel_rfl⟩ (fun w_ hM hS => ⟨w_, ⟨hM.rowcell 1 rfl (iv_get (by first | omega | (simp only [sh_length, List.length_set, List.length_append, List.length_cons, List.length_nil, List.length_replicate] at *; omega) | (simp [sh_length, List.length_set, List.length_append, List.length_cons, List.length_nil, List.length_replicate]; done))), rfl⟩, hM, hS⟩) ?_
        refine ops_run (is := []) (r := [(12, true), (13, false), (14, true), (15, false)]) (l' := [(60, .int .i64 (((sh s g n t).1).getD (bkN (sh s g n t).2 g (n - t)) 0)), (64, .int .i64 (((sh s g n t).1).getD (n - t - 1) 0)), (56, .int .i64 ((bkN (sh s g n t).2 g (n - t) : Nat) : Int)), (55, .slice (some ⟨b3, 0, none⟩) n n), (54, .int .i64 ((n - t - 1 : Nat) : Int)), (53, .slice (some ⟨b3, 0, none⟩) n n), (9, .int .i64 ((n - t - 1 : Nat) : Int)), (7, .slice (some ⟨b3, 0, none⟩) n n), (5, .pointer (some ⟨b2, 0, none⟩)), (2, .pointer (some ⟨b1, 0, none⟩))]) [60, 64, 56, 55, 54, 53, 9, 7, 5, 2] (by kernel_rfl) ?_
        refine ops_val (op := (Go.Op.indexAddr 37 (Go.Operand.tmp 53) (Go.Operand.tmp 54))) (d := some 65) (v := .pointer (some ⟨b3, n - t - 1, none⟩)) ⟨by kernel_rfl⟩ (run_indexRow Try.underlying37 (z := 1) (by kernel_rfl) rfl rfl (m := n - t - 1) (by first | rfl | omega) (by first | omega | (simp only [sh_length, List.length_set, List.length_append, List.length_cons, List.length_nil, List.length_replicate] at *; omega) | (simp [sh_length, List.length_set, List.length_append, List.length_cons, List.length_nil, List.length_replicate]; done)) (by exact Nat.mul_one _)) ?_
        refine ops_run (is := []) (r := [(13, false), (14, true), (15, false)]) (l' := [(65, .pointer (some ⟨b3, n - t - 1, none⟩)), (60, .int .i64 (((sh s g n t).1).getD (bkN (sh s g n t).2 g (n - t)) 0)), (64, .int .i64 (((sh s g n t).1).getD (n - t - 1) 0)), (56, .int .i64 ((bkN (sh s g n t).2 g (n - t) : Nat) : Int)), (55, .slice (some ⟨b3, 0, none⟩) n n), (9, .int .i64 ((n - t - 1 : Nat) : Int)), (7, .slice (some ⟨b3, 0, none⟩) n n), (5, .pointer (some ⟨b2, 0, none⟩)), (2, .pointer (some ⟨b1, 0, none⟩))]) [65, 60, 64, 56, 55, 9, 7, 5, 2] (by kernel_rfl) ?_
        refine ops_store (an := []) (evs := [.store ⟨b3, n - t - 1, none⟩ (.int .i64 (((sh s g n t).1).getD (bkN (sh s g n t).2 g (n - t)) 0))]) (M' := Mem w [.blk b6 [.int .u64 (bs (sh s g n t).2 g (n - t)), .int .u64 g] 27, .row (some ⟨b3, 0, none⟩) n n 3 1 (iv .i64 (((sh s g n t).1).set (n - t - 1) (((sh s g n t).1).getD (bkN (sh s g n t).2 g (n - t)) 0))), .blk b2 [.int .u64 0, .int .u64 0] 27, .blk b1 [.int .u64 (bs (sh s g n t).2 g (n - t)), .int .u64 g] 27]) ⟨by kernel_rfl⟩ (fun w_ hM hS => let ⟨w', he, h'⟩ := hM.rowstore 1 rfl (n - t - 1) (.int .i64 (((sh s g n t).1).getD (bkN (sh s g n t).2 g (n - t)) 0)) (by rw [iv_length]; first | omega | (simp only [sh_length, List.length_set, List.length_append, List.length_cons, List.length_nil, List.length_replicate] at *; omega) | (simp [sh_length, List.length_set, List.length_append, List.length_cons, List.length_nil, List.length_replicate]; done)); ⟨w', he, (by rw [iv_set] at h'; exact h'), (by exact h'.sub (by simp))⟩) ?_
        refine ops_run (is := []) (r := [(14, true), (15, false)]) (l' := [(64, .int .i64 (((sh s g n t).1).getD (n - t - 1) 0)), (56, .int .i64 ((bkN (sh s g n t).2 g (n - t) : Nat) : Int)), (55, .slice (some ⟨b3, 0, none⟩) n n), (9, .int .i64 ((n - t - 1 : Nat) : Int)), (7, .slice (some ⟨b3, 0, none⟩) n n), (5, .pointer (some ⟨b2, 0, none⟩)), (2, .pointer (some ⟨b1, 0, none⟩))]) [64, 56, 55, 9, 7, 5, 2] (by kernel_rfl) ?_
        refine ops_val (op := (Go.Op.indexAddr 37 (Go.Operand.tmp 55) (Go.Operand.tmp 56))) (d := some 66) (v := .pointer (some ⟨b3, bkN (sh s g n t).2 g (n - t), none⟩)) ⟨by kernel_rfl⟩ (run_indexRow Try.underlying37 (z := 1) (by kernel_rfl) rfl rfl (m := bkN (sh s g n t).2 g (n - t)) (by first | rfl | omega) (by first | omega | (simp only [sh_length, List.length_set, List.length_append, List.length_cons, List.length_nil, List.length_replicate] at *; omega) | (simp [sh_length, List.length_set, List.length_append, List.length_cons, List.length_nil, List.length_replicate]; done)) (by exact Nat.mul_one _)) ?_
        refine ops_run (is := []) (r := [(15, false)]) (l' := [(66, .pointer (some ⟨b3, bkN (sh s g n t).2 g (n - t), none⟩)), (64, .int .i64 (((sh s g n t).1).getD (n - t - 1) 0)), (9, .int .i64 ((n - t - 1 : Nat) : Int)), (7, .slice (some ⟨b3, 0, none⟩) n n), (5, .pointer (some ⟨b2, 0, none⟩)), (2, .pointer (some ⟨b1, 0, none⟩))]) [66, 64, 9, 7, 5, 2] (by kernel_rfl) ?_
        refine ops_store (an := []) (evs := [.store ⟨b3, bkN (sh s g n t).2 g (n - t), none⟩ (.int .i64 (((sh s g n t).1).getD (n - t - 1) 0))]) (M' := Mem w [.blk b6 [.int .u64 (bs (sh s g n t).2 g (n - t)), .int .u64 g] 27, .row (some ⟨b3, 0, none⟩) n n 3 1 (iv .i64 ((((sh s g n t).1).set (n - t - 1) (((sh s g n t).1).getD (bkN (sh s g n t).2 g (n - t)) 0)).set (bkN (sh s g n t).2 g (n - t)) (((sh s g n t).1).getD (n - t - 1) 0))), .blk b2 [.int .u64 0, .int .u64 0] 27, .blk b1 [.int .u64 (bs (sh s g n t).2 g (n - t)), .int .u64 g] 27]) ⟨by kernel_rfl⟩ (fun w_ hM hS => let ⟨w', he, h'⟩ := hM.rowstore 1 rfl (bkN (sh s g n t).2 g (n - t)) (.int .i64 (((sh s g n t).1).getD (n - t - 1) 0)) (by rw [iv_length]; first | omega | (simp only [sh_length, List.length_set, List.length_append, List.length_cons, List.length_nil, List.length_replicate] at *; omega) | (simp [sh_length, List.length_set, List.length_append, List.length_cons, List.length_nil, List.length_replicate]; done)); ⟨w', he, (by rw [iv_set] at h'; exact h'), (by exact h'.sub (by simp))⟩) ?_
        refine ops_run (is := []) (r := []) (l' := [(9, .int .i64 ((n - t - 1 : Nat) : Int)), (7, .slice (some ⟨b3, 0, none⟩) n n), (5, .pointer (some ⟨b2, 0, none⟩)), (2, .pointer (some ⟨b1, 0, none⟩))]) [9, 7, 5, 2] (by kernel_rfl) ?_
        refine ops_nil ?_
        refine fin_block ?_
        refine fin_then ?_
        refine st_region [(0, false), (1, false), (2, false)] (by rfl) ?_
        refine ops_run (is := [(0, false), (1, false), (2, false)]) (r := []) (l' := [(9, .int .i64 (IntKind.i64.wrap (((n - t - 1 : Nat) : Int) - 1))), (7, .slice (some ⟨b3, 0, none⟩) n n), (5, .pointer (some ⟨b2, 0, none⟩)), (2, .pointer (some ⟨b1, 0, none⟩))]) [9, 7, 5, 2] (by kernel_rfl) ?_
        refine ops_conv (l' := [(9, .int .i64 (((n - (t + 1) : Nat) : Int) - 1)), (7, .slice (some ⟨b3, 0, none⟩) n n), (5, .pointer (some ⟨b2, 0, none⟩)), (2, .pointer (some ⟨b1, 0, none⟩))]) (by rw [hs3t]) (fun _ h => h) ?_
        refine ops_nil ?_
        refine fin_round (t + 1) (by show t + 1 ≤ n - 1; omega) (by omega) (look_has ⟨rfl, rfl, rfl, rfl, trivial⟩) (fun w_ hM => by exact (by have hM : Mem w [.row (some ⟨b3, 0, none⟩) n n 3 1 (iv .i64 ((((sh s g n t).1).set (n - t - 1) (((sh s g n t).1).getD (bkN (sh s g n t).2 g (n - t)) 0)).set (bkN (sh s g n t).2 g (n - t)) (((sh s g n t).1).getD (n - t - 1) 0))), .blk b2 [.int .u64 0, .int .u64 0] 27, .blk b1 [.int .u64 (bs (sh s g n t).2 g (n - t)), .int .u64 g] 27] w_ := hM.reorder [1, 2, 3] (by decide) rfl; exact (by rw [sh_succ] at hM; exact hM)))
    · --
      have hend : t = n - 1 := by have := of_decide_eq_false hc5; omega
      refine st_exit ?_
      refine fin_exit_then ?_
      refine fin_exit_then ?_
      refine fin_exit ?_
      refine fin_then ?_
      refine st_seq ?_
      refine st_region_draw [(0, true), (1, true), (2, true), (3, false), (4, true)] (Mem w [.row (some ⟨b3, 0, none⟩) n n 3 1 (iv .i64 ((sh s g n t).1)), .blk b1 [.int .u64 ((sh s g n t).2), .int .u64 g] 27]) (by kernel_rfl) (by kernel_rfl) (by kernel_rfl) (fun _ d _ _ _ h => by cases d <;> exact h) (M' := Mem w [.row (some ⟨b3, 0, none⟩) n n 3 1 (iv .i64 ((sh s g n t).1)), .blk b2 [.int .u64 0, .int .u64 0] 27, .blk b1 [.int .u64 ((sh s g n t).2), .int .u64 g] 27]) (fun w_ hM => ⟨hM.drew, hM.drew.sub (by simp)⟩) ?_
      refine ops_run (is := [(0, true)]) (r := [(1, true), (2, true), (3, false), (4, true)]) (l' := [(67, .slice (some ⟨b3, 0, none⟩) n n), (5, .pointer (some ⟨b2, 0, none⟩)), (2, .pointer (some ⟨b1, 0, none⟩))]) [67, 5, 2] (by kernel_rfl) ?_
      refine ops_load (d := some 68) (an := [.v (.int .u64 ((sh s g n t).2)), .v (.int .u64 g)]) (evs := [.load ⟨b1, 0, none⟩ (.int .u64 ((sh s g n t).2)), .load ⟨b1, 1, none⟩ (.int .u64 g)]) (v := .agg #[.int .u64 ((sh s g n t).2), .int .u64 g]) ⟨by kernel_rfl⟩ (fun w_ hM => ⟨hM.cell 1 rfl rfl, hM.cell 1 rfl rfl, rfl⟩) ?_
      refine ops_run (is := [(2, true)]) (r := [(3, false), (4, true)]) (l' := [(4, .slice (some ⟨b3, 0, none⟩) n n), (68, .agg #[.int .u64 ((sh s g n t).2), .int .u64 g]), (5, .pointer (some ⟨b2, 0, none⟩))]) [4, 68, 5] (by kernel_rfl) ?_
      refine ops_store (an := []) (evs := [.store ⟨b2, 0, none⟩ (.int .u64 ((sh s g n t).2)), .store ⟨b2, 1, none⟩ (.int .u64 g)]) (M' := Mem w [.row (some ⟨b3, 0, none⟩) n n 3 1 (iv .i64 ((sh s g n t).1)), .blk b2 [.int .u64 ((sh s g n t).2), .int .u64 g] 27, .blk b1 [.int .u64 ((sh s g n t).2), .int .u64 g] 27]) ⟨by kernel_rfl⟩ (fun w_ hM hS => let ⟨w', he, h'⟩ := hM.evs_stores [.int .u64 ((sh s g n t).2), .int .u64 g] 1 rfl 0 (Nat.le_of_ble_eq_true rfl); ⟨w', he, h', (by exact h'.sub (by simp))⟩) ?_
      refine ops_run (is := [(4, true)]) (r := []) (l' := [(6, .int .i64 0), (4, .slice (some ⟨b3, 0, none⟩) n n), (5, .pointer (some ⟨b2, 0, none⟩))]) [6, 4, 5] (by kernel_rfl) ?_
      refine ops_nil ?_
      refine fin_then ?_
      refine st_ret ?_
      refine fin_ret [.tmp 4, .cell 5 27, .tmp 6] [.slice (some ⟨b3, 0, none⟩) n n, .agg #[.int .u64 ((sh s g n t).2), .int .u64 g], .int .i64 0] rfl rfl (fun w_ hM => (.tmp rfl (.cell rfl (tr_run _ [.v (.int .u64 ((sh s g n t).2)), .v (.int .u64 g)] [.load ⟨b2, 0, none⟩ (.int .u64 ((sh s g n t).2)), .load ⟨b2, 1, none⟩ (.int .u64 g)] (.agg #[.int .u64 ((sh s g n t).2), .int .u64 g] : Value) _ _ (by kernel_rfl) ⟨hM.cell 1 rfl rfl, hM.cell 1 rfl rfl, rfl⟩) (.tmp rfl .nil)))) (fun w_ hM => ?_)
      subst hend
      exact ⟨((some ⟨b3, 0, none⟩), n), rfl, (by exact hM.reorder [0] (by decide) rfl)⟩
set_option maxRecDepth 100000 in
theorem Shuffled_ok (s g : Int) (n : Nat) (w : World) (hn : n ≤ 1000) (hg0 : 0 ≤ g) (h2 : Int.tmod g 2 ≠ 0) (hs0 : 0 ≤ s) (hs1 : s < 18446744073709551616) : Calls Try.prog 54 #[.agg #[.int .u64 s, .int .u64 g], .int .i64 (n : Int)] w fun e w' => ∃ x_ : Option Addr × Nat, e = .returned ((match x_ with | (A, c) => .tuple #[.slice A n c, .agg #[.int .u64 ((sh s g n (n - 1)).2), .int .u64 g]])) ∧ Mem w (match x_ with | (A, c) => [.row A n c 3 1 (iv .i64 ((sh s g n (n - 1)).1))]) w' := by
  have hn1 : IntKind.i64.wrap ((n : Int) - 1) = ((n : Nat) : Int) - 1 := by rw [i64w]; omega
  refine sx_calls Try.func54 rfl (n := 57) (by kernel_rfl) (l := [(0, .agg #[.int .u64 s, .int .u64 g]), (1, .int .i64 (n : Int))]) rfl (by rfl) (Mem.nil w) ?_
  refine st_seq ?_
  refine st_region [(0, false), (1, false), (2, false)] (by rfl) ?_
  refine ops_new (d := some 2) (o := .cells #[.int .u64 s, .int .u64 g] 27) (v := fun b1 => .pointer (some ⟨b1, 0, none⟩)) (M' := fun b1 => Mem w [.blk b1 [.int .u64 s, .int .u64 g] 27]) (fun b1 => ⟨by kernel_rfl⟩) (fun w_ hM hS => ⟨hM.blk [.int .u64 s, .int .u64 g] 27, trivial⟩) (fun b1 => ?_)
  refine ops_run (is := [(1, false)]) (r := [(2, false)]) (l' := [(2, .pointer (some ⟨b1, 0, none⟩)), (1, .int .i64 (n : Int))]) [2, 1] (by kernel_rfl) ?_
  refine ops_new (d := some 5) (o := .cells #[.int .u64 0, .int .u64 0] 27) (v := fun b2 => .pointer (some ⟨b2, 0, none⟩)) (M' := fun b2 => Mem w [.blk b2 [.int .u64 0, .int .u64 0] 27, .blk b1 [.int .u64 s, .int .u64 g] 27]) (fun b2 => ⟨by kernel_rfl⟩) (fun w_ hM hS => ⟨hM.blk [.int .u64 0, .int .u64 0] 27, trivial⟩) (fun b2 => ?_)
  refine ops_run (is := []) (r := []) (l' := [(5, .pointer (some ⟨b2, 0, none⟩)), (2, .pointer (some ⟨b1, 0, none⟩)), (1, .int .i64 (n : Int))]) [5, 2, 1] (by kernel_rfl) ?_
  refine ops_nil ?_
  refine fin_then ?_
  refine st_seq ?_
  refine st_region [(0, false), (1, false), (2, false)] (by rfl) ?_
  refine ops_run (is := [(0, false)]) (r := [(1, false), (2, false)]) (l' := [(12, .int .i64 (n : Int)), (5, .pointer (some ⟨b2, 0, none⟩)), (2, .pointer (some ⟨b1, 0, none⟩)), (1, .int .i64 (n : Int))]) [12, 5, 2, 1] (by kernel_rfl) ?_
  refine ops_make (t := 37) (x := (Go.Operand.tmp 12)) (y := (Go.Operand.tmp 12)) (d := some 13) (nn := n) (z := 1) (bytes := 8) (xs := iv .i64 (List.replicate n 0)) ⟨by kernel_rfl⟩ rfl rfl (by first | rfl | omega) (by first | rfl | omega) Try.underlying37 (by kernel_rfl) (by omega) (by rfl) (made_ints _ _) (fun _ _ _ hS h' => trivial) (fun b3 => ?_)
  refine ops_run (is := [(2, false)]) (r := []) (l' := [(6, .slice (some ⟨b3, 0, none⟩) n n), (5, .pointer (some ⟨b2, 0, none⟩)), (2, .pointer (some ⟨b1, 0, none⟩)), (1, .int .i64 (n : Int))]) [6, 5, 2, 1] (by kernel_rfl) ?_
  refine ops_nil ?_
  refine fin_then ?_
  refine st_seq ?_
  refine st_seq ?_
  refine st_region [(0, false), (1, false), (2, false)] (by rfl) ?_
  refine ops_run (is := [(0, false), (1, false), (2, false)]) (r := []) (l' := [(16, .int .i64 0), (15, .int .i64 (n : Int)), (6, .slice (some ⟨b3, 0, none⟩) n n), (5, .pointer (some ⟨b2, 0, none⟩)), (2, .pointer (some ⟨b1, 0, none⟩)), (1, .int .i64 (n : Int))]) [16, 15, 6, 5, 2, 1] (by kernel_rfl) ?_
  refine ops_nil ?_
  refine fin_then ?_
  refine st_block ?_
  refine st_loop (σ := Nat) 0 (fun k => [(16, .int .i64 (k : Int)), (15, .int .i64 (n : Int)), (6, .slice (some ⟨b3, 0, none⟩) n n), (5, .pointer (some ⟨b2, 0, none⟩)), (2, .pointer (some ⟨b1, 0, none⟩)), (1, .int .i64 (n : Int))]) (fun k => Mem w [.row (some ⟨b3, 0, none⟩) n n 3 1 (iv .i64 (fillL n k)), .blk b2 [.int .u64 0, .int .u64 0] 27, .blk b1 [.int .u64 s, .int .u64 g] 27]) (fun k => k ≤ n) (fun k => n - k) (by exact Nat.zero_le _) (look_has ⟨rfl, rfl, rfl, rfl, rfl, rfl, trivial⟩) (fun w_ hM => by rw [fillL_zero] at hM; exact hM) ?_
  rintro k hI
  have hIk : k ≤ n := hI
  refine st_seq ?_
  refine st_region [(0, false)] (by rfl) ?_
  refine ops_run (is := [(0, false)]) (r := []) (l' := [(17, .bool (decide ((k : Int) < (n : Int)))), (16, .int .i64 (k : Int)), (15, .int .i64 (n : Int)), (6, .slice (some ⟨b3, 0, none⟩) n n), (5, .pointer (some ⟨b2, 0, none⟩)), (2, .pointer (some ⟨b1, 0, none⟩)), (1, .int .i64 (n : Int))]) [17, 16, 15, 6, 5, 2, 1] (by kernel_rfl) ?_
  refine ops_nil ?_
  refine fin_then ?_
  refine st_seq ?_
  refine st_if (b := decide ((k : Int) < (n : Int))) rfl (fun hc4 => ?_) (fun hc4 => ?_)
  · --
    have hk : k < n := by have := of_decide_eq_true hc4; omega
    have hk1 : IntKind.i64.wrap ((k : Int) + 1) = ((k + 1 : Nat) : Int) := succ_i64 (by omega)
    refine st_skip ?_
    refine fin_then ?_
    refine st_seq ?_
    refine st_block ?_
    refine st_seq ?_
    refine st_region [(0, false), (1, false)] (by rfl) ?_
    refine ops_run (is := [(0, false), (1, false)]) (r := []) (l' := [(7, .int .i64 (k : Int)), (16, .int .i64 (k : Int)), (15, .int .i64 (n : Int)), (6, .slice (some ⟨b3, 0, none⟩) n n), (5, .pointer (some ⟨b2, 0, none⟩)), (2, .pointer (some ⟨b1, 0, none⟩)), (1, .int .i64 (n : Int))]) [7, 16, 15, 6, 5, 2, 1] (by kernel_rfl) ?_
    refine ops_nil ?_
    refine fin_then ?_
    refine st_region [(0, false), (1, false), (2, false), (3, false), (4, false)] (by rfl) ?_
    refine ops_run (is := [(0, false), (1, false), (2, false)]) (r := [(3, false), (4, false)]) (l' := [(21, .int .i64 (k : Int)), (20, .int .i64 (k : Int)), (19, .slice (some ⟨b3, 0, none⟩) n n), (16, .int .i64 (k : Int)), (15, .int .i64 (n : Int)), (6, .slice (some ⟨b3, 0, none⟩) n n), (5, .pointer (some ⟨b2, 0, none⟩)), (2, .pointer (some ⟨b1, 0, none⟩)), (1, .int .i64 (n : Int))]) [21, 20, 19, 16, 15, 6, 5, 2, 1] (by kernel_rfl) ?_
    refine ops_val (op := (Go.Op.indexAddr 37 (Go.Operand.tmp 19) (Go.Operand.tmp 20))) (d := some 22) (v := .pointer (some ⟨b3, k, none⟩)) ⟨by kernel_rfl⟩ (run_indexRow Try.underlying37 (z := 1) (by kernel_rfl) rfl rfl (m := k) (by first | rfl | omega) (by first | omega | (simp only [fillL_length, List.length_set, List.length_append, List.length_cons, List.length_nil, List.length_replicate] at *; omega) | (simp [fillL_length, List.length_set, List.length_append, List.length_cons, List.length_nil, List.length_replicate]; done)) (by exact Nat.mul_one _)) ?_
    refine ops_run (is := []) (r := [(4, false)]) (l' := [(22, .pointer (some ⟨b3, k, none⟩)), (21, .int .i64 (k : Int)), (16, .int .i64 (k : Int)), (15, .int .i64 (n : Int)), (6, .slice (some ⟨b3, 0, none⟩) n n), (5, .pointer (some ⟨b2, 0, none⟩)), (2, .pointer (some ⟨b1, 0, none⟩)), (1, .int .i64 (n : Int))]) [22, 21, 16, 15, 6, 5, 2, 1] (by kernel_rfl) ?_
    refine ops_store (an := []) (evs := [.store ⟨b3, k, none⟩ (.int .i64 (k : Int))]) (M' := Mem w [.row (some ⟨b3, 0, none⟩) n n 3 1 (iv .i64 ((fillL n k).set k (k : Int))), .blk b2 [.int .u64 0, .int .u64 0] 27, .blk b1 [.int .u64 s, .int .u64 g] 27]) ⟨by kernel_rfl⟩ (fun w_ hM hS => let ⟨w', he, h'⟩ := hM.rowstore 0 rfl (k) (.int .i64 (k : Int)) (by rw [iv_length]; first | omega | (simp only [fillL_length, List.length_set, List.length_append, List.length_cons, List.length_nil, List.length_replicate] at *; omega) | (simp [fillL_length, List.length_set, List.length_append, List.length_cons, List.length_nil, List.length_replicate]; done)); ⟨w', he, (by rw [iv_set] at h'; exact h'), trivial⟩) ?_
    refine ops_run (is := []) (r := []) (l' := [(16, .int .i64 (k : Int)), (15, .int .i64 (n : Int)), (6, .slice (some ⟨b3, 0, none⟩) n n), (5, .pointer (some ⟨b2, 0, none⟩)), (2, .pointer (some ⟨b1, 0, none⟩)), (1, .int .i64 (n : Int))]) [16, 15, 6, 5, 2, 1] (by kernel_rfl) ?_
    refine ops_nil ?_
    refine fin_block ?_
    refine fin_then ?_
    refine st_region [(0, false), (1, false)] (by rfl) ?_
    refine ops_run (is := [(0, false), (1, false)]) (r := []) (l' := [(16, .int .i64 (IntKind.i64.wrap ((k : Int) + 1))), (15, .int .i64 (n : Int)), (6, .slice (some ⟨b3, 0, none⟩) n n), (5, .pointer (some ⟨b2, 0, none⟩)), (2, .pointer (some ⟨b1, 0, none⟩)), (1, .int .i64 (n : Int))]) [16, 15, 6, 5, 2, 1] (by kernel_rfl) ?_
    refine ops_conv (l' := [(16, .int .i64 ((k + 1 : Nat) : Int)), (15, .int .i64 (n : Int)), (6, .slice (some ⟨b3, 0, none⟩) n n), (5, .pointer (some ⟨b2, 0, none⟩)), (2, .pointer (some ⟨b1, 0, none⟩)), (1, .int .i64 (n : Int))]) (by rw [hk1]) (fun _ h => h) ?_
    refine ops_nil ?_
    refine fin_round (k + 1) (by omega) (by omega) (look_has ⟨rfl, rfl, rfl, rfl, rfl, rfl, trivial⟩) (fun w_ hM => by exact (by rw [fillL_set hk] at hM; exact hM))
  · --
    have hk : k = n := by have := of_decide_eq_false hc4; omega
    refine st_exit ?_
    refine fin_exit_then ?_
    refine fin_exit_then ?_
    refine fin_exit ?_
    refine fin_then ?_
    refine st_seq ?_
    refine st_seq ?_
    refine st_region [(0, false), (1, false), (2, false)] (by rfl) ?_
    refine ops_run (is := [(0, false), (1, false), (2, false)]) (r := []) (l' := [(8, .int .i64 (IntKind.i64.wrap ((n : Int) - 1))), (6, .slice (some ⟨b3, 0, none⟩) n n), (5, .pointer (some ⟨b2, 0, none⟩)), (2, .pointer (some ⟨b1, 0, none⟩))]) [8, 6, 5, 2] (by kernel_rfl) ?_
    refine ops_conv (l' := [(8, .int .i64 (((n : Nat) : Int) - 1)), (6, .slice (some ⟨b3, 0, none⟩) n n), (5, .pointer (some ⟨b2, 0, none⟩)), (2, .pointer (some ⟨b1, 0, none⟩))]) (by rw [hn1]) (fun _ h => h) ?_
    refine ops_nil ?_
    refine fin_then ?_
    refine st_block ?_
    have hk' : k = n := hk
    refine st_loop (σ := Nat) 0 (fun t => [(8, .int .i64 (((n - t : Nat) : Int) - 1)), (6, .slice (some ⟨b3, 0, none⟩) n n), (5, .pointer (some ⟨b2, 0, none⟩)), (2, .pointer (some ⟨b1, 0, none⟩))]) (fun t => Mem w [.row (some ⟨b3, 0, none⟩) n n 3 1 (iv .i64 ((sh s g n t).1)), .blk b2 [.int .u64 0, .int .u64 0] 27, .blk b1 [.int .u64 ((sh s g n t).2), .int .u64 g] 27]) (fun t => t ≤ n - 1) (fun t => n - t) (by exact Nat.zero_le _) (look_has ⟨rfl, rfl, rfl, rfl, trivial⟩) (fun w_ hM => by rw [show k = n from hk] at hM; exact hM) ?_
    rintro t hI
    have hI' : t ≤ n - 1 := hI
    refine st_seq ?_
    refine st_seq ?_
    refine st_region [(0, false), (1, false)] (by rfl) ?_
    refine ops_run (is := [(0, false), (1, false)]) (r := []) (l' := [(27, .bool (decide (0 < (((n - t : Nat) : Int) - 1)))), (8, .int .i64 (((n - t : Nat) : Int) - 1)), (6, .slice (some ⟨b3, 0, none⟩) n n), (5, .pointer (some ⟨b2, 0, none⟩)), (2, .pointer (some ⟨b1, 0, none⟩))]) [27, 8, 6, 5, 2] (by kernel_rfl) ?_
    refine ops_nil ?_
    refine fin_then ?_
    refine st_if (b := decide (0 < (((n - t : Nat) : Int) - 1))) rfl (fun hc5 => ?_) (fun hc5 => ?_)
    · --
      have hlt : t + 1 < n := by have := of_decide_eq_true hc5; omega
      have hs2t : ((n - t : Nat) : Int) - 1 = ((n - t - 1 : Nat) : Int) := by omega
      have hs1t : IntKind.i64.wrap (((n - t : Nat) : Int) - 1 + 1) = ((n - t : Nat) : Int) := by rw [i64w]; omega
      have hs4t : IntKind.i64.wrap (((n - t - 1 : Nat) : Int) + 1) = ((n - t : Nat) : Int) := by rw [i64w]; omega
      have hs3t : IntKind.i64.wrap (((n - t - 1 : Nat) : Int) - 1) = ((n - (t + 1) : Nat) : Int) - 1 := by rw [i64w]; omega
      have hbk : bkN (sh s g n t).2 g (n - t) < n := Nat.lt_of_lt_of_le (bk_lt (sh s g n t).2 g (m := n - t) (by omega) (by omega)) (by omega)
      refine st_skip ?_
      refine fin_then ?_
      refine st_seq ?_
      refine st_block ?_
      refine st_seq ?_
      refine st_region [(0, false), (1, false), (2, false), (3, false), (4, false), (5, false), (6, false), (7, false), (8, false)] (by rfl) ?_
      refine ops_run (is := []) (r := [(0, false), (1, false), (2, false), (3, false), (4, false), (5, false), (6, false), (7, false), (8, false)]) (l' := [(8, .int .i64 (((n - t : Nat) : Int) - 1)), (6, .slice (some ⟨b3, 0, none⟩) n n), (5, .pointer (some ⟨b2, 0, none⟩)), (2, .pointer (some ⟨b1, 0, none⟩))]) [8, 6, 5, 2] (by kernel_rfl) ?_
      refine ops_conv (l' := [(8, .int .i64 ((n - t - 1 : Nat) : Int)), (6, .slice (some ⟨b3, 0, none⟩) n n), (5, .pointer (some ⟨b2, 0, none⟩)), (2, .pointer (some ⟨b1, 0, none⟩))]) (by rw [hs2t]) (fun _ h => h) ?_
      refine ops_mem (d := some 31) (an := [.v (.int .u64 ((sh s g n t).2)), .v (.int .u64 g)]) (evs := [.load ⟨b1, 0, none⟩ (.int .u64 ((sh s g n t).2)), .load ⟨b1, 1, none⟩ (.int .u64 g)]) (v := .agg #[.int .u64 ((sh s g n t).2), .int .u64 g]) (M' := Mem w [.row (some ⟨b3, 0, none⟩) n n 3 1 (iv .i64 ((sh s g n t).1)), .blk b2 [.int .u64 0, .int .u64 0] 27, .blk b1 [.int .u64 ((sh s g n t).2), .int .u64 g] 27]) ⟨by kernel_rfl⟩ (fun w_ hM hS => ⟨w_, ⟨hM.cell 2 rfl rfl, hM.cell 2 rfl rfl, rfl⟩, hM, trivial⟩) ?_
      refine ops_run (is := [(1, false), (2, false)]) (r := [(3, false), (4, false), (5, false), (6, false), (7, false), (8, false)]) (l' := [(33, .int .i64 (IntKind.i64.wrap (((n - t - 1 : Nat) : Int) + 1))), (31, .agg #[.int .u64 ((sh s g n t).2), .int .u64 g]), (8, .int .i64 ((n - t - 1 : Nat) : Int)), (6, .slice (some ⟨b3, 0, none⟩) n n), (5, .pointer (some ⟨b2, 0, none⟩)), (2, .pointer (some ⟨b1, 0, none⟩))]) [33, 31, 8, 6, 5, 2] (by kernel_rfl) ?_
      refine ops_conv (l' := [(33, .int .i64 ((n - t : Nat) : Int)), (31, .agg #[.int .u64 ((sh s g n t).2), .int .u64 g]), (8, .int .i64 ((n - t - 1 : Nat) : Int)), (6, .slice (some ⟨b3, 0, none⟩) n n), (5, .pointer (some ⟨b2, 0, none⟩)), (2, .pointer (some ⟨b1, 0, none⟩))]) (by rw [hs4t]) (fun _ h => h) ?_
      refine ops_call (σ := Unit) (d := some 34) (f := 17) (args := #[.agg #[.int .u64 ((sh s g n t).2), .int .u64 g], .int .i64 ((n - t : Nat) : Int)]) (v := fun _ => .tuple #[.int .i64 ((bkN (sh s g n t).2 g (n - t) : Nat) : Int), .int .i64 (cnt (jof (sh s g n t).2 g ((n - t : Nat) : Int)))]) (M' := fun _ => Mem w [.row (some ⟨b3, 0, none⟩) n n 3 1 (iv .i64 ((sh s g n t).1)), .blk b2 [.int .u64 0, .int .u64 0] 27, .blk b1 [.int .u64 ((sh s g n t).2), .int .u64 g] 27]) ⟨by kernel_rfl⟩ (fun w_ hM hS => (Under_bk (sh s g n t).2 g (n - t) w_ (by omega) (by omega) hg0 h2).mono (by rintro e w' ⟨rfl, hb⟩; exact ⟨(), rfl, hM.step hb, trivial⟩)) (fun _ => ?_)
      refine ops_run (is := [(4, false), (5, false), (6, false), (7, false), (8, false)]) (r := []) (l' := [(10, .int .i64 (cnt (jof (sh s g n t).2 g ((n - t : Nat) : Int)))), (9, .int .i64 ((bkN (sh s g n t).2 g (n - t) : Nat) : Int)), (8, .int .i64 ((n - t - 1 : Nat) : Int)), (6, .slice (some ⟨b3, 0, none⟩) n n), (5, .pointer (some ⟨b2, 0, none⟩)), (2, .pointer (some ⟨b1, 0, none⟩))]) [10, 9, 8, 6, 5, 2] (by kernel_rfl) ?_
      refine ops_nil ?_
      refine fin_then ?_
      refine st_seq ?_
      refine st_region [(0, false), (1, false), (2, false), (3, false)] (by rfl) ?_
      refine ops_mem (d := some 37) (an := [.v (.int .u64 ((sh s g n t).2)), .v (.int .u64 g)]) (evs := [.load ⟨b1, 0, none⟩ (.int .u64 ((sh s g n t).2)), .load ⟨b1, 1, none⟩ (.int .u64 g)]) (v := .agg #[.int .u64 ((sh s g n t).2), .int .u64 g]) (M' := Mem w [.row (some ⟨b3, 0, none⟩) n n 3 1 (iv .i64 ((sh s g n t).1)), .blk b2 [.int .u64 0, .int .u64 0] 27, .blk b1 [.int .u64 ((sh s g n t).2), .int .u64 g] 27]) ⟨by kernel_rfl⟩ (fun w_ hM hS => ⟨w_, ⟨hM.cell 2 rfl rfl, hM.cell 2 rfl rfl, rfl⟩, hM, trivial⟩) ?_
      refine ops_run (is := [(1, false)]) (r := [(2, false), (3, false)]) (l' := [(38, .int .i64 (cnt (jof (sh s g n t).2 g ((n - t : Nat) : Int)))), (37, .agg #[.int .u64 ((sh s g n t).2), .int .u64 g]), (9, .int .i64 ((bkN (sh s g n t).2 g (n - t) : Nat) : Int)), (8, .int .i64 ((n - t - 1 : Nat) : Int)), (6, .slice (some ⟨b3, 0, none⟩) n n), (5, .pointer (some ⟨b2, 0, none⟩)), (2, .pointer (some ⟨b1, 0, none⟩))]) [38, 37, 9, 8, 6, 5, 2] (by kernel_rfl) ?_
      refine ops_call (σ := Unit) (d := some 39) (f := 18) (args := #[.agg #[.int .u64 ((sh s g n t).2), .int .u64 g], .int .i64 (cnt (jof (sh s g n t).2 g ((n - t : Nat) : Int)))]) (v := fun _ => .agg #[.int .u64 (bs (sh s g n t).2 g (n - t)), .int .u64 g]) (M' := fun _ => Mem w [.row (some ⟨b3, 0, none⟩) n n 3 1 (iv .i64 ((sh s g n t).1)), .blk b2 [.int .u64 0, .int .u64 0] 27, .blk b1 [.int .u64 ((sh s g n t).2), .int .u64 g] 27]) ⟨by kernel_rfl⟩ (fun w_ hM hS => (Behind_bk (sh s g n t).2 g (n - t) w_).mono (by rintro e w' ⟨rfl, hb⟩; exact ⟨(), rfl, hM.step hb, trivial⟩)) (fun _ => ?_)
      refine ops_run (is := []) (r := [(3, false)]) (l' := [(39, .agg #[.int .u64 (bs (sh s g n t).2 g (n - t)), .int .u64 g]), (9, .int .i64 ((bkN (sh s g n t).2 g (n - t) : Nat) : Int)), (8, .int .i64 ((n - t - 1 : Nat) : Int)), (6, .slice (some ⟨b3, 0, none⟩) n n), (5, .pointer (some ⟨b2, 0, none⟩)), (2, .pointer (some ⟨b1, 0, none⟩))]) [39, 9, 8, 6, 5, 2] (by kernel_rfl) ?_
      refine ops_store (an := []) (evs := [.store ⟨b1, 0, none⟩ (.int .u64 (bs (sh s g n t).2 g (n - t))), .store ⟨b1, 1, none⟩ (.int .u64 g)]) (M' := Mem w [.row (some ⟨b3, 0, none⟩) n n 3 1 (iv .i64 ((sh s g n t).1)), .blk b2 [.int .u64 0, .int .u64 0] 27, .blk b1 [.int .u64 (bs (sh s g n t).2 g (n - t)), .int .u64 g] 27]) ⟨by kernel_rfl⟩ (fun w_ hM hS => let ⟨w', he, h'⟩ := hM.evs_stores [.int .u64 (bs (sh s g n t).2 g (n - t)), .int .u64 g] 2 rfl 0 (Nat.le_of_ble_eq_true rfl); ⟨w', he, h', trivial⟩) ?_
      refine ops_run (is := []) (r := []) (l' := [(9, .int .i64 ((bkN (sh s g n t).2 g (n - t) : Nat) : Int)), (8, .int .i64 ((n - t - 1 : Nat) : Int)), (6, .slice (some ⟨b3, 0, none⟩) n n), (5, .pointer (some ⟨b2, 0, none⟩)), (2, .pointer (some ⟨b1, 0, none⟩))]) [9, 8, 6, 5, 2] (by kernel_rfl) ?_
      refine ops_nil ?_
      refine fin_then ?_
      refine st_seq ?_
      refine st_region [(0, false), (1, false), (2, false), (3, false), (4, false)] (by rfl) ?_
      refine ops_run (is := [(0, false), (1, false)]) (r := [(2, false), (3, false), (4, false)]) (l' := [(41, .int .i64 ((bkN (sh s g n t).2 g (n - t) : Nat) : Int)), (40, .slice (some ⟨b3, 0, none⟩) n n), (9, .int .i64 ((bkN (sh s g n t).2 g (n - t) : Nat) : Int)), (8, .int .i64 ((n - t - 1 : Nat) : Int)), (6, .slice (some ⟨b3, 0, none⟩) n n), (5, .pointer (some ⟨b2, 0, none⟩)), (2, .pointer (some ⟨b1, 0, none⟩))]) [41, 40, 9, 8, 6, 5, 2] (by kernel_rfl) ?_
      refine ops_val (op := (Go.Op.indexAddr 37 (Go.Operand.tmp 40) (Go.Operand.tmp 41))) (d := some 42) (v := .pointer (some ⟨b3, bkN (sh s g n t).2 g (n - t), none⟩)) ⟨by kernel_rfl⟩ (run_indexRow Try.underlying37 (z := 1) (by kernel_rfl) rfl rfl (m := bkN (sh s g n t).2 g (n - t)) (by first | rfl | omega) (by first | omega | (simp only [sh_length, List.length_set, List.length_append, List.length_cons, List.length_nil, List.length_replicate] at *; omega) | (simp [sh_length, List.length_set, List.length_append, List.length_cons, List.length_nil, List.length_replicate]; done)) (by exact Nat.mul_one _)) ?_
      refine ops_run (is := []) (r := [(3, false), (4, false)]) (l' := [(42, .pointer (some ⟨b3, bkN (sh s g n t).2 g (n - t), none⟩)), (9, .int .i64 ((bkN (sh s g n t).2 g (n - t) : Nat) : Int)), (8, .int .i64 ((n - t - 1 : Nat) : Int)), (6, .slice (some ⟨b3, 0, none⟩) n n), (5, .pointer (some ⟨b2, 0, none⟩)), (2, .pointer (some ⟨b1, 0, none⟩))]) [42, 9, 8, 6, 5, 2] (by kernel_rfl) ?_
      refine ops_mem (d := some 43) (an := [.v (.int .i64 (((sh s g n t).1).getD (bkN (sh s g n t).2 g (n - t)) 0))]) (evs := [.load ⟨b3, bkN (sh s g n t).2 g (n - t), none⟩ (.int .i64 (((sh s g n t).1).getD (bkN (sh s g n t).2 g (n - t)) 0))]) (v := .int .i64 (((sh s g n t).1).getD (bkN (sh s g n t).2 g (n - t)) 0)) (M' := Mem w [.row (some ⟨b3, 0, none⟩) n n 3 1 (iv .i64 ((sh s g n t).1)), .blk b2 [.int .u64 0, .int .u64 0] 27, .blk b1 [.int .u64 (bs (sh s g n t).2 g (n - t)), .int .u64 g] 27]) ⟨by kernel_rfl⟩ (fun w_ hM hS => ⟨w_, ⟨hM.rowcell 0 rfl (iv_get (by first | omega | (simp only [sh_length, List.length_set, List.length_append, List.length_cons, List.length_nil, List.length_replicate] at *; omega) | (simp [sh_length, List.length_set, List.length_append, List.length_cons, List.length_nil, List.length_replicate]; done))), rfl⟩, hM, trivial⟩) ?_
      refine ops_run (is := [(4, false)]) (r := []) (l' := [(11, .int .i64 (((sh s g n t).1).getD (bkN (sh s g n t).2 g (n - t)) 0)), (9, .int .i64 ((bkN (sh s g n t).2 g (n - t) : Nat) : Int)), (8, .int .i64 ((n - t - 1 : Nat) : Int)), (6, .slice (some ⟨b3, 0, none⟩) n n), (5, .pointer (some ⟨b2, 0, none⟩)), (2, .pointer (some ⟨b1, 0, none⟩))]) [11, 9, 8, 6, 5, 2] (by kernel_rfl) ?_
      refine ops_nil ?_
      refine fin_then ?_
      refine st_seq ?_
      refine st_region [(0, false), (1, false), (2, false), (3, false), (4, false), (5, false), (6, false), (7, false)] (by rfl) ?_
      refine ops_run (is := [(0, false), (1, false), (2, false), (3, false)]) (r := [(4, false), (5, false), (6, false), (7, false)]) (l' := [(47, .int .i64 ((n - t - 1 : Nat) : Int)), (46, .slice (some ⟨b3, 0, none⟩) n n), (45, .int .i64 ((bkN (sh s g n t).2 g (n - t) : Nat) : Int)), (44, .slice (some ⟨b3, 0, none⟩) n n), (11, .int .i64 (((sh s g n t).1).getD (bkN (sh s g n t).2 g (n - t)) 0)), (8, .int .i64 ((n - t - 1 : Nat) : Int)), (6, .slice (some ⟨b3, 0, none⟩) n n), (5, .pointer (some ⟨b2, 0, none⟩)), (2, .pointer (some ⟨b1, 0, none⟩))]) [47, 46, 45, 44, 11, 8, 6, 5, 2] (by kernel_rfl) ?_
      refine ops_val (op := (Go.Op.indexAddr 37 (Go.Operand.tmp 46) (Go.Operand.tmp 47))) (d := some 48) (v := .pointer (some ⟨b3, n - t - 1, none⟩)) ⟨by kernel_rfl⟩ (run_indexRow Try.underlying37 (z := 1) (by kernel_rfl) rfl rfl (m := n - t - 1) (by first | rfl | omega) (by first | omega | (simp only [sh_length, List.length_set, List.length_append, List.length_cons, List.length_nil, List.length_replicate] at *; omega) | (simp [sh_length, List.length_set, List.length_append, List.length_cons, List.length_nil, List.length_replicate]; done)) (by exact Nat.mul_one _)) ?_
      refine ops_run (is := []) (r := [(5, false), (6, false), (7, false)]) (l' := [(48, .pointer (some ⟨b3, n - t - 1, none⟩)), (45, .int .i64 ((bkN (sh s g n t).2 g (n - t) : Nat) : Int)), (44, .slice (some ⟨b3, 0, none⟩) n n), (11, .int .i64 (((sh s g n t).1).getD (bkN (sh s g n t).2 g (n - t)) 0)), (8, .int .i64 ((n - t - 1 : Nat) : Int)), (6, .slice (some ⟨b3, 0, none⟩) n n), (5, .pointer (some ⟨b2, 0, none⟩)), (2, .pointer (some ⟨b1, 0, none⟩))]) [48, 45, 44, 11, 8, 6, 5, 2] (by kernel_rfl) ?_
      refine ops_mem (d := some 49) (an := [.v (.int .i64 (((sh s g n t).1).getD (n - t - 1) 0))]) (evs := [.load ⟨b3, n - t - 1, none⟩ (.int .i64 (((sh s g n t).1).getD (n - t - 1) 0))]) (v := .int .i64 (((sh s g n t).1).getD (n - t - 1) 0)) (M' := Mem w [.row (some ⟨b3, 0, none⟩) n n 3 1 (iv .i64 ((sh s g n t).1)), .blk b2 [.int .u64 0, .int .u64 0] 27, .blk b1 [.int .u64 (bs (sh s g n t).2 g (n - t)), .int .u64 g] 27]) ⟨by kernel_rfl⟩ (fun w_ hM hS => ⟨w_, ⟨hM.rowcell 0 rfl (iv_get (by first | omega | (simp only [sh_length, List.length_set, List.length_append, List.length_cons, List.length_nil, List.length_replicate] at *; omega) | (simp [sh_length, List.length_set, List.length_append, List.length_cons, List.length_nil, List.length_replicate]; done))), rfl⟩, hM, trivial⟩) ?_
      refine ops_run (is := []) (r := [(6, false), (7, false)]) (l' := [(49, .int .i64 (((sh s g n t).1).getD (n - t - 1) 0)), (45, .int .i64 ((bkN (sh s g n t).2 g (n - t) : Nat) : Int)), (44, .slice (some ⟨b3, 0, none⟩) n n), (11, .int .i64 (((sh s g n t).1).getD (bkN (sh s g n t).2 g (n - t)) 0)), (8, .int .i64 ((n - t - 1 : Nat) : Int)), (6, .slice (some ⟨b3, 0, none⟩) n n), (5, .pointer (some ⟨b2, 0, none⟩)), (2, .pointer (some ⟨b1, 0, none⟩))]) [49, 45, 44, 11, 8, 6, 5, 2] (by kernel_rfl) ?_
      refine ops_val (op := (Go.Op.indexAddr 37 (Go.Operand.tmp 44) (Go.Operand.tmp 45))) (d := some 50) (v := .pointer (some ⟨b3, bkN (sh s g n t).2 g (n - t), none⟩)) ⟨by kernel_rfl⟩ (run_indexRow Try.underlying37 (z := 1) (by kernel_rfl) rfl rfl (m := bkN (sh s g n t).2 g (n - t)) (by first | rfl | omega) (by first | omega | (simp only [sh_length, List.length_set, List.length_append, List.length_cons, List.length_nil, List.length_replicate] at *; omega) | (simp [sh_length, List.length_set, List.length_append, List.length_cons, List.length_nil, List.length_replicate]; done)) (by exact Nat.mul_one _)) ?_
      refine ops_run (is := []) (r := [(7, false)]) (l' := [(50, .pointer (some ⟨b3, bkN (sh s g n t).2 g (n - t), none⟩)), (49, .int .i64 (((sh s g n t).1).getD (n - t - 1) 0)), (11, .int .i64 (((sh s g n t).1).getD (bkN (sh s g n t).2 g (n - t)) 0)), (8, .int .i64 ((n - t - 1 : Nat) : Int)), (6, .slice (some ⟨b3, 0, none⟩) n n), (5, .pointer (some ⟨b2, 0, none⟩)), (2, .pointer (some ⟨b1, 0, none⟩))]) [50, 49, 11, 8, 6, 5, 2] (by kernel_rfl) ?_
      refine ops_store (an := []) (evs := [.store ⟨b3, bkN (sh s g n t).2 g (n - t), none⟩ (.int .i64 (((sh s g n t).1).getD (n - t - 1) 0))]) (M' := Mem w [.row (some ⟨b3, 0, none⟩) n n 3 1 (iv .i64 (((sh s g n t).1).set (bkN (sh s g n t).2 g (n - t)) (((sh s g n t).1).getD (n - t - 1) 0))), .blk b2 [.int .u64 0, .int .u64 0] 27, .blk b1 [.int .u64 (bs (sh s g n t).2 g (n - t)), .int .u64 g] 27]) ⟨by kernel_rfl⟩ (fun w_ hM hS => let ⟨w', he, h'⟩ := hM.rowstore 0 rfl (bkN (sh s g n t).2 g (n - t)) (.int .i64 (((sh s g n t).1).getD (n - t - 1) 0)) (by rw [iv_length]; first | omega | (simp only [sh_length, List.length_set, List.length_append, List.length_cons, List.length_nil, List.length_replicate] at *; omega) | (simp [sh_length, List.length_set, List.length_append, List.length_cons, List.length_nil, List.length_replicate]; done)); ⟨w', he, (by rw [iv_set] at h'; exact h'), trivial⟩) ?_
      refine ops_run (is := []) (r := []) (l' := [(11, .int .i64 (((sh s g n t).1).getD (bkN (sh s g n t).2 g (n - t)) 0)), (8, .int .i64 ((n - t - 1 : Nat) : Int)), (6, .slice (some ⟨b3, 0, none⟩) n n), (5, .pointer (some ⟨b2, 0, none⟩)), (2, .pointer (some ⟨b1, 0, none⟩))]) [11, 8, 6, 5, 2] (by kernel_rfl) ?_
      refine ops_nil ?_
      refine fin_then ?_
      refine st_region [(0, false), (1, false), (2, false), (3, false), (4, false)] (by rfl) ?_
      refine ops_run (is := [(0, false), (1, false), (2, false)]) (r := [(3, false), (4, false)]) (l' := [(53, .int .i64 (((sh s g n t).1).getD (bkN (sh s g n t).2 g (n - t)) 0)), (52, .int .i64 ((n - t - 1 : Nat) : Int)), (51, .slice (some ⟨b3, 0, none⟩) n n), (8, .int .i64 ((n - t - 1 : Nat) : Int)), (6, .slice (some ⟨b3, 0, none⟩) n n), (5, .pointer (some ⟨b2, 0, none⟩)), (2, .pointer (some ⟨b1, 0, none⟩))]) [53, 52, 51, 8, 6, 5, 2] (by kernel_rfl) ?_
      refine ops_val (op := (Go.Op.indexAddr 37 (Go.Operand.tmp 51) (Go.Operand.tmp 52))) (d := some 54) (v := .pointer (some ⟨b3, n - t - 1, none⟩)) ⟨by kernel_rfl⟩ (run_indexRow Try.underlying37 (z := 1) (by kernel_rfl) rfl rfl (m := n - t - 1) (by first | rfl | omega) (by first | omega | (simp only [sh_length, List.length_set, List.length_append, List.length_cons, List.length_nil, List.length_replicate] at *; omega) | (simp [sh_length, List.length_set, List.length_append, List.length_cons, List.length_nil, List.length_replicate]; done)) (by exact Nat.mul_one _)) ?_
      refine ops_run (is := []) (r := [(4, false)]) (l' := [(54, .pointer (some ⟨b3, n - t - 1, none⟩)), (53, .int .i64 (((sh s g n t).1).getD (bkN (sh s g n t).2 g (n - t)) 0)), (8, .int .i64 ((n - t - 1 : Nat) : Int)), (6, .slice (some ⟨b3, 0, none⟩) n n), (5, .pointer (some ⟨b2, 0, none⟩)), (2, .pointer (some ⟨b1, 0, none⟩))]) [54, 53, 8, 6, 5, 2] (by kernel_rfl) ?_
      refine ops_store (an := []) (evs := [.store ⟨b3, n - t - 1, none⟩ (.int .i64 (((sh s g n t).1).getD (bkN (sh s g n t).2 g (n - t)) 0))]) (M' := Mem w [.row (some ⟨b3, 0, none⟩) n n 3 1 (iv .i64 ((((sh s g n t).1).set (bkN (sh s g n t).2 g (n - t)) (((sh s g n t).1).getD (n - t - 1) 0)).set (n - t - 1) (((sh s g n t).1).getD (bkN (sh s g n t).2 g (n - t)) 0))), .blk b2 [.int .u64 0, .int .u64 0] 27, .blk b1 [.int .u64 (bs (sh s g n t).2 g (n - t)), .int .u64 g] 27]) ⟨by kernel_rfl⟩ (fun w_ hM hS => let ⟨w', he, h'⟩ := hM.rowstore 0 rfl (n - t - 1) (.int .i64 (((sh s g n t).1).getD (bkN (sh s g n t).2 g (n - t)) 0)) (by rw [iv_length]; first | omega | (simp only [sh_length, List.length_set, List.length_append, List.length_cons, List.length_nil, List.length_replicate] at *; omega) | (simp [sh_length, List.length_set, List.length_append, List.length_cons, List.length_nil, List.length_replicate]; done)); ⟨w', he, (by rw [iv_set] at h'; exact h'), trivial⟩) ?_
      refine ops_run (is := []) (r := []) (l' := [(8, .int .i64 ((n - t - 1 : Nat) : Int)), (6, .slice (some ⟨b3, 0, none⟩) n n), (5, .pointer (some ⟨b2, 0, none⟩)), (2, .pointer (some ⟨b1, 0, none⟩))]) [8, 6, 5, 2] (by kernel_rfl) ?_
      refine ops_nil ?_
      refine fin_block ?_
      refine fin_then ?_
      refine st_region [(0, false), (1, false), (2, false)] (by rfl) ?_
      refine ops_run (is := [(0, false), (1, false), (2, false)]) (r := []) (l' := [(8, .int .i64 (IntKind.i64.wrap (((n - t - 1 : Nat) : Int) - 1))), (6, .slice (some ⟨b3, 0, none⟩) n n), (5, .pointer (some ⟨b2, 0, none⟩)), (2, .pointer (some ⟨b1, 0, none⟩))]) [8, 6, 5, 2] (by kernel_rfl) ?_
      refine ops_conv (l' := [(8, .int .i64 (((n - (t + 1) : Nat) : Int) - 1)), (6, .slice (some ⟨b3, 0, none⟩) n n), (5, .pointer (some ⟨b2, 0, none⟩)), (2, .pointer (some ⟨b1, 0, none⟩))]) (by rw [hs3t]) (fun _ h => h) ?_
      refine ops_nil ?_
      refine fin_round (t + 1) (by show t + 1 ≤ n - 1; omega) (by omega) (look_has ⟨rfl, rfl, rfl, rfl, trivial⟩) (fun w_ hM => by exact (by rw [sh_succ'] at hM; exact hM))
    · --
      have hend : t = n - 1 := by have := of_decide_eq_false hc5; omega
      refine st_exit ?_
      refine fin_exit_then ?_
      refine fin_exit_then ?_
      refine fin_exit ?_
      refine fin_then ?_
      refine st_seq ?_
      refine st_region_draw [(0, true), (1, true), (2, true), (3, false)] (Mem w [.row (some ⟨b3, 0, none⟩) n n 3 1 (iv .i64 ((sh s g n t).1)), .blk b1 [.int .u64 ((sh s g n t).2), .int .u64 g] 27]) (by kernel_rfl) (by kernel_rfl) (by kernel_rfl) (fun _ d _ _ _ h => by cases d <;> exact h) (M' := Mem w [.row (some ⟨b3, 0, none⟩) n n 3 1 (iv .i64 ((sh s g n t).1)), .blk b2 [.int .u64 0, .int .u64 0] 27, .blk b1 [.int .u64 ((sh s g n t).2), .int .u64 g] 27]) (fun w_ hM => ⟨hM.drew, hM.drew.sub (by simp)⟩) ?_
      refine ops_run (is := [(0, true)]) (r := [(1, true), (2, true), (3, false)]) (l' := [(55, .slice (some ⟨b3, 0, none⟩) n n), (5, .pointer (some ⟨b2, 0, none⟩)), (2, .pointer (some ⟨b1, 0, none⟩))]) [55, 5, 2] (by kernel_rfl) ?_
      refine ops_load (d := some 56) (an := [.v (.int .u64 ((sh s g n t).2)), .v (.int .u64 g)]) (evs := [.load ⟨b1, 0, none⟩ (.int .u64 ((sh s g n t).2)), .load ⟨b1, 1, none⟩ (.int .u64 g)]) (v := .agg #[.int .u64 ((sh s g n t).2), .int .u64 g]) ⟨by kernel_rfl⟩ (fun w_ hM => ⟨hM.cell 1 rfl rfl, hM.cell 1 rfl rfl, rfl⟩) ?_
      refine ops_run (is := [(2, true)]) (r := [(3, false)]) (l' := [(4, .slice (some ⟨b3, 0, none⟩) n n), (56, .agg #[.int .u64 ((sh s g n t).2), .int .u64 g]), (5, .pointer (some ⟨b2, 0, none⟩))]) [4, 56, 5] (by kernel_rfl) ?_
      refine ops_store (an := []) (evs := [.store ⟨b2, 0, none⟩ (.int .u64 ((sh s g n t).2)), .store ⟨b2, 1, none⟩ (.int .u64 g)]) (M' := Mem w [.row (some ⟨b3, 0, none⟩) n n 3 1 (iv .i64 ((sh s g n t).1)), .blk b2 [.int .u64 ((sh s g n t).2), .int .u64 g] 27, .blk b1 [.int .u64 ((sh s g n t).2), .int .u64 g] 27]) ⟨by kernel_rfl⟩ (fun w_ hM hS => let ⟨w', he, h'⟩ := hM.evs_stores [.int .u64 ((sh s g n t).2), .int .u64 g] 1 rfl 0 (Nat.le_of_ble_eq_true rfl); ⟨w', he, h', (by exact h'.sub (by simp))⟩) ?_
      refine ops_run (is := []) (r := []) (l' := [(4, .slice (some ⟨b3, 0, none⟩) n n), (5, .pointer (some ⟨b2, 0, none⟩))]) [4, 5] (by kernel_rfl) ?_
      refine ops_nil ?_
      refine fin_then ?_
      refine st_ret ?_
      refine fin_ret [.tmp 4, .cell 5 27] [.slice (some ⟨b3, 0, none⟩) n n, .agg #[.int .u64 ((sh s g n t).2), .int .u64 g]] rfl rfl (fun w_ hM => (.tmp rfl (.cell rfl (tr_run _ [.v (.int .u64 ((sh s g n t).2)), .v (.int .u64 g)] [.load ⟨b2, 0, none⟩ (.int .u64 ((sh s g n t).2)), .load ⟨b2, 1, none⟩ (.int .u64 g)] (.agg #[.int .u64 ((sh s g n t).2), .int .u64 g] : Value) _ _ (by kernel_rfl) ⟨hM.cell 1 rfl rfl, hM.cell 1 rfl rfl, rfl⟩) .nil))) (fun w_ hM => ?_)
      subst hend
      exact ⟨((some ⟨b3, 0, none⟩), n), rfl, (by exact hM.reorder [0] (by decide) rfl)⟩
set_option maxRecDepth 100000 in
theorem Order_lo (s g n : Int) (w : World) (h : n < 0) : Calls Try.prog 53 #[.agg #[.int .u64 s, .int .u64 g], .int .i64 n] w fun e w' => e = .returned (.tuple #[.slice none 0 0, .agg #[.int .u64 0, .int .u64 0], .int .i64 1]) ∧ Below w.heap.size w w' := by
  have hk1 : decide (n < 0) = true := by simpa using h
  refine sx_calls Try.func53 rfl (n := 69) (by kernel_rfl) (l := [(0, .agg #[.int .u64 s, .int .u64 g]), (1, .int .i64 n)]) rfl (by rfl) (Mem.nil w) ?_
  refine st_seq ?_
  refine st_region [(0, false), (1, false), (2, false), (3, false)] (by rfl) ?_
  refine ops_new (d := some 2) (o := .cells #[.int .u64 s, .int .u64 g] 27) (v := fun b1 => .pointer (some ⟨b1, 0, none⟩)) (M' := fun b1 => Mem w [.blk b1 [.int .u64 s, .int .u64 g] 27]) (fun b1 => ⟨by kernel_rfl⟩) (fun w_ hM hS => ⟨hM.blk [.int .u64 s, .int .u64 g] 27, trivial⟩) (fun b1 => ?_)
  refine ops_run (is := [(1, false)]) (r := [(2, false), (3, false)]) (l' := [(2, .pointer (some ⟨b1, 0, none⟩)), (1, .int .i64 n)]) [2, 1] (by kernel_rfl) ?_
  refine ops_new (d := some 5) (o := .cells #[.int .u64 0, .int .u64 0] 27) (v := fun b2 => .pointer (some ⟨b2, 0, none⟩)) (M' := fun b2 => Mem w [.blk b2 [.int .u64 0, .int .u64 0] 27, .blk b1 [.int .u64 s, .int .u64 g] 27]) (fun b2 => ⟨by kernel_rfl⟩) (fun w_ hM hS => ⟨hM.blk [.int .u64 0, .int .u64 0] 27, trivial⟩) (fun b2 => ?_)
  refine ops_run (is := [(3, false)]) (r := []) (l' := [(5, .pointer (some ⟨b2, 0, none⟩)), (2, .pointer (some ⟨b1, 0, none⟩)), (1, .int .i64 n)]) [5, 2, 1] (by kernel_rfl) ?_
  refine ops_nil ?_
  refine fin_then ?_
  refine st_seq ?_
  refine st_seq ?_
  refine st_region [(0, false), (1, false), (2, false), (3, false), (4, false), (5, false), (6, false), (7, false), (8, false), (9, false), (10, false), (11, false)] (by rfl) ?_
  refine ops_run (is := [(0, false), (1, false), (2, false)]) (r := [(3, false), (4, false), (5, false), (6, false), (7, false), (8, false), (9, false), (10, false), (11, false)]) (l' := [(15, .bool (decide (n < 0))), (5, .pointer (some ⟨b2, 0, none⟩)), (2, .pointer (some ⟨b1, 0, none⟩)), (1, .int .i64 n)]) [15, 5, 2, 1] (by kernel_rfl) ?_
  refine ops_conv (l' := [(15, .bool true), (5, .pointer (some ⟨b2, 0, none⟩)), (2, .pointer (some ⟨b1, 0, none⟩)), (1, .int .i64 n)]) (by rw [hk1]) (fun _ h => h) ?_
  refine ops_run (is := [(3, false), (4, false), (5, false), (6, false), (7, false), (8, false), (9, false), (10, false), (11, false)]) (r := []) (l' := [(24, .bool true), (5, .pointer (some ⟨b2, 0, none⟩)), (2, .pointer (some ⟨b1, 0, none⟩)), (1, .int .i64 n)]) [24, 5, 2, 1] (by kernel_rfl) ?_
  refine ops_nil ?_
  refine fin_then ?_
  refine st_true rfl ?_
  refine st_seq ?_
  refine st_region [(0, false), (1, false), (2, false), (3, false)] (by rfl) ?_
  refine ops_run (is := [(0, false), (1, false)]) (r := [(2, false), (3, false)]) (l' := [(4, .slice none 0 0), (25, .agg #[.int .u64 0, .int .u64 0]), (5, .pointer (some ⟨b2, 0, none⟩))]) [4, 25, 5] (by kernel_rfl) ?_
  refine ops_store (an := []) (evs := [.store ⟨b2, 0, none⟩ (.int .u64 0), .store ⟨b2, 1, none⟩ (.int .u64 0)]) (M' := Mem w [.blk b2 [.int .u64 0, .int .u64 0] 27, .blk b1 [.int .u64 s, .int .u64 g] 27]) ⟨by kernel_rfl⟩ (fun w_ hM hS => let ⟨w', he, h'⟩ := hM.evs_stores [.int .u64 0, .int .u64 0] 0 rfl 0 (Nat.le_of_ble_eq_true rfl); ⟨w', he, h', trivial⟩) ?_
  refine ops_run (is := [(3, false)]) (r := []) (l' := [(6, .int .i64 1), (4, .slice none 0 0), (5, .pointer (some ⟨b2, 0, none⟩))]) [6, 4, 5] (by kernel_rfl) ?_
  refine ops_nil ?_
  refine fin_then ?_
  refine st_ret ?_
  refine fin_ret_then ?_
  refine fin_ret [.tmp 4, .cell 5 27, .tmp 6] [.slice none 0 0, .agg #[.int .u64 0, .int .u64 0], .int .i64 1] rfl rfl (fun w_ hM => (.tmp rfl (.cell rfl (tr_run _ [.v (.int .u64 0), .v (.int .u64 0)] [.load ⟨b2, 0, none⟩ (.int .u64 0), .load ⟨b2, 1, none⟩ (.int .u64 0)] (.agg #[.int .u64 0, .int .u64 0] : Value) _ _ (by kernel_rfl) ⟨hM.cell 0 rfl rfl, hM.cell 0 rfl rfl, rfl⟩) (.tmp rfl .nil)))) (fun w_ hM => ?_)
  refine ⟨?_, hM.done⟩
  rfl
set_option maxRecDepth 100000 in
theorem RndOrders_lo (s g n : Int) (w : World) (h : n < 0) : Calls Try.prog 10 #[.agg #[.int .u64 s, .int .u64 g], .int .i64 n] w fun e w' => e = .returned (.bool true) ∧ Below w.heap.size w w' := by
  have hk1 : decide (n < 0) = true := by simpa using h
  refine sx_calls Try.func10 rfl (n := 61) (by kernel_rfl) (l := [(0, .agg #[.int .u64 s, .int .u64 g]), (1, .int .i64 n)]) rfl (by rfl) (Mem.nil w) ?_
  refine st_seq ?_
  refine st_region [(0, false), (1, false)] (by rfl) ?_
  refine ops_new (d := some 2) (o := .cells #[.int .u64 s, .int .u64 g] 27) (v := fun b1 => .pointer (some ⟨b1, 0, none⟩)) (M' := fun b1 => Mem w [.blk b1 [.int .u64 s, .int .u64 g] 27]) (fun b1 => ⟨by kernel_rfl⟩) (fun w_ hM hS => ⟨hM.blk [.int .u64 s, .int .u64 g] 27, trivial⟩) (fun b1 => ?_)
  refine ops_run (is := [(1, false)]) (r := []) (l' := [(2, .pointer (some ⟨b1, 0, none⟩)), (1, .int .i64 n)]) [2, 1] (by kernel_rfl) ?_
  refine ops_nil ?_
  refine fin_then ?_
  refine st_seq ?_
  refine st_seq ?_
  refine st_region [(0, false), (1, false)] (by rfl) ?_
  refine ops_call (σ := Unit) (d := some 10) (f := 15) (args := #[]) (v := fun _ => .bool true) (M' := fun _ => Mem w [.blk b1 [.int .u64 s, .int .u64 g] 27]) ⟨by kernel_rfl⟩ (fun w_ hM hS => (Begun_calls w_).mono (by rintro e w' ⟨rfl, hb⟩; exact ⟨(), rfl, hM.step hb, trivial⟩)) (fun _ => ?_)
  refine ops_run (is := [(1, false)]) (r := []) (l' := [(11, .bool false), (2, .pointer (some ⟨b1, 0, none⟩)), (1, .int .i64 n)]) [11, 2, 1] (by kernel_rfl) ?_
  refine ops_nil ?_
  refine fin_then ?_
  refine st_false rfl ?_
  refine st_skip ?_
  refine fin_then ?_
  refine st_seq ?_
  refine st_region [(0, false), (1, false), (2, false), (3, false), (4, false), (5, false), (6, false), (7, false), (8, false), (9, false), (10, false)] (by rfl) ?_
  refine ops_run (is := []) (r := [(0, false), (1, false), (2, false), (3, false), (4, false), (5, false), (6, false), (7, false), (8, false), (9, false), (10, false)]) (l' := [(2, .pointer (some ⟨b1, 0, none⟩)), (1, .int .i64 n)]) [2, 1] (by kernel_rfl) ?_
  refine ops_mem (d := some 13) (an := [.v (.int .u64 s), .v (.int .u64 g)]) (evs := [.load ⟨b1, 0, none⟩ (.int .u64 s), .load ⟨b1, 1, none⟩ (.int .u64 g)]) (v := .agg #[.int .u64 s, .int .u64 g]) (M' := Mem w [.blk b1 [.int .u64 s, .int .u64 g] 27]) ⟨by kernel_rfl⟩ (fun w_ hM hS => ⟨w_, ⟨hM.cell 0 rfl rfl, hM.cell 0 rfl rfl, rfl⟩, hM, trivial⟩) ?_
  refine ops_run (is := [(1, false)]) (r := [(2, false), (3, false), (4, false), (5, false), (6, false), (7, false), (8, false), (9, false), (10, false)]) (l' := [(14, .int .i64 n), (13, .agg #[.int .u64 s, .int .u64 g]), (2, .pointer (some ⟨b1, 0, none⟩)), (1, .int .i64 n)]) [14, 13, 2, 1] (by kernel_rfl) ?_
  refine ops_call (σ := Unit) (d := some 15) (f := 53) (args := #[.agg #[.int .u64 s, .int .u64 g], .int .i64 n]) (v := fun _ => .tuple #[.slice none 0 0, .agg #[.int .u64 0, .int .u64 0], .int .i64 1]) (M' := fun _ => Mem w [.blk b1 [.int .u64 s, .int .u64 g] 27]) ⟨by kernel_rfl⟩ (fun w_ hM hS => (Order_lo s g n w_ h).mono (by rintro e w' ⟨rfl, hb⟩; exact ⟨(), rfl, hM.step hb, trivial⟩)) (fun _ => ?_)
  refine ops_run (is := [(3, false), (4, false), (5, false), (6, false)]) (r := [(7, false), (8, false), (9, false), (10, false)]) (l' := [(18, .int .i64 1), (17, .agg #[.int .u64 0, .int .u64 0]), (16, .slice none 0 0), (2, .pointer (some ⟨b1, 0, none⟩)), (1, .int .i64 n)]) [18, 17, 16, 2, 1] (by kernel_rfl) ?_
  refine ops_new (d := some 6) (o := .cells #[.int .u64 0, .int .u64 0] 27) (v := fun b2 => .pointer (some ⟨b2, 0, none⟩)) (M' := fun b2 => Mem w [.blk b2 [.int .u64 0, .int .u64 0] 27, .blk b1 [.int .u64 s, .int .u64 g] 27]) (fun b2 => ⟨by kernel_rfl⟩) (fun w_ hM hS => ⟨hM.blk [.int .u64 0, .int .u64 0] 27, trivial⟩) (fun b2 => ?_)
  refine ops_run (is := [(8, false)]) (r := [(9, false), (10, false)]) (l' := [(5, .slice none 0 0), (6, .pointer (some ⟨b2, 0, none⟩)), (18, .int .i64 1), (17, .agg #[.int .u64 0, .int .u64 0]), (2, .pointer (some ⟨b1, 0, none⟩)), (1, .int .i64 n)]) [5, 6, 18, 17, 2, 1] (by kernel_rfl) ?_
  refine ops_store (an := []) (evs := [.store ⟨b2, 0, none⟩ (.int .u64 0), .store ⟨b2, 1, none⟩ (.int .u64 0)]) (M' := Mem w [.blk b2 [.int .u64 0, .int .u64 0] 27, .blk b1 [.int .u64 s, .int .u64 g] 27]) ⟨by kernel_rfl⟩ (fun w_ hM hS => let ⟨w', he, h'⟩ := hM.evs_stores [.int .u64 0, .int .u64 0] 0 rfl 0 (Nat.le_of_ble_eq_true rfl); ⟨w', he, h', trivial⟩) ?_
  refine ops_run (is := [(10, false)]) (r := []) (l' := [(7, .int .i64 1), (5, .slice none 0 0), (6, .pointer (some ⟨b2, 0, none⟩)), (2, .pointer (some ⟨b1, 0, none⟩)), (1, .int .i64 n)]) [7, 5, 6, 2, 1] (by kernel_rfl) ?_
  refine ops_nil ?_
  refine fin_then ?_
  refine st_seq ?_
  refine st_seq ?_
  refine st_region [(0, false), (1, false), (2, false), (3, false), (4, false), (5, false), (6, false), (7, false), (8, false), (9, false), (10, false), (11, false)] (by rfl) ?_
  refine ops_run (is := [(0, false), (1, false), (2, false)]) (r := [(3, false), (4, false), (5, false), (6, false), (7, false), (8, false), (9, false), (10, false), (11, false)]) (l' := [(21, .bool (decide (n < 0))), (7, .int .i64 1), (5, .slice none 0 0), (6, .pointer (some ⟨b2, 0, none⟩)), (2, .pointer (some ⟨b1, 0, none⟩)), (1, .int .i64 n)]) [21, 7, 5, 6, 2, 1] (by kernel_rfl) ?_
  refine ops_conv (l' := [(21, .bool true), (7, .int .i64 1), (5, .slice none 0 0), (6, .pointer (some ⟨b2, 0, none⟩)), (2, .pointer (some ⟨b1, 0, none⟩)), (1, .int .i64 n)]) (by rw [hk1]) (fun _ h => h) ?_
  refine ops_run (is := [(3, false), (4, false), (5, false), (6, false), (7, false), (8, false), (9, false), (10, false), (11, false)]) (r := []) (l' := [(30, .bool true), (7, .int .i64 1), (5, .slice none 0 0), (6, .pointer (some ⟨b2, 0, none⟩)), (2, .pointer (some ⟨b1, 0, none⟩)), (1, .int .i64 n)]) [30, 7, 5, 6, 2, 1] (by kernel_rfl) ?_
  refine ops_nil ?_
  refine fin_then ?_
  refine st_true rfl ?_
  refine st_seq ?_
  refine st_region [(0, false), (1, false), (2, false), (3, false), (4, false), (5, false), (6, false), (7, false), (8, false), (9, false), (10, false), (11, false), (12, false)] (by rfl) ?_
  refine ops_run (is := [(0, false), (1, false), (2, false), (3, false)]) (r := [(4, false), (5, false), (6, false), (7, false), (8, false), (9, false), (10, false), (11, false), (12, false)]) (l' := [(34, .bool true), (7, .int .i64 1), (6, .pointer (some ⟨b2, 0, none⟩))]) [34, 7, 6] (by kernel_rfl) ?_
  refine ops_mem (d := some 35) (an := [.v (.int .u64 0), .v (.int .u64 0)]) (evs := [.load ⟨b2, 0, none⟩ (.int .u64 0), .load ⟨b2, 1, none⟩ (.int .u64 0)]) (v := .agg #[.int .u64 0, .int .u64 0]) (M' := Mem w [.blk b2 [.int .u64 0, .int .u64 0] 27, .blk b1 [.int .u64 s, .int .u64 g] 27]) ⟨by kernel_rfl⟩ (fun w_ hM hS => ⟨w_, ⟨hM.cell 0 rfl rfl, hM.cell 0 rfl rfl, rfl⟩, hM, trivial⟩) ?_
  refine ops_run (is := [(5, false)]) (r := [(6, false), (7, false), (8, false), (9, false), (10, false), (11, false), (12, false)]) (l' := [(36, .agg #[.int .u64 0, .int .u64 0]), (35, .agg #[.int .u64 0, .int .u64 0]), (34, .bool true), (7, .int .i64 1)]) [36, 35, 34, 7] (by kernel_rfl) ?_
  refine ops_val (op := (Go.Op.binOp Go.BinOp.eql 27 (Go.Operand.tmp 35) (Go.Operand.tmp 36) 27)) (d := some 37) (v := .bool true) ⟨by kernel_rfl⟩ (run_eql_agg (r := true) rfl rfl (by kernel_rfl) (fun w => by have h := eqA27 9998 w 0 0 0 0; simpa only [BEq.rfl, Bool.and_true] using h)) ?_
  refine ops_run (is := [(7, false), (8, false), (9, false), (10, false), (11, false), (12, false)]) (r := []) (l' := [(4, .bool true)]) [4] (by kernel_rfl) ?_
  refine ops_nil ?_
  refine fin_then ?_
  refine st_ret ?_
  refine fin_ret_then ?_
  refine fin_ret [.tmp 4] [.bool true] rfl rfl (fun w_ hM => (.tmp rfl .nil)) (fun w_ hM => ?_)
  refine ⟨?_, hM.done⟩
  rfl
set_option maxRecDepth 100000 in
theorem Order_hi (s g n : Int) (w : World) (h : 1000 < n) : Calls Try.prog 53 #[.agg #[.int .u64 s, .int .u64 g], .int .i64 n] w fun e w' => e = .returned (.tuple #[.slice none 0 0, .agg #[.int .u64 0, .int .u64 0], .int .i64 1]) ∧ Below w.heap.size w w' := by
  have hk1 : decide (n < 0) = false := by simp; omega
  have hk2 : decide (1000 < n) = true := by simpa using h
  refine sx_calls Try.func53 rfl (n := 69) (by kernel_rfl) (l := [(0, .agg #[.int .u64 s, .int .u64 g]), (1, .int .i64 n)]) rfl (by rfl) (Mem.nil w) ?_
  refine st_seq ?_
  refine st_region [(0, false), (1, false), (2, false), (3, false)] (by rfl) ?_
  refine ops_new (d := some 2) (o := .cells #[.int .u64 s, .int .u64 g] 27) (v := fun b1 => .pointer (some ⟨b1, 0, none⟩)) (M' := fun b1 => Mem w [.blk b1 [.int .u64 s, .int .u64 g] 27]) (fun b1 => ⟨by kernel_rfl⟩) (fun w_ hM hS => ⟨hM.blk [.int .u64 s, .int .u64 g] 27, trivial⟩) (fun b1 => ?_)
  refine ops_run (is := [(1, false)]) (r := [(2, false), (3, false)]) (l' := [(2, .pointer (some ⟨b1, 0, none⟩)), (1, .int .i64 n)]) [2, 1] (by kernel_rfl) ?_
  refine ops_new (d := some 5) (o := .cells #[.int .u64 0, .int .u64 0] 27) (v := fun b2 => .pointer (some ⟨b2, 0, none⟩)) (M' := fun b2 => Mem w [.blk b2 [.int .u64 0, .int .u64 0] 27, .blk b1 [.int .u64 s, .int .u64 g] 27]) (fun b2 => ⟨by kernel_rfl⟩) (fun w_ hM hS => ⟨hM.blk [.int .u64 0, .int .u64 0] 27, trivial⟩) (fun b2 => ?_)
  refine ops_run (is := [(3, false)]) (r := []) (l' := [(5, .pointer (some ⟨b2, 0, none⟩)), (2, .pointer (some ⟨b1, 0, none⟩)), (1, .int .i64 n)]) [5, 2, 1] (by kernel_rfl) ?_
  refine ops_nil ?_
  refine fin_then ?_
  refine st_seq ?_
  refine st_seq ?_
  refine st_region [(0, false), (1, false), (2, false), (3, false), (4, false), (5, false), (6, false), (7, false), (8, false), (9, false), (10, false), (11, false)] (by rfl) ?_
  refine ops_run (is := [(0, false), (1, false), (2, false)]) (r := [(3, false), (4, false), (5, false), (6, false), (7, false), (8, false), (9, false), (10, false), (11, false)]) (l' := [(15, .bool (decide (n < 0))), (5, .pointer (some ⟨b2, 0, none⟩)), (2, .pointer (some ⟨b1, 0, none⟩)), (1, .int .i64 n)]) [15, 5, 2, 1] (by kernel_rfl) ?_
  refine ops_conv (l' := [(15, .bool false), (5, .pointer (some ⟨b2, 0, none⟩)), (2, .pointer (some ⟨b1, 0, none⟩)), (1, .int .i64 n)]) (by rw [hk1]) (fun _ h => h) ?_
  refine ops_run (is := [(3, false), (4, false), (5, false), (6, false)]) (r := [(7, false), (8, false), (9, false), (10, false), (11, false)]) (l' := [(19, .bool (decide (1000 < n))), (5, .pointer (some ⟨b2, 0, none⟩)), (2, .pointer (some ⟨b1, 0, none⟩)), (1, .int .i64 n)]) [19, 5, 2, 1] (by kernel_rfl) ?_
  refine ops_conv (l' := [(19, .bool true), (5, .pointer (some ⟨b2, 0, none⟩)), (2, .pointer (some ⟨b1, 0, none⟩)), (1, .int .i64 n)]) (by rw [hk2]) (fun _ h => h) ?_
  refine ops_run (is := [(7, false), (8, false), (9, false), (10, false), (11, false)]) (r := []) (l' := [(24, .bool true), (5, .pointer (some ⟨b2, 0, none⟩)), (2, .pointer (some ⟨b1, 0, none⟩)), (1, .int .i64 n)]) [24, 5, 2, 1] (by kernel_rfl) ?_
  refine ops_nil ?_
  refine fin_then ?_
  refine st_true rfl ?_
  refine st_seq ?_
  refine st_region [(0, false), (1, false), (2, false), (3, false)] (by rfl) ?_
  refine ops_run (is := [(0, false), (1, false)]) (r := [(2, false), (3, false)]) (l' := [(4, .slice none 0 0), (25, .agg #[.int .u64 0, .int .u64 0]), (5, .pointer (some ⟨b2, 0, none⟩))]) [4, 25, 5] (by kernel_rfl) ?_
  refine ops_store (an := []) (evs := [.store ⟨b2, 0, none⟩ (.int .u64 0), .store ⟨b2, 1, none⟩ (.int .u64 0)]) (M' := Mem w [.blk b2 [.int .u64 0, .int .u64 0] 27, .blk b1 [.int .u64 s, .int .u64 g] 27]) ⟨by kernel_rfl⟩ (fun w_ hM hS => let ⟨w', he, h'⟩ := hM.evs_stores [.int .u64 0, .int .u64 0] 0 rfl 0 (Nat.le_of_ble_eq_true rfl); ⟨w', he, h', trivial⟩) ?_
  refine ops_run (is := [(3, false)]) (r := []) (l' := [(6, .int .i64 1), (4, .slice none 0 0), (5, .pointer (some ⟨b2, 0, none⟩))]) [6, 4, 5] (by kernel_rfl) ?_
  refine ops_nil ?_
  refine fin_then ?_
  refine st_ret ?_
  refine fin_ret_then ?_
  refine fin_ret [.tmp 4, .cell 5 27, .tmp 6] [.slice none 0 0, .agg #[.int .u64 0, .int .u64 0], .int .i64 1] rfl rfl (fun w_ hM => (.tmp rfl (.cell rfl (tr_run _ [.v (.int .u64 0), .v (.int .u64 0)] [.load ⟨b2, 0, none⟩ (.int .u64 0), .load ⟨b2, 1, none⟩ (.int .u64 0)] (.agg #[.int .u64 0, .int .u64 0] : Value) _ _ (by kernel_rfl) ⟨hM.cell 0 rfl rfl, hM.cell 0 rfl rfl, rfl⟩) (.tmp rfl .nil)))) (fun w_ hM => ?_)
  refine ⟨?_, hM.done⟩
  rfl
set_option maxRecDepth 100000 in
theorem RndOrders_hi (s g n : Int) (w : World) (h : 1000 < n) : Calls Try.prog 10 #[.agg #[.int .u64 s, .int .u64 g], .int .i64 n] w fun e w' => e = .returned (.bool true) ∧ Below w.heap.size w w' := by
  have hk1 : decide (n < 0) = false := by simp; omega
  have hk2 : decide (1000 < n) = true := by simpa using h
  refine sx_calls Try.func10 rfl (n := 61) (by kernel_rfl) (l := [(0, .agg #[.int .u64 s, .int .u64 g]), (1, .int .i64 n)]) rfl (by rfl) (Mem.nil w) ?_
  refine st_seq ?_
  refine st_region [(0, false), (1, false)] (by rfl) ?_
  refine ops_new (d := some 2) (o := .cells #[.int .u64 s, .int .u64 g] 27) (v := fun b1 => .pointer (some ⟨b1, 0, none⟩)) (M' := fun b1 => Mem w [.blk b1 [.int .u64 s, .int .u64 g] 27]) (fun b1 => ⟨by kernel_rfl⟩) (fun w_ hM hS => ⟨hM.blk [.int .u64 s, .int .u64 g] 27, trivial⟩) (fun b1 => ?_)
  refine ops_run (is := [(1, false)]) (r := []) (l' := [(2, .pointer (some ⟨b1, 0, none⟩)), (1, .int .i64 n)]) [2, 1] (by kernel_rfl) ?_
  refine ops_nil ?_
  refine fin_then ?_
  refine st_seq ?_
  refine st_seq ?_
  refine st_region [(0, false), (1, false)] (by rfl) ?_
  refine ops_call (σ := Unit) (d := some 10) (f := 15) (args := #[]) (v := fun _ => .bool true) (M' := fun _ => Mem w [.blk b1 [.int .u64 s, .int .u64 g] 27]) ⟨by kernel_rfl⟩ (fun w_ hM hS => (Begun_calls w_).mono (by rintro e w' ⟨rfl, hb⟩; exact ⟨(), rfl, hM.step hb, trivial⟩)) (fun _ => ?_)
  refine ops_run (is := [(1, false)]) (r := []) (l' := [(11, .bool false), (2, .pointer (some ⟨b1, 0, none⟩)), (1, .int .i64 n)]) [11, 2, 1] (by kernel_rfl) ?_
  refine ops_nil ?_
  refine fin_then ?_
  refine st_false rfl ?_
  refine st_skip ?_
  refine fin_then ?_
  refine st_seq ?_
  refine st_region [(0, false), (1, false), (2, false), (3, false), (4, false), (5, false), (6, false), (7, false), (8, false), (9, false), (10, false)] (by rfl) ?_
  refine ops_run (is := []) (r := [(0, false), (1, false), (2, false), (3, false), (4, false), (5, false), (6, false), (7, false), (8, false), (9, false), (10, false)]) (l' := [(2, .pointer (some ⟨b1, 0, none⟩)), (1, .int .i64 n)]) [2, 1] (by kernel_rfl) ?_
  refine ops_mem (d := some 13) (an := [.v (.int .u64 s), .v (.int .u64 g)]) (evs := [.load ⟨b1, 0, none⟩ (.int .u64 s), .load ⟨b1, 1, none⟩ (.int .u64 g)]) (v := .agg #[.int .u64 s, .int .u64 g]) (M' := Mem w [.blk b1 [.int .u64 s, .int .u64 g] 27]) ⟨by kernel_rfl⟩ (fun w_ hM hS => ⟨w_, ⟨hM.cell 0 rfl rfl, hM.cell 0 rfl rfl, rfl⟩, hM, trivial⟩) ?_
  refine ops_run (is := [(1, false)]) (r := [(2, false), (3, false), (4, false), (5, false), (6, false), (7, false), (8, false), (9, false), (10, false)]) (l' := [(14, .int .i64 n), (13, .agg #[.int .u64 s, .int .u64 g]), (2, .pointer (some ⟨b1, 0, none⟩)), (1, .int .i64 n)]) [14, 13, 2, 1] (by kernel_rfl) ?_
  refine ops_call (σ := Unit) (d := some 15) (f := 53) (args := #[.agg #[.int .u64 s, .int .u64 g], .int .i64 n]) (v := fun _ => .tuple #[.slice none 0 0, .agg #[.int .u64 0, .int .u64 0], .int .i64 1]) (M' := fun _ => Mem w [.blk b1 [.int .u64 s, .int .u64 g] 27]) ⟨by kernel_rfl⟩ (fun w_ hM hS => (Order_hi s g n w_ h).mono (by rintro e w' ⟨rfl, hb⟩; exact ⟨(), rfl, hM.step hb, trivial⟩)) (fun _ => ?_)
  refine ops_run (is := [(3, false), (4, false), (5, false), (6, false)]) (r := [(7, false), (8, false), (9, false), (10, false)]) (l' := [(18, .int .i64 1), (17, .agg #[.int .u64 0, .int .u64 0]), (16, .slice none 0 0), (2, .pointer (some ⟨b1, 0, none⟩)), (1, .int .i64 n)]) [18, 17, 16, 2, 1] (by kernel_rfl) ?_
  refine ops_new (d := some 6) (o := .cells #[.int .u64 0, .int .u64 0] 27) (v := fun b2 => .pointer (some ⟨b2, 0, none⟩)) (M' := fun b2 => Mem w [.blk b2 [.int .u64 0, .int .u64 0] 27, .blk b1 [.int .u64 s, .int .u64 g] 27]) (fun b2 => ⟨by kernel_rfl⟩) (fun w_ hM hS => ⟨hM.blk [.int .u64 0, .int .u64 0] 27, trivial⟩) (fun b2 => ?_)
  refine ops_run (is := [(8, false)]) (r := [(9, false), (10, false)]) (l' := [(5, .slice none 0 0), (6, .pointer (some ⟨b2, 0, none⟩)), (18, .int .i64 1), (17, .agg #[.int .u64 0, .int .u64 0]), (2, .pointer (some ⟨b1, 0, none⟩)), (1, .int .i64 n)]) [5, 6, 18, 17, 2, 1] (by kernel_rfl) ?_
  refine ops_store (an := []) (evs := [.store ⟨b2, 0, none⟩ (.int .u64 0), .store ⟨b2, 1, none⟩ (.int .u64 0)]) (M' := Mem w [.blk b2 [.int .u64 0, .int .u64 0] 27, .blk b1 [.int .u64 s, .int .u64 g] 27]) ⟨by kernel_rfl⟩ (fun w_ hM hS => let ⟨w', he, h'⟩ := hM.evs_stores [.int .u64 0, .int .u64 0] 0 rfl 0 (Nat.le_of_ble_eq_true rfl); ⟨w', he, h', trivial⟩) ?_
  refine ops_run (is := [(10, false)]) (r := []) (l' := [(7, .int .i64 1), (5, .slice none 0 0), (6, .pointer (some ⟨b2, 0, none⟩)), (2, .pointer (some ⟨b1, 0, none⟩)), (1, .int .i64 n)]) [7, 5, 6, 2, 1] (by kernel_rfl) ?_
  refine ops_nil ?_
  refine fin_then ?_
  refine st_seq ?_
  refine st_seq ?_
  refine st_region [(0, false), (1, false), (2, false), (3, false), (4, false), (5, false), (6, false), (7, false), (8, false), (9, false), (10, false), (11, false)] (by rfl) ?_
  refine ops_run (is := [(0, false), (1, false), (2, false)]) (r := [(3, false), (4, false), (5, false), (6, false), (7, false), (8, false), (9, false), (10, false), (11, false)]) (l' := [(21, .bool (decide (n < 0))), (7, .int .i64 1), (5, .slice none 0 0), (6, .pointer (some ⟨b2, 0, none⟩)), (2, .pointer (some ⟨b1, 0, none⟩)), (1, .int .i64 n)]) [21, 7, 5, 6, 2, 1] (by kernel_rfl) ?_
  refine ops_conv (l' := [(21, .bool false), (7, .int .i64 1), (5, .slice none 0 0), (6, .pointer (some ⟨b2, 0, none⟩)), (2, .pointer (some ⟨b1, 0, none⟩)), (1, .int .i64 n)]) (by rw [hk1]) (fun _ h => h) ?_
  refine ops_run (is := [(3, false), (4, false), (5, false), (6, false)]) (r := [(7, false), (8, false), (9, false), (10, false), (11, false)]) (l' := [(25, .bool (decide (1000 < n))), (7, .int .i64 1), (5, .slice none 0 0), (6, .pointer (some ⟨b2, 0, none⟩)), (2, .pointer (some ⟨b1, 0, none⟩)), (1, .int .i64 n)]) [25, 7, 5, 6, 2, 1] (by kernel_rfl) ?_
  refine ops_conv (l' := [(25, .bool true), (7, .int .i64 1), (5, .slice none 0 0), (6, .pointer (some ⟨b2, 0, none⟩)), (2, .pointer (some ⟨b1, 0, none⟩)), (1, .int .i64 n)]) (by rw [hk2]) (fun _ h => h) ?_
  refine ops_run (is := [(7, false), (8, false), (9, false), (10, false), (11, false)]) (r := []) (l' := [(30, .bool true), (7, .int .i64 1), (5, .slice none 0 0), (6, .pointer (some ⟨b2, 0, none⟩)), (2, .pointer (some ⟨b1, 0, none⟩)), (1, .int .i64 n)]) [30, 7, 5, 6, 2, 1] (by kernel_rfl) ?_
  refine ops_nil ?_
  refine fin_then ?_
  refine st_true rfl ?_
  refine st_seq ?_
  refine st_region [(0, false), (1, false), (2, false), (3, false), (4, false), (5, false), (6, false), (7, false), (8, false), (9, false), (10, false), (11, false), (12, false)] (by rfl) ?_
  refine ops_run (is := [(0, false), (1, false), (2, false), (3, false)]) (r := [(4, false), (5, false), (6, false), (7, false), (8, false), (9, false), (10, false), (11, false), (12, false)]) (l' := [(34, .bool true), (7, .int .i64 1), (6, .pointer (some ⟨b2, 0, none⟩))]) [34, 7, 6] (by kernel_rfl) ?_
  refine ops_mem (d := some 35) (an := [.v (.int .u64 0), .v (.int .u64 0)]) (evs := [.load ⟨b2, 0, none⟩ (.int .u64 0), .load ⟨b2, 1, none⟩ (.int .u64 0)]) (v := .agg #[.int .u64 0, .int .u64 0]) (M' := Mem w [.blk b2 [.int .u64 0, .int .u64 0] 27, .blk b1 [.int .u64 s, .int .u64 g] 27]) ⟨by kernel_rfl⟩ (fun w_ hM hS => ⟨w_, ⟨hM.cell 0 rfl rfl, hM.cell 0 rfl rfl, rfl⟩, hM, trivial⟩) ?_
  refine ops_run (is := [(5, false)]) (r := [(6, false), (7, false), (8, false), (9, false), (10, false), (11, false), (12, false)]) (l' := [(36, .agg #[.int .u64 0, .int .u64 0]), (35, .agg #[.int .u64 0, .int .u64 0]), (34, .bool true), (7, .int .i64 1)]) [36, 35, 34, 7] (by kernel_rfl) ?_
  refine ops_val (op := (Go.Op.binOp Go.BinOp.eql 27 (Go.Operand.tmp 35) (Go.Operand.tmp 36) 27)) (d := some 37) (v := .bool true) ⟨by kernel_rfl⟩ (run_eql_agg (r := true) rfl rfl (by kernel_rfl) (fun w => by have h := eqA27 9998 w 0 0 0 0; simpa only [BEq.rfl, Bool.and_true] using h)) ?_
  refine ops_run (is := [(7, false), (8, false), (9, false), (10, false), (11, false), (12, false)]) (r := []) (l' := [(4, .bool true)]) [4] (by kernel_rfl) ?_
  refine ops_nil ?_
  refine fin_then ?_
  refine st_ret ?_
  refine fin_ret_then ?_
  refine fin_ret [.tmp 4] [.bool true] rfl rfl (fun w_ hM => (.tmp rfl .nil)) (fun w_ hM => ?_)
  refine ⟨?_, hM.done⟩
  rfl
set_option maxRecDepth 100000 in
theorem Order_even (s g n : Int) (w : World) (h : 0 ≤ n) (h1 : n ≤ 1000) (h2 : Int.tmod g 2 = 0) : Calls Try.prog 53 #[.agg #[.int .u64 s, .int .u64 g], .int .i64 n] w fun e w' => e = .returned (.tuple #[.slice none 0 0, .agg #[.int .u64 0, .int .u64 0], .int .i64 1]) ∧ Below w.heap.size w w' := by
  have hk1 : decide (n < 0) = false := by simp; omega
  have hk2 : decide (1000 < n) = false := by simp; omega
  have hk3 : (Int.tmod g 2 == 0) = true := by simp [h2]
  refine sx_calls Try.func53 rfl (n := 69) (by kernel_rfl) (l := [(0, .agg #[.int .u64 s, .int .u64 g]), (1, .int .i64 n)]) rfl (by rfl) (Mem.nil w) ?_
  refine st_seq ?_
  refine st_region [(0, false), (1, false), (2, false), (3, false)] (by rfl) ?_
  refine ops_new (d := some 2) (o := .cells #[.int .u64 s, .int .u64 g] 27) (v := fun b1 => .pointer (some ⟨b1, 0, none⟩)) (M' := fun b1 => Mem w [.blk b1 [.int .u64 s, .int .u64 g] 27]) (fun b1 => ⟨by kernel_rfl⟩) (fun w_ hM hS => ⟨hM.blk [.int .u64 s, .int .u64 g] 27, trivial⟩) (fun b1 => ?_)
  refine ops_run (is := [(1, false)]) (r := [(2, false), (3, false)]) (l' := [(2, .pointer (some ⟨b1, 0, none⟩)), (1, .int .i64 n)]) [2, 1] (by kernel_rfl) ?_
  refine ops_new (d := some 5) (o := .cells #[.int .u64 0, .int .u64 0] 27) (v := fun b2 => .pointer (some ⟨b2, 0, none⟩)) (M' := fun b2 => Mem w [.blk b2 [.int .u64 0, .int .u64 0] 27, .blk b1 [.int .u64 s, .int .u64 g] 27]) (fun b2 => ⟨by kernel_rfl⟩) (fun w_ hM hS => ⟨hM.blk [.int .u64 0, .int .u64 0] 27, trivial⟩) (fun b2 => ?_)
  refine ops_run (is := [(3, false)]) (r := []) (l' := [(5, .pointer (some ⟨b2, 0, none⟩)), (2, .pointer (some ⟨b1, 0, none⟩)), (1, .int .i64 n)]) [5, 2, 1] (by kernel_rfl) ?_
  refine ops_nil ?_
  refine fin_then ?_
  refine st_seq ?_
  refine st_seq ?_
  refine st_region [(0, false), (1, false), (2, false), (3, false), (4, false), (5, false), (6, false), (7, false), (8, false), (9, false), (10, false), (11, false)] (by rfl) ?_
  refine ops_run (is := [(0, false), (1, false), (2, false)]) (r := [(3, false), (4, false), (5, false), (6, false), (7, false), (8, false), (9, false), (10, false), (11, false)]) (l' := [(15, .bool (decide (n < 0))), (5, .pointer (some ⟨b2, 0, none⟩)), (2, .pointer (some ⟨b1, 0, none⟩)), (1, .int .i64 n)]) [15, 5, 2, 1] (by kernel_rfl) ?_
  refine ops_conv (l' := [(15, .bool false), (5, .pointer (some ⟨b2, 0, none⟩)), (2, .pointer (some ⟨b1, 0, none⟩)), (1, .int .i64 n)]) (by rw [hk1]) (fun _ h => h) ?_
  refine ops_run (is := [(3, false), (4, false), (5, false), (6, false)]) (r := [(7, false), (8, false), (9, false), (10, false), (11, false)]) (l' := [(19, .bool (decide (1000 < n))), (5, .pointer (some ⟨b2, 0, none⟩)), (2, .pointer (some ⟨b1, 0, none⟩)), (1, .int .i64 n)]) [19, 5, 2, 1] (by kernel_rfl) ?_
  refine ops_conv (l' := [(19, .bool false), (5, .pointer (some ⟨b2, 0, none⟩)), (2, .pointer (some ⟨b1, 0, none⟩)), (1, .int .i64 n)]) (by rw [hk2]) (fun _ h => h) ?_
  refine ops_run (is := [(7, false)]) (r := [(8, false), (9, false), (10, false), (11, false)]) (l' := [(20, .pointer (some ⟨b1, 1, none⟩)), (19, .bool false), (5, .pointer (some ⟨b2, 0, none⟩)), (2, .pointer (some ⟨b1, 0, none⟩)), (1, .int .i64 n)]) [20, 19, 5, 2, 1] (by kernel_rfl) ?_
  refine ops_mem (d := some 21) (an := [.v (.int .u64 g)]) (evs := [.load ⟨b1, 1, none⟩ (.int .u64 g)]) (v := .int .u64 g) (M' := Mem w [.blk b2 [.int .u64 0, .int .u64 0] 27, .blk b1 [.int .u64 s, .int .u64 g] 27]) ⟨by kernel_rfl⟩ (fun w_ hM hS => ⟨w_, ⟨hM.cell 1 rfl rfl, rfl⟩, hM, trivial⟩) ?_
  refine ops_run (is := [(9, false), (10, false), (11, false)]) (r := []) (l' := [(24, .bool (Int.tmod g 2 == 0)), (5, .pointer (some ⟨b2, 0, none⟩)), (2, .pointer (some ⟨b1, 0, none⟩)), (1, .int .i64 n)]) [24, 5, 2, 1] (by kernel_rfl) ?_
  refine ops_nil ?_
  refine fin_then ?_
  refine st_conv (l' := [(24, .bool true), (5, .pointer (some ⟨b2, 0, none⟩)), (2, .pointer (some ⟨b1, 0, none⟩)), (1, .int .i64 n)]) (by rw [hk3]) (fun _ h => h) ?_
  refine st_true rfl ?_
  refine st_seq ?_
  refine st_region [(0, false), (1, false), (2, false), (3, false)] (by rfl) ?_
  refine ops_run (is := [(0, false), (1, false)]) (r := [(2, false), (3, false)]) (l' := [(4, .slice none 0 0), (25, .agg #[.int .u64 0, .int .u64 0]), (5, .pointer (some ⟨b2, 0, none⟩))]) [4, 25, 5] (by kernel_rfl) ?_
  refine ops_store (an := []) (evs := [.store ⟨b2, 0, none⟩ (.int .u64 0), .store ⟨b2, 1, none⟩ (.int .u64 0)]) (M' := Mem w [.blk b2 [.int .u64 0, .int .u64 0] 27, .blk b1 [.int .u64 s, .int .u64 g] 27]) ⟨by kernel_rfl⟩ (fun w_ hM hS => let ⟨w', he, h'⟩ := hM.evs_stores [.int .u64 0, .int .u64 0] 0 rfl 0 (Nat.le_of_ble_eq_true rfl); ⟨w', he, h', trivial⟩) ?_
  refine ops_run (is := [(3, false)]) (r := []) (l' := [(6, .int .i64 1), (4, .slice none 0 0), (5, .pointer (some ⟨b2, 0, none⟩))]) [6, 4, 5] (by kernel_rfl) ?_
  refine ops_nil ?_
  refine fin_then ?_
  refine st_ret ?_
  refine fin_ret_then ?_
  refine fin_ret [.tmp 4, .cell 5 27, .tmp 6] [.slice none 0 0, .agg #[.int .u64 0, .int .u64 0], .int .i64 1] rfl rfl (fun w_ hM => (.tmp rfl (.cell rfl (tr_run _ [.v (.int .u64 0), .v (.int .u64 0)] [.load ⟨b2, 0, none⟩ (.int .u64 0), .load ⟨b2, 1, none⟩ (.int .u64 0)] (.agg #[.int .u64 0, .int .u64 0] : Value) _ _ (by kernel_rfl) ⟨hM.cell 0 rfl rfl, hM.cell 0 rfl rfl, rfl⟩) (.tmp rfl .nil)))) (fun w_ hM => ?_)
  refine ⟨?_, hM.done⟩
  rfl
set_option maxRecDepth 100000 in
theorem RndOrders_even (s g n : Int) (w : World) (h : 0 ≤ n) (h1 : n ≤ 1000) (h2 : Int.tmod g 2 = 0) : Calls Try.prog 10 #[.agg #[.int .u64 s, .int .u64 g], .int .i64 n] w fun e w' => e = .returned (.bool true) ∧ Below w.heap.size w w' := by
  have hk1 : decide (n < 0) = false := by simp; omega
  have hk2 : decide (1000 < n) = false := by simp; omega
  have hk3 : (Int.tmod g 2 == 0) = true := by simp [h2]
  refine sx_calls Try.func10 rfl (n := 61) (by kernel_rfl) (l := [(0, .agg #[.int .u64 s, .int .u64 g]), (1, .int .i64 n)]) rfl (by rfl) (Mem.nil w) ?_
  refine st_seq ?_
  refine st_region [(0, false), (1, false)] (by rfl) ?_
  refine ops_new (d := some 2) (o := .cells #[.int .u64 s, .int .u64 g] 27) (v := fun b1 => .pointer (some ⟨b1, 0, none⟩)) (M' := fun b1 => Mem w [.blk b1 [.int .u64 s, .int .u64 g] 27]) (fun b1 => ⟨by kernel_rfl⟩) (fun w_ hM hS => ⟨hM.blk [.int .u64 s, .int .u64 g] 27, trivial⟩) (fun b1 => ?_)
  refine ops_run (is := [(1, false)]) (r := []) (l' := [(2, .pointer (some ⟨b1, 0, none⟩)), (1, .int .i64 n)]) [2, 1] (by kernel_rfl) ?_
  refine ops_nil ?_
  refine fin_then ?_
  refine st_seq ?_
  refine st_seq ?_
  refine st_region [(0, false), (1, false)] (by rfl) ?_
  refine ops_call (σ := Unit) (d := some 10) (f := 15) (args := #[]) (v := fun _ => .bool true) (M' := fun _ => Mem w [.blk b1 [.int .u64 s, .int .u64 g] 27]) ⟨by kernel_rfl⟩ (fun w_ hM hS => (Begun_calls w_).mono (by rintro e w' ⟨rfl, hb⟩; exact ⟨(), rfl, hM.step hb, trivial⟩)) (fun _ => ?_)
  refine ops_run (is := [(1, false)]) (r := []) (l' := [(11, .bool false), (2, .pointer (some ⟨b1, 0, none⟩)), (1, .int .i64 n)]) [11, 2, 1] (by kernel_rfl) ?_
  refine ops_nil ?_
  refine fin_then ?_
  refine st_false rfl ?_
  refine st_skip ?_
  refine fin_then ?_
  refine st_seq ?_
  refine st_region [(0, false), (1, false), (2, false), (3, false), (4, false), (5, false), (6, false), (7, false), (8, false), (9, false), (10, false)] (by rfl) ?_
  refine ops_run (is := []) (r := [(0, false), (1, false), (2, false), (3, false), (4, false), (5, false), (6, false), (7, false), (8, false), (9, false), (10, false)]) (l' := [(2, .pointer (some ⟨b1, 0, none⟩)), (1, .int .i64 n)]) [2, 1] (by kernel_rfl) ?_
  refine ops_mem (d := some 13) (an := [.v (.int .u64 s), .v (.int .u64 g)]) (evs := [.load ⟨b1, 0, none⟩ (.int .u64 s), .load ⟨b1, 1, none⟩ (.int .u64 g)]) (v := .agg #[.int .u64 s, .int .u64 g]) (M' := Mem w [.blk b1 [.int .u64 s, .int .u64 g] 27]) ⟨by kernel_rfl⟩ (fun w_ hM hS => ⟨w_, ⟨hM.cell 0 rfl rfl, hM.cell 0 rfl rfl, rfl⟩, hM, trivial⟩) ?_
  refine ops_run (is := [(1, false)]) (r := [(2, false), (3, false), (4, false), (5, false), (6, false), (7, false), (8, false), (9, false), (10, false)]) (l' := [(14, .int .i64 n), (13, .agg #[.int .u64 s, .int .u64 g]), (2, .pointer (some ⟨b1, 0, none⟩)), (1, .int .i64 n)]) [14, 13, 2, 1] (by kernel_rfl) ?_
  refine ops_call (σ := Unit) (d := some 15) (f := 53) (args := #[.agg #[.int .u64 s, .int .u64 g], .int .i64 n]) (v := fun _ => .tuple #[.slice none 0 0, .agg #[.int .u64 0, .int .u64 0], .int .i64 1]) (M' := fun _ => Mem w [.blk b1 [.int .u64 s, .int .u64 g] 27]) ⟨by kernel_rfl⟩ (fun w_ hM hS => (Order_even s g n w_ h h1 h2).mono (by rintro e w' ⟨rfl, hb⟩; exact ⟨(), rfl, hM.step hb, trivial⟩)) (fun _ => ?_)
  refine ops_run (is := [(3, false), (4, false), (5, false), (6, false)]) (r := [(7, false), (8, false), (9, false), (10, false)]) (l' := [(18, .int .i64 1), (17, .agg #[.int .u64 0, .int .u64 0]), (16, .slice none 0 0), (2, .pointer (some ⟨b1, 0, none⟩)), (1, .int .i64 n)]) [18, 17, 16, 2, 1] (by kernel_rfl) ?_
  refine ops_new (d := some 6) (o := .cells #[.int .u64 0, .int .u64 0] 27) (v := fun b2 => .pointer (some ⟨b2, 0, none⟩)) (M' := fun b2 => Mem w [.blk b2 [.int .u64 0, .int .u64 0] 27, .blk b1 [.int .u64 s, .int .u64 g] 27]) (fun b2 => ⟨by kernel_rfl⟩) (fun w_ hM hS => ⟨hM.blk [.int .u64 0, .int .u64 0] 27, trivial⟩) (fun b2 => ?_)
  refine ops_run (is := [(8, false)]) (r := [(9, false), (10, false)]) (l' := [(5, .slice none 0 0), (6, .pointer (some ⟨b2, 0, none⟩)), (18, .int .i64 1), (17, .agg #[.int .u64 0, .int .u64 0]), (2, .pointer (some ⟨b1, 0, none⟩)), (1, .int .i64 n)]) [5, 6, 18, 17, 2, 1] (by kernel_rfl) ?_
  refine ops_store (an := []) (evs := [.store ⟨b2, 0, none⟩ (.int .u64 0), .store ⟨b2, 1, none⟩ (.int .u64 0)]) (M' := Mem w [.blk b2 [.int .u64 0, .int .u64 0] 27, .blk b1 [.int .u64 s, .int .u64 g] 27]) ⟨by kernel_rfl⟩ (fun w_ hM hS => let ⟨w', he, h'⟩ := hM.evs_stores [.int .u64 0, .int .u64 0] 0 rfl 0 (Nat.le_of_ble_eq_true rfl); ⟨w', he, h', trivial⟩) ?_
  refine ops_run (is := [(10, false)]) (r := []) (l' := [(7, .int .i64 1), (5, .slice none 0 0), (6, .pointer (some ⟨b2, 0, none⟩)), (2, .pointer (some ⟨b1, 0, none⟩)), (1, .int .i64 n)]) [7, 5, 6, 2, 1] (by kernel_rfl) ?_
  refine ops_nil ?_
  refine fin_then ?_
  refine st_seq ?_
  refine st_seq ?_
  refine st_region [(0, false), (1, false), (2, false), (3, false), (4, false), (5, false), (6, false), (7, false), (8, false), (9, false), (10, false), (11, false)] (by rfl) ?_
  refine ops_run (is := [(0, false), (1, false), (2, false)]) (r := [(3, false), (4, false), (5, false), (6, false), (7, false), (8, false), (9, false), (10, false), (11, false)]) (l' := [(21, .bool (decide (n < 0))), (7, .int .i64 1), (5, .slice none 0 0), (6, .pointer (some ⟨b2, 0, none⟩)), (2, .pointer (some ⟨b1, 0, none⟩)), (1, .int .i64 n)]) [21, 7, 5, 6, 2, 1] (by kernel_rfl) ?_
  refine ops_conv (l' := [(21, .bool false), (7, .int .i64 1), (5, .slice none 0 0), (6, .pointer (some ⟨b2, 0, none⟩)), (2, .pointer (some ⟨b1, 0, none⟩)), (1, .int .i64 n)]) (by rw [hk1]) (fun _ h => h) ?_
  refine ops_run (is := [(3, false), (4, false), (5, false), (6, false)]) (r := [(7, false), (8, false), (9, false), (10, false), (11, false)]) (l' := [(25, .bool (decide (1000 < n))), (7, .int .i64 1), (5, .slice none 0 0), (6, .pointer (some ⟨b2, 0, none⟩)), (2, .pointer (some ⟨b1, 0, none⟩)), (1, .int .i64 n)]) [25, 7, 5, 6, 2, 1] (by kernel_rfl) ?_
  refine ops_conv (l' := [(25, .bool false), (7, .int .i64 1), (5, .slice none 0 0), (6, .pointer (some ⟨b2, 0, none⟩)), (2, .pointer (some ⟨b1, 0, none⟩)), (1, .int .i64 n)]) (by rw [hk2]) (fun _ h => h) ?_
  refine ops_run (is := [(7, false)]) (r := [(8, false), (9, false), (10, false), (11, false)]) (l' := [(26, .pointer (some ⟨b1, 1, none⟩)), (25, .bool false), (7, .int .i64 1), (5, .slice none 0 0), (6, .pointer (some ⟨b2, 0, none⟩)), (2, .pointer (some ⟨b1, 0, none⟩)), (1, .int .i64 n)]) [26, 25, 7, 5, 6, 2, 1] (by kernel_rfl) ?_
  refine ops_mem (d := some 27) (an := [.v (.int .u64 g)]) (evs := [.load ⟨b1, 1, none⟩ (.int .u64 g)]) (v := .int .u64 g) (M' := Mem w [.blk b2 [.int .u64 0, .int .u64 0] 27, .blk b1 [.int .u64 s, .int .u64 g] 27]) ⟨by kernel_rfl⟩ (fun w_ hM hS => ⟨w_, ⟨hM.cell 1 rfl rfl, rfl⟩, hM, trivial⟩) ?_
  refine ops_run (is := [(9, false), (10, false), (11, false)]) (r := []) (l' := [(30, .bool (Int.tmod g 2 == 0)), (7, .int .i64 1), (5, .slice none 0 0), (6, .pointer (some ⟨b2, 0, none⟩)), (2, .pointer (some ⟨b1, 0, none⟩)), (1, .int .i64 n)]) [30, 7, 5, 6, 2, 1] (by kernel_rfl) ?_
  refine ops_nil ?_
  refine fin_then ?_
  refine st_conv (l' := [(30, .bool true), (7, .int .i64 1), (5, .slice none 0 0), (6, .pointer (some ⟨b2, 0, none⟩)), (2, .pointer (some ⟨b1, 0, none⟩)), (1, .int .i64 n)]) (by rw [hk3]) (fun _ h => h) ?_
  refine st_true rfl ?_
  refine st_seq ?_
  refine st_region [(0, false), (1, false), (2, false), (3, false), (4, false), (5, false), (6, false), (7, false), (8, false), (9, false), (10, false), (11, false), (12, false)] (by rfl) ?_
  refine ops_run (is := [(0, false), (1, false), (2, false), (3, false)]) (r := [(4, false), (5, false), (6, false), (7, false), (8, false), (9, false), (10, false), (11, false), (12, false)]) (l' := [(34, .bool true), (7, .int .i64 1), (6, .pointer (some ⟨b2, 0, none⟩))]) [34, 7, 6] (by kernel_rfl) ?_
  refine ops_mem (d := some 35) (an := [.v (.int .u64 0), .v (.int .u64 0)]) (evs := [.load ⟨b2, 0, none⟩ (.int .u64 0), .load ⟨b2, 1, none⟩ (.int .u64 0)]) (v := .agg #[.int .u64 0, .int .u64 0]) (M' := Mem w [.blk b2 [.int .u64 0, .int .u64 0] 27, .blk b1 [.int .u64 s, .int .u64 g] 27]) ⟨by kernel_rfl⟩ (fun w_ hM hS => ⟨w_, ⟨hM.cell 0 rfl rfl, hM.cell 0 rfl rfl, rfl⟩, hM, trivial⟩) ?_
  refine ops_run (is := [(5, false)]) (r := [(6, false), (7, false), (8, false), (9, false), (10, false), (11, false), (12, false)]) (l' := [(36, .agg #[.int .u64 0, .int .u64 0]), (35, .agg #[.int .u64 0, .int .u64 0]), (34, .bool true), (7, .int .i64 1)]) [36, 35, 34, 7] (by kernel_rfl) ?_
  refine ops_val (op := (Go.Op.binOp Go.BinOp.eql 27 (Go.Operand.tmp 35) (Go.Operand.tmp 36) 27)) (d := some 37) (v := .bool true) ⟨by kernel_rfl⟩ (run_eql_agg (r := true) rfl rfl (by kernel_rfl) (fun w => by have h := eqA27 9998 w 0 0 0 0; simpa only [BEq.rfl, Bool.and_true] using h)) ?_
  refine ops_run (is := [(7, false), (8, false), (9, false), (10, false), (11, false), (12, false)]) (r := []) (l' := [(4, .bool true)]) [4] (by kernel_rfl) ?_
  refine ops_nil ?_
  refine fin_then ?_
  refine st_ret ?_
  refine fin_ret_then ?_
  refine fin_ret [.tmp 4] [.bool true] rfl rfl (fun w_ hM => (.tmp rfl .nil)) (fun w_ hM => ?_)
  refine ⟨?_, hM.done⟩
  rfl
set_option maxRecDepth 100000 in
theorem RndOrders_ok (s g : Int) (n : Nat) (w : World) (hn : n ≤ 1000) (hg0 : 0 ≤ g) (h2 : Int.tmod g 2 ≠ 0) (hs0 : 0 ≤ s) (hs1 : s < 18446744073709551616) : Calls Try.prog 10 #[.agg #[.int .u64 s, .int .u64 g], .int .i64 (n : Int)] w fun e w' => e = .returned (.bool true) ∧ Below w.heap.size w w' := by
  have hk1 : decide ((n : Int) < 0) = false := by simp
  have hk2 : decide (1000 < (n : Int)) = false := by simp; omega
  have hk3 : (Int.tmod g 2 == 0) = false := by simp [h2]
  refine sx_calls Try.func10 rfl (n := 61) (by kernel_rfl) (l := [(0, .agg #[.int .u64 s, .int .u64 g]), (1, .int .i64 (n : Int))]) rfl (by rfl) (Mem.nil w) ?_
  refine st_seq ?_
  refine st_region [(0, false), (1, false)] (by rfl) ?_
  refine ops_new (d := some 2) (o := .cells #[.int .u64 s, .int .u64 g] 27) (v := fun b1 => .pointer (some ⟨b1, 0, none⟩)) (M' := fun b1 => Mem w [.blk b1 [.int .u64 s, .int .u64 g] 27]) (fun b1 => ⟨by kernel_rfl⟩) (fun w_ hM hS => ⟨hM.blk [.int .u64 s, .int .u64 g] 27, trivial⟩) (fun b1 => ?_)
  refine ops_run (is := [(1, false)]) (r := []) (l' := [(2, .pointer (some ⟨b1, 0, none⟩)), (1, .int .i64 (n : Int))]) [2, 1] (by kernel_rfl) ?_
  refine ops_nil ?_
  refine fin_then ?_
  refine st_seq ?_
  refine st_seq ?_
  refine st_region [(0, false), (1, false)] (by rfl) ?_
  refine ops_call (σ := Unit) (d := some 10) (f := 15) (args := #[]) (v := fun _ => .bool true) (M' := fun _ => Mem w [.blk b1 [.int .u64 s, .int .u64 g] 27]) ⟨by kernel_rfl⟩ (fun w_ hM hS => (Begun_calls w_).mono (by rintro e w' ⟨rfl, hb⟩; exact ⟨(), rfl, hM.step hb, trivial⟩)) (fun _ => ?_)
  refine ops_run (is := [(1, false)]) (r := []) (l' := [(11, .bool false), (2, .pointer (some ⟨b1, 0, none⟩)), (1, .int .i64 (n : Int))]) [11, 2, 1] (by kernel_rfl) ?_
  refine ops_nil ?_
  refine fin_then ?_
  refine st_false rfl ?_
  refine st_skip ?_
  refine fin_then ?_
  refine st_seq ?_
  refine st_region [(0, false), (1, false), (2, false), (3, false), (4, false), (5, false), (6, false), (7, false), (8, false), (9, false), (10, false)] (by rfl) ?_
  refine ops_run (is := []) (r := [(0, false), (1, false), (2, false), (3, false), (4, false), (5, false), (6, false), (7, false), (8, false), (9, false), (10, false)]) (l' := [(2, .pointer (some ⟨b1, 0, none⟩)), (1, .int .i64 (n : Int))]) [2, 1] (by kernel_rfl) ?_
  refine ops_mem (d := some 13) (an := [.v (.int .u64 s), .v (.int .u64 g)]) (evs := [.load ⟨b1, 0, none⟩ (.int .u64 s), .load ⟨b1, 1, none⟩ (.int .u64 g)]) (v := .agg #[.int .u64 s, .int .u64 g]) (M' := Mem w [.blk b1 [.int .u64 s, .int .u64 g] 27]) ⟨by kernel_rfl⟩ (fun w_ hM hS => ⟨w_, ⟨hM.cell 0 rfl rfl, hM.cell 0 rfl rfl, rfl⟩, hM, trivial⟩) ?_
  refine ops_run (is := [(1, false)]) (r := [(2, false), (3, false), (4, false), (5, false), (6, false), (7, false), (8, false), (9, false), (10, false)]) (l' := [(14, .int .i64 (n : Int)), (13, .agg #[.int .u64 s, .int .u64 g]), (2, .pointer (some ⟨b1, 0, none⟩)), (1, .int .i64 (n : Int))]) [14, 13, 2, 1] (by kernel_rfl) ?_
  refine ops_call (σ := Option Addr × Nat) (d := some 15) (f := 53) (args := #[.agg #[.int .u64 s, .int .u64 g], .int .i64 (n : Int)]) (v := fun x_ => match x_ with | (A2, c3) => .tuple #[.slice A2 n c3, .agg #[.int .u64 ((sh s g n (n - 1)).2), .int .u64 g], .int .i64 0]) (M' := fun x_ => match x_ with | (A2, c3) => Mem w [.row A2 n c3 3 1 (iv .i64 ((sh s g n (n - 1)).1)), .blk b1 [.int .u64 s, .int .u64 g] 27]) ⟨by kernel_rfl⟩ (fun w_ hM hS => (Order_ok s g n w_ hn hg0 h2 hs0 hs1).mono (by rintro e w' ⟨x_, rfl, h2⟩; exact ⟨x_, rfl, hM.join h2 rfl, trivial⟩)) ?_
  rintro ⟨A2, c3⟩
  refine ops_conv (l' := [(15, .tuple #[.slice A2 n c3, .agg #[.int .u64 ((sh s g n (n - 1)).2), .int .u64 g], .int .i64 0]), (14, .int .i64 (n : Int)), (13, .agg #[.int .u64 s, .int .u64 g]), (2, .pointer (some ⟨b1, 0, none⟩)), (1, .int .i64 (n : Int))]) (M' := Mem w [.row A2 n c3 3 1 (iv .i64 ((sh s g n (n - 1)).1)), .blk b1 [.int .u64 s, .int .u64 g] 27]) rfl (fun _ h => h) ?_
  refine ops_run (is := [(3, false), (4, false), (5, false), (6, false)]) (r := [(7, false), (8, false), (9, false), (10, false)]) (l' := [(18, .int .i64 0), (17, .agg #[.int .u64 ((sh s g n (n - 1)).2), .int .u64 g]), (16, .slice A2 n c3), (2, .pointer (some ⟨b1, 0, none⟩)), (1, .int .i64 (n : Int))]) [18, 17, 16, 2, 1] (by kernel_rfl) ?_
  refine ops_new (d := some 6) (o := .cells #[.int .u64 0, .int .u64 0] 27) (v := fun b4 => .pointer (some ⟨b4, 0, none⟩)) (M' := fun b4 => Mem w [.blk b4 [.int .u64 0, .int .u64 0] 27, .row A2 n c3 3 1 (iv .i64 ((sh s g n (n - 1)).1)), .blk b1 [.int .u64 s, .int .u64 g] 27]) (fun b4 => ⟨by kernel_rfl⟩) (fun w_ hM hS => ⟨hM.blk [.int .u64 0, .int .u64 0] 27, trivial⟩) (fun b4 => ?_)
  refine ops_run (is := [(8, false)]) (r := [(9, false), (10, false)]) (l' := [(5, .slice A2 n c3), (6, .pointer (some ⟨b4, 0, none⟩)), (18, .int .i64 0), (17, .agg #[.int .u64 ((sh s g n (n - 1)).2), .int .u64 g]), (2, .pointer (some ⟨b1, 0, none⟩)), (1, .int .i64 (n : Int))]) [5, 6, 18, 17, 2, 1] (by kernel_rfl) ?_
  refine ops_store (an := []) (evs := [.store ⟨b4, 0, none⟩ (.int .u64 ((sh s g n (n - 1)).2)), .store ⟨b4, 1, none⟩ (.int .u64 g)]) (M' := Mem w [.blk b4 [.int .u64 ((sh s g n (n - 1)).2), .int .u64 g] 27, .row A2 n c3 3 1 (iv .i64 ((sh s g n (n - 1)).1)), .blk b1 [.int .u64 s, .int .u64 g] 27]) ⟨by kernel_rfl⟩ (fun w_ hM hS => let ⟨w', he, h'⟩ := hM.evs_stores [.int .u64 ((sh s g n (n - 1)).2), .int .u64 g] 0 rfl 0 (Nat.le_of_ble_eq_true rfl); ⟨w', he, h', trivial⟩) ?_
  refine ops_run (is := [(10, false)]) (r := []) (l' := [(7, .int .i64 0), (5, .slice A2 n c3), (6, .pointer (some ⟨b4, 0, none⟩)), (2, .pointer (some ⟨b1, 0, none⟩)), (1, .int .i64 (n : Int))]) [7, 5, 6, 2, 1] (by kernel_rfl) ?_
  refine ops_nil ?_
  refine fin_then ?_
  refine st_seq ?_
  refine st_seq ?_
  refine st_region [(0, false), (1, false), (2, false), (3, false), (4, false), (5, false), (6, false), (7, false), (8, false), (9, false), (10, false), (11, false)] (by rfl) ?_
  refine ops_run (is := [(0, false), (1, false), (2, false)]) (r := [(3, false), (4, false), (5, false), (6, false), (7, false), (8, false), (9, false), (10, false), (11, false)]) (l' := [(21, .bool (decide ((n : Int) < 0))), (7, .int .i64 0), (5, .slice A2 n c3), (6, .pointer (some ⟨b4, 0, none⟩)), (2, .pointer (some ⟨b1, 0, none⟩)), (1, .int .i64 (n : Int))]) [21, 7, 5, 6, 2, 1] (by kernel_rfl) ?_
  refine ops_conv (l' := [(21, .bool false), (7, .int .i64 0), (5, .slice A2 n c3), (6, .pointer (some ⟨b4, 0, none⟩)), (2, .pointer (some ⟨b1, 0, none⟩)), (1, .int .i64 (n : Int))]) (by rw [hk1]) (fun _ h => h) ?_
  refine ops_run (is := [(3, false), (4, false), (5, false), (6, false)]) (r := [(7, false), (8, false), (9, false), (10, false), (11, false)]) (l' := [(25, .bool (decide (1000 < (n : Int)))), (7, .int .i64 0), (5, .slice A2 n c3), (6, .pointer (some ⟨b4, 0, none⟩)), (2, .pointer (some ⟨b1, 0, none⟩)), (1, .int .i64 (n : Int))]) [25, 7, 5, 6, 2, 1] (by kernel_rfl) ?_
  refine ops_conv (l' := [(25, .bool false), (7, .int .i64 0), (5, .slice A2 n c3), (6, .pointer (some ⟨b4, 0, none⟩)), (2, .pointer (some ⟨b1, 0, none⟩)), (1, .int .i64 (n : Int))]) (by rw [hk2]) (fun _ h => h) ?_
  refine ops_run (is := [(7, false)]) (r := [(8, false), (9, false), (10, false), (11, false)]) (l' := [(26, .pointer (some ⟨b1, 1, none⟩)), (25, .bool false), (7, .int .i64 0), (5, .slice A2 n c3), (6, .pointer (some ⟨b4, 0, none⟩)), (2, .pointer (some ⟨b1, 0, none⟩)), (1, .int .i64 (n : Int))]) [26, 25, 7, 5, 6, 2, 1] (by kernel_rfl) ?_
  refine ops_mem (d := some 27) (an := [.v (.int .u64 g)]) (evs := [.load ⟨b1, 1, none⟩ (.int .u64 g)]) (v := .int .u64 g) (M' := Mem w [.blk b4 [.int .u64 ((sh s g n (n - 1)).2), .int .u64 g] 27, .row A2 n c3 3 1 (iv .i64 ((sh s g n (n - 1)).1)), .blk b1 [.int .u64 s, .int .u64 g] 27]) ⟨by kernel_rfl⟩ (fun w_ hM hS => ⟨w_, ⟨hM.cell 2 rfl rfl, rfl⟩, hM, trivial⟩) ?_
  refine ops_run (is := [(9, false), (10, false), (11, false)]) (r := []) (l' := [(30, .bool (Int.tmod g 2 == 0)), (7, .int .i64 0), (5, .slice A2 n c3), (6, .pointer (some ⟨b4, 0, none⟩)), (2, .pointer (some ⟨b1, 0, none⟩)), (1, .int .i64 (n : Int))]) [30, 7, 5, 6, 2, 1] (by kernel_rfl) ?_
  refine ops_nil ?_
  refine fin_then ?_
  refine st_conv (l' := [(30, .bool false), (7, .int .i64 0), (5, .slice A2 n c3), (6, .pointer (some ⟨b4, 0, none⟩)), (2, .pointer (some ⟨b1, 0, none⟩)), (1, .int .i64 (n : Int))]) (by rw [hk3]) (fun _ h => h) ?_
  refine st_false rfl ?_
  refine st_skip ?_
  refine fin_then ?_
  refine st_seq ?_
  refine st_region [(0, false), (1, false), (2, false), (3, false), (4, false), (5, false), (6, false), (7, false), (8, false)] (by rfl) ?_
  refine ops_run (is := []) (r := [(0, false), (1, false), (2, false), (3, false), (4, false), (5, false), (6, false), (7, false), (8, false)]) (l' := [(7, .int .i64 0), (5, .slice A2 n c3), (6, .pointer (some ⟨b4, 0, none⟩)), (2, .pointer (some ⟨b1, 0, none⟩)), (1, .int .i64 (n : Int))]) [7, 5, 6, 2, 1] (by kernel_rfl) ?_
  refine ops_mem (d := some 44) (an := [.v (.int .u64 s), .v (.int .u64 g)]) (evs := [.load ⟨b1, 0, none⟩ (.int .u64 s), .load ⟨b1, 1, none⟩ (.int .u64 g)]) (v := .agg #[.int .u64 s, .int .u64 g]) (M' := Mem w [.blk b4 [.int .u64 ((sh s g n (n - 1)).2), .int .u64 g] 27, .row A2 n c3 3 1 (iv .i64 ((sh s g n (n - 1)).1)), .blk b1 [.int .u64 s, .int .u64 g] 27]) ⟨by kernel_rfl⟩ (fun w_ hM hS => ⟨w_, ⟨hM.cell 2 rfl rfl, hM.cell 2 rfl rfl, rfl⟩, hM, trivial⟩) ?_
  refine ops_run (is := [(1, false)]) (r := [(2, false), (3, false), (4, false), (5, false), (6, false), (7, false), (8, false)]) (l' := [(45, .int .i64 (n : Int)), (44, .agg #[.int .u64 s, .int .u64 g]), (7, .int .i64 0), (5, .slice A2 n c3), (6, .pointer (some ⟨b4, 0, none⟩))]) [45, 44, 7, 5, 6] (by kernel_rfl) ?_
  refine ops_call (σ := Option Addr × Nat) (d := some 46) (f := 54) (args := #[.agg #[.int .u64 s, .int .u64 g], .int .i64 (n : Int)]) (v := fun x_ => match x_ with | (A5, c6) => .tuple #[.slice A5 n c6, .agg #[.int .u64 ((sh s g n (n - 1)).2), .int .u64 g]]) (M' := fun x_ => match x_ with | (A5, c6) => Mem w [.row A5 n c6 3 1 (iv .i64 ((sh s g n (n - 1)).1)), .blk b4 [.int .u64 ((sh s g n (n - 1)).2), .int .u64 g] 27, .row A2 n c3 3 1 (iv .i64 ((sh s g n (n - 1)).1)), .blk b1 [.int .u64 s, .int .u64 g] 27]) ⟨by kernel_rfl⟩ (fun w_ hM hS => (Shuffled_ok s g n w_ hn hg0 h2 hs0 hs1).mono (by rintro e w' ⟨x_, rfl, h2⟩; exact ⟨x_, rfl, hM.join h2 rfl, trivial⟩)) ?_
  rintro ⟨A5, c6⟩
  refine ops_conv (l' := [(46, .tuple #[.slice A5 n c6, .agg #[.int .u64 ((sh s g n (n - 1)).2), .int .u64 g]]), (45, .int .i64 (n : Int)), (44, .agg #[.int .u64 s, .int .u64 g]), (7, .int .i64 0), (5, .slice A2 n c3), (6, .pointer (some ⟨b4, 0, none⟩))]) (M' := Mem w [.row A5 n c6 3 1 (iv .i64 ((sh s g n (n - 1)).1)), .blk b4 [.int .u64 ((sh s g n (n - 1)).2), .int .u64 g] 27, .row A2 n c3 3 1 (iv .i64 ((sh s g n (n - 1)).1)), .blk b1 [.int .u64 s, .int .u64 g] 27]) rfl (fun _ h => h) ?_
  refine ops_run (is := [(3, false), (4, false), (5, false)]) (r := [(6, false), (7, false), (8, false)]) (l' := [(48, .agg #[.int .u64 ((sh s g n (n - 1)).2), .int .u64 g]), (47, .slice A5 n c6), (7, .int .i64 0), (5, .slice A2 n c3), (6, .pointer (some ⟨b4, 0, none⟩))]) [48, 47, 7, 5, 6] (by kernel_rfl) ?_
  refine ops_new (d := some 9) (o := .cells #[.int .u64 0, .int .u64 0] 27) (v := fun b7 => .pointer (some ⟨b7, 0, none⟩)) (M' := fun b7 => Mem w [.blk b7 [.int .u64 0, .int .u64 0] 27, .row A5 n c6 3 1 (iv .i64 ((sh s g n (n - 1)).1)), .blk b4 [.int .u64 ((sh s g n (n - 1)).2), .int .u64 g] 27, .row A2 n c3 3 1 (iv .i64 ((sh s g n (n - 1)).1)), .blk b1 [.int .u64 s, .int .u64 g] 27]) (fun b7 => ⟨by kernel_rfl⟩) (fun w_ hM hS => ⟨hM.blk [.int .u64 0, .int .u64 0] 27, trivial⟩) (fun b7 => ?_)
  refine ops_run (is := [(7, false)]) (r := [(8, false)]) (l' := [(8, .slice A5 n c6), (9, .pointer (some ⟨b7, 0, none⟩)), (48, .agg #[.int .u64 ((sh s g n (n - 1)).2), .int .u64 g]), (7, .int .i64 0), (5, .slice A2 n c3), (6, .pointer (some ⟨b4, 0, none⟩))]) [8, 9, 48, 7, 5, 6] (by kernel_rfl) ?_
  refine ops_store (an := []) (evs := [.store ⟨b7, 0, none⟩ (.int .u64 ((sh s g n (n - 1)).2)), .store ⟨b7, 1, none⟩ (.int .u64 g)]) (M' := Mem w [.blk b7 [.int .u64 ((sh s g n (n - 1)).2), .int .u64 g] 27, .row A5 n c6 3 1 (iv .i64 ((sh s g n (n - 1)).1)), .blk b4 [.int .u64 ((sh s g n (n - 1)).2), .int .u64 g] 27, .row A2 n c3 3 1 (iv .i64 ((sh s g n (n - 1)).1)), .blk b1 [.int .u64 s, .int .u64 g] 27]) ⟨by kernel_rfl⟩ (fun w_ hM hS => let ⟨w', he, h'⟩ := hM.evs_stores [.int .u64 ((sh s g n (n - 1)).2), .int .u64 g] 0 rfl 0 (Nat.le_of_ble_eq_true rfl); ⟨w', he, h', trivial⟩) ?_
  refine ops_run (is := []) (r := []) (l' := [(8, .slice A5 n c6), (9, .pointer (some ⟨b7, 0, none⟩)), (7, .int .i64 0), (5, .slice A2 n c3), (6, .pointer (some ⟨b4, 0, none⟩))]) [8, 9, 7, 5, 6] (by kernel_rfl) ?_
  refine ops_nil ?_
  refine fin_then ?_
  refine st_seq ?_
  refine st_region [(0, false), (1, false), (2, false), (3, false), (4, false), (5, false), (6, false), (7, false), (8, false), (9, false), (10, false), (11, false), (12, false)] (by rfl) ?_
  refine ops_run (is := [(0, false), (1, false), (2, false), (3, false), (4, false)]) (r := [(5, false), (6, false), (7, false), (8, false), (9, false), (10, false), (11, false), (12, false)]) (l' := [(53, .slice A5 n c6), (52, .slice A2 n c3), (51, .bool true), (9, .pointer (some ⟨b7, 0, none⟩)), (6, .pointer (some ⟨b4, 0, none⟩))]) [53, 52, 51, 9, 6] (by kernel_rfl) ?_
  refine ops_call (σ := Unit) (d := some 54) (f := 55) (args := #[.slice A2 n c3, .slice A5 n c6]) (v := fun _ => .bool true) (M' := fun _ => Mem w [.blk b7 [.int .u64 ((sh s g n (n - 1)).2), .int .u64 g] 27, .row A5 n c6 3 1 (iv .i64 ((sh s g n (n - 1)).1)), .blk b4 [.int .u64 ((sh s g n (n - 1)).2), .int .u64 g] 27, .row A2 n c3 3 1 (iv .i64 ((sh s g n (n - 1)).1)), .blk b1 [.int .u64 s, .int .u64 g] 27]) ⟨by kernel_rfl⟩ (fun w_ hM hS => (EqI_same A2 A5 n c3 c6 ((sh s g n (n - 1)).1) w_ (hM.rints 3 rfl) (hM.rints 1 rfl) (by first | omega | (simp only [sh_length, List.length_set, List.length_append, List.length_cons, List.length_nil, List.length_replicate] at *; omega) | (simp [sh_length, List.length_set, List.length_append, List.length_cons, List.length_nil, List.length_replicate]; done)) (by first | omega | (simp only [sh_length, List.length_set, List.length_append, List.length_cons, List.length_nil, List.length_replicate] at *; omega) | (simp [sh_length, List.length_set, List.length_append, List.length_cons, List.length_nil, List.length_replicate]; done))).mono (by rintro e w' ⟨rfl, hb⟩; exact ⟨(), rfl, hM.step hb, trivial⟩)) (fun _ => ?_)
  refine ops_run (is := [(6, false), (7, false)]) (r := [(8, false), (9, false), (10, false), (11, false), (12, false)]) (l' := [(56, .bool true), (9, .pointer (some ⟨b7, 0, none⟩)), (6, .pointer (some ⟨b4, 0, none⟩))]) [56, 9, 6] (by kernel_rfl) ?_
  refine ops_mem (d := some 57) (an := [.v (.int .u64 ((sh s g n (n - 1)).2)), .v (.int .u64 g)]) (evs := [.load ⟨b4, 0, none⟩ (.int .u64 ((sh s g n (n - 1)).2)), .load ⟨b4, 1, none⟩ (.int .u64 g)]) (v := .agg #[.int .u64 ((sh s g n (n - 1)).2), .int .u64 g]) (M' := Mem w [.blk b7 [.int .u64 ((sh s g n (n - 1)).2), .int .u64 g] 27, .row A5 n c6 3 1 (iv .i64 ((sh s g n (n - 1)).1)), .blk b4 [.int .u64 ((sh s g n (n - 1)).2), .int .u64 g] 27, .row A2 n c3 3 1 (iv .i64 ((sh s g n (n - 1)).1)), .blk b1 [.int .u64 s, .int .u64 g] 27]) ⟨by kernel_rfl⟩ (fun w_ hM hS => ⟨w_, ⟨hM.cell 2 rfl rfl, hM.cell 2 rfl rfl, rfl⟩, hM, trivial⟩) ?_
  refine ops_run (is := []) (r := [(9, false), (10, false), (11, false), (12, false)]) (l' := [(57, .agg #[.int .u64 ((sh s g n (n - 1)).2), .int .u64 g]), (56, .bool true), (9, .pointer (some ⟨b7, 0, none⟩))]) [57, 56, 9] (by kernel_rfl) ?_
  refine ops_mem (d := some 58) (an := [.v (.int .u64 ((sh s g n (n - 1)).2)), .v (.int .u64 g)]) (evs := [.load ⟨b7, 0, none⟩ (.int .u64 ((sh s g n (n - 1)).2)), .load ⟨b7, 1, none⟩ (.int .u64 g)]) (v := .agg #[.int .u64 ((sh s g n (n - 1)).2), .int .u64 g]) (M' := Mem w [.blk b7 [.int .u64 ((sh s g n (n - 1)).2), .int .u64 g] 27, .row A5 n c6 3 1 (iv .i64 ((sh s g n (n - 1)).1)), .blk b4 [.int .u64 ((sh s g n (n - 1)).2), .int .u64 g] 27, .row A2 n c3 3 1 (iv .i64 ((sh s g n (n - 1)).1)), .blk b1 [.int .u64 s, .int .u64 g] 27]) ⟨by kernel_rfl⟩ (fun w_ hM hS => ⟨w_, ⟨hM.cell 0 rfl rfl, hM.cell 0 rfl rfl, rfl⟩, hM, trivial⟩) ?_
  refine ops_run (is := []) (r := [(10, false), (11, false), (12, false)]) (l' := [(58, .agg #[.int .u64 ((sh s g n (n - 1)).2), .int .u64 g]), (57, .agg #[.int .u64 ((sh s g n (n - 1)).2), .int .u64 g]), (56, .bool true)]) [58, 57, 56] (by kernel_rfl) ?_
  refine ops_val (op := (Go.Op.binOp Go.BinOp.eql 27 (Go.Operand.tmp 57) (Go.Operand.tmp 58) 27)) (d := some 59) (v := .bool true) ⟨by kernel_rfl⟩ (run_eql_agg (r := true) rfl rfl (by kernel_rfl) (fun w => by have h := eqA27 9998 w ((sh s g n (n - 1)).2) ((sh s g n (n - 1)).2) g g; simpa only [BEq.rfl, Bool.and_true] using h)) ?_
  refine ops_run (is := [(11, false), (12, false)]) (r := []) (l' := [(4, .bool true)]) [4] (by kernel_rfl) ?_
  refine ops_nil ?_
  refine fin_then ?_
  refine st_ret ?_
  refine fin_ret [.tmp 4] [.bool true] rfl rfl (fun w_ hM => (.tmp rfl .nil)) (fun w_ hM => ?_)
  refine ⟨?_, hM.done⟩
  rfl
theorem RndOrders_calls (s g n : Int) (w : World) (hs : (Lit.int .u64 s).wf = true) (hg : (Lit.int .u64 g).wf = true) (hn : (Lit.int .i64 n).wf = true) : Calls Try.prog 10 #[.agg #[.int .u64 s, .int .u64 g], .int .i64 n] w fun e w' => e = .returned (.bool true) ∧ Below w.heap.size w w' := by
  have a := wf_u64 hs
  have b := wf_u64 hg
  by_cases h : n < 0
  · exact RndOrders_lo s g n w h
  by_cases h1 : 1000 < n
  · exact RndOrders_hi s g n w h1
  by_cases h2 : Int.tmod g 2 = 0
  · exact RndOrders_even s g n w (by omega) (by omega) h2
  have z := RndOrders_ok s g n.toNat w (by omega) b.1 h2 a.1 a.2
  rwa [Int.toNat_of_nonneg (by omega)] at z
end Go.Proofs.Ytdmlapkindoghaa.WOrd
