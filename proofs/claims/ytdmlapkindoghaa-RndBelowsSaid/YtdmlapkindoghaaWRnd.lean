/- Walks of package rnd and of its reference: each call comes to its plain function. No condition. -/
import Derived.Test.YtdmlapkindoghaaProg
import Derived.Test.YtdmlapkindoghaaRndSpec
import Derived.Test.YtdmlapkindoghaaSxOps
import Derived.Test.YtdmlapkindoghaaWEqStruct
namespace Go.Proofs.Ytdmlapkindoghaa.Rnd
open Go Go.RowKit Go.Proofs.Ytdmlapkindoghaa.Sx Go.Proofs.YtdmlapkindoghaaW.PrintWords
set_option linter.unusedVariables false
set_option maxRecDepth 100000 in
theorem Mix_calls (x : Int) (w : World) : Calls Try.prog 33 #[.int .u64 x] w fun e w' => e = .returned (.int .u64 (mixv x)) ∧ Below w.heap.size w w' := by
  refine sx_calls Try.func33 rfl (n := 17) (by kernel_rfl) (l := [(0, .int .u64 x)]) rfl (by rfl) (Mem.nil w) ?_
  refine st_seq ?_
  refine st_region [(0, false)] (by rfl) ?_
  refine ops_run (is := [(0, false)]) (r := []) (l' := [(0, .int .u64 x)]) [0] (by kernel_rfl) ?_
  refine ops_nil ?_
  refine fin_then ?_
  refine st_seq ?_
  refine st_region [(0, false), (1, false), (2, false), (3, false), (4, false), (5, false)] (by rfl) ?_
  refine ops_run (is := [(0, false), (1, false), (2, false), (3, false), (4, false), (5, false)]) (r := []) (l' := [(0, .int .u64 (IntKind.u64.wrap (Go.bits .xor .u64 x (Int.fdiv x 2147483648) * 7640891576956012809)))]) [0] (by kernel_rfl) ?_
  refine ops_nil ?_
  refine fin_then ?_
  refine st_seq ?_
  refine st_region [(0, false), (1, false), (2, false), (3, false), (4, false), (5, false)] (by rfl) ?_
  refine ops_run (is := [(0, false), (1, false), (2, false), (3, false), (4, false), (5, false)]) (r := []) (l' := [(0, .int .u64 (IntKind.u64.wrap (Go.bits .xor .u64 (IntKind.u64.wrap (Go.bits .xor .u64 x (Int.fdiv x 2147483648) * 7640891576956012809)) (Int.fdiv (IntKind.u64.wrap (Go.bits .xor .u64 x (Int.fdiv x 2147483648) * 7640891576956012809)) 134217728) * 13503953896175478587)))]) [0] (by kernel_rfl) ?_
  refine ops_nil ?_
  refine fin_then ?_
  refine st_seq ?_
  refine st_region [(0, false), (1, false), (2, false), (3, false), (4, false)] (by rfl) ?_
  refine ops_run (is := [(0, false), (1, false), (2, false), (3, false), (4, false)]) (r := []) (l' := [(2, .int .u64 (Go.bits .xor .u64 (IntKind.u64.wrap (Go.bits .xor .u64 (IntKind.u64.wrap (Go.bits .xor .u64 x (Int.fdiv x 2147483648) * 7640891576956012809)) (Int.fdiv (IntKind.u64.wrap (Go.bits .xor .u64 x (Int.fdiv x 2147483648) * 7640891576956012809)) 134217728) * 13503953896175478587)) (Int.fdiv (IntKind.u64.wrap (Go.bits .xor .u64 (IntKind.u64.wrap (Go.bits .xor .u64 x (Int.fdiv x 2147483648) * 7640891576956012809)) (Int.fdiv (IntKind.u64.wrap (Go.bits .xor .u64 x (Int.fdiv x 2147483648) * 7640891576956012809)) 134217728) * 13503953896175478587)) 1073741824)))]) [2] (by kernel_rfl) ?_
  refine ops_nil ?_
  refine fin_then ?_
  refine st_ret ?_
  refine fin_ret [.tmp 2] [.int .u64 (Go.bits .xor .u64 (IntKind.u64.wrap (Go.bits .xor .u64 (IntKind.u64.wrap (Go.bits .xor .u64 x (Int.fdiv x 2147483648) * 7640891576956012809)) (Int.fdiv (IntKind.u64.wrap (Go.bits .xor .u64 x (Int.fdiv x 2147483648) * 7640891576956012809)) 134217728) * 13503953896175478587)) (Int.fdiv (IntKind.u64.wrap (Go.bits .xor .u64 (IntKind.u64.wrap (Go.bits .xor .u64 x (Int.fdiv x 2147483648) * 7640891576956012809)) (Int.fdiv (IntKind.u64.wrap (Go.bits .xor .u64 x (Int.fdiv x 2147483648) * 7640891576956012809)) 134217728) * 13503953896175478587)) 1073741824))] rfl rfl (fun w_ hM => (.tmp rfl .nil)) (fun w_ hM => ?_)
  refine ⟨?_, hM.done⟩
  exact congrArg (fun z => Ending.returned (.int .u64 z)) (mixv_walk x)
set_option maxRecDepth 100000 in
theorem Scrambled_calls (x : Int) (w : World) : Calls Try.prog 34 #[.int .u64 x] w fun e w' => e = .returned (.int .u64 (scrv x)) ∧ Below w.heap.size w w' := by
  refine sx_calls Try.func34 rfl (n := 27) (by kernel_rfl) (l := [(0, .int .u64 x)]) rfl (by rfl) (Mem.nil w) ?_
  refine st_seq ?_
  refine st_region [(0, false)] (by rfl) ?_
  refine ops_run (is := [(0, false)]) (r := []) (l' := [(0, .int .u64 x)]) [0] (by kernel_rfl) ?_
  refine ops_nil ?_
  refine fin_then ?_
  refine st_seq ?_
  refine st_seq ?_
  refine st_region [(0, false), (1, false), (2, false), (3, false), (4, false), (5, false)] (by rfl) ?_
  refine ops_run (is := [(0, false), (1, false), (2, false)]) (r := [(3, false), (4, false), (5, false)]) (l' := [(7, .agg #[.int .u64 30, .int .u64 1]), (6, .agg #[.int .u64 27, .int .u64 13503953896175478587]), (5, .agg #[.int .u64 31, .int .u64 7640891576956012809]), (0, .int .u64 x)]) [7, 6, 5, 0] (by kernel_rfl) ?_
  refine ops_new (d := some 8) (o := .cells #[.int .u64 31, .int .u64 7640891576956012809, .int .u64 27, .int .u64 13503953896175478587, .int .u64 30, .int .u64 1] 109) (v := fun b1 => .slice (some ⟨b1, 0, none⟩) 3 3) (M' := fun b1 => Mem w [.blk b1 [.int .u64 31, .int .u64 7640891576956012809, .int .u64 27, .int .u64 13503953896175478587, .int .u64 30, .int .u64 1] 109]) (fun b1 => ⟨by kernel_rfl⟩) (fun w_ hM hS => ⟨hM.blk [.int .u64 31, .int .u64 7640891576956012809, .int .u64 27, .int .u64 13503953896175478587, .int .u64 30, .int .u64 1] 109, trivial⟩) (fun b1 => ?_)
  refine ops_run (is := [(4, false), (5, false)]) (r := []) (l' := [(10, .int .i64 0), (9, .int .i64 3), (8, .slice (some ⟨b1, 0, none⟩) 3 3), (0, .int .u64 x)]) [10, 9, 8, 0] (by kernel_rfl) ?_
  refine ops_nil ?_
  refine fin_then ?_
  refine st_block ?_
  refine st_unroll 5 ?_
  refine str_succ ?_
  refine st_seq ?_
  refine st_region [(0, false)] (by rfl) ?_
  refine ops_run (is := [(0, false)]) (r := []) (l' := [(11, .bool true), (10, .int .i64 0), (9, .int .i64 3), (8, .slice (some ⟨b1, 0, none⟩) 3 3), (0, .int .u64 x)]) [11, 10, 9, 8, 0] (by kernel_rfl) ?_
  refine ops_nil ?_
  refine fin_then ?_
  refine st_seq ?_
  refine st_true rfl ?_
  refine st_skip ?_
  refine fin_then ?_
  refine st_seq ?_
  refine st_block ?_
  refine st_seq ?_
  refine st_region [(0, false), (1, false), (2, false), (3, false)] (by rfl) ?_
  refine ops_run (is := [(0, false)]) (r := [(1, false), (2, false), (3, false)]) (l' := [(12, .pointer (some ⟨b1, 0, none⟩)), (10, .int .i64 0), (9, .int .i64 3), (8, .slice (some ⟨b1, 0, none⟩) 3 3), (0, .int .u64 x)]) [12, 10, 9, 8, 0] (by kernel_rfl) ?_
  refine ops_mem (d := some 13) (an := [.v (.int .u64 31), .v (.int .u64 7640891576956012809)]) (evs := [.load ⟨b1, 0, none⟩ (.int .u64 31), .load ⟨b1, 1, none⟩ (.int .u64 7640891576956012809)]) (v := .agg #[.int .u64 31, .int .u64 7640891576956012809]) (M' := Mem w [.blk b1 [.int .u64 31, .int .u64 7640891576956012809, .int .u64 27, .int .u64 13503953896175478587, .int .u64 30, .int .u64 1] 109]) ⟨by kernel_rfl⟩ (fun w_ hM hS => ⟨w_, ⟨hM.cell 0 rfl rfl, hM.cell 0 rfl rfl, rfl⟩, hM, trivial⟩) ?_
  refine ops_run (is := []) (r := [(2, false), (3, false)]) (l' := [(13, .agg #[.int .u64 31, .int .u64 7640891576956012809]), (10, .int .i64 0), (9, .int .i64 3), (8, .slice (some ⟨b1, 0, none⟩) 3 3), (0, .int .u64 x)]) [13, 10, 9, 8, 0] (by kernel_rfl) ?_
  refine ops_new (d := some 4) (o := .cells #[.int .u64 0, .int .u64 0] 109) (v := fun b2 => .pointer (some ⟨b2, 0, none⟩)) (M' := fun b2 => Mem w [.blk b2 [.int .u64 0, .int .u64 0] 109, .blk b1 [.int .u64 31, .int .u64 7640891576956012809, .int .u64 27, .int .u64 13503953896175478587, .int .u64 30, .int .u64 1] 109]) (fun b2 => ⟨by kernel_rfl⟩) (fun w_ hM hS => ⟨hM.blk [.int .u64 0, .int .u64 0] 109, trivial⟩) (fun b2 => ?_)
  refine ops_run (is := []) (r := [(3, false)]) (l' := [(4, .pointer (some ⟨b2, 0, none⟩)), (13, .agg #[.int .u64 31, .int .u64 7640891576956012809]), (10, .int .i64 0), (9, .int .i64 3), (8, .slice (some ⟨b1, 0, none⟩) 3 3), (0, .int .u64 x)]) [4, 13, 10, 9, 8, 0] (by kernel_rfl) ?_
  refine ops_store (an := []) (evs := [.store ⟨b2, 0, none⟩ (.int .u64 31), .store ⟨b2, 1, none⟩ (.int .u64 7640891576956012809)]) (M' := Mem w [.blk b2 [.int .u64 31, .int .u64 7640891576956012809] 109, .blk b1 [.int .u64 31, .int .u64 7640891576956012809, .int .u64 27, .int .u64 13503953896175478587, .int .u64 30, .int .u64 1] 109]) ⟨by kernel_rfl⟩ (fun w_ hM hS => let ⟨w', he, h'⟩ := hM.evs_stores [.int .u64 31, .int .u64 7640891576956012809] 0 rfl 0 (Nat.le_of_ble_eq_true rfl); ⟨w', he, h', trivial⟩) ?_
  refine ops_run (is := []) (r := []) (l' := [(4, .pointer (some ⟨b2, 0, none⟩)), (10, .int .i64 0), (9, .int .i64 3), (8, .slice (some ⟨b1, 0, none⟩) 3 3), (0, .int .u64 x)]) [4, 10, 9, 8, 0] (by kernel_rfl) ?_
  refine ops_nil ?_
  refine fin_then ?_
  refine st_seq ?_
  refine st_region [(0, false), (1, false), (2, false), (3, false), (4, false), (5, false), (6, false), (7, false)] (by rfl) ?_
  refine ops_run (is := [(0, false), (1, false), (2, false)]) (r := [(3, false), (4, false), (5, false), (6, false), (7, false)]) (l' := [(16, .pointer (some ⟨b2, 0, none⟩)), (15, .int .u64 x), (14, .int .u64 x), (4, .pointer (some ⟨b2, 0, none⟩)), (10, .int .i64 0), (9, .int .i64 3), (8, .slice (some ⟨b1, 0, none⟩) 3 3), (0, .int .u64 x)]) [16, 15, 14, 4, 10, 9, 8, 0] (by kernel_rfl) ?_
  refine ops_mem (d := some 17) (an := [.v (.int .u64 31)]) (evs := [.load ⟨b2, 0, none⟩ (.int .u64 31)]) (v := .int .u64 31) (M' := Mem w [.blk b2 [.int .u64 31, .int .u64 7640891576956012809] 109, .blk b1 [.int .u64 31, .int .u64 7640891576956012809, .int .u64 27, .int .u64 13503953896175478587, .int .u64 30, .int .u64 1] 109]) ⟨by kernel_rfl⟩ (fun w_ hM hS => ⟨w_, ⟨hM.cell 0 rfl rfl, rfl⟩, hM, trivial⟩) ?_
  refine ops_run (is := [(4, false), (5, false), (6, false), (7, false)]) (r := []) (l' := [(0, .int .u64 (Go.bits .xor .u64 x (IntKind.u64.wrap (Int.tdiv x 2147483648)))), (4, .pointer (some ⟨b2, 0, none⟩)), (10, .int .i64 0), (9, .int .i64 3), (8, .slice (some ⟨b1, 0, none⟩) 3 3)]) [0, 4, 10, 9, 8] (by kernel_rfl) ?_
  refine ops_nil ?_
  refine fin_then ?_
  refine st_region [(0, false), (1, false), (2, false), (3, false), (4, false)] (by rfl) ?_
  refine ops_run (is := [(0, false), (1, false)]) (r := [(2, false), (3, false), (4, false)]) (l' := [(22, .pointer (some ⟨b2, 1, none⟩)), (21, .int .u64 (Go.bits .xor .u64 x (IntKind.u64.wrap (Int.tdiv x 2147483648)))), (0, .int .u64 (Go.bits .xor .u64 x (IntKind.u64.wrap (Int.tdiv x 2147483648)))), (10, .int .i64 0), (9, .int .i64 3), (8, .slice (some ⟨b1, 0, none⟩) 3 3)]) [22, 21, 0, 10, 9, 8] (by kernel_rfl) ?_
  refine ops_mem (d := some 23) (an := [.v (.int .u64 7640891576956012809)]) (evs := [.load ⟨b2, 1, none⟩ (.int .u64 7640891576956012809)]) (v := .int .u64 7640891576956012809) (M' := Mem w [.blk b2 [.int .u64 31, .int .u64 7640891576956012809] 109, .blk b1 [.int .u64 31, .int .u64 7640891576956012809, .int .u64 27, .int .u64 13503953896175478587, .int .u64 30, .int .u64 1] 109]) ⟨by kernel_rfl⟩ (fun w_ hM hS => ⟨w_, ⟨hM.cell 0 rfl rfl, rfl⟩, hM, trivial⟩) ?_
  refine ops_run (is := [(3, false), (4, false)]) (r := []) (l' := [(0, .int .u64 (IntKind.u64.wrap (Go.bits .xor .u64 x (IntKind.u64.wrap (Int.tdiv x 2147483648)) * 7640891576956012809))), (10, .int .i64 0), (9, .int .i64 3), (8, .slice (some ⟨b1, 0, none⟩) 3 3)]) [0, 10, 9, 8] (by kernel_rfl) ?_
  refine ops_nil ?_
  refine fin_block ?_
  refine fin_then ?_
  refine st_region [(0, false), (1, false)] (by rfl) ?_
  refine ops_run (is := [(0, false), (1, false)]) (r := []) (l' := [(10, .int .i64 1), (0, .int .u64 (IntKind.u64.wrap (Go.bits .xor .u64 x (IntKind.u64.wrap (Int.tdiv x 2147483648)) * 7640891576956012809))), (9, .int .i64 3), (8, .slice (some ⟨b1, 0, none⟩) 3 3)]) [10, 0, 9, 8] (by kernel_rfl) ?_
  refine ops_nil ?_
  refine fin_rounds ?_
  refine str_succ ?_
  refine st_seq ?_
  refine st_region [(0, false)] (by rfl) ?_
  refine ops_run (is := [(0, false)]) (r := []) (l' := [(11, .bool true), (10, .int .i64 1), (0, .int .u64 (IntKind.u64.wrap (Go.bits .xor .u64 x (IntKind.u64.wrap (Int.tdiv x 2147483648)) * 7640891576956012809))), (9, .int .i64 3), (8, .slice (some ⟨b1, 0, none⟩) 3 3)]) [11, 10, 0, 9, 8] (by kernel_rfl) ?_
  refine ops_nil ?_
  refine fin_then ?_
  refine st_seq ?_
  refine st_true rfl ?_
  refine st_skip ?_
  refine fin_then ?_
  refine st_seq ?_
  refine st_block ?_
  refine st_seq ?_
  refine st_region [(0, false), (1, false), (2, false), (3, false)] (by rfl) ?_
  refine ops_run (is := [(0, false)]) (r := [(1, false), (2, false), (3, false)]) (l' := [(12, .pointer (some ⟨b1, 2, none⟩)), (10, .int .i64 1), (0, .int .u64 (IntKind.u64.wrap (Go.bits .xor .u64 x (IntKind.u64.wrap (Int.tdiv x 2147483648)) * 7640891576956012809))), (9, .int .i64 3), (8, .slice (some ⟨b1, 0, none⟩) 3 3)]) [12, 10, 0, 9, 8] (by kernel_rfl) ?_
  refine ops_mem (d := some 13) (an := [.v (.int .u64 27), .v (.int .u64 13503953896175478587)]) (evs := [.load ⟨b1, 2, none⟩ (.int .u64 27), .load ⟨b1, 3, none⟩ (.int .u64 13503953896175478587)]) (v := .agg #[.int .u64 27, .int .u64 13503953896175478587]) (M' := Mem w [.blk b2 [.int .u64 31, .int .u64 7640891576956012809] 109, .blk b1 [.int .u64 31, .int .u64 7640891576956012809, .int .u64 27, .int .u64 13503953896175478587, .int .u64 30, .int .u64 1] 109]) ⟨by kernel_rfl⟩ (fun w_ hM hS => ⟨w_, ⟨hM.cell 1 rfl rfl, hM.cell 1 rfl rfl, rfl⟩, hM, trivial⟩) ?_
  refine ops_run (is := []) (r := [(2, false), (3, false)]) (l' := [(13, .agg #[.int .u64 27, .int .u64 13503953896175478587]), (10, .int .i64 1), (0, .int .u64 (IntKind.u64.wrap (Go.bits .xor .u64 x (IntKind.u64.wrap (Int.tdiv x 2147483648)) * 7640891576956012809))), (9, .int .i64 3), (8, .slice (some ⟨b1, 0, none⟩) 3 3)]) [13, 10, 0, 9, 8] (by kernel_rfl) ?_
  refine ops_new (d := some 4) (o := .cells #[.int .u64 0, .int .u64 0] 109) (v := fun b3 => .pointer (some ⟨b3, 0, none⟩)) (M' := fun b3 => Mem w [.blk b3 [.int .u64 0, .int .u64 0] 109, .blk b2 [.int .u64 31, .int .u64 7640891576956012809] 109, .blk b1 [.int .u64 31, .int .u64 7640891576956012809, .int .u64 27, .int .u64 13503953896175478587, .int .u64 30, .int .u64 1] 109]) (fun b3 => ⟨by kernel_rfl⟩) (fun w_ hM hS => ⟨hM.blk [.int .u64 0, .int .u64 0] 109, trivial⟩) (fun b3 => ?_)
  refine ops_run (is := []) (r := [(3, false)]) (l' := [(4, .pointer (some ⟨b3, 0, none⟩)), (13, .agg #[.int .u64 27, .int .u64 13503953896175478587]), (10, .int .i64 1), (0, .int .u64 (IntKind.u64.wrap (Go.bits .xor .u64 x (IntKind.u64.wrap (Int.tdiv x 2147483648)) * 7640891576956012809))), (9, .int .i64 3), (8, .slice (some ⟨b1, 0, none⟩) 3 3)]) [4, 13, 10, 0, 9, 8] (by kernel_rfl) ?_
  refine ops_store (an := []) (evs := [.store ⟨b3, 0, none⟩ (.int .u64 27), .store ⟨b3, 1, none⟩ (.int .u64 13503953896175478587)]) (M' := Mem w [.blk b3 [.int .u64 27, .int .u64 13503953896175478587] 109, .blk b2 [.int .u64 31, .int .u64 7640891576956012809] 109, .blk b1 [.int .u64 31, .int .u64 7640891576956012809, .int .u64 27, .int .u64 13503953896175478587, .int .u64 30, .int .u64 1] 109]) ⟨by kernel_rfl⟩ (fun w_ hM hS => let ⟨w', he, h'⟩ := hM.evs_stores [.int .u64 27, .int .u64 13503953896175478587] 0 rfl 0 (Nat.le_of_ble_eq_true rfl); ⟨w', he, h', trivial⟩) ?_
  refine ops_run (is := []) (r := []) (l' := [(4, .pointer (some ⟨b3, 0, none⟩)), (10, .int .i64 1), (0, .int .u64 (IntKind.u64.wrap (Go.bits .xor .u64 x (IntKind.u64.wrap (Int.tdiv x 2147483648)) * 7640891576956012809))), (9, .int .i64 3), (8, .slice (some ⟨b1, 0, none⟩) 3 3)]) [4, 10, 0, 9, 8] (by kernel_rfl) ?_
  refine ops_nil ?_
  refine fin_then ?_
  refine st_seq ?_
  refine st_region [(0, false), (1, false), (2, false), (3, false), (4, false), (5, false), (6, false), (7, false)] (by rfl) ?_
  refine ops_run (is := [(0, false), (1, false), (2, false)]) (r := [(3, false), (4, false), (5, false), (6, false), (7, false)]) (l' := [(16, .pointer (some ⟨b3, 0, none⟩)), (15, .int .u64 (IntKind.u64.wrap (Go.bits .xor .u64 x (IntKind.u64.wrap (Int.tdiv x 2147483648)) * 7640891576956012809))), (14, .int .u64 (IntKind.u64.wrap (Go.bits .xor .u64 x (IntKind.u64.wrap (Int.tdiv x 2147483648)) * 7640891576956012809))), (4, .pointer (some ⟨b3, 0, none⟩)), (10, .int .i64 1), (0, .int .u64 (IntKind.u64.wrap (Go.bits .xor .u64 x (IntKind.u64.wrap (Int.tdiv x 2147483648)) * 7640891576956012809))), (9, .int .i64 3), (8, .slice (some ⟨b1, 0, none⟩) 3 3)]) [16, 15, 14, 4, 10, 0, 9, 8] (by kernel_rfl) ?_
  refine ops_mem (d := some 17) (an := [.v (.int .u64 27)]) (evs := [.load ⟨b3, 0, none⟩ (.int .u64 27)]) (v := .int .u64 27) (M' := Mem w [.blk b3 [.int .u64 27, .int .u64 13503953896175478587] 109, .blk b2 [.int .u64 31, .int .u64 7640891576956012809] 109, .blk b1 [.int .u64 31, .int .u64 7640891576956012809, .int .u64 27, .int .u64 13503953896175478587, .int .u64 30, .int .u64 1] 109]) ⟨by kernel_rfl⟩ (fun w_ hM hS => ⟨w_, ⟨hM.cell 0 rfl rfl, rfl⟩, hM, trivial⟩) ?_
  refine ops_run (is := [(4, false), (5, false), (6, false), (7, false)]) (r := []) (l' := [(0, .int .u64 (Go.bits .xor .u64 (IntKind.u64.wrap (Go.bits .xor .u64 x (IntKind.u64.wrap (Int.tdiv x 2147483648)) * 7640891576956012809)) (IntKind.u64.wrap (Int.tdiv (IntKind.u64.wrap (Go.bits .xor .u64 x (IntKind.u64.wrap (Int.tdiv x 2147483648)) * 7640891576956012809)) 134217728)))), (4, .pointer (some ⟨b3, 0, none⟩)), (10, .int .i64 1), (9, .int .i64 3), (8, .slice (some ⟨b1, 0, none⟩) 3 3)]) [0, 4, 10, 9, 8] (by kernel_rfl) ?_
  refine ops_nil ?_
  refine fin_then ?_
  refine st_region [(0, false), (1, false), (2, false), (3, false), (4, false)] (by rfl) ?_
  refine ops_run (is := [(0, false), (1, false)]) (r := [(2, false), (3, false), (4, false)]) (l' := [(22, .pointer (some ⟨b3, 1, none⟩)), (21, .int .u64 (Go.bits .xor .u64 (IntKind.u64.wrap (Go.bits .xor .u64 x (IntKind.u64.wrap (Int.tdiv x 2147483648)) * 7640891576956012809)) (IntKind.u64.wrap (Int.tdiv (IntKind.u64.wrap (Go.bits .xor .u64 x (IntKind.u64.wrap (Int.tdiv x 2147483648)) * 7640891576956012809)) 134217728)))), (0, .int .u64 (Go.bits .xor .u64 (IntKind.u64.wrap (Go.bits .xor .u64 x (IntKind.u64.wrap (Int.tdiv x 2147483648)) * 7640891576956012809)) (IntKind.u64.wrap (Int.tdiv (IntKind.u64.wrap (Go.bits .xor .u64 x (IntKind.u64.wrap (Int.tdiv x 2147483648)) * 7640891576956012809)) 134217728)))), (10, .int .i64 1), (9, .int .i64 3), (8, .slice (some ⟨b1, 0, none⟩) 3 3)]) [22, 21, 0, 10, 9, 8] (by kernel_rfl) ?_
  refine ops_mem (d := some 23) (an := [.v (.int .u64 13503953896175478587)]) (evs := [.load ⟨b3, 1, none⟩ (.int .u64 13503953896175478587)]) (v := .int .u64 13503953896175478587) (M' := Mem w [.blk b3 [.int .u64 27, .int .u64 13503953896175478587] 109, .blk b2 [.int .u64 31, .int .u64 7640891576956012809] 109, .blk b1 [.int .u64 31, .int .u64 7640891576956012809, .int .u64 27, .int .u64 13503953896175478587, .int .u64 30, .int .u64 1] 109]) ⟨by kernel_rfl⟩ (fun w_ hM hS => ⟨w_, ⟨hM.cell 0 rfl rfl, rfl⟩, hM, trivial⟩) ?_
  refine ops_run (is := [(3, false), (4, false)]) (r := []) (l' := [(0, .int .u64 (IntKind.u64.wrap (Go.bits .xor .u64 (IntKind.u64.wrap (Go.bits .xor .u64 x (IntKind.u64.wrap (Int.tdiv x 2147483648)) * 7640891576956012809)) (IntKind.u64.wrap (Int.tdiv (IntKind.u64.wrap (Go.bits .xor .u64 x (IntKind.u64.wrap (Int.tdiv x 2147483648)) * 7640891576956012809)) 134217728)) * 13503953896175478587))), (10, .int .i64 1), (9, .int .i64 3), (8, .slice (some ⟨b1, 0, none⟩) 3 3)]) [0, 10, 9, 8] (by kernel_rfl) ?_
  refine ops_nil ?_
  refine fin_block ?_
  refine fin_then ?_
  refine st_region [(0, false), (1, false)] (by rfl) ?_
  refine ops_run (is := [(0, false), (1, false)]) (r := []) (l' := [(10, .int .i64 2), (0, .int .u64 (IntKind.u64.wrap (Go.bits .xor .u64 (IntKind.u64.wrap (Go.bits .xor .u64 x (IntKind.u64.wrap (Int.tdiv x 2147483648)) * 7640891576956012809)) (IntKind.u64.wrap (Int.tdiv (IntKind.u64.wrap (Go.bits .xor .u64 x (IntKind.u64.wrap (Int.tdiv x 2147483648)) * 7640891576956012809)) 134217728)) * 13503953896175478587))), (9, .int .i64 3), (8, .slice (some ⟨b1, 0, none⟩) 3 3)]) [10, 0, 9, 8] (by kernel_rfl) ?_
  refine ops_nil ?_
  refine fin_rounds ?_
  refine str_succ ?_
  refine st_seq ?_
  refine st_region [(0, false)] (by rfl) ?_
  refine ops_run (is := [(0, false)]) (r := []) (l' := [(11, .bool true), (10, .int .i64 2), (0, .int .u64 (IntKind.u64.wrap (Go.bits .xor .u64 (IntKind.u64.wrap (Go.bits .xor .u64 x (IntKind.u64.wrap (Int.tdiv x 2147483648)) * 7640891576956012809)) (IntKind.u64.wrap (Int.tdiv (IntKind.u64.wrap (Go.bits .xor .u64 x (IntKind.u64.wrap (Int.tdiv x 2147483648)) * 7640891576956012809)) 134217728)) * 13503953896175478587))), (9, .int .i64 3), (8, .slice (some ⟨b1, 0, none⟩) 3 3)]) [11, 10, 0, 9, 8] (by kernel_rfl) ?_
  refine ops_nil ?_
  refine fin_then ?_
  refine st_seq ?_
  refine st_true rfl ?_
  refine st_skip ?_
  refine fin_then ?_
  refine st_seq ?_
  refine st_block ?_
  refine st_seq ?_
  refine st_region [(0, false), (1, false), (2, false), (3, false)] (by rfl) ?_
  refine ops_run (is := [(0, false)]) (r := [(1, false), (2, false), (3, false)]) (l' := [(12, .pointer (some ⟨b1, 4, none⟩)), (10, .int .i64 2), (0, .int .u64 (IntKind.u64.wrap (Go.bits .xor .u64 (IntKind.u64.wrap (Go.bits .xor .u64 x (IntKind.u64.wrap (Int.tdiv x 2147483648)) * 7640891576956012809)) (IntKind.u64.wrap (Int.tdiv (IntKind.u64.wrap (Go.bits .xor .u64 x (IntKind.u64.wrap (Int.tdiv x 2147483648)) * 7640891576956012809)) 134217728)) * 13503953896175478587))), (9, .int .i64 3), (8, .slice (some ⟨b1, 0, none⟩) 3 3)]) [12, 10, 0, 9, 8] (by kernel_rfl) ?_
  refine ops_mem (d := some 13) (an := [.v (.int .u64 30), .v (.int .u64 1)]) (evs := [.load ⟨b1, 4, none⟩ (.int .u64 30), .load ⟨b1, 5, none⟩ (.int .u64 1)]) (v := .agg #[.int .u64 30, .int .u64 1]) (M' := Mem w [.blk b3 [.int .u64 27, .int .u64 13503953896175478587] 109, .blk b2 [.int .u64 31, .int .u64 7640891576956012809] 109, .blk b1 [.int .u64 31, .int .u64 7640891576956012809, .int .u64 27, .int .u64 13503953896175478587, .int .u64 30, .int .u64 1] 109]) ⟨by kernel_rfl⟩ (fun w_ hM hS => ⟨w_, ⟨hM.cell 2 rfl rfl, hM.cell 2 rfl rfl, rfl⟩, hM, trivial⟩) ?_
  refine ops_run (is := []) (r := [(2, false), (3, false)]) (l' := [(13, .agg #[.int .u64 30, .int .u64 1]), (10, .int .i64 2), (0, .int .u64 (IntKind.u64.wrap (Go.bits .xor .u64 (IntKind.u64.wrap (Go.bits .xor .u64 x (IntKind.u64.wrap (Int.tdiv x 2147483648)) * 7640891576956012809)) (IntKind.u64.wrap (Int.tdiv (IntKind.u64.wrap (Go.bits .xor .u64 x (IntKind.u64.wrap (Int.tdiv x 2147483648)) * 7640891576956012809)) 134217728)) * 13503953896175478587))), (9, .int .i64 3), (8, .slice (some ⟨b1, 0, none⟩) 3 3)]) [13, 10, 0, 9, 8] (by kernel_rfl) ?_
  refine ops_new (d := some 4) (o := .cells #[.int .u64 0, .int .u64 0] 109) (v := fun b4 => .pointer (some ⟨b4, 0, none⟩)) (M' := fun b4 => Mem w [.blk b4 [.int .u64 0, .int .u64 0] 109, .blk b3 [.int .u64 27, .int .u64 13503953896175478587] 109, .blk b2 [.int .u64 31, .int .u64 7640891576956012809] 109, .blk b1 [.int .u64 31, .int .u64 7640891576956012809, .int .u64 27, .int .u64 13503953896175478587, .int .u64 30, .int .u64 1] 109]) (fun b4 => ⟨by kernel_rfl⟩) (fun w_ hM hS => ⟨hM.blk [.int .u64 0, .int .u64 0] 109, trivial⟩) (fun b4 => ?_)
  refine ops_run (is := []) (r := [(3, false)]) (l' := [(4, .pointer (some ⟨b4, 0, none⟩)), (13, .agg #[.int .u64 30, .int .u64 1]), (10, .int .i64 2), (0, .int .u64 (IntKind.u64.wrap (Go.bits .xor .u64 (IntKind.u64.wrap (Go.bits .xor .u64 x (IntKind.u64.wrap (Int.tdiv x 2147483648)) * 7640891576956012809)) (IntKind.u64.wrap (Int.tdiv (IntKind.u64.wrap (Go.bits .xor .u64 x (IntKind.u64.wrap (Int.tdiv x 2147483648)) * 7640891576956012809)) 134217728)) * 13503953896175478587))), (9, .int .i64 3), (8, .slice (some ⟨b1, 0, none⟩) 3 3)]) [4, 13, 10, 0, 9, 8] (by kernel_rfl) ?_
  refine ops_store (an := []) (evs := [.store ⟨b4, 0, none⟩ (.int .u64 30), .store ⟨b4, 1, none⟩ (.int .u64 1)]) (M' := Mem w [.blk b4 [.int .u64 30, .int .u64 1] 109, .blk b3 [.int .u64 27, .int .u64 13503953896175478587] 109, .blk b2 [.int .u64 31, .int .u64 7640891576956012809] 109, .blk b1 [.int .u64 31, .int .u64 7640891576956012809, .int .u64 27, .int .u64 13503953896175478587, .int .u64 30, .int .u64 1] 109]) ⟨by kernel_rfl⟩ (fun w_ hM hS => let ⟨w', he, h'⟩ := hM.evs_stores [.int .u64 30, .int .u64 1] 0 rfl 0 (Nat.le_of_ble_eq_true rfl); ⟨w', he, h', trivial⟩) ?_
  refine ops_run (is := []) (r := []) (l' := [(4, .pointer (some ⟨b4, 0, none⟩)), (10, .int .i64 2), (0, .int .u64 (IntKind.u64.wrap (Go.bits .xor .u64 (IntKind.u64.wrap (Go.bits .xor .u64 x (IntKind.u64.wrap (Int.tdiv x 2147483648)) * 7640891576956012809)) (IntKind.u64.wrap (Int.tdiv (IntKind.u64.wrap (Go.bits .xor .u64 x (IntKind.u64.wrap (Int.tdiv x 2147483648)) * 7640891576956012809)) 134217728)) * 13503953896175478587))), (9, .int .i64 3), (8, .slice (some ⟨b1, 0, none⟩) 3 3)]) [4, 10, 0, 9, 8] (by kernel_rfl) ?_
  refine ops_nil ?_
  refine fin_then ?_
  refine st_seq ?_
  refine st_region [(0, false), (1, false), (2, false), (3, false), (4, false), (5, false), (6, false), (7, false)] (by rfl) ?_
  refine ops_run (is := [(0, false), (1, false), (2, false)]) (r := [(3, false), (4, false), (5, false), (6, false), (7, false)]) (l' := [(16, .pointer (some ⟨b4, 0, none⟩)), (15, .int .u64 (IntKind.u64.wrap (Go.bits .xor .u64 (IntKind.u64.wrap (Go.bits .xor .u64 x (IntKind.u64.wrap (Int.tdiv x 2147483648)) * 7640891576956012809)) (IntKind.u64.wrap (Int.tdiv (IntKind.u64.wrap (Go.bits .xor .u64 x (IntKind.u64.wrap (Int.tdiv x 2147483648)) * 7640891576956012809)) 134217728)) * 13503953896175478587))), (14, .int .u64 (IntKind.u64.wrap (Go.bits .xor .u64 (IntKind.u64.wrap (Go.bits .xor .u64 x (IntKind.u64.wrap (Int.tdiv x 2147483648)) * 7640891576956012809)) (IntKind.u64.wrap (Int.tdiv (IntKind.u64.wrap (Go.bits .xor .u64 x (IntKind.u64.wrap (Int.tdiv x 2147483648)) * 7640891576956012809)) 134217728)) * 13503953896175478587))), (4, .pointer (some ⟨b4, 0, none⟩)), (10, .int .i64 2), (0, .int .u64 (IntKind.u64.wrap (Go.bits .xor .u64 (IntKind.u64.wrap (Go.bits .xor .u64 x (IntKind.u64.wrap (Int.tdiv x 2147483648)) * 7640891576956012809)) (IntKind.u64.wrap (Int.tdiv (IntKind.u64.wrap (Go.bits .xor .u64 x (IntKind.u64.wrap (Int.tdiv x 2147483648)) * 7640891576956012809)) 134217728)) * 13503953896175478587))), (9, .int .i64 3), (8, .slice (some ⟨b1, 0, none⟩) 3 3)]) [16, 15, 14, 4, 10, 0, 9, 8] (by kernel_rfl) ?_
  refine ops_mem (d := some 17) (an := [.v (.int .u64 30)]) (evs := [.load ⟨b4, 0, none⟩ (.int .u64 30)]) (v := .int .u64 30) (M' := Mem w [.blk b4 [.int .u64 30, .int .u64 1] 109, .blk b3 [.int .u64 27, .int .u64 13503953896175478587] 109, .blk b2 [.int .u64 31, .int .u64 7640891576956012809] 109, .blk b1 [.int .u64 31, .int .u64 7640891576956012809, .int .u64 27, .int .u64 13503953896175478587, .int .u64 30, .int .u64 1] 109]) ⟨by kernel_rfl⟩ (fun w_ hM hS => ⟨w_, ⟨hM.cell 0 rfl rfl, rfl⟩, hM, trivial⟩) ?_
  refine ops_run (is := [(4, false), (5, false), (6, false), (7, false)]) (r := []) (l' := [(0, .int .u64 (Go.bits .xor .u64 (IntKind.u64.wrap (Go.bits .xor .u64 (IntKind.u64.wrap (Go.bits .xor .u64 x (IntKind.u64.wrap (Int.tdiv x 2147483648)) * 7640891576956012809)) (IntKind.u64.wrap (Int.tdiv (IntKind.u64.wrap (Go.bits .xor .u64 x (IntKind.u64.wrap (Int.tdiv x 2147483648)) * 7640891576956012809)) 134217728)) * 13503953896175478587)) (IntKind.u64.wrap (Int.tdiv (IntKind.u64.wrap (Go.bits .xor .u64 (IntKind.u64.wrap (Go.bits .xor .u64 x (IntKind.u64.wrap (Int.tdiv x 2147483648)) * 7640891576956012809)) (IntKind.u64.wrap (Int.tdiv (IntKind.u64.wrap (Go.bits .xor .u64 x (IntKind.u64.wrap (Int.tdiv x 2147483648)) * 7640891576956012809)) 134217728)) * 13503953896175478587)) 1073741824)))), (4, .pointer (some ⟨b4, 0, none⟩)), (10, .int .i64 2), (9, .int .i64 3), (8, .slice (some ⟨b1, 0, none⟩) 3 3)]) [0, 4, 10, 9, 8] (by kernel_rfl) ?_
  refine ops_nil ?_
  refine fin_then ?_
  refine st_region [(0, false), (1, false), (2, false), (3, false), (4, false)] (by rfl) ?_
  refine ops_run (is := [(0, false), (1, false)]) (r := [(2, false), (3, false), (4, false)]) (l' := [(22, .pointer (some ⟨b4, 1, none⟩)), (21, .int .u64 (Go.bits .xor .u64 (IntKind.u64.wrap (Go.bits .xor .u64 (IntKind.u64.wrap (Go.bits .xor .u64 x (IntKind.u64.wrap (Int.tdiv x 2147483648)) * 7640891576956012809)) (IntKind.u64.wrap (Int.tdiv (IntKind.u64.wrap (Go.bits .xor .u64 x (IntKind.u64.wrap (Int.tdiv x 2147483648)) * 7640891576956012809)) 134217728)) * 13503953896175478587)) (IntKind.u64.wrap (Int.tdiv (IntKind.u64.wrap (Go.bits .xor .u64 (IntKind.u64.wrap (Go.bits .xor .u64 x (IntKind.u64.wrap (Int.tdiv x 2147483648)) * 7640891576956012809)) (IntKind.u64.wrap (Int.tdiv (IntKind.u64.wrap (Go.bits .xor .u64 x (IntKind.u64.wrap (Int.tdiv x 2147483648)) * 7640891576956012809)) 134217728)) * 13503953896175478587)) 1073741824)))), (0, .int .u64 (Go.bits .xor .u64 (IntKind.u64.wrap (Go.bits .xor .u64 (IntKind.u64.wrap (Go.bits .xor .u64 x (IntKind.u64.wrap (Int.tdiv x 2147483648)) * 7640891576956012809)) (IntKind.u64.wrap (Int.tdiv (IntKind.u64.wrap (Go.bits .xor .u64 x (IntKind.u64.wrap (Int.tdiv x 2147483648)) * 7640891576956012809)) 134217728)) * 13503953896175478587)) (IntKind.u64.wrap (Int.tdiv (IntKind.u64.wrap (Go.bits .xor .u64 (IntKind.u64.wrap (Go.bits .xor .u64 x (IntKind.u64.wrap (Int.tdiv x 2147483648)) * 7640891576956012809)) (IntKind.u64.wrap (Int.tdiv (IntKind.u64.wrap (Go.bits .xor .u64 x (IntKind.u64.wrap (Int.tdiv x 2147483648)) * 7640891576956012809)) 134217728)) * 13503953896175478587)) 1073741824)))), (10, .int .i64 2), (9, .int .i64 3), (8, .slice (some ⟨b1, 0, none⟩) 3 3)]) [22, 21, 0, 10, 9, 8] (by kernel_rfl) ?_
  refine ops_mem (d := some 23) (an := [.v (.int .u64 1)]) (evs := [.load ⟨b4, 1, none⟩ (.int .u64 1)]) (v := .int .u64 1) (M' := Mem w [.blk b4 [.int .u64 30, .int .u64 1] 109, .blk b3 [.int .u64 27, .int .u64 13503953896175478587] 109, .blk b2 [.int .u64 31, .int .u64 7640891576956012809] 109, .blk b1 [.int .u64 31, .int .u64 7640891576956012809, .int .u64 27, .int .u64 13503953896175478587, .int .u64 30, .int .u64 1] 109]) ⟨by kernel_rfl⟩ (fun w_ hM hS => ⟨w_, ⟨hM.cell 0 rfl rfl, rfl⟩, hM, trivial⟩) ?_
  refine ops_run (is := [(3, false), (4, false)]) (r := []) (l' := [(0, .int .u64 (IntKind.u64.wrap (Go.bits .xor .u64 (IntKind.u64.wrap (Go.bits .xor .u64 (IntKind.u64.wrap (Go.bits .xor .u64 x (IntKind.u64.wrap (Int.tdiv x 2147483648)) * 7640891576956012809)) (IntKind.u64.wrap (Int.tdiv (IntKind.u64.wrap (Go.bits .xor .u64 x (IntKind.u64.wrap (Int.tdiv x 2147483648)) * 7640891576956012809)) 134217728)) * 13503953896175478587)) (IntKind.u64.wrap (Int.tdiv (IntKind.u64.wrap (Go.bits .xor .u64 (IntKind.u64.wrap (Go.bits .xor .u64 x (IntKind.u64.wrap (Int.tdiv x 2147483648)) * 7640891576956012809)) (IntKind.u64.wrap (Int.tdiv (IntKind.u64.wrap (Go.bits .xor .u64 x (IntKind.u64.wrap (Int.tdiv x 2147483648)) * 7640891576956012809)) 134217728)) * 13503953896175478587)) 1073741824)) * 1))), (10, .int .i64 2), (9, .int .i64 3), (8, .slice (some ⟨b1, 0, none⟩) 3 3)]) [0, 10, 9, 8] (by kernel_rfl) ?_
  refine ops_nil ?_
  refine fin_block ?_
  refine fin_then ?_
  refine st_region [(0, false), (1, false)] (by rfl) ?_
  refine ops_run (is := [(0, false), (1, false)]) (r := []) (l' := [(10, .int .i64 3), (0, .int .u64 (IntKind.u64.wrap (Go.bits .xor .u64 (IntKind.u64.wrap (Go.bits .xor .u64 (IntKind.u64.wrap (Go.bits .xor .u64 x (IntKind.u64.wrap (Int.tdiv x 2147483648)) * 7640891576956012809)) (IntKind.u64.wrap (Int.tdiv (IntKind.u64.wrap (Go.bits .xor .u64 x (IntKind.u64.wrap (Int.tdiv x 2147483648)) * 7640891576956012809)) 134217728)) * 13503953896175478587)) (IntKind.u64.wrap (Int.tdiv (IntKind.u64.wrap (Go.bits .xor .u64 (IntKind.u64.wrap (Go.bits .xor .u64 x (IntKind.u64.wrap (Int.tdiv x 2147483648)) * 7640891576956012809)) (IntKind.u64.wrap (Int.tdiv (IntKind.u64.wrap (Go.bits .xor .u64 x (IntKind.u64.wrap (Int.tdiv x 2147483648)) * 7640891576956012809)) 134217728)) * 13503953896175478587)) 1073741824)) * 1))), (9, .int .i64 3), (8, .slice (some ⟨b1, 0, none⟩) 3 3)]) [10, 0, 9, 8] (by kernel_rfl) ?_
  refine ops_nil ?_
  refine fin_rounds ?_
  refine str_succ ?_
  refine st_seq ?_
  refine st_region [(0, false)] (by rfl) ?_
  refine ops_run (is := [(0, false)]) (r := []) (l' := [(11, .bool false), (10, .int .i64 3), (0, .int .u64 (IntKind.u64.wrap (Go.bits .xor .u64 (IntKind.u64.wrap (Go.bits .xor .u64 (IntKind.u64.wrap (Go.bits .xor .u64 x (IntKind.u64.wrap (Int.tdiv x 2147483648)) * 7640891576956012809)) (IntKind.u64.wrap (Int.tdiv (IntKind.u64.wrap (Go.bits .xor .u64 x (IntKind.u64.wrap (Int.tdiv x 2147483648)) * 7640891576956012809)) 134217728)) * 13503953896175478587)) (IntKind.u64.wrap (Int.tdiv (IntKind.u64.wrap (Go.bits .xor .u64 (IntKind.u64.wrap (Go.bits .xor .u64 x (IntKind.u64.wrap (Int.tdiv x 2147483648)) * 7640891576956012809)) (IntKind.u64.wrap (Int.tdiv (IntKind.u64.wrap (Go.bits .xor .u64 x (IntKind.u64.wrap (Int.tdiv x 2147483648)) * 7640891576956012809)) 134217728)) * 13503953896175478587)) 1073741824)) * 1))), (9, .int .i64 3), (8, .slice (some ⟨b1, 0, none⟩) 3 3)]) [11, 10, 0, 9, 8] (by kernel_rfl) ?_
  refine ops_nil ?_
  refine fin_then ?_
  refine st_seq ?_
  refine st_false rfl ?_
  refine st_exit ?_
  refine fin_exit_then ?_
  refine fin_exit_then ?_
  refine fin_exit ?_
  refine fin_then ?_
  refine st_seq ?_
  refine st_region [(0, false), (1, false)] (by rfl) ?_
  refine ops_run (is := [(0, false), (1, false)]) (r := []) (l' := [(2, .int .u64 (IntKind.u64.wrap (Go.bits .xor .u64 (IntKind.u64.wrap (Go.bits .xor .u64 (IntKind.u64.wrap (Go.bits .xor .u64 x (IntKind.u64.wrap (Int.tdiv x 2147483648)) * 7640891576956012809)) (IntKind.u64.wrap (Int.tdiv (IntKind.u64.wrap (Go.bits .xor .u64 x (IntKind.u64.wrap (Int.tdiv x 2147483648)) * 7640891576956012809)) 134217728)) * 13503953896175478587)) (IntKind.u64.wrap (Int.tdiv (IntKind.u64.wrap (Go.bits .xor .u64 (IntKind.u64.wrap (Go.bits .xor .u64 x (IntKind.u64.wrap (Int.tdiv x 2147483648)) * 7640891576956012809)) (IntKind.u64.wrap (Int.tdiv (IntKind.u64.wrap (Go.bits .xor .u64 x (IntKind.u64.wrap (Int.tdiv x 2147483648)) * 7640891576956012809)) 134217728)) * 13503953896175478587)) 1073741824)) * 1)))]) [2] (by kernel_rfl) ?_
  refine ops_nil ?_
  refine fin_then ?_
  refine st_ret ?_
  refine fin_ret [.tmp 2] [.int .u64 (IntKind.u64.wrap (Go.bits .xor .u64 (IntKind.u64.wrap (Go.bits .xor .u64 (IntKind.u64.wrap (Go.bits .xor .u64 x (IntKind.u64.wrap (Int.tdiv x 2147483648)) * 7640891576956012809)) (IntKind.u64.wrap (Int.tdiv (IntKind.u64.wrap (Go.bits .xor .u64 x (IntKind.u64.wrap (Int.tdiv x 2147483648)) * 7640891576956012809)) 134217728)) * 13503953896175478587)) (IntKind.u64.wrap (Int.tdiv (IntKind.u64.wrap (Go.bits .xor .u64 (IntKind.u64.wrap (Go.bits .xor .u64 x (IntKind.u64.wrap (Int.tdiv x 2147483648)) * 7640891576956012809)) (IntKind.u64.wrap (Int.tdiv (IntKind.u64.wrap (Go.bits .xor .u64 x (IntKind.u64.wrap (Int.tdiv x 2147483648)) * 7640891576956012809)) 134217728)) * 13503953896175478587)) 1073741824)) * 1))] rfl rfl (fun w_ hM => (.tmp rfl .nil)) (fun w_ hM => ?_)
  refine ⟨?_, hM.done⟩
  rfl
set_option maxRecDepth 100000 in
theorem New_calls (x : Int) (w : World) : Calls Try.prog 35 #[.int .i64 x] w fun e w' => e = .returned (.agg #[.int .u64 (mixv (IntKind.u64.wrap x)), .int .u64 11400714819323198485]) ∧ Below w.heap.size w w' := by
  refine sx_calls Try.func35 rfl (n := 7) (by kernel_rfl) (l := [(0, .int .i64 x)]) rfl (by rfl) (Mem.nil w) ?_
  refine st_seq ?_
  refine st_region [(0, false)] (by rfl) ?_
  refine ops_new (d := some 2) (o := .cells #[.int .u64 0, .int .u64 0] 27) (v := fun b1 => .pointer (some ⟨b1, 0, none⟩)) (M' := fun b1 => Mem w [.blk b1 [.int .u64 0, .int .u64 0] 27]) (fun b1 => ⟨by kernel_rfl⟩) (fun w_ hM hS => ⟨hM.blk [.int .u64 0, .int .u64 0] 27, trivial⟩) (fun b1 => ?_)
  refine ops_run (is := []) (r := []) (l' := [(2, .pointer (some ⟨b1, 0, none⟩)), (0, .int .i64 x)]) [2, 0] (by kernel_rfl) ?_
  refine ops_nil ?_
  refine fin_then ?_
  refine st_seq ?_
  refine st_region [(0, false), (1, false), (2, false), (3, false), (4, false)] (by rfl) ?_
  refine ops_run (is := [(0, false), (1, false)]) (r := [(2, false), (3, false), (4, false)]) (l' := [(4, .int .u64 (IntKind.u64.wrap x)), (2, .pointer (some ⟨b1, 0, none⟩))]) [4, 2] (by kernel_rfl) ?_
  refine ops_call (σ := Unit) (d := some 5) (f := 33) (args := #[.int .u64 (IntKind.u64.wrap x)]) (v := fun _ => .int .u64 (mixv (IntKind.u64.wrap x))) (M' := fun _ => Mem w [.blk b1 [.int .u64 0, .int .u64 0] 27]) ⟨by kernel_rfl⟩ (fun w_ hM hS => (Mix_calls (IntKind.u64.wrap x) w_).mono (by rintro e w' ⟨rfl, hb⟩; exact ⟨(), rfl, hM.step hb, trivial⟩)) (fun _ => ?_)
  refine ops_run (is := [(3, false)]) (r := [(4, false)]) (l' := [(6, .agg #[.int .u64 (mixv (IntKind.u64.wrap x)), .int .u64 11400714819323198485]), (2, .pointer (some ⟨b1, 0, none⟩))]) [6, 2] (by kernel_rfl) ?_
  refine ops_store (an := []) (evs := [.store ⟨b1, 0, none⟩ (.int .u64 (mixv (IntKind.u64.wrap x))), .store ⟨b1, 1, none⟩ (.int .u64 11400714819323198485)]) (M' := Mem w [.blk b1 [.int .u64 (mixv (IntKind.u64.wrap x)), .int .u64 11400714819323198485] 27]) ⟨by kernel_rfl⟩ (fun w_ hM hS => let ⟨w', he, h'⟩ := hM.evs_stores [.int .u64 (mixv (IntKind.u64.wrap x)), .int .u64 11400714819323198485] 0 rfl 0 (Nat.le_of_ble_eq_true rfl); ⟨w', he, h', trivial⟩) ?_
  refine ops_run (is := []) (r := []) (l' := [(2, .pointer (some ⟨b1, 0, none⟩))]) [2] (by kernel_rfl) ?_
  refine ops_nil ?_
  refine fin_then ?_
  refine st_ret ?_
  refine fin_ret [.cell 2 27] [.agg #[.int .u64 (mixv (IntKind.u64.wrap x)), .int .u64 11400714819323198485]] rfl rfl (fun w_ hM => (.cell rfl (tr_run _ [.v (.int .u64 (mixv (IntKind.u64.wrap x))), .v (.int .u64 11400714819323198485)] [.load ⟨b1, 0, none⟩ (.int .u64 (mixv (IntKind.u64.wrap x))), .load ⟨b1, 1, none⟩ (.int .u64 11400714819323198485)] (.agg #[.int .u64 (mixv (IntKind.u64.wrap x)), .int .u64 11400714819323198485] : Value) _ _ (by kernel_rfl) ⟨hM.cell 0 rfl rfl, hM.cell 0 rfl rfl, rfl⟩) .nil)) (fun w_ hM => ?_)
  exact ⟨rfl, hM.done⟩
set_option maxRecDepth 100000 in
theorem Next_calls (s g : Int) (w : World) : Calls Try.prog 30 #[.agg #[.int .u64 s, .int .u64 g]] w fun e w' => e = .returned (.tuple #[.int .u64 (mixv (IntKind.u64.wrap (s + g))), .agg #[.int .u64 (IntKind.u64.wrap (s + g)), .int .u64 g]]) ∧ Below w.heap.size w w' := by
  refine sx_calls Try.func30 rfl (n := 14) (by kernel_rfl) (l := [(0, .agg #[.int .u64 s, .int .u64 g])]) rfl (by rfl) (Mem.nil w) ?_
  refine st_seq ?_
  refine st_region [(0, false), (1, false), (2, false)] (by rfl) ?_
  refine ops_new (d := some 1) (o := .cells #[.int .u64 s, .int .u64 g] 27) (v := fun b1 => .pointer (some ⟨b1, 0, none⟩)) (M' := fun b1 => Mem w [.blk b1 [.int .u64 s, .int .u64 g] 27]) (fun b1 => ⟨by kernel_rfl⟩) (fun w_ hM hS => ⟨hM.blk [.int .u64 s, .int .u64 g] 27, trivial⟩) (fun b1 => ?_)
  refine ops_run (is := [(1, false)]) (r := [(2, false)]) (l' := [(1, .pointer (some ⟨b1, 0, none⟩))]) [1] (by kernel_rfl) ?_
  refine ops_new (d := some 3) (o := .cells #[.int .u64 0, .int .u64 0] 27) (v := fun b2 => .pointer (some ⟨b2, 0, none⟩)) (M' := fun b2 => Mem w [.blk b2 [.int .u64 0, .int .u64 0] 27, .blk b1 [.int .u64 s, .int .u64 g] 27]) (fun b2 => ⟨by kernel_rfl⟩) (fun w_ hM hS => ⟨hM.blk [.int .u64 0, .int .u64 0] 27, trivial⟩) (fun b2 => ?_)
  refine ops_run (is := []) (r := []) (l' := [(3, .pointer (some ⟨b2, 0, none⟩)), (1, .pointer (some ⟨b1, 0, none⟩))]) [3, 1] (by kernel_rfl) ?_
  refine ops_nil ?_
  refine fin_then ?_
  refine st_seq ?_
  refine st_region [(0, false), (1, false), (2, false), (3, false), (4, false), (5, false), (6, false)] (by rfl) ?_
  refine ops_run (is := [(0, false)]) (r := [(1, false), (2, false), (3, false), (4, false), (5, false), (6, false)]) (l' := [(4, .pointer (some ⟨b1, 0, none⟩)), (3, .pointer (some ⟨b2, 0, none⟩)), (1, .pointer (some ⟨b1, 0, none⟩))]) [4, 3, 1] (by kernel_rfl) ?_
  refine ops_mem (d := some 5) (an := [.v (.int .u64 s)]) (evs := [.load ⟨b1, 0, none⟩ (.int .u64 s)]) (v := .int .u64 s) (M' := Mem w [.blk b2 [.int .u64 0, .int .u64 0] 27, .blk b1 [.int .u64 s, .int .u64 g] 27]) ⟨by kernel_rfl⟩ (fun w_ hM hS => ⟨w_, ⟨hM.cell 1 rfl rfl, rfl⟩, hM, trivial⟩) ?_
  refine ops_run (is := [(2, false)]) (r := [(3, false), (4, false), (5, false), (6, false)]) (l' := [(6, .pointer (some ⟨b1, 1, none⟩)), (5, .int .u64 s), (3, .pointer (some ⟨b2, 0, none⟩)), (1, .pointer (some ⟨b1, 0, none⟩))]) [6, 5, 3, 1] (by kernel_rfl) ?_
  refine ops_mem (d := some 7) (an := [.v (.int .u64 g)]) (evs := [.load ⟨b1, 1, none⟩ (.int .u64 g)]) (v := .int .u64 g) (M' := Mem w [.blk b2 [.int .u64 0, .int .u64 0] 27, .blk b1 [.int .u64 s, .int .u64 g] 27]) ⟨by kernel_rfl⟩ (fun w_ hM hS => ⟨w_, ⟨hM.cell 1 rfl rfl, rfl⟩, hM, trivial⟩) ?_
  refine ops_run (is := [(4, false), (5, false)]) (r := [(6, false)]) (l' := [(9, .pointer (some ⟨b1, 0, none⟩)), (8, .int .u64 (IntKind.u64.wrap (s + g))), (3, .pointer (some ⟨b2, 0, none⟩)), (1, .pointer (some ⟨b1, 0, none⟩))]) [9, 8, 3, 1] (by kernel_rfl) ?_
  refine ops_store (an := []) (evs := [.store ⟨b1, 0, none⟩ (.int .u64 (IntKind.u64.wrap (s + g)))]) (M' := Mem w [.blk b2 [.int .u64 0, .int .u64 0] 27, .blk b1 [.int .u64 (IntKind.u64.wrap (s + g)), .int .u64 g] 27]) ⟨by kernel_rfl⟩ (fun w_ hM hS => let ⟨w', he, h'⟩ := hM.evs_stores [.int .u64 (IntKind.u64.wrap (s + g))] 1 rfl 0 (Nat.le_of_ble_eq_true rfl); ⟨w', he, h', trivial⟩) ?_
  refine ops_run (is := []) (r := []) (l' := [(3, .pointer (some ⟨b2, 0, none⟩)), (1, .pointer (some ⟨b1, 0, none⟩))]) [3, 1] (by kernel_rfl) ?_
  refine ops_nil ?_
  refine fin_then ?_
  refine st_seq ?_
  refine st_region_draw [(0, true), (1, true), (3, true), (2, false), (4, true), (5, false)] (Mem w [.blk b1 [.int .u64 (IntKind.u64.wrap (s + g)), .int .u64 g] 27]) (by kernel_rfl) (by kernel_rfl) (by kernel_rfl) (fun _ d _ _ _ h => by cases d <;> exact h) (M' := Mem w [.blk b2 [.int .u64 0, .int .u64 0] 27, .blk b1 [.int .u64 (IntKind.u64.wrap (s + g)), .int .u64 g] 27]) (fun w_ hM => ⟨hM.drew, hM.drew.sub (by simp)⟩) ?_
  refine ops_run (is := [(0, true)]) (r := [(1, true), (3, true), (2, false), (4, true), (5, false)]) (l' := [(10, .pointer (some ⟨b1, 0, none⟩)), (3, .pointer (some ⟨b2, 0, none⟩)), (1, .pointer (some ⟨b1, 0, none⟩))]) [10, 3, 1] (by kernel_rfl) ?_
  refine ops_load (d := some 11) (an := [.v (.int .u64 (IntKind.u64.wrap (s + g)))]) (evs := [.load ⟨b1, 0, none⟩ (.int .u64 (IntKind.u64.wrap (s + g)))]) (v := .int .u64 (IntKind.u64.wrap (s + g))) ⟨by kernel_rfl⟩ (fun w_ hM => ⟨hM.cell 0 rfl rfl, rfl⟩) ?_
  refine ops_run (is := []) (r := [(3, true), (2, false), (4, true), (5, false)]) (l' := [(11, .int .u64 (IntKind.u64.wrap (s + g))), (3, .pointer (some ⟨b2, 0, none⟩)), (1, .pointer (some ⟨b1, 0, none⟩))]) [11, 3, 1] (by kernel_rfl) ?_
  refine ops_load (d := some 13) (an := [.v (.int .u64 (IntKind.u64.wrap (s + g))), .v (.int .u64 g)]) (evs := [.load ⟨b1, 0, none⟩ (.int .u64 (IntKind.u64.wrap (s + g))), .load ⟨b1, 1, none⟩ (.int .u64 g)]) (v := .agg #[.int .u64 (IntKind.u64.wrap (s + g)), .int .u64 g]) ⟨by kernel_rfl⟩ (fun w_ hM => ⟨hM.cell 0 rfl rfl, hM.cell 0 rfl rfl, rfl⟩) ?_
  refine ops_run (is := []) (r := [(2, false), (4, true), (5, false)]) (l' := [(13, .agg #[.int .u64 (IntKind.u64.wrap (s + g)), .int .u64 g]), (11, .int .u64 (IntKind.u64.wrap (s + g))), (3, .pointer (some ⟨b2, 0, none⟩))]) [13, 11, 3] (by kernel_rfl) ?_
  refine ops_call (σ := Unit) (d := some 12) (f := 33) (args := #[.int .u64 (IntKind.u64.wrap (s + g))]) (v := fun _ => .int .u64 (mixv (IntKind.u64.wrap (s + g)))) (M' := fun _ => Mem w [.blk b2 [.int .u64 0, .int .u64 0] 27, .blk b1 [.int .u64 (IntKind.u64.wrap (s + g)), .int .u64 g] 27]) ⟨by kernel_rfl⟩ (fun w_ hM hS => (Mix_calls (IntKind.u64.wrap (s + g)) w_).mono (by rintro e w' ⟨rfl, hb⟩; exact ⟨(), rfl, hM.step hb, hS.step hb⟩)) (fun _ => ?_)
  refine ops_run (is := [(4, true)]) (r := [(5, false)]) (l' := [(2, .int .u64 (mixv (IntKind.u64.wrap (s + g)))), (13, .agg #[.int .u64 (IntKind.u64.wrap (s + g)), .int .u64 g]), (3, .pointer (some ⟨b2, 0, none⟩))]) [2, 13, 3] (by kernel_rfl) ?_
  refine ops_store (an := []) (evs := [.store ⟨b2, 0, none⟩ (.int .u64 (IntKind.u64.wrap (s + g))), .store ⟨b2, 1, none⟩ (.int .u64 g)]) (M' := Mem w [.blk b2 [.int .u64 (IntKind.u64.wrap (s + g)), .int .u64 g] 27, .blk b1 [.int .u64 (IntKind.u64.wrap (s + g)), .int .u64 g] 27]) ⟨by kernel_rfl⟩ (fun w_ hM hS => let ⟨w', he, h'⟩ := hM.evs_stores [.int .u64 (IntKind.u64.wrap (s + g)), .int .u64 g] 0 rfl 0 (Nat.le_of_ble_eq_true rfl); ⟨w', he, h', (by exact h'.sub (by simp))⟩) ?_
  refine ops_run (is := []) (r := []) (l' := [(2, .int .u64 (mixv (IntKind.u64.wrap (s + g)))), (3, .pointer (some ⟨b2, 0, none⟩))]) [2, 3] (by kernel_rfl) ?_
  refine ops_nil ?_
  refine fin_then ?_
  refine st_ret ?_
  refine fin_ret [.tmp 2, .cell 3 27] [.int .u64 (mixv (IntKind.u64.wrap (s + g))), .agg #[.int .u64 (IntKind.u64.wrap (s + g)), .int .u64 g]] rfl rfl (fun w_ hM => (.tmp rfl (.cell rfl (tr_run _ [.v (.int .u64 (IntKind.u64.wrap (s + g))), .v (.int .u64 g)] [.load ⟨b2, 0, none⟩ (.int .u64 (IntKind.u64.wrap (s + g))), .load ⟨b2, 1, none⟩ (.int .u64 g)] (.agg #[.int .u64 (IntKind.u64.wrap (s + g)), .int .u64 g] : Value) _ _ (by kernel_rfl) ⟨hM.cell 0 rfl rfl, hM.cell 0 rfl rfl, rfl⟩) .nil))) (fun w_ hM => ?_)
  exact ⟨rfl, hM.done⟩
set_option maxRecDepth 100000 in
theorem Behind_calls (s g k : Int) (w : World) : Calls Try.prog 18 #[.agg #[.int .u64 s, .int .u64 g], .int .i64 k] w fun e w' => e = .returned (.agg #[.int .u64 (IntKind.u64.wrap (s + IntKind.u64.wrap (IntKind.u64.wrap k * g))), .int .u64 g]) ∧ Below w.heap.size w w' := by
  refine sx_calls Try.func18 rfl (n := 16) (by kernel_rfl) (l := [(0, .agg #[.int .u64 s, .int .u64 g]), (1, .int .i64 k)]) rfl (by rfl) (Mem.nil w) ?_
  refine st_seq ?_
  refine st_region [(0, false), (1, false)] (by rfl) ?_
  refine ops_new (d := some 2) (o := .cells #[.int .u64 s, .int .u64 g] 27) (v := fun b1 => .pointer (some ⟨b1, 0, none⟩)) (M' := fun b1 => Mem w [.blk b1 [.int .u64 s, .int .u64 g] 27]) (fun b1 => ⟨by kernel_rfl⟩) (fun w_ hM hS => ⟨hM.blk [.int .u64 s, .int .u64 g] 27, trivial⟩) (fun b1 => ?_)
  refine ops_run (is := []) (r := [(1, false)]) (l' := [(2, .pointer (some ⟨b1, 0, none⟩)), (1, .int .i64 k)]) [2, 1] (by kernel_rfl) ?_
  refine ops_new (d := some 4) (o := .cells #[.int .u64 0, .int .u64 0] 27) (v := fun b2 => .pointer (some ⟨b2, 0, none⟩)) (M' := fun b2 => Mem w [.blk b2 [.int .u64 0, .int .u64 0] 27, .blk b1 [.int .u64 s, .int .u64 g] 27]) (fun b2 => ⟨by kernel_rfl⟩) (fun w_ hM hS => ⟨hM.blk [.int .u64 0, .int .u64 0] 27, trivial⟩) (fun b2 => ?_)
  refine ops_run (is := []) (r := []) (l' := [(4, .pointer (some ⟨b2, 0, none⟩)), (2, .pointer (some ⟨b1, 0, none⟩)), (1, .int .i64 k)]) [4, 2, 1] (by kernel_rfl) ?_
  refine ops_nil ?_
  refine fin_then ?_
  refine st_seq ?_
  refine st_region [(0, false), (1, false), (2, false), (3, false), (4, false), (5, false), (6, false), (7, false), (8, false), (9, false), (10, false), (11, false)] (by rfl) ?_
  refine ops_run (is := [(0, false)]) (r := [(1, false), (2, false), (3, false), (4, false), (5, false), (6, false), (7, false), (8, false), (9, false), (10, false), (11, false)]) (l' := [(5, .pointer (some ⟨b1, 0, none⟩)), (4, .pointer (some ⟨b2, 0, none⟩)), (2, .pointer (some ⟨b1, 0, none⟩)), (1, .int .i64 k)]) [5, 4, 2, 1] (by kernel_rfl) ?_
  refine ops_mem (d := some 6) (an := [.v (.int .u64 s)]) (evs := [.load ⟨b1, 0, none⟩ (.int .u64 s)]) (v := .int .u64 s) (M' := Mem w [.blk b2 [.int .u64 0, .int .u64 0] 27, .blk b1 [.int .u64 s, .int .u64 g] 27]) ⟨by kernel_rfl⟩ (fun w_ hM hS => ⟨w_, ⟨hM.cell 1 rfl rfl, rfl⟩, hM, trivial⟩) ?_
  refine ops_run (is := [(2, false), (3, false), (4, false)]) (r := [(5, false), (6, false), (7, false), (8, false), (9, false), (10, false), (11, false)]) (l' := [(9, .pointer (some ⟨b1, 1, none⟩)), (8, .int .u64 (IntKind.u64.wrap k)), (6, .int .u64 s), (4, .pointer (some ⟨b2, 0, none⟩)), (2, .pointer (some ⟨b1, 0, none⟩))]) [9, 8, 6, 4, 2] (by kernel_rfl) ?_
  refine ops_mem (d := some 10) (an := [.v (.int .u64 g)]) (evs := [.load ⟨b1, 1, none⟩ (.int .u64 g)]) (v := .int .u64 g) (M' := Mem w [.blk b2 [.int .u64 0, .int .u64 0] 27, .blk b1 [.int .u64 s, .int .u64 g] 27]) ⟨by kernel_rfl⟩ (fun w_ hM hS => ⟨w_, ⟨hM.cell 1 rfl rfl, rfl⟩, hM, trivial⟩) ?_
  refine ops_run (is := [(6, false), (7, false), (8, false)]) (r := [(9, false), (10, false), (11, false)]) (l' := [(13, .pointer (some ⟨b1, 1, none⟩)), (12, .int .u64 (IntKind.u64.wrap (s + IntKind.u64.wrap (IntKind.u64.wrap k * g)))), (4, .pointer (some ⟨b2, 0, none⟩))]) [13, 12, 4] (by kernel_rfl) ?_
  refine ops_mem (d := some 14) (an := [.v (.int .u64 g)]) (evs := [.load ⟨b1, 1, none⟩ (.int .u64 g)]) (v := .int .u64 g) (M' := Mem w [.blk b2 [.int .u64 0, .int .u64 0] 27, .blk b1 [.int .u64 s, .int .u64 g] 27]) ⟨by kernel_rfl⟩ (fun w_ hM hS => ⟨w_, ⟨hM.cell 1 rfl rfl, rfl⟩, hM, trivial⟩) ?_
  refine ops_run (is := [(10, false)]) (r := [(11, false)]) (l' := [(15, .agg #[.int .u64 (IntKind.u64.wrap (s + IntKind.u64.wrap (IntKind.u64.wrap k * g))), .int .u64 g]), (4, .pointer (some ⟨b2, 0, none⟩))]) [15, 4] (by kernel_rfl) ?_
  refine ops_store (an := []) (evs := [.store ⟨b2, 0, none⟩ (.int .u64 (IntKind.u64.wrap (s + IntKind.u64.wrap (IntKind.u64.wrap k * g)))), .store ⟨b2, 1, none⟩ (.int .u64 g)]) (M' := Mem w [.blk b2 [.int .u64 (IntKind.u64.wrap (s + IntKind.u64.wrap (IntKind.u64.wrap k * g))), .int .u64 g] 27, .blk b1 [.int .u64 s, .int .u64 g] 27]) ⟨by kernel_rfl⟩ (fun w_ hM hS => let ⟨w', he, h'⟩ := hM.evs_stores [.int .u64 (IntKind.u64.wrap (s + IntKind.u64.wrap (IntKind.u64.wrap k * g))), .int .u64 g] 0 rfl 0 (Nat.le_of_ble_eq_true rfl); ⟨w', he, h', trivial⟩) ?_
  refine ops_run (is := []) (r := []) (l' := [(4, .pointer (some ⟨b2, 0, none⟩))]) [4] (by kernel_rfl) ?_
  refine ops_nil ?_
  refine fin_then ?_
  refine st_ret ?_
  refine fin_ret [.cell 4 27] [.agg #[.int .u64 (IntKind.u64.wrap (s + IntKind.u64.wrap (IntKind.u64.wrap k * g))), .int .u64 g]] rfl rfl (fun w_ hM => (.cell rfl (tr_run _ [.v (.int .u64 (IntKind.u64.wrap (s + IntKind.u64.wrap (IntKind.u64.wrap k * g)))), .v (.int .u64 g)] [.load ⟨b2, 0, none⟩ (.int .u64 (IntKind.u64.wrap (s + IntKind.u64.wrap (IntKind.u64.wrap k * g)))), .load ⟨b2, 1, none⟩ (.int .u64 g)] (.agg #[.int .u64 (IntKind.u64.wrap (s + IntKind.u64.wrap (IntKind.u64.wrap k * g))), .int .u64 g] : Value) _ _ (by kernel_rfl) ⟨hM.cell 0 rfl rfl, hM.cell 0 rfl rfl, rfl⟩) .nil)) (fun w_ hM => ?_)
  exact ⟨rfl, hM.done⟩
set_option maxRecDepth 100000 in
theorem Number1_calls (s g k : Int) (w : World) : Calls Try.prog 32 #[.agg #[.int .u64 s, .int .u64 g], .int .i64 k] w fun e w' => e = .returned (.int .u64 (scrv (IntKind.u64.wrap (s + IntKind.u64.wrap (IntKind.u64.wrap k * g))))) ∧ Below w.heap.size w w' := by
  refine sx_calls Try.func32 rfl (n := 14) (by kernel_rfl) (l := [(0, .agg #[.int .u64 s, .int .u64 g]), (1, .int .i64 k)]) rfl (by rfl) (Mem.nil w) ?_
  refine st_seq ?_
  refine st_region [(0, false), (1, false)] (by rfl) ?_
  refine ops_new (d := some 2) (o := .cells #[.int .u64 s, .int .u64 g] 27) (v := fun b1 => .pointer (some ⟨b1, 0, none⟩)) (M' := fun b1 => Mem w [.blk b1 [.int .u64 s, .int .u64 g] 27]) (fun b1 => ⟨by kernel_rfl⟩) (fun w_ hM hS => ⟨hM.blk [.int .u64 s, .int .u64 g] 27, trivial⟩) (fun b1 => ?_)
  refine ops_run (is := [(1, false)]) (r := []) (l' := [(2, .pointer (some ⟨b1, 0, none⟩)), (1, .int .i64 k)]) [2, 1] (by kernel_rfl) ?_
  refine ops_nil ?_
  refine fin_then ?_
  refine st_seq ?_
  refine st_region [(0, false), (1, false), (2, false), (3, false), (4, false), (5, false), (6, false), (7, false), (8, false), (9, false)] (by rfl) ?_
  refine ops_run (is := [(0, false)]) (r := [(1, false), (2, false), (3, false), (4, false), (5, false), (6, false), (7, false), (8, false), (9, false)]) (l' := [(5, .pointer (some ⟨b1, 0, none⟩)), (2, .pointer (some ⟨b1, 0, none⟩)), (1, .int .i64 k)]) [5, 2, 1] (by kernel_rfl) ?_
  refine ops_mem (d := some 6) (an := [.v (.int .u64 s)]) (evs := [.load ⟨b1, 0, none⟩ (.int .u64 s)]) (v := .int .u64 s) (M' := Mem w [.blk b1 [.int .u64 s, .int .u64 g] 27]) ⟨by kernel_rfl⟩ (fun w_ hM hS => ⟨w_, ⟨hM.cell 0 rfl rfl, rfl⟩, hM, trivial⟩) ?_
  refine ops_run (is := [(2, false), (3, false), (4, false)]) (r := [(5, false), (6, false), (7, false), (8, false), (9, false)]) (l' := [(9, .pointer (some ⟨b1, 1, none⟩)), (8, .int .u64 (IntKind.u64.wrap k)), (6, .int .u64 s)]) [9, 8, 6] (by kernel_rfl) ?_
  refine ops_mem (d := some 10) (an := [.v (.int .u64 g)]) (evs := [.load ⟨b1, 1, none⟩ (.int .u64 g)]) (v := .int .u64 g) (M' := Mem w [.blk b1 [.int .u64 s, .int .u64 g] 27]) ⟨by kernel_rfl⟩ (fun w_ hM hS => ⟨w_, ⟨hM.cell 0 rfl rfl, rfl⟩, hM, trivial⟩) ?_
  refine ops_run (is := [(6, false), (7, false)]) (r := [(8, false), (9, false)]) (l' := [(12, .int .u64 (IntKind.u64.wrap (s + IntKind.u64.wrap (IntKind.u64.wrap k * g))))]) [12] (by kernel_rfl) ?_
  refine ops_call (σ := Unit) (d := some 13) (f := 34) (args := #[.int .u64 (IntKind.u64.wrap (s + IntKind.u64.wrap (IntKind.u64.wrap k * g)))]) (v := fun _ => .int .u64 (scrv (IntKind.u64.wrap (s + IntKind.u64.wrap (IntKind.u64.wrap k * g))))) (M' := fun _ => Mem w [.blk b1 [.int .u64 s, .int .u64 g] 27]) ⟨by kernel_rfl⟩ (fun w_ hM hS => (Scrambled_calls (IntKind.u64.wrap (s + IntKind.u64.wrap (IntKind.u64.wrap k * g))) w_).mono (by rintro e w' ⟨rfl, hb⟩; exact ⟨(), rfl, hM.step hb, trivial⟩)) (fun _ => ?_)
  refine ops_run (is := [(9, false)]) (r := []) (l' := [(4, .int .u64 (scrv (IntKind.u64.wrap (s + IntKind.u64.wrap (IntKind.u64.wrap k * g)))))]) [4] (by kernel_rfl) ?_
  refine ops_nil ?_
  refine fin_then ?_
  refine st_ret ?_
  refine fin_ret [.tmp 4] [.int .u64 (scrv (IntKind.u64.wrap (s + IntKind.u64.wrap (IntKind.u64.wrap k * g))))] rfl rfl (fun w_ hM => (.tmp rfl .nil)) (fun w_ hM => ?_)
  exact ⟨rfl, hM.done⟩
theorem Next_st (s g : Int) (i : Nat) (w : World) : Calls Try.prog 30 #[.agg #[.int .u64 (st s g i), .int .u64 g]] w fun e w' => e = .returned (.tuple #[.int .u64 (mixv (st s g (i + 1))), .agg #[.int .u64 (st s g (i + 1)), .int .u64 g]]) ∧ Below w.heap.size w w' := by
  have h := Next_calls (st s g i) g w
  rw [st_succ] at h
  exact h
set_option maxRecDepth 100000 in
theorem Below_small (s g n : Int) (w : World) (h : n < 1) : Calls Try.prog 16 #[.agg #[.int .u64 s, .int .u64 g], .int .i64 n] w fun e w' => e = .returned (.tuple #[.int .i64 0, .agg #[.int .u64 0, .int .u64 0], .int .i64 1]) ∧ Below w.heap.size w w' := by
  have hk1 : decide (n < 1) = true := by simpa using h
  refine sx_calls Try.func16 rfl (n := 40) (by kernel_rfl) (l := [(0, .agg #[.int .u64 s, .int .u64 g]), (1, .int .i64 n)]) rfl (by rfl) (Mem.nil w) ?_
  refine st_seq ?_
  refine st_region [(0, false), (1, false), (2, false), (3, false)] (by rfl) ?_
  refine ops_new (d := some 2) (o := .cells #[.int .u64 s, .int .u64 g] 27) (v := fun b1 => .pointer (some ⟨b1, 0, none⟩)) (M' := fun b1 => Mem w [.blk b1 [.int .u64 s, .int .u64 g] 27]) (fun b1 => ⟨by kernel_rfl⟩) (fun w_ hM hS => ⟨hM.blk [.int .u64 s, .int .u64 g] 27, trivial⟩) (fun b1 => ?_)
  refine ops_run (is := [(1, false)]) (r := [(2, false), (3, false)]) (l' := [(2, .pointer (some ⟨b1, 0, none⟩)), (1, .int .i64 n)]) [2, 1] (by kernel_rfl) ?_
  refine ops_new (d := some 5) (o := .cells #[.int .u64 0, .int .u64 0] 27) (v := fun b2 => .pointer (some ⟨b2, 0, none⟩)) (M' := fun b2 => Mem w [.blk b2 [.int .u64 0, .int .u64 0] 27, .blk b1 [.int .u64 s, .int .u64 g] 27]) (fun b2 => ⟨by kernel_rfl⟩) (fun w_ hM hS => ⟨hM.blk [.int .u64 0, .int .u64 0] 27, trivial⟩) (fun b2 => ?_)
  refine ops_run (is := [(3, false)]) (r := []) (l' := [(5, .pointer (some ⟨b2, 0, none⟩)), (2, .pointer (some ⟨b1, 0, none⟩)), (1, .int .i64 n)]) [5, 2, 1] (by kernel_rfl) ?_
  refine ops_nil ?_
  refine fin_then ?_
  refine st_seq ?_
  refine st_seq ?_
  refine st_region [(0, false), (1, false), (2, false), (3, false), (4, false), (5, false), (6, false), (7, false)] (by rfl) ?_
  refine ops_run (is := [(0, false), (1, false), (2, false)]) (r := [(3, false), (4, false), (5, false), (6, false), (7, false)]) (l' := [(12, .bool (decide (n < 1))), (5, .pointer (some ⟨b2, 0, none⟩)), (2, .pointer (some ⟨b1, 0, none⟩)), (1, .int .i64 n)]) [12, 5, 2, 1] (by kernel_rfl) ?_
  refine ops_conv (l' := [(12, .bool true), (5, .pointer (some ⟨b2, 0, none⟩)), (2, .pointer (some ⟨b1, 0, none⟩)), (1, .int .i64 n)]) (by rw [hk1]) (fun _ h => h) ?_
  refine ops_run (is := [(3, false), (4, false), (5, false), (6, false), (7, false)]) (r := []) (l' := [(17, .bool true), (5, .pointer (some ⟨b2, 0, none⟩)), (2, .pointer (some ⟨b1, 0, none⟩)), (1, .int .i64 n)]) [17, 5, 2, 1] (by kernel_rfl) ?_
  refine ops_nil ?_
  refine fin_then ?_
  refine st_true rfl ?_
  refine st_seq ?_
  refine st_region [(0, false), (1, false), (2, false), (3, false)] (by rfl) ?_
  refine ops_run (is := [(0, false), (1, false)]) (r := [(2, false), (3, false)]) (l' := [(4, .int .i64 0), (18, .agg #[.int .u64 0, .int .u64 0]), (5, .pointer (some ⟨b2, 0, none⟩))]) [4, 18, 5] (by kernel_rfl) ?_
  refine ops_store (an := []) (evs := [.store ⟨b2, 0, none⟩ (.int .u64 0), .store ⟨b2, 1, none⟩ (.int .u64 0)]) (M' := Mem w [.blk b2 [.int .u64 0, .int .u64 0] 27, .blk b1 [.int .u64 s, .int .u64 g] 27]) ⟨by kernel_rfl⟩ (fun w_ hM hS => let ⟨w', he, h'⟩ := hM.evs_stores [.int .u64 0, .int .u64 0] 0 rfl 0 (Nat.le_of_ble_eq_true rfl); ⟨w', he, h', trivial⟩) ?_
  refine ops_run (is := [(3, false)]) (r := []) (l' := [(6, .int .i64 1), (4, .int .i64 0), (5, .pointer (some ⟨b2, 0, none⟩))]) [6, 4, 5] (by kernel_rfl) ?_
  refine ops_nil ?_
  refine fin_then ?_
  refine st_ret ?_
  refine fin_ret_then ?_
  refine fin_ret [.tmp 4, .cell 5 27, .tmp 6] [.int .i64 0, .agg #[.int .u64 0, .int .u64 0], .int .i64 1] rfl rfl (fun w_ hM => (.tmp rfl (.cell rfl (tr_run _ [.v (.int .u64 0), .v (.int .u64 0)] [.load ⟨b2, 0, none⟩ (.int .u64 0), .load ⟨b2, 1, none⟩ (.int .u64 0)] (.agg #[.int .u64 0, .int .u64 0] : Value) _ _ (by kernel_rfl) ⟨hM.cell 0 rfl rfl, hM.cell 0 rfl rfl, rfl⟩) (.tmp rfl .nil)))) (fun w_ hM => ?_)
  refine ⟨?_, hM.done⟩
  rfl
set_option maxRecDepth 100000 in
theorem Below_even (s g n : Int) (w : World) (h : 1 ≤ n) (h2 : Int.tmod g 2 = 0) : Calls Try.prog 16 #[.agg #[.int .u64 s, .int .u64 g], .int .i64 n] w fun e w' => e = .returned (.tuple #[.int .i64 0, .agg #[.int .u64 0, .int .u64 0], .int .i64 1]) ∧ Below w.heap.size w w' := by
  have hk1 : decide (n < 1) = false := by simp; omega
  have hk2 : (Int.tmod g 2 == 0) = true := by simp [h2]
  refine sx_calls Try.func16 rfl (n := 40) (by kernel_rfl) (l := [(0, .agg #[.int .u64 s, .int .u64 g]), (1, .int .i64 n)]) rfl (by rfl) (Mem.nil w) ?_
  refine st_seq ?_
  refine st_region [(0, false), (1, false), (2, false), (3, false)] (by rfl) ?_
  refine ops_new (d := some 2) (o := .cells #[.int .u64 s, .int .u64 g] 27) (v := fun b1 => .pointer (some ⟨b1, 0, none⟩)) (M' := fun b1 => Mem w [.blk b1 [.int .u64 s, .int .u64 g] 27]) (fun b1 => ⟨by kernel_rfl⟩) (fun w_ hM hS => ⟨hM.blk [.int .u64 s, .int .u64 g] 27, trivial⟩) (fun b1 => ?_)
  refine ops_run (is := [(1, false)]) (r := [(2, false), (3, false)]) (l' := [(2, .pointer (some ⟨b1, 0, none⟩)), (1, .int .i64 n)]) [2, 1] (by kernel_rfl) ?_
  refine ops_new (d := some 5) (o := .cells #[.int .u64 0, .int .u64 0] 27) (v := fun b2 => .pointer (some ⟨b2, 0, none⟩)) (M' := fun b2 => Mem w [.blk b2 [.int .u64 0, .int .u64 0] 27, .blk b1 [.int .u64 s, .int .u64 g] 27]) (fun b2 => ⟨by kernel_rfl⟩) (fun w_ hM hS => ⟨hM.blk [.int .u64 0, .int .u64 0] 27, trivial⟩) (fun b2 => ?_)
  refine ops_run (is := [(3, false)]) (r := []) (l' := [(5, .pointer (some ⟨b2, 0, none⟩)), (2, .pointer (some ⟨b1, 0, none⟩)), (1, .int .i64 n)]) [5, 2, 1] (by kernel_rfl) ?_
  refine ops_nil ?_
  refine fin_then ?_
  refine st_seq ?_
  refine st_seq ?_
  refine st_region [(0, false), (1, false), (2, false), (3, false), (4, false), (5, false), (6, false), (7, false)] (by rfl) ?_
  refine ops_run (is := [(0, false), (1, false), (2, false)]) (r := [(3, false), (4, false), (5, false), (6, false), (7, false)]) (l' := [(12, .bool (decide (n < 1))), (5, .pointer (some ⟨b2, 0, none⟩)), (2, .pointer (some ⟨b1, 0, none⟩)), (1, .int .i64 n)]) [12, 5, 2, 1] (by kernel_rfl) ?_
  refine ops_conv (l' := [(12, .bool false), (5, .pointer (some ⟨b2, 0, none⟩)), (2, .pointer (some ⟨b1, 0, none⟩)), (1, .int .i64 n)]) (by rw [hk1]) (fun _ h => h) ?_
  refine ops_run (is := [(3, false)]) (r := [(4, false), (5, false), (6, false), (7, false)]) (l' := [(13, .pointer (some ⟨b1, 1, none⟩)), (12, .bool false), (5, .pointer (some ⟨b2, 0, none⟩)), (2, .pointer (some ⟨b1, 0, none⟩)), (1, .int .i64 n)]) [13, 12, 5, 2, 1] (by kernel_rfl) ?_
  refine ops_mem (d := some 14) (an := [.v (.int .u64 g)]) (evs := [.load ⟨b1, 1, none⟩ (.int .u64 g)]) (v := .int .u64 g) (M' := Mem w [.blk b2 [.int .u64 0, .int .u64 0] 27, .blk b1 [.int .u64 s, .int .u64 g] 27]) ⟨by kernel_rfl⟩ (fun w_ hM hS => ⟨w_, ⟨hM.cell 1 rfl rfl, rfl⟩, hM, trivial⟩) ?_
  refine ops_run (is := [(5, false), (6, false), (7, false)]) (r := []) (l' := [(17, .bool (Int.tmod g 2 == 0)), (5, .pointer (some ⟨b2, 0, none⟩)), (2, .pointer (some ⟨b1, 0, none⟩)), (1, .int .i64 n)]) [17, 5, 2, 1] (by kernel_rfl) ?_
  refine ops_nil ?_
  refine fin_then ?_
  refine st_conv (l' := [(17, .bool true), (5, .pointer (some ⟨b2, 0, none⟩)), (2, .pointer (some ⟨b1, 0, none⟩)), (1, .int .i64 n)]) (by rw [hk2]) (fun _ h => h) ?_
  refine st_true rfl ?_
  refine st_seq ?_
  refine st_region [(0, false), (1, false), (2, false), (3, false)] (by rfl) ?_
  refine ops_run (is := [(0, false), (1, false)]) (r := [(2, false), (3, false)]) (l' := [(4, .int .i64 0), (18, .agg #[.int .u64 0, .int .u64 0]), (5, .pointer (some ⟨b2, 0, none⟩))]) [4, 18, 5] (by kernel_rfl) ?_
  refine ops_store (an := []) (evs := [.store ⟨b2, 0, none⟩ (.int .u64 0), .store ⟨b2, 1, none⟩ (.int .u64 0)]) (M' := Mem w [.blk b2 [.int .u64 0, .int .u64 0] 27, .blk b1 [.int .u64 s, .int .u64 g] 27]) ⟨by kernel_rfl⟩ (fun w_ hM hS => let ⟨w', he, h'⟩ := hM.evs_stores [.int .u64 0, .int .u64 0] 0 rfl 0 (Nat.le_of_ble_eq_true rfl); ⟨w', he, h', trivial⟩) ?_
  refine ops_run (is := [(3, false)]) (r := []) (l' := [(6, .int .i64 1), (4, .int .i64 0), (5, .pointer (some ⟨b2, 0, none⟩))]) [6, 4, 5] (by kernel_rfl) ?_
  refine ops_nil ?_
  refine fin_then ?_
  refine st_ret ?_
  refine fin_ret_then ?_
  refine fin_ret [.tmp 4, .cell 5 27, .tmp 6] [.int .i64 0, .agg #[.int .u64 0, .int .u64 0], .int .i64 1] rfl rfl (fun w_ hM => (.tmp rfl (.cell rfl (tr_run _ [.v (.int .u64 0), .v (.int .u64 0)] [.load ⟨b2, 0, none⟩ (.int .u64 0), .load ⟨b2, 1, none⟩ (.int .u64 0)] (.agg #[.int .u64 0, .int .u64 0] : Value) _ _ (by kernel_rfl) ⟨hM.cell 0 rfl rfl, hM.cell 0 rfl rfl, rfl⟩) (.tmp rfl .nil)))) (fun w_ hM => ?_)
  refine ⟨?_, hM.done⟩
  rfl
set_option maxRecDepth 100000 in
theorem Below_calls (s g n : Int) (w : World) (j : Nat) (h : 1 ≤ n) (h1 : n ≤ 9223372036854775807) (h2 : Int.tmod g 2 ≠ 0) (hs0 : 0 ≤ s) (hs1 : s < 18446744073709551616) (hacc : Acc n (mixv (st s g (j + 1)))) (hmin : ∀ i, i < j → ¬ Acc n (mixv (st s g (i + 1)))) : Calls Try.prog 16 #[.agg #[.int .u64 s, .int .u64 g], .int .i64 n] w fun e w' => e = .returned (.tuple #[.int .i64 (IntKind.i64.wrap (Int.tmod (mixv (st s g (j + 1))) n)), .agg #[.int .u64 (st s g (j + 1)), .int .u64 g], .int .i64 0]) ∧ Below w.heap.size w w' := by
  have hk1 : decide (n < 1) = false := by simp; omega
  have hk2 : (Int.tmod g 2 == 0) = false := by simp [h2]
  have hm : IntKind.u64.wrap n = n := w64_in (by omega) (by omega)
  have hr : Int.tmod (IntKind.u64.wrap (Int.tmod 18446744073709551615 n + 1)) n = restv n := rfl
  have hst0 : s = st s g 0 := (st_zero g hs0 hs1).symm
  refine sx_calls Try.func16 rfl (n := 40) (by kernel_rfl) (l := [(0, .agg #[.int .u64 s, .int .u64 g]), (1, .int .i64 n)]) rfl (by rfl) (Mem.nil w) ?_
  refine st_seq ?_
  refine st_region [(0, false), (1, false), (2, false), (3, false)] (by rfl) ?_
  refine ops_new (d := some 2) (o := .cells #[.int .u64 s, .int .u64 g] 27) (v := fun b1 => .pointer (some ⟨b1, 0, none⟩)) (M' := fun b1 => Mem w [.blk b1 [.int .u64 s, .int .u64 g] 27]) (fun b1 => ⟨by kernel_rfl⟩) (fun w_ hM hS => ⟨hM.blk [.int .u64 s, .int .u64 g] 27, trivial⟩) (fun b1 => ?_)
  refine ops_run (is := [(1, false)]) (r := [(2, false), (3, false)]) (l' := [(2, .pointer (some ⟨b1, 0, none⟩)), (1, .int .i64 n)]) [2, 1] (by kernel_rfl) ?_
  refine ops_new (d := some 5) (o := .cells #[.int .u64 0, .int .u64 0] 27) (v := fun b2 => .pointer (some ⟨b2, 0, none⟩)) (M' := fun b2 => Mem w [.blk b2 [.int .u64 0, .int .u64 0] 27, .blk b1 [.int .u64 s, .int .u64 g] 27]) (fun b2 => ⟨by kernel_rfl⟩) (fun w_ hM hS => ⟨hM.blk [.int .u64 0, .int .u64 0] 27, trivial⟩) (fun b2 => ?_)
  refine ops_run (is := [(3, false)]) (r := []) (l' := [(5, .pointer (some ⟨b2, 0, none⟩)), (2, .pointer (some ⟨b1, 0, none⟩)), (1, .int .i64 n)]) [5, 2, 1] (by kernel_rfl) ?_
  refine ops_nil ?_
  refine fin_then ?_
  refine st_seq ?_
  refine st_seq ?_
  refine st_region [(0, false), (1, false), (2, false), (3, false), (4, false), (5, false), (6, false), (7, false)] (by rfl) ?_
  refine ops_run (is := [(0, false), (1, false), (2, false)]) (r := [(3, false), (4, false), (5, false), (6, false), (7, false)]) (l' := [(12, .bool (decide (n < 1))), (5, .pointer (some ⟨b2, 0, none⟩)), (2, .pointer (some ⟨b1, 0, none⟩)), (1, .int .i64 n)]) [12, 5, 2, 1] (by kernel_rfl) ?_
  refine ops_conv (l' := [(12, .bool false), (5, .pointer (some ⟨b2, 0, none⟩)), (2, .pointer (some ⟨b1, 0, none⟩)), (1, .int .i64 n)]) (by rw [hk1]) (fun _ h => h) ?_
  refine ops_run (is := [(3, false)]) (r := [(4, false), (5, false), (6, false), (7, false)]) (l' := [(13, .pointer (some ⟨b1, 1, none⟩)), (12, .bool false), (5, .pointer (some ⟨b2, 0, none⟩)), (2, .pointer (some ⟨b1, 0, none⟩)), (1, .int .i64 n)]) [13, 12, 5, 2, 1] (by kernel_rfl) ?_
  refine ops_mem (d := some 14) (an := [.v (.int .u64 g)]) (evs := [.load ⟨b1, 1, none⟩ (.int .u64 g)]) (v := .int .u64 g) (M' := Mem w [.blk b2 [.int .u64 0, .int .u64 0] 27, .blk b1 [.int .u64 s, .int .u64 g] 27]) ⟨by kernel_rfl⟩ (fun w_ hM hS => ⟨w_, ⟨hM.cell 1 rfl rfl, rfl⟩, hM, trivial⟩) ?_
  refine ops_run (is := [(5, false), (6, false), (7, false)]) (r := []) (l' := [(17, .bool (Int.tmod g 2 == 0)), (5, .pointer (some ⟨b2, 0, none⟩)), (2, .pointer (some ⟨b1, 0, none⟩)), (1, .int .i64 n)]) [17, 5, 2, 1] (by kernel_rfl) ?_
  refine ops_nil ?_
  refine fin_then ?_
  refine st_conv (l' := [(17, .bool false), (5, .pointer (some ⟨b2, 0, none⟩)), (2, .pointer (some ⟨b1, 0, none⟩)), (1, .int .i64 n)]) (by rw [hk2]) (fun _ h => h) ?_
  refine st_false rfl ?_
  refine st_skip ?_
  refine fin_then ?_
  refine st_seq ?_
  refine st_region [(0, false), (1, false), (2, false)] (by rfl) ?_
  refine ops_run (is := [(0, false), (1, false), (2, false)]) (r := []) (l' := [(7, .int .u64 (IntKind.u64.wrap n)), (5, .pointer (some ⟨b2, 0, none⟩)), (2, .pointer (some ⟨b1, 0, none⟩))]) [7, 5, 2] (by kernel_rfl) ?_
  refine ops_conv (l' := [(7, .int .u64 n), (5, .pointer (some ⟨b2, 0, none⟩)), (2, .pointer (some ⟨b1, 0, none⟩))]) (by rw [hm]) (fun _ h => h) ?_
  refine ops_nil ?_
  refine fin_then ?_
  refine st_seq ?_
  refine st_region [(0, false), (1, false), (2, false), (3, false), (4, false), (5, false)] (by rfl) ?_
  refine ops_run (is := [(0, false)]) (r := [(1, false), (2, false), (3, false), (4, false), (5, false)]) (l' := [(21, .int .u64 n), (7, .int .u64 n), (5, .pointer (some ⟨b2, 0, none⟩)), (2, .pointer (some ⟨b1, 0, none⟩))]) [21, 7, 5, 2] (by kernel_rfl) ?_
  refine ops_val (op := (Go.Op.binOp Go.BinOp.rem 25 (Go.Operand.const (Go.Value.int Go.IntKind.u64 18446744073709551615)) (Go.Operand.tmp 21) 25)) (d := some 22) (v := .int .u64 (Int.tmod 18446744073709551615 n)) ⟨by kernel_rfl⟩ (run_rem rfl rfl (by omega)) ?_
  refine ops_run (is := [(2, false), (3, false)]) (r := [(4, false), (5, false)]) (l' := [(24, .int .u64 n), (23, .int .u64 (IntKind.u64.wrap (Int.tmod 18446744073709551615 n + 1))), (7, .int .u64 n), (5, .pointer (some ⟨b2, 0, none⟩)), (2, .pointer (some ⟨b1, 0, none⟩))]) [24, 23, 7, 5, 2] (by kernel_rfl) ?_
  refine ops_val (op := (Go.Op.binOp Go.BinOp.rem 25 (Go.Operand.tmp 23) (Go.Operand.tmp 24) 25)) (d := some 25) (v := .int .u64 (Int.tmod (IntKind.u64.wrap (Int.tmod 18446744073709551615 n + 1)) n)) ⟨by kernel_rfl⟩ (run_rem rfl rfl (by omega)) ?_
  refine ops_run (is := [(5, false)]) (r := []) (l' := [(8, .int .u64 (Int.tmod (IntKind.u64.wrap (Int.tmod 18446744073709551615 n + 1)) n)), (7, .int .u64 n), (5, .pointer (some ⟨b2, 0, none⟩)), (2, .pointer (some ⟨b1, 0, none⟩))]) [8, 7, 5, 2] (by kernel_rfl) ?_
  refine ops_conv (l' := [(8, .int .u64 (restv n)), (7, .int .u64 n), (5, .pointer (some ⟨b2, 0, none⟩)), (2, .pointer (some ⟨b1, 0, none⟩))]) (by rw [hr]) (fun _ h => h) ?_
  refine ops_nil ?_
  refine fin_then ?_
  refine st_block ?_
  refine st_loop (σ := Nat) 0 (fun i => [(8, .int .u64 (restv n)), (7, .int .u64 n), (5, .pointer (some ⟨b2, 0, none⟩)), (2, .pointer (some ⟨b1, 0, none⟩))]) (fun i => Mem w [.blk b2 [.int .u64 0, .int .u64 0] 27, .blk b1 [.int .u64 (st s g i), .int .u64 g] 27]) (fun i => i ≤ j) (fun i => j - i) (by exact Nat.zero_le j) (look_has ⟨rfl, rfl, rfl, rfl, trivial⟩) (fun w_ hM => by rw [st_zero g hs0 hs1]; exact hM) ?_
  rintro i hI
  have hI : i ≤ j := hI
  refine st_block ?_
  refine st_seq ?_
  refine st_region [(0, false)] (by rfl) ?_
  refine ops_run (is := [(0, false)]) (r := []) (l' := [(8, .int .u64 (restv n)), (7, .int .u64 n), (5, .pointer (some ⟨b2, 0, none⟩)), (2, .pointer (some ⟨b1, 0, none⟩))]) [8, 7, 5, 2] (by kernel_rfl) ?_
  refine ops_nil ?_
  refine fin_then ?_
  refine st_seq ?_
  refine st_region [(0, false), (1, false), (2, false), (3, false), (4, false), (5, false), (6, false)] (by rfl) ?_
  refine ops_mem (d := some 27) (an := [.v (.int .u64 (st s g i)), .v (.int .u64 g)]) (evs := [.load ⟨b1, 0, none⟩ (.int .u64 (st s g i)), .load ⟨b1, 1, none⟩ (.int .u64 g)]) (v := .agg #[.int .u64 (st s g i), .int .u64 g]) (M' := Mem w [.blk b2 [.int .u64 0, .int .u64 0] 27, .blk b1 [.int .u64 (st s g i), .int .u64 g] 27]) ⟨by kernel_rfl⟩ (fun w_ hM hS => ⟨w_, ⟨hM.cell 1 rfl rfl, hM.cell 1 rfl rfl, rfl⟩, hM, trivial⟩) ?_
  refine ops_run (is := []) (r := [(1, false), (2, false), (3, false), (4, false), (5, false), (6, false)]) (l' := [(27, .agg #[.int .u64 (st s g i), .int .u64 g]), (8, .int .u64 (restv n)), (7, .int .u64 n), (5, .pointer (some ⟨b2, 0, none⟩)), (2, .pointer (some ⟨b1, 0, none⟩))]) [27, 8, 7, 5, 2] (by kernel_rfl) ?_
  refine ops_call (σ := Unit) (d := some 28) (f := 30) (args := #[.agg #[.int .u64 (st s g i), .int .u64 g]]) (v := fun _ => .tuple #[.int .u64 (mixv (st s g (i + 1))), .agg #[.int .u64 (st s g (i + 1)), .int .u64 g]]) (M' := fun _ => Mem w [.blk b2 [.int .u64 0, .int .u64 0] 27, .blk b1 [.int .u64 (st s g i), .int .u64 g] 27]) ⟨by kernel_rfl⟩ (fun w_ hM hS => (Next_st s g i w_).mono (by rintro e w' ⟨rfl, hb⟩; exact ⟨(), rfl, hM.step hb, trivial⟩)) (fun _ => ?_)
  refine ops_run (is := [(2, false), (3, false), (4, false), (5, false)]) (r := [(6, false)]) (l' := [(9, .int .u64 (mixv (st s g (i + 1)))), (30, .agg #[.int .u64 (st s g (i + 1)), .int .u64 g]), (8, .int .u64 (restv n)), (7, .int .u64 n), (5, .pointer (some ⟨b2, 0, none⟩)), (2, .pointer (some ⟨b1, 0, none⟩))]) [9, 30, 8, 7, 5, 2] (by kernel_rfl) ?_
  refine ops_store (an := []) (evs := [.store ⟨b1, 0, none⟩ (.int .u64 (st s g (i + 1))), .store ⟨b1, 1, none⟩ (.int .u64 g)]) (M' := Mem w [.blk b2 [.int .u64 0, .int .u64 0] 27, .blk b1 [.int .u64 (st s g (i + 1)), .int .u64 g] 27]) ⟨by kernel_rfl⟩ (fun w_ hM hS => let ⟨w', he, h'⟩ := hM.evs_stores [.int .u64 (st s g (i + 1)), .int .u64 g] 1 rfl 0 (Nat.le_of_ble_eq_true rfl); ⟨w', he, h', trivial⟩) ?_
  refine ops_run (is := []) (r := []) (l' := [(9, .int .u64 (mixv (st s g (i + 1)))), (8, .int .u64 (restv n)), (7, .int .u64 n), (5, .pointer (some ⟨b2, 0, none⟩)), (2, .pointer (some ⟨b1, 0, none⟩))]) [9, 8, 7, 5, 2] (by kernel_rfl) ?_
  refine ops_nil ?_
  refine fin_then ?_
  refine st_seq ?_
  refine st_region [(0, false), (1, false), (2, false), (3, false)] (by rfl) ?_
  refine ops_run (is := [(0, false), (1, false), (2, false), (3, false)]) (r := []) (l' := [(34, .bool (decide (mixv (st s g (i + 1)) ≤ IntKind.u64.wrap (18446744073709551615 - restv n)))), (9, .int .u64 (mixv (st s g (i + 1)))), (8, .int .u64 (restv n)), (7, .int .u64 n), (5, .pointer (some ⟨b2, 0, none⟩)), (2, .pointer (some ⟨b1, 0, none⟩))]) [34, 9, 8, 7, 5, 2] (by kernel_rfl) ?_
  refine ops_nil ?_
  refine fin_then ?_
  refine st_if (b := decide (mixv (st s g (i + 1)) ≤ IntKind.u64.wrap (18446744073709551615 - restv n))) rfl (fun hc3 => ?_) (fun hc3 => ?_)
  · --
    refine st_seq ?_
    refine st_region_draw [(0, true), (1, true), (2, true), (3, true), (4, true), (5, true), (6, false), (7, true)] (Mem w [.blk b1 [.int .u64 (st s g (i + 1)), .int .u64 g] 27]) (by kernel_rfl) (by kernel_rfl) (by kernel_rfl) (fun _ d _ _ _ h => by cases d <;> exact h) (M' := Mem w [.blk b2 [.int .u64 0, .int .u64 0] 27, .blk b1 [.int .u64 (st s g (i + 1)), .int .u64 g] 27]) (fun w_ hM => ⟨hM.drew, hM.drew.sub (by simp)⟩) ?_
    refine ops_run (is := [(0, true), (1, true)]) (r := [(2, true), (3, true), (4, true), (5, true), (6, false), (7, true)]) (l' := [(36, .int .u64 n), (35, .int .u64 (mixv (st s g (i + 1)))), (5, .pointer (some ⟨b2, 0, none⟩)), (2, .pointer (some ⟨b1, 0, none⟩))]) [36, 35, 5, 2] (by kernel_rfl) ?_
    refine ops_val (op := (Go.Op.binOp Go.BinOp.rem 25 (Go.Operand.tmp 35) (Go.Operand.tmp 36) 25)) (d := some 37) (v := .int .u64 (Int.tmod (mixv (st s g (i + 1))) n)) ⟨by kernel_rfl⟩ (run_rem rfl rfl (by omega)) ?_
    refine ops_run (is := [(3, true)]) (r := [(4, true), (5, true), (6, false), (7, true)]) (l' := [(38, .int .i64 (IntKind.i64.wrap (Int.tmod (mixv (st s g (i + 1))) n))), (5, .pointer (some ⟨b2, 0, none⟩)), (2, .pointer (some ⟨b1, 0, none⟩))]) [38, 5, 2] (by kernel_rfl) ?_
    refine ops_load (d := some 39) (an := [.v (.int .u64 (st s g (i + 1))), .v (.int .u64 g)]) (evs := [.load ⟨b1, 0, none⟩ (.int .u64 (st s g (i + 1))), .load ⟨b1, 1, none⟩ (.int .u64 g)]) (v := .agg #[.int .u64 (st s g (i + 1)), .int .u64 g]) ⟨by kernel_rfl⟩ (fun w_ hM => ⟨hM.cell 0 rfl rfl, hM.cell 0 rfl rfl, rfl⟩) ?_
    refine ops_run (is := [(5, true)]) (r := [(6, false), (7, true)]) (l' := [(4, .int .i64 (IntKind.i64.wrap (Int.tmod (mixv (st s g (i + 1))) n))), (39, .agg #[.int .u64 (st s g (i + 1)), .int .u64 g]), (5, .pointer (some ⟨b2, 0, none⟩))]) [4, 39, 5] (by kernel_rfl) ?_
    refine ops_store (an := []) (evs := [.store ⟨b2, 0, none⟩ (.int .u64 (st s g (i + 1))), .store ⟨b2, 1, none⟩ (.int .u64 g)]) (M' := Mem w [.blk b2 [.int .u64 (st s g (i + 1)), .int .u64 g] 27, .blk b1 [.int .u64 (st s g (i + 1)), .int .u64 g] 27]) ⟨by kernel_rfl⟩ (fun w_ hM hS => let ⟨w', he, h'⟩ := hM.evs_stores [.int .u64 (st s g (i + 1)), .int .u64 g] 0 rfl 0 (Nat.le_of_ble_eq_true rfl); ⟨w', he, h', (by exact h'.sub (by simp))⟩) ?_
    refine ops_run (is := [(7, true)]) (r := []) (l' := [(6, .int .i64 0), (4, .int .i64 (IntKind.i64.wrap (Int.tmod (mixv (st s g (i + 1))) n))), (5, .pointer (some ⟨b2, 0, none⟩))]) [6, 4, 5] (by kernel_rfl) ?_
    refine ops_nil ?_
    refine fin_then ?_
    refine st_ret ?_
    refine fin_ret_block ?_
    refine fin_ret_then ?_
    refine fin_ret_block ?_
    refine fin_ret [.tmp 4, .cell 5 27, .tmp 6] [.int .i64 (IntKind.i64.wrap (Int.tmod (mixv (st s g (i + 1))) n)), .agg #[.int .u64 (st s g (i + 1)), .int .u64 g], .int .i64 0] rfl rfl (fun w_ hM => (.tmp rfl (.cell rfl (tr_run _ [.v (.int .u64 (st s g (i + 1))), .v (.int .u64 g)] [.load ⟨b2, 0, none⟩ (.int .u64 (st s g (i + 1))), .load ⟨b2, 1, none⟩ (.int .u64 g)] (.agg #[.int .u64 (st s g (i + 1)), .int .u64 g] : Value) _ _ (by kernel_rfl) ⟨hM.cell 0 rfl rfl, hM.cell 0 rfl rfl, rfl⟩) (.tmp rfl .nil)))) (fun w_ hM => ?_)
    have hij : i = j := Nat.le_antisymm hI (Nat.not_lt.1 fun hlt => hmin i hlt (by simpa [Acc] using hc3))
    refine ⟨?_, hM.done⟩
    subst hij
    rfl
  · --
    refine st_skip ?_
    refine fin_block ?_
    have hlt : i < j := Nat.lt_of_le_of_ne hI fun e => of_decide_eq_false hc3 (by rw [e]; exact hacc)
    refine fin_round (i + 1) (by exact hlt) (by omega) (look_has ⟨rfl, rfl, rfl, rfl, trivial⟩) (fun w_ hM => by exact hM)
theorem Number1_st (s g : Int) (i : Nat) (w : World) : Calls Try.prog 32 #[.agg #[.int .u64 s, .int .u64 g], .int .i64 (cnt i)] w fun e w' => e = .returned (.int .u64 (mixv (st s g (i + 1)))) ∧ Below w.heap.size w w' := by
  have h := Number1_calls s g (cnt i) w
  rw [st_at s g (cnt i) (i + 1) (cnt_mod i), scrv_eq (st_lo _ _ _) (st_hi _ _ _)] at h
  exact h
theorem Behind_st (s g : Int) (i : Nat) (w : World) : Calls Try.prog 18 #[.agg #[.int .u64 s, .int .u64 g], .int .i64 (cnt i)] w fun e w' => e = .returned (.agg #[.int .u64 (st s g (i + 1)), .int .u64 g]) ∧ Below w.heap.size w w' := by
  have h := Behind_calls s g (cnt i) w
  rw [st_at s g (cnt i) (i + 1) (cnt_mod i)] at h
  exact h
set_option maxRecDepth 100000 in
theorem Under_calls (s g n : Int) (w : World) (j : Nat) (h : 1 ≤ n) (h1 : n ≤ 9223372036854775807) (hacc : Acc n (mixv (st s g (j + 1)))) (hmin : ∀ i, i < j → ¬ Acc n (mixv (st s g (i + 1)))) : Calls Try.prog 17 #[.agg #[.int .u64 s, .int .u64 g], .int .i64 n] w fun e w' => e = .returned (.tuple #[.int .i64 (IntKind.i64.wrap (Int.tmod (mixv (st s g (j + 1))) n)), .int .i64 (cnt j)]) ∧ Below w.heap.size w w' := by
  have hm : IntKind.u64.wrap n = n := w64_in (by omega) (by omega)
  have h1' : n < 9223372036854775808 := by omega
  have hacc' := (acc_iff h h1' (mixv_lo _) (mixv_hi _)).1 hacc
  refine sx_calls Try.func17 rfl (n := 33) (by kernel_rfl) (l := [(0, .agg #[.int .u64 s, .int .u64 g]), (1, .int .i64 n)]) rfl (by rfl) (Mem.nil w) ?_
  refine st_seq ?_
  refine st_region [(0, false), (1, false), (2, false)] (by rfl) ?_
  refine ops_new (d := some 2) (o := .cells #[.int .u64 s, .int .u64 g] 27) (v := fun b1 => .pointer (some ⟨b1, 0, none⟩)) (M' := fun b1 => Mem w [.blk b1 [.int .u64 s, .int .u64 g] 27]) (fun b1 => ⟨by kernel_rfl⟩) (fun w_ hM hS => ⟨hM.blk [.int .u64 s, .int .u64 g] 27, trivial⟩) (fun b1 => ?_)
  refine ops_run (is := [(1, false), (2, false)]) (r := []) (l' := [(2, .pointer (some ⟨b1, 0, none⟩)), (1, .int .i64 n)]) [2, 1] (by kernel_rfl) ?_
  refine ops_nil ?_
  refine fin_then ?_
  refine st_seq ?_
  refine st_region [(0, false), (1, false), (2, false)] (by rfl) ?_
  refine ops_run (is := [(0, false), (1, false), (2, false)]) (r := []) (l' := [(6, .int .u64 (IntKind.u64.wrap n)), (2, .pointer (some ⟨b1, 0, none⟩))]) [6, 2] (by kernel_rfl) ?_
  refine ops_conv (l' := [(6, .int .u64 n), (2, .pointer (some ⟨b1, 0, none⟩))]) (by rw [hm]) (fun _ h => h) ?_
  refine ops_nil ?_
  refine fin_then ?_
  refine st_seq ?_
  refine st_region [(0, false)] (by rfl) ?_
  refine ops_run (is := [(0, false)]) (r := []) (l' := [(7, .int .i64 1), (6, .int .u64 n), (2, .pointer (some ⟨b1, 0, none⟩))]) [7, 6, 2] (by kernel_rfl) ?_
  refine ops_nil ?_
  refine fin_then ?_
  refine st_block ?_
  refine st_loop (σ := Nat) 0 (fun i => [(7, .int .i64 (cnt i)), (6, .int .u64 n), (2, .pointer (some ⟨b1, 0, none⟩))]) (fun i => Mem w [.blk b1 [.int .u64 s, .int .u64 g] 27]) (fun i => i ≤ j) (fun i => j - i) (by exact Nat.zero_le j) (look_has ⟨rfl, rfl, rfl, trivial⟩) (fun w_ hM => by exact hM) ?_
  rintro i hI
  have hI : i ≤ j := hI
  refine st_seq ?_
  refine st_block ?_
  refine st_seq ?_
  refine st_region [(0, false), (1, false), (2, false), (3, false)] (by rfl) ?_
  refine ops_mem (d := some 14) (an := [.v (.int .u64 s), .v (.int .u64 g)]) (evs := [.load ⟨b1, 0, none⟩ (.int .u64 s), .load ⟨b1, 1, none⟩ (.int .u64 g)]) (v := .agg #[.int .u64 s, .int .u64 g]) (M' := Mem w [.blk b1 [.int .u64 s, .int .u64 g] 27]) ⟨by kernel_rfl⟩ (fun w_ hM hS => ⟨w_, ⟨hM.cell 0 rfl rfl, hM.cell 0 rfl rfl, rfl⟩, hM, trivial⟩) ?_
  refine ops_run (is := [(1, false)]) (r := [(2, false), (3, false)]) (l' := [(15, .int .i64 (cnt i)), (14, .agg #[.int .u64 s, .int .u64 g]), (7, .int .i64 (cnt i)), (6, .int .u64 n), (2, .pointer (some ⟨b1, 0, none⟩))]) [15, 14, 7, 6, 2] (by kernel_rfl) ?_
  refine ops_call (σ := Unit) (d := some 16) (f := 32) (args := #[.agg #[.int .u64 s, .int .u64 g], .int .i64 (cnt i)]) (v := fun _ => .int .u64 (mixv (st s g (i + 1)))) (M' := fun _ => Mem w [.blk b1 [.int .u64 s, .int .u64 g] 27]) ⟨by kernel_rfl⟩ (fun w_ hM hS => (Number1_st s g i w_).mono (by rintro e w' ⟨rfl, hb⟩; exact ⟨(), rfl, hM.step hb, trivial⟩)) (fun _ => ?_)
  refine ops_run (is := [(3, false)]) (r := []) (l' := [(8, .int .u64 (mixv (st s g (i + 1)))), (7, .int .i64 (cnt i)), (6, .int .u64 n), (2, .pointer (some ⟨b1, 0, none⟩))]) [8, 7, 6, 2] (by kernel_rfl) ?_
  refine ops_nil ?_
  refine fin_then ?_
  refine st_seq ?_
  refine st_region [(0, false), (1, false), (2, false), (3, false), (4, false), (5, false)] (by rfl) ?_
  refine ops_run (is := [(0, false), (1, false), (2, false)]) (r := [(3, false), (4, false), (5, false)]) (l' := [(19, .int .u64 n), (18, .int .u64 (mixv (st s g (i + 1)))), (17, .int .u64 (mixv (st s g (i + 1)))), (8, .int .u64 (mixv (st s g (i + 1)))), (7, .int .i64 (cnt i)), (6, .int .u64 n), (2, .pointer (some ⟨b1, 0, none⟩))]) [19, 18, 17, 8, 7, 6, 2] (by kernel_rfl) ?_
  refine ops_val (op := (Go.Op.binOp Go.BinOp.rem 25 (Go.Operand.tmp 18) (Go.Operand.tmp 19) 25)) (d := some 20) (v := .int .u64 (Int.tmod (mixv (st s g (i + 1))) n)) ⟨by kernel_rfl⟩ (run_rem rfl rfl (by omega)) ?_
  refine ops_run (is := [(4, false), (5, false)]) (r := []) (l' := [(9, .int .u64 (IntKind.u64.wrap (mixv (st s g (i + 1)) - Int.tmod (mixv (st s g (i + 1))) n))), (8, .int .u64 (mixv (st s g (i + 1)))), (7, .int .i64 (cnt i)), (6, .int .u64 n), (2, .pointer (some ⟨b1, 0, none⟩))]) [9, 8, 7, 6, 2] (by kernel_rfl) ?_
  refine ops_nil ?_
  refine fin_then ?_
  refine st_seq ?_
  refine st_region [(0, false), (1, false), (2, false), (3, false), (4, false), (5, false)] (by rfl) ?_
  refine ops_run (is := [(0, false), (1, false), (2, false), (3, false), (4, false), (5, false)]) (r := []) (l' := [(27, .bool (decide (IntKind.u64.wrap (mixv (st s g (i + 1)) - Int.tmod (mixv (st s g (i + 1))) n) ≤ IntKind.u64.wrap (IntKind.u64.wrap (mixv (st s g (i + 1)) - Int.tmod (mixv (st s g (i + 1))) n) + IntKind.u64.wrap (n - 1))))), (8, .int .u64 (mixv (st s g (i + 1)))), (7, .int .i64 (cnt i)), (6, .int .u64 n), (2, .pointer (some ⟨b1, 0, none⟩))]) [27, 8, 7, 6, 2] (by kernel_rfl) ?_
  refine ops_nil ?_
  refine fin_then ?_
  refine st_if (b := decide (IntKind.u64.wrap (mixv (st s g (i + 1)) - Int.tmod (mixv (st s g (i + 1))) n) ≤ IntKind.u64.wrap (IntKind.u64.wrap (mixv (st s g (i + 1)) - Int.tmod (mixv (st s g (i + 1))) n) + IntKind.u64.wrap (n - 1)))) rfl (fun hc2 => ?_) (fun hc2 => ?_)
  · --
    refine st_seq ?_
    refine st_region [(0, false), (1, false), (2, false), (3, false), (4, false), (5, false), (6, false)] (by rfl) ?_
    refine ops_run (is := [(0, false), (1, false)]) (r := [(2, false), (3, false), (4, false), (5, false), (6, false)]) (l' := [(29, .int .u64 n), (28, .int .u64 (mixv (st s g (i + 1)))), (7, .int .i64 (cnt i))]) [29, 28, 7] (by kernel_rfl) ?_
    refine ops_val (op := (Go.Op.binOp Go.BinOp.rem 25 (Go.Operand.tmp 28) (Go.Operand.tmp 29) 25)) (d := some 30) (v := .int .u64 (Int.tmod (mixv (st s g (i + 1))) n)) ⟨by kernel_rfl⟩ (run_rem rfl rfl (by omega)) ?_
    refine ops_run (is := [(3, false), (4, false), (5, false), (6, false)]) (r := []) (l' := [(5, .int .i64 (cnt i)), (4, .int .i64 (IntKind.i64.wrap (Int.tmod (mixv (st s g (i + 1))) n)))]) [5, 4] (by kernel_rfl) ?_
    refine ops_nil ?_
    refine fin_then ?_
    refine st_ret ?_
    refine fin_ret_block ?_
    refine fin_ret_then ?_
    refine fin_ret_then ?_
    refine fin_ret_block ?_
    refine fin_ret [.tmp 4, .tmp 5] [.int .i64 (IntKind.i64.wrap (Int.tmod (mixv (st s g (i + 1))) n)), .int .i64 (cnt i)] rfl rfl (fun w_ hM => (.tmp rfl (.tmp rfl .nil))) (fun w_ hM => ?_)
    have hij : i = j := Nat.le_antisymm hI (Nat.not_lt.1 fun hlt => hmin i hlt ((acc_iff h h1' (mixv_lo _) (mixv_hi _)).2 (of_decide_eq_true hc2)))
    refine ⟨?_, hM.done⟩
    subst hij
    rfl
  · --
    refine st_skip ?_
    refine fin_block ?_
    refine fin_then ?_
    refine st_region [(0, false), (1, false), (2, false)] (by rfl) ?_
    refine ops_run (is := [(0, false), (1, false), (2, false)]) (r := []) (l' := [(7, .int .i64 (IntKind.i64.wrap (cnt i + 1))), (6, .int .u64 n), (2, .pointer (some ⟨b1, 0, none⟩))]) [7, 6, 2] (by kernel_rfl) ?_
    refine ops_conv (l' := [(7, .int .i64 (cnt (i + 1))), (6, .int .u64 n), (2, .pointer (some ⟨b1, 0, none⟩))]) (by rw [cnt_succ]) (fun _ h => h) ?_
    refine ops_nil ?_
    have hlt : i < j := Nat.lt_of_le_of_ne hI fun e => of_decide_eq_false hc2 (by rw [e]; exact hacc')
    refine fin_round (i + 1) (by exact hlt) (by omega) (look_has ⟨rfl, rfl, rfl, trivial⟩) (fun w_ hM => by exact hM)
theorem Below_begun (w : World) : Calls Try.prog 16 #[.agg #[.int .u64 (mixv (IntKind.u64.wrap 1)), .int .u64 11400714819323198485], .int .i64 1] w fun e w' => e = .returned (.tuple #[.int .i64 0, .agg #[.int .u64 (st (mixv (IntKind.u64.wrap 1)) 11400714819323198485 1), .int .u64 11400714819323198485], .int .i64 0]) ∧ Below w.heap.size w w' := by
  have h := Below_calls (mixv (IntKind.u64.wrap 1)) 11400714819323198485 1 w 0 (by omega) (by omega) (by decide) (mixv_lo _) (mixv_hi _) (by decide +kernel) (fun i hi => absurd hi (Nat.not_lt_zero i))
  have e : IntKind.i64.wrap (Int.tmod (mixv (st (mixv (IntKind.u64.wrap 1)) 11400714819323198485 (0 + 1))) 1) = 0 := by decide +kernel
  rw [e] at h
  exact h
set_option maxRecDepth 100000 in
theorem Begun_calls  (w : World) : Calls Try.prog 15 #[] w fun e w' => e = .returned (.bool true) ∧ Below w.heap.size w w' := by
  refine sx_calls Try.func15 rfl (n := 29) (by kernel_rfl) (l := []) rfl (by rfl) (Mem.nil w) ?_
  refine st_seq ?_
  refine st_region [(0, false)] (by rfl) ?_
  refine ops_run (is := [(0, false)]) (r := []) (l' := []) [] (by kernel_rfl) ?_
  refine ops_nil ?_
  refine fin_then ?_
  refine st_seq ?_
  refine st_region [(0, false), (1, false), (2, false), (3, false), (4, false), (5, false), (6, false), (7, false), (8, false), (9, false)] (by rfl) ?_
  refine ops_call (σ := Unit) (d := some 5) (f := 35) (args := #[.int .i64 1]) (v := fun _ => .agg #[.int .u64 (mixv (IntKind.u64.wrap 1)), .int .u64 11400714819323198485]) (M' := fun _ => Mem w []) ⟨by kernel_rfl⟩ (fun w_ hM hS => (New_calls 1 w_).mono (by rintro e w' ⟨rfl, hb⟩; exact ⟨(), rfl, hM.step hb, trivial⟩)) (fun _ => ?_)
  refine ops_run (is := []) (r := [(1, false), (2, false), (3, false), (4, false), (5, false), (6, false), (7, false), (8, false), (9, false)]) (l' := [(5, .agg #[.int .u64 (mixv (IntKind.u64.wrap 1)), .int .u64 11400714819323198485])]) [5] (by kernel_rfl) ?_
  refine ops_call (σ := Unit) (d := some 6) (f := 16) (args := #[.agg #[.int .u64 (mixv (IntKind.u64.wrap 1)), .int .u64 11400714819323198485], .int .i64 1]) (v := fun _ => .tuple #[.int .i64 0, .agg #[.int .u64 (st (mixv (IntKind.u64.wrap 1)) 11400714819323198485 1), .int .u64 11400714819323198485], .int .i64 0]) (M' := fun _ => Mem w []) ⟨by kernel_rfl⟩ (fun w_ hM hS => (Below_begun w_).mono (by rintro e w' ⟨rfl, hb⟩; exact ⟨(), rfl, hM.step hb, trivial⟩)) (fun _ => ?_)
  refine ops_run (is := [(2, false), (3, false), (4, false), (5, false)]) (r := [(6, false), (7, false), (8, false), (9, false)]) (l' := [(9, .int .i64 0), (8, .agg #[.int .u64 (st (mixv (IntKind.u64.wrap 1)) 11400714819323198485 1), .int .u64 11400714819323198485]), (7, .int .i64 0)]) [9, 8, 7] (by kernel_rfl) ?_
  refine ops_new (d := some 2) (o := .cells #[.int .u64 0, .int .u64 0] 27) (v := fun b1 => .pointer (some ⟨b1, 0, none⟩)) (M' := fun b1 => Mem w [.blk b1 [.int .u64 0, .int .u64 0] 27]) (fun b1 => ⟨by kernel_rfl⟩) (fun w_ hM hS => ⟨hM.blk [.int .u64 0, .int .u64 0] 27, trivial⟩) (fun b1 => ?_)
  refine ops_run (is := [(7, false)]) (r := [(8, false), (9, false)]) (l' := [(1, .int .i64 0), (2, .pointer (some ⟨b1, 0, none⟩)), (9, .int .i64 0), (8, .agg #[.int .u64 (st (mixv (IntKind.u64.wrap 1)) 11400714819323198485 1), .int .u64 11400714819323198485])]) [1, 2, 9, 8] (by kernel_rfl) ?_
  refine ops_store (an := []) (evs := [.store ⟨b1, 0, none⟩ (.int .u64 (st (mixv (IntKind.u64.wrap 1)) 11400714819323198485 1)), .store ⟨b1, 1, none⟩ (.int .u64 11400714819323198485)]) (M' := Mem w [.blk b1 [.int .u64 (st (mixv (IntKind.u64.wrap 1)) 11400714819323198485 1), .int .u64 11400714819323198485] 27]) ⟨by kernel_rfl⟩ (fun w_ hM hS => let ⟨w', he, h'⟩ := hM.evs_stores [.int .u64 (st (mixv (IntKind.u64.wrap 1)) 11400714819323198485 1), .int .u64 11400714819323198485] 0 rfl 0 (Nat.le_of_ble_eq_true rfl); ⟨w', he, h', trivial⟩) ?_
  refine ops_run (is := [(9, false)]) (r := []) (l' := [(3, .int .i64 0), (1, .int .i64 0), (2, .pointer (some ⟨b1, 0, none⟩))]) [3, 1, 2] (by kernel_rfl) ?_
  refine ops_nil ?_
  refine fin_then ?_
  refine st_seq ?_
  refine st_region_draw [(0, true), (1, true), (2, true), (3, true), (4, true), (5, true), (6, true), (7, true), (8, true), (9, false), (10, true), (11, true), (12, true), (13, true), (14, true), (15, true), (16, true), (17, true), (18, true), (19, true)] (Mem w [.blk b1 [.int .u64 (st (mixv (IntKind.u64.wrap 1)) 11400714819323198485 1), .int .u64 11400714819323198485] 27]) (by kernel_rfl) (by kernel_rfl) (by kernel_rfl) (fun _ d _ _ _ h => by cases d <;> exact h) (M' := Mem w [.blk b1 [.int .u64 (st (mixv (IntKind.u64.wrap 1)) 11400714819323198485 1), .int .u64 11400714819323198485] 27]) (fun w_ hM => ⟨hM.drew, hM.drew.sub (by simp)⟩) ?_
  refine ops_run (is := [(0, true), (1, true), (2, true), (3, true), (4, true), (5, true), (6, true), (7, true)]) (r := [(8, true), (9, false), (10, true), (11, true), (12, true), (13, true), (14, true), (15, true), (16, true), (17, true), (18, true), (19, true)]) (l' := [(17, .pointer (some ⟨b1, 1, none⟩)), (16, .bool true), (2, .pointer (some ⟨b1, 0, none⟩))]) [17, 16, 2] (by kernel_rfl) ?_
  refine ops_load (d := some 18) (an := [.v (.int .u64 11400714819323198485)]) (evs := [.load ⟨b1, 1, none⟩ (.int .u64 11400714819323198485)]) (v := .int .u64 11400714819323198485) ⟨by kernel_rfl⟩ (fun w_ hM => ⟨hM.cell 0 rfl rfl, rfl⟩) ?_
  refine ops_run (is := []) (r := [(9, false), (10, true), (11, true), (12, true), (13, true), (14, true), (15, true), (16, true), (17, true), (18, true), (19, true)]) (l' := [(18, .int .u64 11400714819323198485), (16, .bool true), (2, .pointer (some ⟨b1, 0, none⟩))]) [18, 16, 2] (by kernel_rfl) ?_
  refine ops_call (σ := Unit) (d := some 19) (f := 35) (args := #[.int .i64 1]) (v := fun _ => .agg #[.int .u64 (mixv (IntKind.u64.wrap 1)), .int .u64 11400714819323198485]) (M' := fun _ => Mem w [.blk b1 [.int .u64 (st (mixv (IntKind.u64.wrap 1)) 11400714819323198485 1), .int .u64 11400714819323198485] 27]) ⟨by kernel_rfl⟩ (fun w_ hM hS => (New_calls 1 w_).mono (by rintro e w' ⟨rfl, hb⟩; exact ⟨(), rfl, hM.step hb, hS.step hb⟩)) (fun _ => ?_)
  refine ops_run (is := [(10, true), (11, true), (12, true), (13, true), (14, true)]) (r := [(15, true), (16, true), (17, true), (18, true), (19, true)]) (l' := [(24, .pointer (some ⟨b1, 1, none⟩)), (23, .bool true)]) [24, 23] (by kernel_rfl) ?_
  refine ops_load (d := some 25) (an := [.v (.int .u64 11400714819323198485)]) (evs := [.load ⟨b1, 1, none⟩ (.int .u64 11400714819323198485)]) (v := .int .u64 11400714819323198485) ⟨by kernel_rfl⟩ (fun w_ hM => ⟨hM.cell 0 rfl rfl, rfl⟩) ?_
  refine ops_run (is := [(16, true), (17, true), (18, true), (19, true)]) (r := []) (l' := [(0, .bool true)]) [0] (by kernel_rfl) ?_
  refine ops_nil ?_
  refine fin_then ?_
  refine st_ret ?_
  refine fin_ret [.tmp 0] [.bool true] rfl rfl (fun w_ hM => (.tmp rfl .nil)) (fun w_ hM => ?_)
  refine ⟨?_, hM.done⟩
  rfl
theorem eqA27 (d : Nat) (w : World) (x0 y0 : Int) (x1 y1 : Int) :
    (Op.equalIn (d + 2) 27 (.agg #[.int .u64 x0, .int .u64 x1]) (.agg #[.int .u64 y0, .int .u64 y1])).run Try.prog w = .ok (x0 == y0 && (x1 == y1)) w := by
  refine eqA_of Try.underlying27 (by kernel_rfl) ?_
  refine eqf_cons (by rfl) (by go_simp; rfl) (by go_simp; rfl) (by go_simp) ?_
  exact eqf_last (by rfl) (by go_simp; rfl) (by go_simp; rfl) (by go_simp)
set_option maxRecDepth 100000 in
theorem RndBelows_small (s g n : Int) (w : World) (h : n < 1) : Calls Try.prog 4 #[.agg #[.int .u64 s, .int .u64 g], .int .i64 n] w fun e w' => e = .returned (.bool true) ∧ Below w.heap.size w w' := by
  have hk1 : decide (n < 1) = true := by simpa using h
  refine sx_calls Try.func4 rfl (n := 58) (by kernel_rfl) (l := [(0, .agg #[.int .u64 s, .int .u64 g]), (1, .int .i64 n)]) rfl (by rfl) (Mem.nil w) ?_
  refine st_seq ?_
  refine st_region [(0, false), (1, false)] (by rfl) ?_
  refine ops_new (d := some 2) (o := .cells #[.int .u64 s, .int .u64 g] 27) (v := fun b1 => .pointer (some ⟨b1, 0, none⟩)) (M' := fun b1 => Mem w [.blk b1 [.int .u64 s, .int .u64 g] 27]) (fun b1 => ⟨by kernel_rfl⟩) (fun w_ hM hS => ⟨hM.blk [.int .u64 s, .int .u64 g] 27, trivial⟩) (fun b1 => ?_)
  refine ops_run (is := [(1, false)]) (r := []) (l' := [(2, .pointer (some ⟨b1, 0, none⟩)), (1, .int .i64 n)]) [2, 1] (by kernel_rfl) ?_
  refine ops_nil ?_
  refine fin_then ?_
  refine st_seq ?_
  refine st_seq ?_
  refine st_region [(0, false), (1, false)] (by rfl) ?_
  refine ops_call (σ := Unit) (d := some 10) (f := 15) (args := #[]) (v := fun _ => .bool true) (M' := fun _ => Mem w [.blk b1 [.int .u64 s, .int .u64 g] 27]) ⟨by kernel_rfl⟩ (fun w_ hM hS => (Begun_calls w_).mono (by rintro e w' ⟨rfl, hb⟩; exact ⟨(), rfl, hM.step hb, trivial⟩)) (fun _ => ?_)
  refine ops_run (is := [(1, false)]) (r := []) (l' := [(11, .bool false), (2, .pointer (some ⟨b1, 0, none⟩)), (1, .int .i64 n)]) [11, 2, 1] (by kernel_rfl) ?_
  refine ops_nil ?_
  refine fin_then ?_
  refine st_false rfl ?_
  refine st_skip ?_
  refine fin_then ?_
  refine st_seq ?_
  refine st_region [(0, false), (1, false), (2, false), (3, false), (4, false), (5, false), (6, false), (7, false), (8, false), (9, false), (10, false)] (by rfl) ?_
  refine ops_run (is := []) (r := [(0, false), (1, false), (2, false), (3, false), (4, false), (5, false), (6, false), (7, false), (8, false), (9, false), (10, false)]) (l' := [(2, .pointer (some ⟨b1, 0, none⟩)), (1, .int .i64 n)]) [2, 1] (by kernel_rfl) ?_
  refine ops_mem (d := some 13) (an := [.v (.int .u64 s), .v (.int .u64 g)]) (evs := [.load ⟨b1, 0, none⟩ (.int .u64 s), .load ⟨b1, 1, none⟩ (.int .u64 g)]) (v := .agg #[.int .u64 s, .int .u64 g]) (M' := Mem w [.blk b1 [.int .u64 s, .int .u64 g] 27]) ⟨by kernel_rfl⟩ (fun w_ hM hS => ⟨w_, ⟨hM.cell 0 rfl rfl, hM.cell 0 rfl rfl, rfl⟩, hM, trivial⟩) ?_
  refine ops_run (is := [(1, false)]) (r := [(2, false), (3, false), (4, false), (5, false), (6, false), (7, false), (8, false), (9, false), (10, false)]) (l' := [(14, .int .i64 n), (13, .agg #[.int .u64 s, .int .u64 g]), (2, .pointer (some ⟨b1, 0, none⟩)), (1, .int .i64 n)]) [14, 13, 2, 1] (by kernel_rfl) ?_
  refine ops_call (σ := Unit) (d := some 15) (f := 16) (args := #[.agg #[.int .u64 s, .int .u64 g], .int .i64 n]) (v := fun _ => .tuple #[.int .i64 0, .agg #[.int .u64 0, .int .u64 0], .int .i64 1]) (M' := fun _ => Mem w [.blk b1 [.int .u64 s, .int .u64 g] 27]) ⟨by kernel_rfl⟩ (fun w_ hM hS => (Below_small s g n w_ h).mono (by rintro e w' ⟨rfl, hb⟩; exact ⟨(), rfl, hM.step hb, trivial⟩)) (fun _ => ?_)
  refine ops_run (is := [(3, false), (4, false), (5, false), (6, false)]) (r := [(7, false), (8, false), (9, false), (10, false)]) (l' := [(18, .int .i64 1), (17, .agg #[.int .u64 0, .int .u64 0]), (16, .int .i64 0), (2, .pointer (some ⟨b1, 0, none⟩)), (1, .int .i64 n)]) [18, 17, 16, 2, 1] (by kernel_rfl) ?_
  refine ops_new (d := some 6) (o := .cells #[.int .u64 0, .int .u64 0] 27) (v := fun b2 => .pointer (some ⟨b2, 0, none⟩)) (M' := fun b2 => Mem w [.blk b2 [.int .u64 0, .int .u64 0] 27, .blk b1 [.int .u64 s, .int .u64 g] 27]) (fun b2 => ⟨by kernel_rfl⟩) (fun w_ hM hS => ⟨hM.blk [.int .u64 0, .int .u64 0] 27, trivial⟩) (fun b2 => ?_)
  refine ops_run (is := [(8, false)]) (r := [(9, false), (10, false)]) (l' := [(5, .int .i64 0), (6, .pointer (some ⟨b2, 0, none⟩)), (18, .int .i64 1), (17, .agg #[.int .u64 0, .int .u64 0]), (2, .pointer (some ⟨b1, 0, none⟩)), (1, .int .i64 n)]) [5, 6, 18, 17, 2, 1] (by kernel_rfl) ?_
  refine ops_store (an := []) (evs := [.store ⟨b2, 0, none⟩ (.int .u64 0), .store ⟨b2, 1, none⟩ (.int .u64 0)]) (M' := Mem w [.blk b2 [.int .u64 0, .int .u64 0] 27, .blk b1 [.int .u64 s, .int .u64 g] 27]) ⟨by kernel_rfl⟩ (fun w_ hM hS => let ⟨w', he, h'⟩ := hM.evs_stores [.int .u64 0, .int .u64 0] 0 rfl 0 (Nat.le_of_ble_eq_true rfl); ⟨w', he, h', trivial⟩) ?_
  refine ops_run (is := [(10, false)]) (r := []) (l' := [(7, .int .i64 1), (5, .int .i64 0), (6, .pointer (some ⟨b2, 0, none⟩)), (2, .pointer (some ⟨b1, 0, none⟩)), (1, .int .i64 n)]) [7, 5, 6, 2, 1] (by kernel_rfl) ?_
  refine ops_nil ?_
  refine fin_then ?_
  refine st_seq ?_
  refine st_seq ?_
  refine st_region [(0, false), (1, false), (2, false), (3, false), (4, false), (5, false), (6, false), (7, false)] (by rfl) ?_
  refine ops_run (is := [(0, false), (1, false), (2, false)]) (r := [(3, false), (4, false), (5, false), (6, false), (7, false)]) (l' := [(21, .bool (decide (n < 1))), (7, .int .i64 1), (5, .int .i64 0), (6, .pointer (some ⟨b2, 0, none⟩)), (2, .pointer (some ⟨b1, 0, none⟩)), (1, .int .i64 n)]) [21, 7, 5, 6, 2, 1] (by kernel_rfl) ?_
  refine ops_conv (l' := [(21, .bool true), (7, .int .i64 1), (5, .int .i64 0), (6, .pointer (some ⟨b2, 0, none⟩)), (2, .pointer (some ⟨b1, 0, none⟩)), (1, .int .i64 n)]) (by rw [hk1]) (fun _ h => h) ?_
  refine ops_run (is := [(3, false), (4, false), (5, false), (6, false), (7, false)]) (r := []) (l' := [(26, .bool true), (7, .int .i64 1), (5, .int .i64 0), (6, .pointer (some ⟨b2, 0, none⟩)), (2, .pointer (some ⟨b1, 0, none⟩)), (1, .int .i64 n)]) [26, 7, 5, 6, 2, 1] (by kernel_rfl) ?_
  refine ops_nil ?_
  refine fin_then ?_
  refine st_true rfl ?_
  refine st_seq ?_
  refine st_region [(0, false), (1, false), (2, false), (3, false), (4, false), (5, false), (6, false), (7, false), (8, false), (9, false), (10, false), (11, false)] (by rfl) ?_
  refine ops_run (is := [(0, false), (1, false), (2, false)]) (r := [(3, false), (4, false), (5, false), (6, false), (7, false), (8, false), (9, false), (10, false), (11, false)]) (l' := [(29, .bool true), (7, .int .i64 1), (6, .pointer (some ⟨b2, 0, none⟩))]) [29, 7, 6] (by kernel_rfl) ?_
  refine ops_mem (d := some 30) (an := [.v (.int .u64 0), .v (.int .u64 0)]) (evs := [.load ⟨b2, 0, none⟩ (.int .u64 0), .load ⟨b2, 1, none⟩ (.int .u64 0)]) (v := .agg #[.int .u64 0, .int .u64 0]) (M' := Mem w [.blk b2 [.int .u64 0, .int .u64 0] 27, .blk b1 [.int .u64 s, .int .u64 g] 27]) ⟨by kernel_rfl⟩ (fun w_ hM hS => ⟨w_, ⟨hM.cell 0 rfl rfl, hM.cell 0 rfl rfl, rfl⟩, hM, trivial⟩) ?_
  refine ops_run (is := [(4, false)]) (r := [(5, false), (6, false), (7, false), (8, false), (9, false), (10, false), (11, false)]) (l' := [(31, .agg #[.int .u64 0, .int .u64 0]), (30, .agg #[.int .u64 0, .int .u64 0]), (29, .bool true), (7, .int .i64 1)]) [31, 30, 29, 7] (by kernel_rfl) ?_
  refine ops_val (op := (Go.Op.binOp Go.BinOp.eql 27 (Go.Operand.tmp 30) (Go.Operand.tmp 31) 27)) (d := some 32) (v := .bool true) ⟨by kernel_rfl⟩ (run_eql_agg (r := true) rfl rfl (by kernel_rfl) (fun w => by have h := eqA27 9998 w 0 0 0 0; simpa only [BEq.rfl, Bool.and_true] using h)) ?_
  refine ops_run (is := [(6, false), (7, false), (8, false), (9, false), (10, false), (11, false)]) (r := []) (l' := [(4, .bool true)]) [4] (by kernel_rfl) ?_
  refine ops_nil ?_
  refine fin_then ?_
  refine st_ret ?_
  refine fin_ret_then ?_
  refine fin_ret [.tmp 4] [.bool true] rfl rfl (fun w_ hM => (.tmp rfl .nil)) (fun w_ hM => ?_)
  refine ⟨?_, hM.done⟩
  rfl
set_option maxRecDepth 100000 in
theorem RndBelows_even (s g n : Int) (w : World) (h : 1 ≤ n) (h2 : Int.tmod g 2 = 0) : Calls Try.prog 4 #[.agg #[.int .u64 s, .int .u64 g], .int .i64 n] w fun e w' => e = .returned (.bool true) ∧ Below w.heap.size w w' := by
  have hk1 : decide (n < 1) = false := by simp; omega
  have hk2 : (Int.tmod g 2 == 0) = true := by simp [h2]
  refine sx_calls Try.func4 rfl (n := 58) (by kernel_rfl) (l := [(0, .agg #[.int .u64 s, .int .u64 g]), (1, .int .i64 n)]) rfl (by rfl) (Mem.nil w) ?_
  refine st_seq ?_
  refine st_region [(0, false), (1, false)] (by rfl) ?_
  refine ops_new (d := some 2) (o := .cells #[.int .u64 s, .int .u64 g] 27) (v := fun b1 => .pointer (some ⟨b1, 0, none⟩)) (M' := fun b1 => Mem w [.blk b1 [.int .u64 s, .int .u64 g] 27]) (fun b1 => ⟨by kernel_rfl⟩) (fun w_ hM hS => ⟨hM.blk [.int .u64 s, .int .u64 g] 27, trivial⟩) (fun b1 => ?_)
  refine ops_run (is := [(1, false)]) (r := []) (l' := [(2, .pointer (some ⟨b1, 0, none⟩)), (1, .int .i64 n)]) [2, 1] (by kernel_rfl) ?_
  refine ops_nil ?_
  refine fin_then ?_
  refine st_seq ?_
  refine st_seq ?_
  refine st_region [(0, false), (1, false)] (by rfl) ?_
  refine ops_call (σ := Unit) (d := some 10) (f := 15) (args := #[]) (v := fun _ => .bool true) (M' := fun _ => Mem w [.blk b1 [.int .u64 s, .int .u64 g] 27]) ⟨by kernel_rfl⟩ (fun w_ hM hS => (Begun_calls w_).mono (by rintro e w' ⟨rfl, hb⟩; exact ⟨(), rfl, hM.step hb, trivial⟩)) (fun _ => ?_)
  refine ops_run (is := [(1, false)]) (r := []) (l' := [(11, .bool false), (2, .pointer (some ⟨b1, 0, none⟩)), (1, .int .i64 n)]) [11, 2, 1] (by kernel_rfl) ?_
  refine ops_nil ?_
  refine fin_then ?_
  refine st_false rfl ?_
  refine st_skip ?_
  refine fin_then ?_
  refine st_seq ?_
  refine st_region [(0, false), (1, false), (2, false), (3, false), (4, false), (5, false), (6, false), (7, false), (8, false), (9, false), (10, false)] (by rfl) ?_
  refine ops_run (is := []) (r := [(0, false), (1, false), (2, false), (3, false), (4, false), (5, false), (6, false), (7, false), (8, false), (9, false), (10, false)]) (l' := [(2, .pointer (some ⟨b1, 0, none⟩)), (1, .int .i64 n)]) [2, 1] (by kernel_rfl) ?_
  refine ops_mem (d := some 13) (an := [.v (.int .u64 s), .v (.int .u64 g)]) (evs := [.load ⟨b1, 0, none⟩ (.int .u64 s), .load ⟨b1, 1, none⟩ (.int .u64 g)]) (v := .agg #[.int .u64 s, .int .u64 g]) (M' := Mem w [.blk b1 [.int .u64 s, .int .u64 g] 27]) ⟨by kernel_rfl⟩ (fun w_ hM hS => ⟨w_, ⟨hM.cell 0 rfl rfl, hM.cell 0 rfl rfl, rfl⟩, hM, trivial⟩) ?_
  refine ops_run (is := [(1, false)]) (r := [(2, false), (3, false), (4, false), (5, false), (6, false), (7, false), (8, false), (9, false), (10, false)]) (l' := [(14, .int .i64 n), (13, .agg #[.int .u64 s, .int .u64 g]), (2, .pointer (some ⟨b1, 0, none⟩)), (1, .int .i64 n)]) [14, 13, 2, 1] (by kernel_rfl) ?_
  refine ops_call (σ := Unit) (d := some 15) (f := 16) (args := #[.agg #[.int .u64 s, .int .u64 g], .int .i64 n]) (v := fun _ => .tuple #[.int .i64 0, .agg #[.int .u64 0, .int .u64 0], .int .i64 1]) (M' := fun _ => Mem w [.blk b1 [.int .u64 s, .int .u64 g] 27]) ⟨by kernel_rfl⟩ (fun w_ hM hS => (Below_even s g n w_ h h2).mono (by rintro e w' ⟨rfl, hb⟩; exact ⟨(), rfl, hM.step hb, trivial⟩)) (fun _ => ?_)
  refine ops_run (is := [(3, false), (4, false), (5, false), (6, false)]) (r := [(7, false), (8, false), (9, false), (10, false)]) (l' := [(18, .int .i64 1), (17, .agg #[.int .u64 0, .int .u64 0]), (16, .int .i64 0), (2, .pointer (some ⟨b1, 0, none⟩)), (1, .int .i64 n)]) [18, 17, 16, 2, 1] (by kernel_rfl) ?_
  refine ops_new (d := some 6) (o := .cells #[.int .u64 0, .int .u64 0] 27) (v := fun b2 => .pointer (some ⟨b2, 0, none⟩)) (M' := fun b2 => Mem w [.blk b2 [.int .u64 0, .int .u64 0] 27, .blk b1 [.int .u64 s, .int .u64 g] 27]) (fun b2 => ⟨by kernel_rfl⟩) (fun w_ hM hS => ⟨hM.blk [.int .u64 0, .int .u64 0] 27, trivial⟩) (fun b2 => ?_)
  refine ops_run (is := [(8, false)]) (r := [(9, false), (10, false)]) (l' := [(5, .int .i64 0), (6, .pointer (some ⟨b2, 0, none⟩)), (18, .int .i64 1), (17, .agg #[.int .u64 0, .int .u64 0]), (2, .pointer (some ⟨b1, 0, none⟩)), (1, .int .i64 n)]) [5, 6, 18, 17, 2, 1] (by kernel_rfl) ?_
  refine ops_store (an := []) (evs := [.store ⟨b2, 0, none⟩ (.int .u64 0), .store ⟨b2, 1, none⟩ (.int .u64 0)]) (M' := Mem w [.blk b2 [.int .u64 0, .int .u64 0] 27, .blk b1 [.int .u64 s, .int .u64 g] 27]) ⟨by kernel_rfl⟩ (fun w_ hM hS => let ⟨w', he, h'⟩ := hM.evs_stores [.int .u64 0, .int .u64 0] 0 rfl 0 (Nat.le_of_ble_eq_true rfl); ⟨w', he, h', trivial⟩) ?_
  refine ops_run (is := [(10, false)]) (r := []) (l' := [(7, .int .i64 1), (5, .int .i64 0), (6, .pointer (some ⟨b2, 0, none⟩)), (2, .pointer (some ⟨b1, 0, none⟩)), (1, .int .i64 n)]) [7, 5, 6, 2, 1] (by kernel_rfl) ?_
  refine ops_nil ?_
  refine fin_then ?_
  refine st_seq ?_
  refine st_seq ?_
  refine st_region [(0, false), (1, false), (2, false), (3, false), (4, false), (5, false), (6, false), (7, false)] (by rfl) ?_
  refine ops_run (is := [(0, false), (1, false), (2, false)]) (r := [(3, false), (4, false), (5, false), (6, false), (7, false)]) (l' := [(21, .bool (decide (n < 1))), (7, .int .i64 1), (5, .int .i64 0), (6, .pointer (some ⟨b2, 0, none⟩)), (2, .pointer (some ⟨b1, 0, none⟩)), (1, .int .i64 n)]) [21, 7, 5, 6, 2, 1] (by kernel_rfl) ?_
  refine ops_conv (l' := [(21, .bool false), (7, .int .i64 1), (5, .int .i64 0), (6, .pointer (some ⟨b2, 0, none⟩)), (2, .pointer (some ⟨b1, 0, none⟩)), (1, .int .i64 n)]) (by rw [hk1]) (fun _ h => h) ?_
  refine ops_run (is := [(3, false)]) (r := [(4, false), (5, false), (6, false), (7, false)]) (l' := [(22, .pointer (some ⟨b1, 1, none⟩)), (21, .bool false), (7, .int .i64 1), (5, .int .i64 0), (6, .pointer (some ⟨b2, 0, none⟩)), (2, .pointer (some ⟨b1, 0, none⟩)), (1, .int .i64 n)]) [22, 21, 7, 5, 6, 2, 1] (by kernel_rfl) ?_
  refine ops_mem (d := some 23) (an := [.v (.int .u64 g)]) (evs := [.load ⟨b1, 1, none⟩ (.int .u64 g)]) (v := .int .u64 g) (M' := Mem w [.blk b2 [.int .u64 0, .int .u64 0] 27, .blk b1 [.int .u64 s, .int .u64 g] 27]) ⟨by kernel_rfl⟩ (fun w_ hM hS => ⟨w_, ⟨hM.cell 1 rfl rfl, rfl⟩, hM, trivial⟩) ?_
  refine ops_run (is := [(5, false), (6, false), (7, false)]) (r := []) (l' := [(26, .bool (Int.tmod g 2 == 0)), (7, .int .i64 1), (5, .int .i64 0), (6, .pointer (some ⟨b2, 0, none⟩)), (2, .pointer (some ⟨b1, 0, none⟩)), (1, .int .i64 n)]) [26, 7, 5, 6, 2, 1] (by kernel_rfl) ?_
  refine ops_nil ?_
  refine fin_then ?_
  refine st_conv (l' := [(26, .bool true), (7, .int .i64 1), (5, .int .i64 0), (6, .pointer (some ⟨b2, 0, none⟩)), (2, .pointer (some ⟨b1, 0, none⟩)), (1, .int .i64 n)]) (by rw [hk2]) (fun _ h => h) ?_
  refine st_true rfl ?_
  refine st_seq ?_
  refine st_region [(0, false), (1, false), (2, false), (3, false), (4, false), (5, false), (6, false), (7, false), (8, false), (9, false), (10, false), (11, false)] (by rfl) ?_
  refine ops_run (is := [(0, false), (1, false), (2, false)]) (r := [(3, false), (4, false), (5, false), (6, false), (7, false), (8, false), (9, false), (10, false), (11, false)]) (l' := [(29, .bool true), (7, .int .i64 1), (6, .pointer (some ⟨b2, 0, none⟩))]) [29, 7, 6] (by kernel_rfl) ?_
  refine ops_mem (d := some 30) (an := [.v (.int .u64 0), .v (.int .u64 0)]) (evs := [.load ⟨b2, 0, none⟩ (.int .u64 0), .load ⟨b2, 1, none⟩ (.int .u64 0)]) (v := .agg #[.int .u64 0, .int .u64 0]) (M' := Mem w [.blk b2 [.int .u64 0, .int .u64 0] 27, .blk b1 [.int .u64 s, .int .u64 g] 27]) ⟨by kernel_rfl⟩ (fun w_ hM hS => ⟨w_, ⟨hM.cell 0 rfl rfl, hM.cell 0 rfl rfl, rfl⟩, hM, trivial⟩) ?_
  refine ops_run (is := [(4, false)]) (r := [(5, false), (6, false), (7, false), (8, false), (9, false), (10, false), (11, false)]) (l' := [(31, .agg #[.int .u64 0, .int .u64 0]), (30, .agg #[.int .u64 0, .int .u64 0]), (29, .bool true), (7, .int .i64 1)]) [31, 30, 29, 7] (by kernel_rfl) ?_
  refine ops_val (op := (Go.Op.binOp Go.BinOp.eql 27 (Go.Operand.tmp 30) (Go.Operand.tmp 31) 27)) (d := some 32) (v := .bool true) ⟨by kernel_rfl⟩ (run_eql_agg (r := true) rfl rfl (by kernel_rfl) (fun w => by have h := eqA27 9998 w 0 0 0 0; simpa only [BEq.rfl, Bool.and_true] using h)) ?_
  refine ops_run (is := [(6, false), (7, false), (8, false), (9, false), (10, false), (11, false)]) (r := []) (l' := [(4, .bool true)]) [4] (by kernel_rfl) ?_
  refine ops_nil ?_
  refine fin_then ?_
  refine st_ret ?_
  refine fin_ret_then ?_
  refine fin_ret [.tmp 4] [.bool true] rfl rfl (fun w_ hM => (.tmp rfl .nil)) (fun w_ hM => ?_)
  refine ⟨?_, hM.done⟩
  rfl
set_option maxRecDepth 100000 in
theorem RndBelows_ok (s g n : Int) (w : World) (j : Nat) (h : 1 ≤ n) (h1 : n ≤ 9223372036854775807) (hacc : Acc n (mixv (st s g (j + 1)))) (hmin : ∀ i, i < j → ¬ Acc n (mixv (st s g (i + 1)))) (h2 : Int.tmod g 2 ≠ 0) (hs0 : 0 ≤ s) (hs1 : s < 18446744073709551616) : Calls Try.prog 4 #[.agg #[.int .u64 s, .int .u64 g], .int .i64 n] w fun e w' => e = .returned (.bool true) ∧ Below w.heap.size w w' := by
  have hk1 : decide (n < 1) = false := by simp; omega
  have hk2 : (Int.tmod g 2 == 0) = false := by simp [h2]
  refine sx_calls Try.func4 rfl (n := 58) (by kernel_rfl) (l := [(0, .agg #[.int .u64 s, .int .u64 g]), (1, .int .i64 n)]) rfl (by rfl) (Mem.nil w) ?_
  refine st_seq ?_
  refine st_region [(0, false), (1, false)] (by rfl) ?_
  refine ops_new (d := some 2) (o := .cells #[.int .u64 s, .int .u64 g] 27) (v := fun b1 => .pointer (some ⟨b1, 0, none⟩)) (M' := fun b1 => Mem w [.blk b1 [.int .u64 s, .int .u64 g] 27]) (fun b1 => ⟨by kernel_rfl⟩) (fun w_ hM hS => ⟨hM.blk [.int .u64 s, .int .u64 g] 27, trivial⟩) (fun b1 => ?_)
  refine ops_run (is := [(1, false)]) (r := []) (l' := [(2, .pointer (some ⟨b1, 0, none⟩)), (1, .int .i64 n)]) [2, 1] (by kernel_rfl) ?_
  refine ops_nil ?_
  refine fin_then ?_
  refine st_seq ?_
  refine st_seq ?_
  refine st_region [(0, false), (1, false)] (by rfl) ?_
  refine ops_call (σ := Unit) (d := some 10) (f := 15) (args := #[]) (v := fun _ => .bool true) (M' := fun _ => Mem w [.blk b1 [.int .u64 s, .int .u64 g] 27]) ⟨by kernel_rfl⟩ (fun w_ hM hS => (Begun_calls w_).mono (by rintro e w' ⟨rfl, hb⟩; exact ⟨(), rfl, hM.step hb, trivial⟩)) (fun _ => ?_)
  refine ops_run (is := [(1, false)]) (r := []) (l' := [(11, .bool false), (2, .pointer (some ⟨b1, 0, none⟩)), (1, .int .i64 n)]) [11, 2, 1] (by kernel_rfl) ?_
  refine ops_nil ?_
  refine fin_then ?_
  refine st_false rfl ?_
  refine st_skip ?_
  refine fin_then ?_
  refine st_seq ?_
  refine st_region [(0, false), (1, false), (2, false), (3, false), (4, false), (5, false), (6, false), (7, false), (8, false), (9, false), (10, false)] (by rfl) ?_
  refine ops_run (is := []) (r := [(0, false), (1, false), (2, false), (3, false), (4, false), (5, false), (6, false), (7, false), (8, false), (9, false), (10, false)]) (l' := [(2, .pointer (some ⟨b1, 0, none⟩)), (1, .int .i64 n)]) [2, 1] (by kernel_rfl) ?_
  refine ops_mem (d := some 13) (an := [.v (.int .u64 s), .v (.int .u64 g)]) (evs := [.load ⟨b1, 0, none⟩ (.int .u64 s), .load ⟨b1, 1, none⟩ (.int .u64 g)]) (v := .agg #[.int .u64 s, .int .u64 g]) (M' := Mem w [.blk b1 [.int .u64 s, .int .u64 g] 27]) ⟨by kernel_rfl⟩ (fun w_ hM hS => ⟨w_, ⟨hM.cell 0 rfl rfl, hM.cell 0 rfl rfl, rfl⟩, hM, trivial⟩) ?_
  refine ops_run (is := [(1, false)]) (r := [(2, false), (3, false), (4, false), (5, false), (6, false), (7, false), (8, false), (9, false), (10, false)]) (l' := [(14, .int .i64 n), (13, .agg #[.int .u64 s, .int .u64 g]), (2, .pointer (some ⟨b1, 0, none⟩)), (1, .int .i64 n)]) [14, 13, 2, 1] (by kernel_rfl) ?_
  refine ops_call (σ := Unit) (d := some 15) (f := 16) (args := #[.agg #[.int .u64 s, .int .u64 g], .int .i64 n]) (v := fun _ => .tuple #[.int .i64 (IntKind.i64.wrap (Int.tmod (mixv (st s g (j + 1))) n)), .agg #[.int .u64 (st s g (j + 1)), .int .u64 g], .int .i64 0]) (M' := fun _ => Mem w [.blk b1 [.int .u64 s, .int .u64 g] 27]) ⟨by kernel_rfl⟩ (fun w_ hM hS => (Below_calls s g n w_ j h h1 h2 hs0 hs1 hacc hmin).mono (by rintro e w' ⟨rfl, hb⟩; exact ⟨(), rfl, hM.step hb, trivial⟩)) (fun _ => ?_)
  refine ops_run (is := [(3, false), (4, false), (5, false), (6, false)]) (r := [(7, false), (8, false), (9, false), (10, false)]) (l' := [(18, .int .i64 0), (17, .agg #[.int .u64 (st s g (j + 1)), .int .u64 g]), (16, .int .i64 (IntKind.i64.wrap (Int.tmod (mixv (st s g (j + 1))) n))), (2, .pointer (some ⟨b1, 0, none⟩)), (1, .int .i64 n)]) [18, 17, 16, 2, 1] (by kernel_rfl) ?_
  refine ops_new (d := some 6) (o := .cells #[.int .u64 0, .int .u64 0] 27) (v := fun b2 => .pointer (some ⟨b2, 0, none⟩)) (M' := fun b2 => Mem w [.blk b2 [.int .u64 0, .int .u64 0] 27, .blk b1 [.int .u64 s, .int .u64 g] 27]) (fun b2 => ⟨by kernel_rfl⟩) (fun w_ hM hS => ⟨hM.blk [.int .u64 0, .int .u64 0] 27, trivial⟩) (fun b2 => ?_)
  refine ops_run (is := [(8, false)]) (r := [(9, false), (10, false)]) (l' := [(5, .int .i64 (IntKind.i64.wrap (Int.tmod (mixv (st s g (j + 1))) n))), (6, .pointer (some ⟨b2, 0, none⟩)), (18, .int .i64 0), (17, .agg #[.int .u64 (st s g (j + 1)), .int .u64 g]), (2, .pointer (some ⟨b1, 0, none⟩)), (1, .int .i64 n)]) [5, 6, 18, 17, 2, 1] (by kernel_rfl) ?_
  refine ops_store (an := []) (evs := [.store ⟨b2, 0, none⟩ (.int .u64 (st s g (j + 1))), .store ⟨b2, 1, none⟩ (.int .u64 g)]) (M' := Mem w [.blk b2 [.int .u64 (st s g (j + 1)), .int .u64 g] 27, .blk b1 [.int .u64 s, .int .u64 g] 27]) ⟨by kernel_rfl⟩ (fun w_ hM hS => let ⟨w', he, h'⟩ := hM.evs_stores [.int .u64 (st s g (j + 1)), .int .u64 g] 0 rfl 0 (Nat.le_of_ble_eq_true rfl); ⟨w', he, h', trivial⟩) ?_
  refine ops_run (is := [(10, false)]) (r := []) (l' := [(7, .int .i64 0), (5, .int .i64 (IntKind.i64.wrap (Int.tmod (mixv (st s g (j + 1))) n))), (6, .pointer (some ⟨b2, 0, none⟩)), (2, .pointer (some ⟨b1, 0, none⟩)), (1, .int .i64 n)]) [7, 5, 6, 2, 1] (by kernel_rfl) ?_
  refine ops_nil ?_
  refine fin_then ?_
  refine st_seq ?_
  refine st_seq ?_
  refine st_region [(0, false), (1, false), (2, false), (3, false), (4, false), (5, false), (6, false), (7, false)] (by rfl) ?_
  refine ops_run (is := [(0, false), (1, false), (2, false)]) (r := [(3, false), (4, false), (5, false), (6, false), (7, false)]) (l' := [(21, .bool (decide (n < 1))), (7, .int .i64 0), (5, .int .i64 (IntKind.i64.wrap (Int.tmod (mixv (st s g (j + 1))) n))), (6, .pointer (some ⟨b2, 0, none⟩)), (2, .pointer (some ⟨b1, 0, none⟩)), (1, .int .i64 n)]) [21, 7, 5, 6, 2, 1] (by kernel_rfl) ?_
  refine ops_conv (l' := [(21, .bool false), (7, .int .i64 0), (5, .int .i64 (IntKind.i64.wrap (Int.tmod (mixv (st s g (j + 1))) n))), (6, .pointer (some ⟨b2, 0, none⟩)), (2, .pointer (some ⟨b1, 0, none⟩)), (1, .int .i64 n)]) (by rw [hk1]) (fun _ h => h) ?_
  refine ops_run (is := [(3, false)]) (r := [(4, false), (5, false), (6, false), (7, false)]) (l' := [(22, .pointer (some ⟨b1, 1, none⟩)), (21, .bool false), (7, .int .i64 0), (5, .int .i64 (IntKind.i64.wrap (Int.tmod (mixv (st s g (j + 1))) n))), (6, .pointer (some ⟨b2, 0, none⟩)), (2, .pointer (some ⟨b1, 0, none⟩)), (1, .int .i64 n)]) [22, 21, 7, 5, 6, 2, 1] (by kernel_rfl) ?_
  refine ops_mem (d := some 23) (an := [.v (.int .u64 g)]) (evs := [.load ⟨b1, 1, none⟩ (.int .u64 g)]) (v := .int .u64 g) (M' := Mem w [.blk b2 [.int .u64 (st s g (j + 1)), .int .u64 g] 27, .blk b1 [.int .u64 s, .int .u64 g] 27]) ⟨by kernel_rfl⟩ (fun w_ hM hS => ⟨w_, ⟨hM.cell 1 rfl rfl, rfl⟩, hM, trivial⟩) ?_
  refine ops_run (is := [(5, false), (6, false), (7, false)]) (r := []) (l' := [(26, .bool (Int.tmod g 2 == 0)), (7, .int .i64 0), (5, .int .i64 (IntKind.i64.wrap (Int.tmod (mixv (st s g (j + 1))) n))), (6, .pointer (some ⟨b2, 0, none⟩)), (2, .pointer (some ⟨b1, 0, none⟩)), (1, .int .i64 n)]) [26, 7, 5, 6, 2, 1] (by kernel_rfl) ?_
  refine ops_nil ?_
  refine fin_then ?_
  refine st_conv (l' := [(26, .bool false), (7, .int .i64 0), (5, .int .i64 (IntKind.i64.wrap (Int.tmod (mixv (st s g (j + 1))) n))), (6, .pointer (some ⟨b2, 0, none⟩)), (2, .pointer (some ⟨b1, 0, none⟩)), (1, .int .i64 n)]) (by rw [hk2]) (fun _ h => h) ?_
  refine st_false rfl ?_
  refine st_skip ?_
  refine fin_then ?_
  refine st_seq ?_
  refine st_region [(0, false), (1, false), (2, false), (3, false), (4, false), (5, false), (6, false), (7, false)] (by rfl) ?_
  refine ops_run (is := []) (r := [(0, false), (1, false), (2, false), (3, false), (4, false), (5, false), (6, false), (7, false)]) (l' := [(7, .int .i64 0), (5, .int .i64 (IntKind.i64.wrap (Int.tmod (mixv (st s g (j + 1))) n))), (6, .pointer (some ⟨b2, 0, none⟩)), (2, .pointer (some ⟨b1, 0, none⟩)), (1, .int .i64 n)]) [7, 5, 6, 2, 1] (by kernel_rfl) ?_
  refine ops_mem (d := some 39) (an := [.v (.int .u64 s), .v (.int .u64 g)]) (evs := [.load ⟨b1, 0, none⟩ (.int .u64 s), .load ⟨b1, 1, none⟩ (.int .u64 g)]) (v := .agg #[.int .u64 s, .int .u64 g]) (M' := Mem w [.blk b2 [.int .u64 (st s g (j + 1)), .int .u64 g] 27, .blk b1 [.int .u64 s, .int .u64 g] 27]) ⟨by kernel_rfl⟩ (fun w_ hM hS => ⟨w_, ⟨hM.cell 1 rfl rfl, hM.cell 1 rfl rfl, rfl⟩, hM, trivial⟩) ?_
  refine ops_run (is := [(1, false)]) (r := [(2, false), (3, false), (4, false), (5, false), (6, false), (7, false)]) (l' := [(40, .int .i64 n), (39, .agg #[.int .u64 s, .int .u64 g]), (7, .int .i64 0), (5, .int .i64 (IntKind.i64.wrap (Int.tmod (mixv (st s g (j + 1))) n))), (6, .pointer (some ⟨b2, 0, none⟩)), (2, .pointer (some ⟨b1, 0, none⟩))]) [40, 39, 7, 5, 6, 2] (by kernel_rfl) ?_
  refine ops_call (σ := Unit) (d := some 41) (f := 17) (args := #[.agg #[.int .u64 s, .int .u64 g], .int .i64 n]) (v := fun _ => .tuple #[.int .i64 (IntKind.i64.wrap (Int.tmod (mixv (st s g (j + 1))) n)), .int .i64 (cnt j)]) (M' := fun _ => Mem w [.blk b2 [.int .u64 (st s g (j + 1)), .int .u64 g] 27, .blk b1 [.int .u64 s, .int .u64 g] 27]) ⟨by kernel_rfl⟩ (fun w_ hM hS => (Under_calls s g n w_ j h h1 hacc hmin).mono (by rintro e w' ⟨rfl, hb⟩; exact ⟨(), rfl, hM.step hb, trivial⟩)) (fun _ => ?_)
  refine ops_run (is := [(3, false), (4, false), (5, false), (6, false), (7, false)]) (r := []) (l' := [(9, .int .i64 (cnt j)), (8, .int .i64 (IntKind.i64.wrap (Int.tmod (mixv (st s g (j + 1))) n))), (7, .int .i64 0), (5, .int .i64 (IntKind.i64.wrap (Int.tmod (mixv (st s g (j + 1))) n))), (6, .pointer (some ⟨b2, 0, none⟩)), (2, .pointer (some ⟨b1, 0, none⟩))]) [9, 8, 7, 5, 6, 2] (by kernel_rfl) ?_
  refine ops_nil ?_
  refine fin_then ?_
  refine st_seq ?_
  refine st_region_draw [(0, true), (1, true), (2, true), (3, true), (4, true), (5, true), (6, true), (7, true), (8, true), (9, true), (10, true), (11, false), (12, true), (13, true), (14, true)] (Mem w [.blk b2 [.int .u64 (st s g (j + 1)), .int .u64 g] 27, .blk b1 [.int .u64 s, .int .u64 g] 27]) (by kernel_rfl) (by kernel_rfl) (by kernel_rfl) (fun _ d _ _ _ h => by cases d <;> exact h) (M' := Mem w [.blk b2 [.int .u64 (st s g (j + 1)), .int .u64 g] 27, .blk b1 [.int .u64 s, .int .u64 g] 27]) (fun w_ hM => ⟨hM.drew, hM.drew.sub (by simp)⟩) ?_
  refine ops_run (is := [(0, true), (1, true), (2, true), (3, true), (4, true)]) (r := [(5, true), (6, true), (7, true), (8, true), (9, true), (10, true), (11, false), (12, true), (13, true), (14, true)]) (l' := [(48, .int .i64 (IntKind.i64.wrap (Int.tmod (mixv (st s g (j + 1))) n))), (47, .int .i64 (IntKind.i64.wrap (Int.tmod (mixv (st s g (j + 1))) n))), (46, .bool true), (9, .int .i64 (cnt j)), (6, .pointer (some ⟨b2, 0, none⟩)), (2, .pointer (some ⟨b1, 0, none⟩))]) [48, 47, 46, 9, 6, 2] (by kernel_rfl) ?_
  refine ops_val (op := (Go.Op.binOp Go.BinOp.eql 3 (Go.Operand.tmp 47) (Go.Operand.tmp 48) 3)) (d := some 49) (v := .bool true) ⟨by kernel_rfl⟩ (run_eql_same rfl rfl) ?_
  refine ops_run (is := [(6, true), (7, true)]) (r := [(8, true), (9, true), (10, true), (11, false), (12, true), (13, true), (14, true)]) (l' := [(51, .bool true), (9, .int .i64 (cnt j)), (6, .pointer (some ⟨b2, 0, none⟩)), (2, .pointer (some ⟨b1, 0, none⟩))]) [51, 9, 6, 2] (by kernel_rfl) ?_
  refine ops_load (d := some 52) (an := [.v (.int .u64 (st s g (j + 1))), .v (.int .u64 g)]) (evs := [.load ⟨b2, 0, none⟩ (.int .u64 (st s g (j + 1))), .load ⟨b2, 1, none⟩ (.int .u64 g)]) (v := .agg #[.int .u64 (st s g (j + 1)), .int .u64 g]) ⟨by kernel_rfl⟩ (fun w_ hM => ⟨hM.cell 0 rfl rfl, hM.cell 0 rfl rfl, rfl⟩) ?_
  refine ops_run (is := []) (r := [(9, true), (10, true), (11, false), (12, true), (13, true), (14, true)]) (l' := [(52, .agg #[.int .u64 (st s g (j + 1)), .int .u64 g]), (51, .bool true), (9, .int .i64 (cnt j)), (2, .pointer (some ⟨b1, 0, none⟩))]) [52, 51, 9, 2] (by kernel_rfl) ?_
  refine ops_load (d := some 53) (an := [.v (.int .u64 s), .v (.int .u64 g)]) (evs := [.load ⟨b1, 0, none⟩ (.int .u64 s), .load ⟨b1, 1, none⟩ (.int .u64 g)]) (v := .agg #[.int .u64 s, .int .u64 g]) ⟨by kernel_rfl⟩ (fun w_ hM => ⟨hM.cell 1 rfl rfl, hM.cell 1 rfl rfl, rfl⟩) ?_
  refine ops_run (is := [(10, true)]) (r := [(11, false), (12, true), (13, true), (14, true)]) (l' := [(54, .int .i64 (cnt j)), (53, .agg #[.int .u64 s, .int .u64 g]), (52, .agg #[.int .u64 (st s g (j + 1)), .int .u64 g]), (51, .bool true)]) [54, 53, 52, 51] (by kernel_rfl) ?_
  refine ops_call (σ := Unit) (d := some 55) (f := 18) (args := #[.agg #[.int .u64 s, .int .u64 g], .int .i64 (cnt j)]) (v := fun _ => .agg #[.int .u64 (st s g (j + 1)), .int .u64 g]) (M' := fun _ => Mem w [.blk b2 [.int .u64 (st s g (j + 1)), .int .u64 g] 27, .blk b1 [.int .u64 s, .int .u64 g] 27]) ⟨by kernel_rfl⟩ (fun w_ hM hS => (Behind_st s g j w_).mono (by rintro e w' ⟨rfl, hb⟩; exact ⟨(), rfl, hM.step hb, hS.step hb⟩)) (fun _ => ?_)
  refine ops_run (is := []) (r := [(12, true), (13, true), (14, true)]) (l' := [(55, .agg #[.int .u64 (st s g (j + 1)), .int .u64 g]), (52, .agg #[.int .u64 (st s g (j + 1)), .int .u64 g]), (51, .bool true)]) [55, 52, 51] (by kernel_rfl) ?_
  refine ops_val (op := (Go.Op.binOp Go.BinOp.eql 27 (Go.Operand.tmp 52) (Go.Operand.tmp 55) 27)) (d := some 56) (v := .bool true) ⟨by kernel_rfl⟩ (run_eql_agg (r := true) rfl rfl (by kernel_rfl) (fun w => by have h := eqA27 9998 w (st s g (j + 1)) (st s g (j + 1)) g g; simpa only [BEq.rfl, Bool.and_true] using h)) ?_
  refine ops_run (is := [(13, true), (14, true)]) (r := []) (l' := [(4, .bool true)]) [4] (by kernel_rfl) ?_
  refine ops_nil ?_
  refine fin_then ?_
  refine st_ret ?_
  refine fin_ret [.tmp 4] [.bool true] rfl rfl (fun w_ hM => (.tmp rfl .nil)) (fun w_ hM => ?_)
  refine ⟨?_, hM.done⟩
  rfl
theorem RndBelows_calls (s g n : Int) (w : World) (hs : (Lit.int .u64 s).wf = true) (hg : (Lit.int .u64 g).wf = true) (hn : (Lit.int .i64 n).wf = true) : Calls Try.prog 4 #[.agg #[.int .u64 s, .int .u64 g], .int .i64 n] w fun e w' => e = .returned (.bool true) ∧ Below w.heap.size w w' := by
  have a := wf_u64 hs
  have b := wf_u64 hg
  have c := wf_i64 hn
  by_cases h : n < 1
  · exact RndBelows_small s g n w h
  · by_cases h2 : Int.tmod g 2 = 0
    · exact RndBelows_even s g n w (by omega) h2
    · obtain ⟨j, hacc, hmin⟩ := acc_first s g n (by rw [Int.tmod_eq_emod_of_nonneg b.1] at h2; omega)
      exact RndBelows_ok s g n w j (by omega) (by omega) hacc hmin h2 a.1 a.2
end Go.Proofs.Ytdmlapkindoghaa.Rnd
