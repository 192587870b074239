/- Walks of package rnd and of its reference: each call comes to its plain function. No condition. -/
import Derived.Test.YtdmlapkindoghaaProg
import Derived.Test.YtdmlapkindoghaaRndSpec
import Derived.Test.YtdmlapkindoghaaSxOps
import Derived.Test.YtdmlapkindoghaaWEqStruct
namespace Go.Proofs.Ytdmlapkindoghaa.Rnd
open Go Go.RowKit Go.Proofs.Ytdmlapkindoghaa.Sx Go.Proofs.YtdmlapkindoghaaW.PrintWords
set_option linter.unusedVariables false
theorem rints_of {w : World} {k : IntKind} {A : Option Addr} {l : List Int} (h : ReadsInt w k A l.length l) : RInts k A l w := fun j hj => by
  obtain ⟨ad, hA, hc⟩ := h.at_ (j : Int) (by omega) (by omega)
  exact ⟨ad, hA, by simpa [rd] using hc⟩
set_option maxRecDepth 100000 in
theorem Mix_calls (x : Int) (w : World) : Calls Try.prog 33 #[.int .u64 x] w fun e w' => e = .returned (.int .u64 (mixv x)) ∧ Below w.heap.size w w' := by
  refine sx_calls Try.func33 rfl (n := 17) (by kernel_rfl) (l := [(0, .int .u64 x)]) rfl (by rfl) (Mem.nil w) ?_
  refine st_seq ?_
  refine st_region [(0, false)] (by rfl) ?_
  refine ops_run (is := [(0, false)]) (r := []) (l' := [(0, .int .u64 x)]) [0] (by kernel_rfl) ?_
  refine ops_nil ?_
  refine fin_then ?_
  refine st_seq ?_
  refine st_region [(0, false), (1, false), (2, false), (3, false), (4, false), (5, false)] (by rfl) ?_
  refine ops_run (is := [(0, false), (1, false), (2, false), (3, false), (4, false), (5, false)]) (r := []) (l' := [(0, .int .u64 (IntKind.u64.wrap (Go.bits .xor .u64 x (Int.fdiv x 2147483648) * 7640891576956012809)))]) [0] (by kernel_rfl) ?_
  refine ops_nil ?_
  refine fin_then ?_
  refine st_seq ?_
  refine st_region [(0, false), (1, false), (2, false), (3, false), (4, false), (5, false)] (by rfl) ?_
  refine ops_run (is := [(0, false), (1, false), (2, false), (3, false), (4, false), (5, false)]) (r := []) (l' := [(0, .int .u64 (IntKind.u64.wrap (Go.bits .xor .u64 (IntKind.u64.wrap (Go.bits .xor .u64 x (Int.fdiv x 2147483648) * 7640891576956012809)) (Int.fdiv (IntKind.u64.wrap (Go.bits .xor .u64 x (Int.fdiv x 2147483648) * 7640891576956012809)) 134217728) * 13503953896175478587)))]) [0] (by kernel_rfl) ?_
  refine ops_nil ?_
  refine fin_then ?_
  refine st_seq ?_
  refine st_region [(0, false), (1, false), (2, false), (3, false), (4, false)] (by rfl) ?_
  refine ops_run (is := [(0, false), (1, false), (2, false), (3, false), (4, false)]) (r := []) (l' := [(2, .int .u64 (Go.bits .xor .u64 (IntKind.u64.wrap (Go.bits .xor .u64 (IntKind.u64.wrap (Go.bits .xor .u64 x (Int.fdiv x 2147483648) * 7640891576956012809)) (Int.fdiv (IntKind.u64.wrap (Go.bits .xor .u64 x (Int.fdiv x 2147483648) * 7640891576956012809)) 134217728) * 13503953896175478587)) (Int.fdiv (IntKind.u64.wrap (Go.bits .xor .u64 (IntKind.u64.wrap (Go.bits .xor .u64 x (Int.fdiv x 2147483648) * 7640891576956012809)) (Int.fdiv (IntKind.u64.wrap (Go.bits .xor .u64 x (Int.fdiv x 2147483648) * 7640891576956012809)) 134217728) * 13503953896175478587)) 1073741824)))]) [2] (by kernel_rfl) ?_
  refine ops_nil ?_
  refine fin_then ?_
  refine st_ret ?_
  refine fin_ret [.tmp 2] [.int .u64 (Go.bits .xor .u64 (IntKind.u64.wrap (Go.bits .xor .u64 (IntKind.u64.wrap (Go.bits .xor .u64 x (Int.fdiv x 2147483648) * 7640891576956012809)) (Int.fdiv (IntKind.u64.wrap (Go.bits .xor .u64 x (Int.fdiv x 2147483648) * 7640891576956012809)) 134217728) * 13503953896175478587)) (Int.fdiv (IntKind.u64.wrap (Go.bits .xor .u64 (IntKind.u64.wrap (Go.bits .xor .u64 x (Int.fdiv x 2147483648) * 7640891576956012809)) (Int.fdiv (IntKind.u64.wrap (Go.bits .xor .u64 x (Int.fdiv x 2147483648) * 7640891576956012809)) 134217728) * 13503953896175478587)) 1073741824))] rfl rfl (fun w_ hM => (.tmp rfl .nil)) (fun w_ hM => ?_)
  refine ⟨?_, hM.done⟩
  exact congrArg (fun z => Ending.returned (.int .u64 z)) (mixv_walk x)
set_option maxRecDepth 100000 in
theorem Scrambled_calls (x : Int) (w : World) : Calls Try.prog 34 #[.int .u64 x] w fun e w' => e = .returned (.int .u64 (scrv x)) ∧ Below w.heap.size w w' := by
  refine sx_calls Try.func34 rfl (n := 27) (by kernel_rfl) (l := [(0, .int .u64 x)]) rfl (by rfl) (Mem.nil w) ?_
  refine st_seq ?_
  refine st_region [(0, false)] (by rfl) ?_
  refine ops_run (is := [(0, false)]) (r := []) (l' := [(0, .int .u64 x)]) [0] (by kernel_rfl) ?_
  refine ops_nil ?_
  refine fin_then ?_
  refine st_seq ?_
  refine st_seq ?_
  refine st_region [(0, false), (1, false), (2, false), (3, false), (4, false), (5, false)] (by rfl) ?_
  refine ops_run (is := [(0, false), (1, false), (2, false)]) (r := [(3, false), (4, false), (5, false)]) (l' := [(7, .agg #[.int .u64 30, .int .u64 1]), (6, .agg #[.int .u64 27, .int .u64 13503953896175478587]), (5, .agg #[.int .u64 31, .int .u64 7640891576956012809]), (0, .int .u64 x)]) [7, 6, 5, 0] (by kernel_rfl) ?_
  refine ops_new (d := some 8) (o := .cells #[.int .u64 31, .int .u64 7640891576956012809, .int .u64 27, .int .u64 13503953896175478587, .int .u64 30, .int .u64 1] 109) (v := fun b1 => .slice (some ⟨b1, 0, none⟩) 3 3) (M' := fun b1 => Mem w [.blk b1 [.int .u64 31, .int .u64 7640891576956012809, .int .u64 27, .int .u64 13503953896175478587, .int .u64 30, .int .u64 1] 109]) (fun b1 => ⟨by kernel_rfl⟩) (fun w_ hM hS => ⟨hM.blk [.int .u64 31, .int .u64 7640891576956012809, .int .u64 27, .int .u64 13503953896175478587, .int .u64 30, .int .u64 1] 109, trivial⟩) (fun b1 => ?_)
  refine ops_run (is := [(4, false), (5, false)]) (r := []) (l' := [(10, .int .i64 0), (9, .int .i64 3), (8, .slice (some ⟨b1, 0, none⟩) 3 3), (0, .int .u64 x)]) [10, 9, 8, 0] (by kernel_rfl) ?_
  refine ops_nil ?_
  refine fin_then ?_
  refine st_block ?_
  refine st_unroll 5 ?_
  refine str_succ ?_
  refine st_seq ?_
  refine st_region [(0, false)] (by rfl) ?_
  refine ops_run (is := [(0, false)]) (r := []) (l' := [(11, .bool true), (10, .int .i64 0), (9, .int .i64 3), (8, .slice (some ⟨b1, 0, none⟩) 3 3), (0, .int .u64 x)]) [11, 10, 9, 8, 0] (by kernel_rfl) ?_
  refine ops_nil ?_
  refine fin_then ?_
  refine st_seq ?_
  refine st_true rfl ?_
  refine st_skip ?_
  refine fin_then ?_
  refine st_seq ?_
  refine st_block ?_
  refine st_seq ?_
  refine st_region [(0, false), (1, false), (2, false), (3, false)] (by rfl) ?_
  refine ops_run (is := [(0, false)]) (r := [(1, false), (2, false), (3, false)]) (l' := [(12, .pointer (some ⟨b1, 0, none⟩)), (10, .int .i64 0), (9, .int .i64 3), (8, .slice (some ⟨b1, 0, none⟩) 3 3), (0, .int .u64 x)]) [12, 10, 9, 8, 0] (by kernel_rfl) ?_
  refine ops_mem (d := some 13) (an := [.v (.int .u64 31), .v (.int .u64 7640891576956012809)]) (evs := [.load ⟨b1, 0, none⟩ (.int .u64 31), .load ⟨b1, 1, none⟩ (.int .u64 7640891576956012809)]) (v := .agg #[.int .u64 31, .int .u64 7640891576956012809]) (M' := Mem w [.blk b1 [.int .u64 31, .int .u64 7640891576956012809, .int .u64 27, .int .u64 13503953896175478587, .int .u64 30, .int .u64 1] 109]) ⟨by kernel_rfl⟩ (fun w_ hM hS => ⟨w_, ⟨hM.cell 0 rfl rfl, hM.cell 0 rfl rfl, rfl⟩, hM, trivial⟩) ?_
  refine ops_run (is := []) (r := [(2, false), (3, false)]) (l' := [(13, .agg #[.int .u64 31, .int .u64 7640891576956012809]), (10, .int .i64 0), (9, .int .i64 3), (8, .slice (some ⟨b1, 0, none⟩) 3 3), (0, .int .u64 x)]) [13, 10, 9, 8, 0] (by kernel_rfl) ?_
  refine ops_new (d := some 4) (o := .cells #[.int .u64 0, .int .u64 0] 109) (v := fun b2 => .pointer (some ⟨b2, 0, none⟩)) (M' := fun b2 => Mem w [.blk b2 [.int .u64 0, .int .u64 0] 109, .blk b1 [.int .u64 31, .int .u64 7640891576956012809, .int .u64 27, .int .u64 13503953896175478587, .int .u64 30, .int .u64 1] 109]) (fun b2 => ⟨by kernel_rfl⟩) (fun w_ hM hS => ⟨hM.blk [.int .u64 0, .int .u64 0] 109, trivial⟩) (fun b2 => ?_)
  refine ops_run (is := []) (r := [(3, false)]) (l' := [(4, .pointer (some ⟨b2, 0, none⟩)), (13, .agg #[.int .u64 31, .int .u64 7640891576956012809]), (10, .int .i64 0), (9, .int .i64 3), (8, .slice (some ⟨b1, 0, none⟩) 3 3), (0, .int .u64 x)]) [4, 13, 10, 9, 8, 0] (by kernel_rfl) ?_
  refine ops_store (an := []) (evs := [.store ⟨b2, 0, none⟩ (.int .u64 31), .store ⟨b2, 1, none⟩ (.int .u64 7640891576956012809)]) (M' := Mem w [.blk b2 [.int .u64 31, .int .u64 7640891576956012809] 109, .blk b1 [.int .u64 31, .int .u64 7640891576956012809, .int .u64 27, .int .u64 13503953896175478587, .int .u64 30, .int .u64 1] 109]) ⟨by kernel_rfl⟩ (fun w_ hM hS => let ⟨w', he, h'⟩ := hM.evs_stores [.int .u64 31, .int .u64 7640891576956012809] 0 rfl 0 (Nat.le_of_ble_eq_true rfl); ⟨w', he, h', trivial⟩) ?_
  refine ops_run (is := []) (r := []) (l' := [(4, .pointer (some ⟨b2, 0, none⟩)), (10, .int .i64 0), (9, .int .i64 3), (8, .slice (some ⟨b1, 0, none⟩) 3 3), (0, .int .u64 x)]) [4, 10, 9, 8, 0] (by kernel_rfl) ?_
  refine ops_nil ?_
  refine fin_then ?_
  refine st_seq ?_
  refine st_region [(0, false), (1, false), (2, false), (3, false), (4, false), (5, false), (6, false), (7, false)] (by rfl) ?_
  refine ops_run (is := [(0, false), (1, false), (2, false)]) (r := [(3, false), (4, false), (5, false), (6, false), (7, false)]) (l' := [(16, .pointer (some ⟨b2, 0, none⟩)), (15, .int .u64 x), (14, .int .u64 x), (4, .pointer (some ⟨b2, 0, none⟩)), (10, .int .i64 0), (9, .int .i64 3), (8, .slice (some ⟨b1, 0, none⟩) 3 3), (0, .int .u64 x)]) [16, 15, 14, 4, 10, 9, 8, 0] (by kernel_rfl) ?_
  refine ops_mem (d := some 17) (an := [.v (.int .u64 31)]) (evs := [.load ⟨b2, 0, none⟩ (.int .u64 31)]) (v := .int .u64 31) (M' := Mem w [.blk b2 [.int .u64 31, .int .u64 7640891576956012809] 109, .blk b1 [.int .u64 31, .int .u64 7640891576956012809, .int .u64 27, .int .u64 13503953896175478587, .int .u64 30, .int .u64 1] 109]) ⟨by kernel_rfl⟩ (fun w_ hM hS => ⟨w_, ⟨hM.cell 0 rfl rfl, rfl⟩, hM, trivial⟩) ?_
  refine ops_run (is := [(4, false), (5, false), (6, false), (7, false)]) (r := []) (l' := [(0, .int .u64 (Go.bits .xor .u64 x (IntKind.u64.wrap (Int.tdiv x 2147483648)))), (4, .pointer (some ⟨b2, 0, none⟩)), (10, .int .i64 0), (9, .int .i64 3), (8, .slice (some ⟨b1, 0, none⟩) 3 3)]) [0, 4, 10, 9, 8] (by kernel_rfl) ?_
  refine ops_nil ?_
  refine fin_then ?_
  refine st_region [(0, false), (1, false), (2, false), (3, false), (4, false)] (by rfl) ?_
  refine ops_run (is := [(0, false), (1, false)]) (r := [(2, false), (3, false), (4, false)]) (l' := [(22, .pointer (some ⟨b2, 1, none⟩)), (21, .int .u64 (Go.bits .xor .u64 x (IntKind.u64.wrap (Int.tdiv x 2147483648)))), (0, .int .u64 (Go.bits .xor .u64 x (IntKind.u64.wrap (Int.tdiv x 2147483648)))), (10, .int .i64 0), (9, .int .i64 3), (8, .slice (some ⟨b1, 0, none⟩) 3 3)]) [22, 21, 0, 10, 9, 8] (by kernel_rfl) ?_
  refine ops_mem (d := some 23) (an := [.v (.int .u64 7640891576956012809)]) (evs := [.load ⟨b2, 1, none⟩ (.int .u64 7640891576956012809)]) (v := .int .u64 7640891576956012809) (M' := Mem w [.blk b2 [.int .u64 31, .int .u64 7640891576956012809] 109, .blk b1 [.int .u64 31, .int .u64 7640891576956012809, .int .u64 27, .int .u64 13503953896175478587, .int .u64 30, .int .u64 1] 109]) ⟨by kernel_rfl⟩ (fun w_ hM hS => ⟨w_, ⟨hM.cell 0 rfl rfl, rfl⟩, hM, trivial⟩) ?_
  refine ops_run (is := [(3, false), (4, false)]) (r := []) (l' := [(0, .int .u64 (IntKind.u64.wrap (Go.bits .xor .u64 x (IntKind.u64.wrap (Int.tdiv x 2147483648)) * 7640891576956012809))), (10, .int .i64 0), (9, .int .i64 3), (8, .slice (some ⟨b1, 0, none⟩) 3 3)]) [0, 10, 9, 8] (by kernel_rfl) ?_
  refine ops_nil ?_
  refine fin_block ?_
  refine fin_then ?_
  refine st_region [(0, false), (1, false)] (by rfl) ?_
  refine ops_run (is := [(0, false), (1, false)]) (r := []) (l' := [(10, .int .i64 1), (0, .int .u64 (IntKind.u64.wrap (Go.bits .xor .u64 x (IntKind.u64.wrap (Int.tdiv x 2147483648)) * 7640891576956012809))), (9, .int .i64 3), (8, .slice (some ⟨b1, 0, none⟩) 3 3)]) [10, 0, 9, 8] (by kernel_rfl) ?_
  refine ops_nil ?_
  refine fin_rounds ?_
  refine str_succ ?_
  refine st_seq ?_
  refine st_region [(0, false)] (by rfl) ?_
  refine ops_run (is := [(0, false)]) (r := []) (l' := [(11, .bool true), (10, .int .i64 1), (0, .int .u64 (IntKind.u64.wrap (Go.bits .xor .u64 x (IntKind.u64.wrap (Int.tdiv x 2147483648)) * 7640891576956012809))), (9, .int .i64 3), (8, .slice (some ⟨b1, 0, none⟩) 3 3)]) [11, 10, 0, 9, 8] (by kernel_rfl) ?_
  refine ops_nil ?_
  refine fin_then ?_
  refine st_seq ?_
  refine st_true rfl ?_
  refine st_skip ?_
  refine fin_then ?_
  refine st_seq ?_
  refine st_block ?_
  refine st_seq ?_
  refine st_region [(0, false), (1, false), (2, false), (3, false)] (by rfl) ?_
  refine ops_run (is := [(0, false)]) (r := [(1, false), (2, false), (3, false)]) (l' := [(12, .pointer (some ⟨b1, 2, none⟩)), (10, .int .i64 1), (0, .int .u64 (IntKind.u64.wrap (Go.bits .xor .u64 x (IntKind.u64.wrap (Int.tdiv x 2147483648)) * 7640891576956012809))), (9, .int .i64 3), (8, .slice (some ⟨b1, 0, none⟩) 3 3)]) [12, 10, 0, 9, 8] (by kernel_rfl) ?_
  refine ops_mem (d := some 13) (an := [.v (.int .u64 27), .v (.int .u64 13503953896175478587)]) (evs := [.load ⟨b1, 2, none⟩ (.int .u64 27), .load ⟨b1, 3, none⟩ (.int .u64 13503953896175478587)]) (v := .agg #[.int .u64 27, .int .u64 13503953896175478587]) (M' := Mem w [.blk b2 [.int .u64 31, .int .u64 7640891576956012809] 109, .blk b1 [.int .u64 31, .int .u64 7640891576956012809, .int .u64 27, .int .u64 13503953896175478587, .int .u64 30, .int .u64 1] 109]) ⟨by kernel_rfl⟩ (fun w_ hM hS => ⟨w_, ⟨hM.cell 1 rfl rfl, hM.cell 1 rfl rfl, rfl⟩, hM, trivial⟩) ?_
  refine ops_run (is := []) (r := [(2, false), (3, false)]) (l' := [(13, .agg #[.int .u64 27, .int .u64 13503953896175478587]), (10, .int .i64 1), (0, .int .u64 (IntKind.u64.wrap (Go.bits .xor .u64 x (IntKind.u64.wrap (Int.tdiv x 2147483648)) * 7640891576956012809))), (9, .int .i64 3), (8, .slice (some ⟨b1, 0, none⟩) 3 3)]) [13, 10, 0, 9, 8] (by kernel_rfl) ?_
  refine ops_new (d := some 4) (o := .cells #[.int .u64 0, .int .u64 0] 109) (v := fun b3 => .pointer (some ⟨b3, 0, none⟩)) (M' := fun b3 => Mem w [.blk b3 [.int .u64 0, .int .u64 0] 109, .blk b2 [.int .u64 31, .int .u64 7640891576956012809] 109, .blk b1 [.int .u64 31, .int .u64 7640891576956012809, .int .u64 27, .int .u64 13503953896175478587, .int .u64 30, .int .u64 1] 109]) (fun b3 => ⟨by kernel_rfl⟩) (fun w_ hM hS => ⟨hM.blk [.int .u64 0, .int .u64 0] 109, trivial⟩) (fun b3 => ?_)
  refine ops_run (is := []) (r := [(3, false)]) (l' := [(4, .pointer (some ⟨b3, 0, none⟩)), (13, .agg #[.int .u64 27, .int .u64 13503953896175478587]), (10, .int .i64 1), (0, .int .u64 (IntKind.u64.wrap (Go.bits .xor .u64 x (IntKind.u64.wrap (Int.tdiv x 2147483648)) * 7640891576956012809))), (9, .int .i64 3), (8, .slice (some ⟨b1, 0, none⟩) 3 3)]) [4, 13, 10, 0, 9, 8] (by kernel_rfl) ?_
  refine ops_store (an := []) (evs := [.store ⟨b3, 0, none⟩ (.int .u64 27), .store ⟨b3, 1, none⟩ (.int .u64 13503953896175478587)]) (M' := Mem w [.blk b3 [.int .u64 27, .int .u64 13503953896175478587] 109, .blk b2 [.int .u64 31, .int .u64 7640891576956012809] 109, .blk b1 [.int .u64 31, .int .u64 7640891576956012809, .int .u64 27, .int .u64 13503953896175478587, .int .u64 30, .int .u64 1] 109]) ⟨by kernel_rfl⟩ (fun w_ hM hS => let ⟨w', he, h'⟩ := hM.evs_stores [.int .u64 27, .int .u64 13503953896175478587] 0 rfl 0 (Nat.le_of_ble_eq_true rfl); ⟨w', he, h', trivial⟩) ?_
  refine ops_run (is := []) (r := []) (l' := [(4, .pointer (some ⟨b3, 0, none⟩)), (10, .int .i64 1), (0, .int .u64 (IntKind.u64.wrap (Go.bits .xor .u64 x (IntKind.u64.wrap (Int.tdiv x 2147483648)) * 7640891576956012809))), (9, .int .i64 3), (8, .slice (some ⟨b1, 0, none⟩) 3 3)]) [4, 10, 0, 9, 8] (by kernel_rfl) ?_
  refine ops_nil ?_
  refine fin_then ?_
  refine st_seq ?_
  refine st_region [(0, false), (1, false), (2, false), (3, false), (4, false), (5, false), (6, false), (7, false)] (by rfl) ?_
  refine ops_run (is := [(0, false), (1, false), (2, false)]) (r := [(3, false), (4, false), (5, false), (6, false), (7, false)]) (l' := [(16, .pointer (some ⟨b3, 0, none⟩)), (15, .int .u64 (IntKind.u64.wrap (Go.bits .xor .u64 x (IntKind.u64.wrap (Int.tdiv x 2147483648)) * 7640891576956012809))), (14, .int .u64 (IntKind.u64.wrap (Go.bits .xor .u64 x (IntKind.u64.wrap (Int.tdiv x 2147483648)) * 7640891576956012809))), (4, .pointer (some ⟨b3, 0, none⟩)), (10, .int .i64 1), (0, .int .u64 (IntKind.u64.wrap (Go.bits .xor .u64 x (IntKind.u64.wrap (Int.tdiv x 2147483648)) * 7640891576956012809))), (9, .int .i64 3), (8, .slice (some ⟨b1, 0, none⟩) 3 3)]) [16, 15, 14, 4, 10, 0, 9, 8] (by kernel_rfl) ?_
  refine ops_mem (d := some 17) (an := [.v (.int .u64 27)]) (evs := [.load ⟨b3, 0, none⟩ (.int .u64 27)]) (v := .int .u64 27) (M' := Mem w [.blk b3 [.int .u64 27, .int .u64 13503953896175478587] 109, .blk b2 [.int .u64 31, .int .u64 7640891576956012809] 109, .blk b1 [.int .u64 31, .int .u64 7640891576956012809, .int .u64 27, .int .u64 13503953896175478587, .int .u64 30, .int .u64 1] 109]) ⟨by kernel_rfl⟩ (fun w_ hM hS => ⟨w_, ⟨hM.cell 0 rfl rfl, rfl⟩, hM, trivial⟩) ?_
  refine ops_run (is := [(4, false), (5, false), (6, false), (7, false)]) (r := []) (l' := [(0, .int .u64 (Go.bits .xor .u64 (IntKind.u64.wrap (Go.bits .xor .u64 x (IntKind.u64.wrap (Int.tdiv x 2147483648)) * 7640891576956012809)) (IntKind.u64.wrap (Int.tdiv (IntKind.u64.wrap (Go.bits .xor .u64 x (IntKind.u64.wrap (Int.tdiv x 2147483648)) * 7640891576956012809)) 134217728)))), (4, .pointer (some ⟨b3, 0, none⟩)), (10, .int .i64 1), (9, .int .i64 3), (8, .slice (some ⟨b1, 0, none⟩) 3 3)]) [0, 4, 10, 9, 8] (by kernel_rfl) ?_
  refine ops_nil ?_
  refine fin_then ?_
  refine st_region [(0, false), (1, false), (2, false), (3, false), (4, false)] (by rfl) ?_
  refine ops_run (is := [(0, false), (1, false)]) (r := [(2, false), (3, false), (4, false)]) (l' := [(22, .pointer (some ⟨b3, 1, none⟩)), (21, .int .u64 (Go.bits .xor .u64 (IntKind.u64.wrap (Go.bits .xor .u64 x (IntKind.u64.wrap (Int.tdiv x 2147483648)) * 7640891576956012809)) (IntKind.u64.wrap (Int.tdiv (IntKind.u64.wrap (Go.bits .xor .u64 x (IntKind.u64.wrap (Int.tdiv x 2147483648)) * 7640891576956012809)) 134217728)))), (0, .int .u64 (Go.bits .xor .u64 (IntKind.u64.wrap (Go.bits .xor .u64 x (IntKind.u64.wrap (Int.tdiv x 2147483648)) * 7640891576956012809)) (IntKind.u64.wrap (Int.tdiv (IntKind.u64.wrap (Go.bits .xor .u64 x (IntKind.u64.wrap (Int.tdiv x 2147483648)) * 7640891576956012809)) 134217728)))), (10, .int .i64 1), (9, .int .i64 3), (8, .slice (some ⟨b1, 0, none⟩) 3 3)]) [22, 21, 0, 10, 9, 8] (by kernel_rfl) ?_
  refine ops_mem (d := some 23) (an := [.v (.int .u64 13503953896175478587)]) (evs := [.load ⟨b3, 1, none⟩ (.int .u64 13503953896175478587)]) (v := .int .u64 13503953896175478587) (M' := Mem w [.blk b3 [.int .u64 27, .int .u64 13503953896175478587] 109, .blk b2 [.int .u64 31, .int .u64 7640891576956012809] 109, .blk b1 [.int .u64 31, .int .u64 7640891576956012809, .int .u64 27, .int .u64 13503953896175478587, .int .u64 30, .int .u64 1] 109]) ⟨by kernel_rfl⟩ (fun w_ hM hS => ⟨w_, ⟨hM.cell 0 rfl rfl, rfl⟩, hM, trivial⟩) ?_
  refine ops_run (is := [(3, false), (4, false)]) (r := []) (l' := [(0, .int .u64 (IntKind.u64.wrap (Go.bits .xor .u64 (IntKind.u64.wrap (Go.bits .xor .u64 x (IntKind.u64.wrap (Int.tdiv x 2147483648)) * 7640891576956012809)) (IntKind.u64.wrap (Int.tdiv (IntKind.u64.wrap (Go.bits .xor .u64 x (IntKind.u64.wrap (Int.tdiv x 2147483648)) * 7640891576956012809)) 134217728)) * 13503953896175478587))), (10, .int .i64 1), (9, .int .i64 3), (8, .slice (some ⟨b1, 0, none⟩) 3 3)]) [0, 10, 9, 8] (by kernel_rfl) ?_
  refine ops_nil ?_
  refine fin_block ?_
  refine fin_then ?_
  refine st_region [(0, false), (1, false)] (by rfl) ?_
  refine ops_run (is := [(0, false), (1, false)]) (r := []) (l' := [(10, .int .i64 2), (0, .int .u64 (IntKind.u64.wrap (Go.bits .xor .u64 (IntKind.u64.wrap (Go.bits .xor .u64 x (IntKind.u64.wrap (Int.tdiv x 2147483648)) * 7640891576956012809)) (IntKind.u64.wrap (Int.tdiv (IntKind.u64.wrap (Go.bits .xor .u64 x (IntKind.u64.wrap (Int.tdiv x 2147483648)) * 7640891576956012809)) 134217728)) * 13503953896175478587))), (9, .int .i64 3), (8, .slice (some ⟨b1, 0, none⟩) 3 3)]) [10, 0, 9, 8] (by kernel_rfl) ?_
  refine ops_nil ?_
  refine fin_rounds ?_
  refine str_succ ?_
  refine st_seq ?_
  refine st_region [(0, false)] (by rfl) ?_
  refine ops_run (is := [(0, false)]) (r := []) (l' := [(11, .bool true), (10, .int .i64 2), (0, .int .u64 (IntKind.u64.wrap (Go.bits .xor .u64 (IntKind.u64.wrap (Go.bits .xor .u64 x (IntKind.u64.wrap (Int.tdiv x 2147483648)) * 7640891576956012809)) (IntKind.u64.wrap (Int.tdiv (IntKind.u64.wrap (Go.bits .xor .u64 x (IntKind.u64.wrap (Int.tdiv x 2147483648)) * 7640891576956012809)) 134217728)) * 13503953896175478587))), (9, .int .i64 3), (8, .slice (some ⟨b1, 0, none⟩) 3 3)]) [11, 10, 0, 9, 8] (by kernel_rfl) ?_
  refine ops_nil ?_
  refine fin_then ?_
  refine st_seq ?_
  refine st_true rfl ?_
  refine st_skip ?_
  refine fin_then ?_
  refine st_seq ?_
  refine st_block ?_
  refine st_seq ?_
  refine st_region [(0, false), (1, false), (2, false), (3, false)] (by rfl) ?_
  refine ops_run (is := [(0, false)]) (r := [(1, false), (2, false), (3, false)]) (l' := [(12, .pointer (some ⟨b1, 4, none⟩)), (10, .int .i64 2), (0, .int .u64 (IntKind.u64.wrap (Go.bits .xor .u64 (IntKind.u64.wrap (Go.bits .xor .u64 x (IntKind.u64.wrap (Int.tdiv x 2147483648)) * 7640891576956012809)) (IntKind.u64.wrap (Int.tdiv (IntKind.u64.wrap (Go.bits .xor .u64 x (IntKind.u64.wrap (Int.tdiv x 2147483648)) * 7640891576956012809)) 134217728)) * 13503953896175478587))), (9, .int .i64 3), (8, .slice (some ⟨b1, 0, none⟩) 3 3)]) [12, 10, 0, 9, 8] (by kernel_rfl) ?_
  refine ops_mem (d := some 13) (an := [.v (.int .u64 30), .v (.int .u64 1)]) (evs := [.load ⟨b1, 4, none⟩ (.int .u64 30), .load ⟨b1, 5, none⟩ (.int .u64 1)]) (v := .agg #[.int .u64 30, .int .u64 1]) (M' := Mem w [.blk b3 [.int .u64 27, .int .u64 13503953896175478587] 109, .blk b2 [.int .u64 31, .int .u64 7640891576956012809] 109, .blk b1 [.int .u64 31, .int .u64 7640891576956012809, .int .u64 27, .int .u64 13503953896175478587, .int .u64 30, .int .u64 1] 109]) ⟨by kernel_rfl⟩ (fun w_ hM hS => ⟨w_, ⟨hM.cell 2 rfl rfl, hM.cell 2 rfl rfl, rfl⟩, hM, trivial⟩) ?_
  refine ops_run (is := []) (r := [(2, false), (3, false)]) (l' := [(13, .agg #[.int .u64 30, .int .u64 1]), (10, .int .i64 2), (0, .int .u64 (IntKind.u64.wrap (Go.bits .xor .u64 (IntKind.u64.wrap (Go.bits .xor .u64 x (IntKind.u64.wrap (Int.tdiv x 2147483648)) * 7640891576956012809)) (IntKind.u64.wrap (Int.tdiv (IntKind.u64.wrap (Go.bits .xor .u64 x (IntKind.u64.wrap (Int.tdiv x 2147483648)) * 7640891576956012809)) 134217728)) * 13503953896175478587))), (9, .int .i64 3), (8, .slice (some ⟨b1, 0, none⟩) 3 3)]) [13, 10, 0, 9, 8] (by kernel_rfl) ?_
  refine ops_new (d := some 4) (o := .cells #[.int .u64 0, .int .u64 0] 109) (v := fun b4 => .pointer (some ⟨b4, 0, none⟩)) (M' := fun b4 => Mem w [.blk b4 [.int .u64 0, .int .u64 0] 109, .blk b3 [.int .u64 27, .int .u64 13503953896175478587] 109, .blk b2 [.int .u64 31, .int .u64 7640891576956012809] 109, .blk b1 [.int .u64 31, .int .u64 7640891576956012809, .int .u64 27, .int .u64 13503953896175478587, .int .u64 30, .int .u64 1] 109]) (fun b4 => ⟨by kernel_rfl⟩) (fun w_ hM hS => ⟨hM.blk [.int .u64 0, .int .u64 0] 109, trivial⟩) (fun b4 => ?_)
  refine ops_run (is := []) (r := [(3, false)]) (l' := [(4, .pointer (some ⟨b4, 0, none⟩)), (13, .agg #[.int .u64 30, .int .u64 1]), (10, .int .i64 2), (0, .int .u64 (IntKind.u64.wrap (Go.bits .xor .u64 (IntKind.u64.wrap (Go.bits .xor .u64 x (IntKind.u64.wrap (Int.tdiv x 2147483648)) * 7640891576956012809)) (IntKind.u64.wrap (Int.tdiv (IntKind.u64.wrap (Go.bits .xor .u64 x (IntKind.u64.wrap (Int.tdiv x 2147483648)) * 7640891576956012809)) 134217728)) * 13503953896175478587))), (9, .int .i64 3), (8, .slice (some ⟨b1, 0, none⟩) 3 3)]) [4, 13, 10, 0, 9, 8] (by kernel_rfl) ?_
  refine ops_store (an := []) (evs := [.store ⟨b4, 0, none⟩ (.int .u64 30), .store ⟨b4, 1, none⟩ (.int .u64 1)]) (M' := Mem w [.blk b4 [.int .u64 30, .int .u64 1] 109, .blk b3 [.int .u64 27, .int .u64 13503953896175478587] 109, .blk b2 [.int .u64 31, .int .u64 7640891576956012809] 109, .blk b1 [.int .u64 31, .int .u64 7640891576956012809, .int .u64 27, .int .u64 13503953896175478587, .int .u64 30, .int .u64 1] 109]) ⟨by kernel_rfl⟩ (fun w_ hM hS => let ⟨w', he, h'⟩ := hM.evs_stores [.int .u64 30, .int .u64 1] 0 rfl 0 (Nat.le_of_ble_eq_true rfl); ⟨w', he, h', trivial⟩) ?_
  refine ops_run (is := []) (r := []) (l' := [(4, .pointer (some ⟨b4, 0, none⟩)), (10, .int .i64 2), (0, .int .u64 (IntKind.u64.wrap (Go.bits .xor .u64 (IntKind.u64.wrap (Go.bits .xor .u64 x (IntKind.u64.wrap (Int.tdiv x 2147483648)) * 7640891576956012809)) (IntKind.u64.wrap (Int.tdiv (IntKind.u64.wrap (Go.bits .xor .u64 x (IntKind.u64.wrap (Int.tdiv x 2147483648)) * 7640891576956012809)) 134217728)) * 13503953896175478587))), (9, .int .i64 3), (8, .slice (some ⟨b1, 0, none⟩) 3 3)]) [4, 10, 0, 9, 8] (by kernel_rfl) ?_
  refine ops_nil ?_
  refine fin_then ?_
  refine st_seq ?_
  refine st_region [(0, false), (1, false), (2, false), (3, false), (4, false), (5, false), (6, false), (7, false)] (by rfl) ?_
  refine ops_run (is := [(0, false), (1, false), (2, false)]) (r := [(3, false), (4, false), (5, false), (6, false), (7, false)]) (l' := [(16, .pointer (some ⟨b4, 0, none⟩)), (15, .int .u64 (IntKind.u64.wrap (Go.bits .xor .u64 (IntKind.u64.wrap (Go.bits .xor .u64 x (IntKind.u64.wrap (Int.tdiv x 2147483648)) * 7640891576956012809)) (IntKind.u64.wrap (Int.tdiv (IntKind.u64.wrap (Go.bits .xor .u64 x (IntKind.u64.wrap (Int.tdiv x 2147483648)) * 7640891576956012809)) 134217728)) * 13503953896175478587))), (14, .int .u64 (IntKind.u64.wrap (Go.bits .xor .u64 (IntKind.u64.wrap (Go.bits .xor .u64 x (IntKind.u64.wrap (Int.tdiv x 2147483648)) * 7640891576956012809)) (IntKind.u64.wrap (Int.tdiv (IntKind.u64.wrap (Go.bits .xor .u64 x (IntKind.u64.wrap (Int.tdiv x 2147483648)) * 7640891576956012809)) 134217728)) * 13503953896175478587))), (4, .pointer (some ⟨b4, 0, none⟩)), (10, .int .i64 2), (0, .int .u64 (IntKind.u64.wrap (Go.bits .xor .u64 (IntKind.u64.wrap (Go.bits .xor .u64 x (IntKind.u64.wrap (Int.tdiv x 2147483648)) * 7640891576956012809)) (IntKind.u64.wrap (Int.tdiv (IntKind.u64.wrap (Go.bits .xor .u64 x (IntKind.u64.wrap (Int.tdiv x 2147483648)) * 7640891576956012809)) 134217728)) * 13503953896175478587))), (9, .int .i64 3), (8, .slice (some ⟨b1, 0, none⟩) 3 3)]) [16, 15, 14, 4, 10, 0, 9, 8] (by kernel_rfl) ?_
  refine ops_mem (d := some 17) (an := [.v (.int .u64 30)]) (evs := [.load ⟨b4, 0, none⟩ (.int .u64 30)]) (v := .int .u64 30) (M' := Mem w [.blk b4 [.int .u64 30, .int .u64 1] 109, .blk b3 [.int .u64 27, .int .u64 13503953896175478587] 109, .blk b2 [.int .u64 31, .int .u64 7640891576956012809] 109, .blk b1 [.int .u64 31, .int .u64 7640891576956012809, .int .u64 27, .int .u64 13503953896175478587, .int .u64 30, .int .u64 1] 109]) ⟨by kernel_rfl⟩ (fun w_ hM hS => ⟨w_, ⟨hM.cell 0 rfl rfl, rfl⟩, hM, trivial⟩) ?_
  refine ops_run (is := [(4, false), (5, false), (6, false), (7, false)]) (r := []) (l' := [(0, .int .u64 (Go.bits .xor .u64 (IntKind.u64.wrap (Go.bits .xor .u64 (IntKind.u64.wrap (Go.bits .xor .u64 x (IntKind.u64.wrap (Int.tdiv x 2147483648)) * 7640891576956012809)) (IntKind.u64.wrap (Int.tdiv (IntKind.u64.wrap (Go.bits .xor .u64 x (IntKind.u64.wrap (Int.tdiv x 2147483648)) * 7640891576956012809)) 134217728)) * 13503953896175478587)) (IntKind.u64.wrap (Int.tdiv (IntKind.u64.wrap (Go.bits .xor .u64 (IntKind.u64.wrap (Go.bits .xor .u64 x (IntKind.u64.wrap (Int.tdiv x 2147483648)) * 7640891576956012809)) (IntKind.u64.wrap (Int.tdiv (IntKind.u64.wrap (Go.bits .xor .u64 x (IntKind.u64.wrap (Int.tdiv x 2147483648)) * 7640891576956012809)) 134217728)) * 13503953896175478587)) 1073741824)))), (4, .pointer (some ⟨b4, 0, none⟩)), (10, .int .i64 2), (9, .int .i64 3), (8, .slice (some ⟨b1, 0, none⟩) 3 3)]) [0, 4, 10, 9, 8] (by kernel_rfl) ?_
  refine ops_nil ?_
  refine fin_then ?_
  refine st_region [(0, false), (1, false), (2, false), (3, false), (4, false)] (by rfl) ?_
  refine ops_run (is := [(0, false), (1, false)]) (r := [(2, false), (3, false), (4, false)]) (l' := [(22, .pointer (some ⟨b4, 1, none⟩)), (21, .int .u64 (Go.bits .xor .u64 (IntKind.u64.wrap (Go.bits .xor .u64 (IntKind.u64.wrap (Go.bits .xor .u64 x (IntKind.u64.wrap (Int.tdiv x 2147483648)) * 7640891576956012809)) (IntKind.u64.wrap (Int.tdiv (IntKind.u64.wrap (Go.bits .xor .u64 x (IntKind.u64.wrap (Int.tdiv x 2147483648)) * 7640891576956012809)) 134217728)) * 13503953896175478587)) (IntKind.u64.wrap (Int.tdiv (IntKind.u64.wrap (Go.bits .xor .u64 (IntKind.u64.wrap (Go.bits .xor .u64 x (IntKind.u64.wrap (Int.tdiv x 2147483648)) * 7640891576956012809)) (IntKind.u64.wrap (Int.tdiv (IntKind.u64.wrap (Go.bits .xor .u64 x (IntKind.u64.wrap (Int.tdiv x 2147483648)) * 7640891576956012809)) 134217728)) * 13503953896175478587)) 1073741824)))), (0, .int .u64 (Go.bits .xor .u64 (IntKind.u64.wrap (Go.bits .xor .u64 (IntKind.u64.wrap (Go.bits .xor .u64 x (IntKind.u64.wrap (Int.tdiv x 2147483648)) * 7640891576956012809)) (IntKind.u64.wrap (Int.tdiv (IntKind.u64.wrap (Go.bits .xor .u64 x (IntKind.u64.wrap (Int.tdiv x 2147483648)) * 7640891576956012809)) 134217728)) * 13503953896175478587)) (IntKind.u64.wrap (Int.tdiv (IntKind.u64.wrap (Go.bits .xor .u64 (IntKind.u64.wrap (Go.bits .xor .u64 x (IntKind.u64.wrap (Int.tdiv x 2147483648)) * 7640891576956012809)) (IntKind.u64.wrap (Int.tdiv (IntKind.u64.wrap (Go.bits .xor .u64 x (IntKind.u64.wrap (Int.tdiv x 2147483648)) * 7640891576956012809)) 134217728)) * 13503953896175478587)) 1073741824)))), (10, .int .i64 2), (9, .int .i64 3), (8, .slice (some ⟨b1, 0, none⟩) 3 3)]) [22, 21, 0, 10, 9, 8] (by kernel_rfl) ?_
  refine ops_mem (d := some 23) (an := [.v (.int .u64 1)]) (evs := [.load ⟨b4, 1, none⟩ (.int .u64 1)]) (v := .int .u64 1) (M' := Mem w [.blk b4 [.int .u64 30, .int .u64 1] 109, .blk b3 [.int .u64 27, .int .u64 13503953896175478587] 109, .blk b2 [.int .u64 31, .int .u64 7640891576956012809] 109, .blk b1 [.int .u64 31, .int .u64 7640891576956012809, .int .u64 27, .int .u64 13503953896175478587, .int .u64 30, .int .u64 1] 109]) ⟨by kernel_rfl⟩ (fun w_ hM hS => ⟨w_, ⟨hM.cell 0 rfl rfl, rfl⟩, hM, trivial⟩) ?_
  refine ops_run (is := [(3, false), (4, false)]) (r := []) (l' := [(0, .int .u64 (IntKind.u64.wrap (Go.bits .xor .u64 (IntKind.u64.wrap (Go.bits .xor .u64 (IntKind.u64.wrap (Go.bits .xor .u64 x (IntKind.u64.wrap (Int.tdiv x 2147483648)) * 7640891576956012809)) (IntKind.u64.wrap (Int.tdiv (IntKind.u64.wrap (Go.bits .xor .u64 x (IntKind.u64.wrap (Int.tdiv x 2147483648)) * 7640891576956012809)) 134217728)) * 13503953896175478587)) (IntKind.u64.wrap (Int.tdiv (IntKind.u64.wrap (Go.bits .xor .u64 (IntKind.u64.wrap (Go.bits .xor .u64 x (IntKind.u64.wrap (Int.tdiv x 2147483648)) * 7640891576956012809)) (IntKind.u64.wrap (Int.tdiv (IntKind.u64.wrap (Go.bits .xor .u64 x (IntKind.u64.wrap (Int.tdiv x 2147483648)) * 7640891576956012809)) 134217728)) * 13503953896175478587)) 1073741824)) * 1))), (10, .int .i64 2), (9, .int .i64 3), (8, .slice (some ⟨b1, 0, none⟩) 3 3)]) [0, 10, 9, 8] (by kernel_rfl) ?_
  refine ops_nil ?_
  refine fin_block ?_
  refine fin_then ?_
  refine st_region [(0, false), (1, false)] (by rfl) ?_
  refine ops_run (is := [(0, false), (1, false)]) (r := []) (l' := [(10, .int .i64 3), (0, .int .u64 (IntKind.u64.wrap (Go.bits .xor .u64 (IntKind.u64.wrap (Go.bits .xor .u64 (IntKind.u64.wrap (Go.bits .xor .u64 x (IntKind.u64.wrap (Int.tdiv x 2147483648)) * 7640891576956012809)) (IntKind.u64.wrap (Int.tdiv (IntKind.u64.wrap (Go.bits .xor .u64 x (IntKind.u64.wrap (Int.tdiv x 2147483648)) * 7640891576956012809)) 134217728)) * 13503953896175478587)) (IntKind.u64.wrap (Int.tdiv (IntKind.u64.wrap (Go.bits .xor .u64 (IntKind.u64.wrap (Go.bits .xor .u64 x (IntKind.u64.wrap (Int.tdiv x 2147483648)) * 7640891576956012809)) (IntKind.u64.wrap (Int.tdiv (IntKind.u64.wrap (Go.bits .xor .u64 x (IntKind.u64.wrap (Int.tdiv x 2147483648)) * 7640891576956012809)) 134217728)) * 13503953896175478587)) 1073741824)) * 1))), (9, .int .i64 3), (8, .slice (some ⟨b1, 0, none⟩) 3 3)]) [10, 0, 9, 8] (by kernel_rfl) ?_
  refine ops_nil ?_
  refine fin_rounds ?_
  refine str_succ ?_
  refine st_seq ?_
  refine st_region [(0, false)] (by rfl) ?_
  refine ops_run (is := [(0, false)]) (r := []) (l' := [(11, .bool false), (10, .int .i64 3), (0, .int .u64 (IntKind.u64.wrap (Go.bits .xor .u64 (IntKind.u64.wrap (Go.bits .xor .u64 (IntKind.u64.wrap (Go.bits .xor .u64 x (IntKind.u64.wrap (Int.tdiv x 2147483648)) * 7640891576956012809)) (IntKind.u64.wrap (Int.tdiv (IntKind.u64.wrap (Go.bits .xor .u64 x (IntKind.u64.wrap (Int.tdiv x 2147483648)) * 7640891576956012809)) 134217728)) * 13503953896175478587)) (IntKind.u64.wrap (Int.tdiv (IntKind.u64.wrap (Go.bits .xor .u64 (IntKind.u64.wrap (Go.bits .xor .u64 x (IntKind.u64.wrap (Int.tdiv x 2147483648)) * 7640891576956012809)) (IntKind.u64.wrap (Int.tdiv (IntKind.u64.wrap (Go.bits .xor .u64 x (IntKind.u64.wrap (Int.tdiv x 2147483648)) * 7640891576956012809)) 134217728)) * 13503953896175478587)) 1073741824)) * 1))), (9, .int .i64 3), (8, .slice (some ⟨b1, 0, none⟩) 3 3)]) [11, 10, 0, 9, 8] (by kernel_rfl) ?_
  refine ops_nil ?_
  refine fin_then ?_
  refine st_seq ?_
  refine st_false rfl ?_
  refine st_exit ?_
  refine fin_exit_then ?_
  refine fin_exit_then ?_
  refine fin_exit ?_
  refine fin_then ?_
  refine st_seq ?_
  refine st_region [(0, false), (1, false)] (by rfl) ?_
  refine ops_run (is := [(0, false), (1, false)]) (r := []) (l' := [(2, .int .u64 (IntKind.u64.wrap (Go.bits .xor .u64 (IntKind.u64.wrap (Go.bits .xor .u64 (IntKind.u64.wrap (Go.bits .xor .u64 x (IntKind.u64.wrap (Int.tdiv x 2147483648)) * 7640891576956012809)) (IntKind.u64.wrap (Int.tdiv (IntKind.u64.wrap (Go.bits .xor .u64 x (IntKind.u64.wrap (Int.tdiv x 2147483648)) * 7640891576956012809)) 134217728)) * 13503953896175478587)) (IntKind.u64.wrap (Int.tdiv (IntKind.u64.wrap (Go.bits .xor .u64 (IntKind.u64.wrap (Go.bits .xor .u64 x (IntKind.u64.wrap (Int.tdiv x 2147483648)) * 7640891576956012809)) (IntKind.u64.wrap (Int.tdiv (IntKind.u64.wrap (Go.bits .xor .u64 x (IntKind.u64.wrap (Int.tdiv x 2147483648)) * 7640891576956012809)) 134217728)) * 13503953896175478587)) 1073741824)) * 1)))]) [2] (by kernel_rfl) ?_
  refine ops_nil ?_
  refine fin_then ?_
  refine st_ret ?_
  refine fin_ret [.tmp 2] [.int .u64 (IntKind.u64.wrap (Go.bits .xor .u64 (IntKind.u64.wrap (Go.bits .xor .u64 (IntKind.u64.wrap (Go.bits .xor .u64 x (IntKind.u64.wrap (Int.tdiv x 2147483648)) * 7640891576956012809)) (IntKind.u64.wrap (Int.tdiv (IntKind.u64.wrap (Go.bits .xor .u64 x (IntKind.u64.wrap (Int.tdiv x 2147483648)) * 7640891576956012809)) 134217728)) * 13503953896175478587)) (IntKind.u64.wrap (Int.tdiv (IntKind.u64.wrap (Go.bits .xor .u64 (IntKind.u64.wrap (Go.bits .xor .u64 x (IntKind.u64.wrap (Int.tdiv x 2147483648)) * 7640891576956012809)) (IntKind.u64.wrap (Int.tdiv (IntKind.u64.wrap (Go.bits .xor .u64 x (IntKind.u64.wrap (Int.tdiv x 2147483648)) * 7640891576956012809)) 134217728)) * 13503953896175478587)) 1073741824)) * 1))] rfl rfl (fun w_ hM => (.tmp rfl .nil)) (fun w_ hM => ?_)
  refine ⟨?_, hM.done⟩
  rfl
set_option maxRecDepth 100000 in
theorem New_calls (x : Int) (w : World) : Calls Try.prog 35 #[.int .i64 x] w fun e w' => e = .returned (.agg #[.int .u64 (mixv (IntKind.u64.wrap x)), .int .u64 11400714819323198485]) ∧ Below w.heap.size w w' := by
  refine sx_calls Try.func35 rfl (n := 7) (by kernel_rfl) (l := [(0, .int .i64 x)]) rfl (by rfl) (Mem.nil w) ?_
  refine st_seq ?_
  refine st_region [(0, false)] (by rfl) ?_
  refine ops_new (d := some 2) (o := .cells #[.int .u64 0, .int .u64 0] 27) (v := fun b1 => .pointer (some ⟨b1, 0, none⟩)) (M' := fun b1 => Mem w [.blk b1 [.int .u64 0, .int .u64 0] 27]) (fun b1 => ⟨by kernel_rfl⟩) (fun w_ hM hS => ⟨hM.blk [.int .u64 0, .int .u64 0] 27, trivial⟩) (fun b1 => ?_)
  refine ops_run (is := []) (r := []) (l' := [(2, .pointer (some ⟨b1, 0, none⟩)), (0, .int .i64 x)]) [2, 0] (by kernel_rfl) ?_
  refine ops_nil ?_
  refine fin_then ?_
  refine st_seq ?_
  refine st_region [(0, false), (1, false), (2, false), (3, false), (4, false)] (by rfl) ?_
  refine ops_run (is := [(0, false), (1, false)]) (r := [(2, false), (3, false), (4, false)]) (l' := [(4, .int .u64 (IntKind.u64.wrap x)), (2, .pointer (some ⟨b1, 0, none⟩))]) [4, 2] (by kernel_rfl) ?_
  refine ops_call (σ := Unit) (d := some 5) (f := 33) (args := #[.int .u64 (IntKind.u64.wrap x)]) (v := fun _ => .int .u64 (mixv (IntKind.u64.wrap x))) (M' := fun _ => Mem w [.blk b1 [.int .u64 0, .int .u64 0] 27]) ⟨by kernel_rfl⟩ (fun w_ hM hS => (Mix_calls (IntKind.u64.wrap x) w_).mono (by rintro e w' ⟨rfl, hb⟩; exact ⟨(), rfl, hM.step hb, trivial⟩)) (fun _ => ?_)
  refine ops_run (is := [(3, false)]) (r := [(4, false)]) (l' := [(6, .agg #[.int .u64 (mixv (IntKind.u64.wrap x)), .int .u64 11400714819323198485]), (2, .pointer (some ⟨b1, 0, none⟩))]) [6, 2] (by kernel_rfl) ?_
  refine ops_store (an := []) (evs := [.store ⟨b1, 0, none⟩ (.int .u64 (mixv (IntKind.u64.wrap x))), .store ⟨b1, 1, none⟩ (.int .u64 11400714819323198485)]) (M' := Mem w [.blk b1 [.int .u64 (mixv (IntKind.u64.wrap x)), .int .u64 11400714819323198485] 27]) ⟨by kernel_rfl⟩ (fun w_ hM hS => let ⟨w', he, h'⟩ := hM.evs_stores [.int .u64 (mixv (IntKind.u64.wrap x)), .int .u64 11400714819323198485] 0 rfl 0 (Nat.le_of_ble_eq_true rfl); ⟨w', he, h', trivial⟩) ?_
  refine ops_run (is := []) (r := []) (l' := [(2, .pointer (some ⟨b1, 0, none⟩))]) [2] (by kernel_rfl) ?_
  refine ops_nil ?_
  refine fin_then ?_
  refine st_ret ?_
  refine fin_ret [.cell 2 27] [.agg #[.int .u64 (mixv (IntKind.u64.wrap x)), .int .u64 11400714819323198485]] rfl rfl (fun w_ hM => (.cell rfl (tr_run _ [.v (.int .u64 (mixv (IntKind.u64.wrap x))), .v (.int .u64 11400714819323198485)] [.load ⟨b1, 0, none⟩ (.int .u64 (mixv (IntKind.u64.wrap x))), .load ⟨b1, 1, none⟩ (.int .u64 11400714819323198485)] (.agg #[.int .u64 (mixv (IntKind.u64.wrap x)), .int .u64 11400714819323198485] : Value) _ _ (by kernel_rfl) ⟨hM.cell 0 rfl rfl, hM.cell 0 rfl rfl, rfl⟩) .nil)) (fun w_ hM => ?_)
  exact ⟨rfl, hM.done⟩
set_option maxRecDepth 100000 in
theorem Next_calls (s g : Int) (w : World) : Calls Try.prog 30 #[.agg #[.int .u64 s, .int .u64 g]] w fun e w' => e = .returned (.tuple #[.int .u64 (mixv (IntKind.u64.wrap (s + g))), .agg #[.int .u64 (IntKind.u64.wrap (s + g)), .int .u64 g]]) ∧ Below w.heap.size w w' := by
  refine sx_calls Try.func30 rfl (n := 14) (by kernel_rfl) (l := [(0, .agg #[.int .u64 s, .int .u64 g])]) rfl (by rfl) (Mem.nil w) ?_
  refine st_seq ?_
  refine st_region [(0, false), (1, false), (2, false)] (by rfl) ?_
  refine ops_new (d := some 1) (o := .cells #[.int .u64 s, .int .u64 g] 27) (v := fun b1 => .pointer (some ⟨b1, 0, none⟩)) (M' := fun b1 => Mem w [.blk b1 [.int .u64 s, .int .u64 g] 27]) (fun b1 => ⟨by kernel_rfl⟩) (fun w_ hM hS => ⟨hM.blk [.int .u64 s, .int .u64 g] 27, trivial⟩) (fun b1 => ?_)
  refine ops_run (is := [(1, false)]) (r := [(2, false)]) (l' := [(1, .pointer (some ⟨b1, 0, none⟩))]) [1] (by kernel_rfl) ?_
  refine ops_new (d := some 3) (o := .cells #[.int .u64 0, .int .u64 0] 27) (v := fun b2 => .pointer (some ⟨b2, 0, none⟩)) (M' := fun b2 => Mem w [.blk b2 [.int .u64 0, .int .u64 0] 27, .blk b1 [.int .u64 s, .int .u64 g] 27]) (fun b2 => ⟨by kernel_rfl⟩) (fun w_ hM hS => ⟨hM.blk [.int .u64 0, .int .u64 0] 27, trivial⟩) (fun b2 => ?_)
  refine ops_run (is := []) (r := []) (l' := [(3, .pointer (some ⟨b2, 0, none⟩)), (1, .pointer (some ⟨b1, 0, none⟩))]) [3, 1] (by kernel_rfl) ?_
  refine ops_nil ?_
  refine fin_then ?_
  refine st_seq ?_
  refine st_region [(0, false), (1, false), (2, false), (3, false), (4, false), (5, false), (6, false)] (by rfl) ?_
  refine ops_run (is := [(0, false)]) (r := [(1, false), (2, false), (3, false), (4, false), (5, false), (6, false)]) (l' := [(4, .pointer (some ⟨b1, 0, none⟩)), (3, .pointer (some ⟨b2, 0, none⟩)), (1, .pointer (some ⟨b1, 0, none⟩))]) [4, 3, 1] (by kernel_rfl) ?_
  refine ops_mem (d := some 5) (an := [.v (.int .u64 s)]) (evs := [.load ⟨b1, 0, none⟩ (.int .u64 s)]) (v := .int .u64 s) (M' := Mem w [.blk b2 [.int .u64 0, .int .u64 0] 27, .blk b1 [.int .u64 s, .int .u64 g] 27]) ⟨by kernel_rfl⟩ (fun w_ hM hS => ⟨w_, ⟨hM.cell 1 rfl rfl, rfl⟩, hM, trivial⟩) ?_
  refine ops_run (is := [(2, false)]) (r := [(3, false), (4, false), (5, false), (6, false)]) (l' := [(6, .pointer (some ⟨b1, 1, none⟩)), (5, .int .u64 s), (3, .pointer (some ⟨b2, 0, none⟩)), (1, .pointer (some ⟨b1, 0, none⟩))]) [6, 5, 3, 1] (by kernel_rfl) ?_
  refine ops_mem (d := some 7) (an := [.v (.int .u64 g)]) (evs := [.load ⟨b1, 1, none⟩ (.int .u64 g)]) (v := .int .u64 g) (M' := Mem w [.blk b2 [.int .u64 0, .int .u64 0] 27, .blk b1 [.int .u64 s, .int .u64 g] 27]) ⟨by kernel_rfl⟩ (fun w_ hM hS => ⟨w_, ⟨hM.cell 1 rfl rfl, rfl⟩, hM, trivial⟩) ?_
  refine ops_run (is := [(4, false), (5, false)]) (r := [(6, false)]) (l' := [(9, .pointer (some ⟨b1, 0, none⟩)), (8, .int .u64 (IntKind.u64.wrap (s + g))), (3, .pointer (some ⟨b2, 0, none⟩)), (1, .pointer (some ⟨b1, 0, none⟩))]) [9, 8, 3, 1] (by kernel_rfl) ?_
  refine ops_store (an := []) (evs := [.store ⟨b1, 0, none⟩ (.int .u64 (IntKind.u64.wrap (s + g)))]) (M' := Mem w [.blk b2 [.int .u64 0, .int .u64 0] 27, .blk b1 [.int .u64 (IntKind.u64.wrap (s + g)), .int .u64 g] 27]) ⟨by kernel_rfl⟩ (fun w_ hM hS => let ⟨w', he, h'⟩ := hM.evs_stores [.int .u64 (IntKind.u64.wrap (s + g))] 1 rfl 0 (Nat.le_of_ble_eq_true rfl); ⟨w', he, h', trivial⟩) ?_
  refine ops_run (is := []) (r := []) (l' := [(3, .pointer (some ⟨b2, 0, none⟩)), (1, .pointer (some ⟨b1, 0, none⟩))]) [3, 1] (by kernel_rfl) ?_
  refine ops_nil ?_
  refine fin_then ?_
  refine st_seq ?_
  refine st_region_draw [(0, true), (1, true), (3, true), (2, false), (4, true), (5, false)] (Mem w [.blk b1 [.int .u64 (IntKind.u64.wrap (s + g)), .int .u64 g] 27]) (by kernel_rfl) (by kernel_rfl) (by kernel_rfl) (fun _ d _ _ _ h => by cases d <;> exact h) (M' := Mem w [.blk b2 [.int .u64 0, .int .u64 0] 27, .blk b1 [.int .u64 (IntKind.u64.wrap (s + g)), .int .u64 g] 27]) (fun w_ hM => ⟨hM.drew, hM.drew.sub (by simp)⟩) ?_
  refine ops_run (is := [(0, true)]) (r := [(1, true), (3, true), (2, false), (4, true), (5, false)]) (l' := [(10, .pointer (some ⟨b1, 0, none⟩)), (3, .pointer (some ⟨b2, 0, none⟩)), (1, .pointer (some ⟨b1, 0, none⟩))]) [10, 3, 1] (by kernel_rfl) ?_
  refine ops_load (d := some 11) (an := [.v (.int .u64 (IntKind.u64.wrap (s + g)))]) (evs := [.load ⟨b1, 0, none⟩ (.int .u64 (IntKind.u64.wrap (s + g)))]) (v := .int .u64 (IntKind.u64.wrap (s + g))) ⟨by kernel_rfl⟩ (fun w_ hM => ⟨hM.cell 0 rfl rfl, rfl⟩) ?_
  refine ops_run (is := []) (r := [(3, true), (2, false), (4, true), (5, false)]) (l' := [(11, .int .u64 (IntKind.u64.wrap (s + g))), (3, .pointer (some ⟨b2, 0, none⟩)), (1, .pointer (some ⟨b1, 0, none⟩))]) [11, 3, 1] (by kernel_rfl) ?_
  refine ops_load (d := some 13) (an := [.v (.int .u64 (IntKind.u64.wrap (s + g))), .v (.int .u64 g)]) (evs := [.load ⟨b1, 0, none⟩ (.int .u64 (IntKind.u64.wrap (s + g))), .load ⟨b1, 1, none⟩ (.int .u64 g)]) (v := .agg #[.int .u64 (IntKind.u64.wrap (s + g)), .int .u64 g]) ⟨by kernel_rfl⟩ (fun w_ hM => ⟨hM.cell 0 rfl rfl, hM.cell 0 rfl rfl, rfl⟩) ?_
  refine ops_run (is := []) (r := [(2, false), (4, true), (5, false)]) (l' := [(13, .agg #[.int .u64 (IntKind.u64.wrap (s + g)), .int .u64 g]), (11, .int .u64 (IntKind.u64.wrap (s + g))), (3, .pointer (some ⟨b2, 0, none⟩))]) [13, 11, 3] (by kernel_rfl) ?_
  refine ops_call (σ := Unit) (d := some 12) (f := 33) (args := #[.int .u64 (IntKind.u64.wrap (s + g))]) (v := fun _ => .int .u64 (mixv (IntKind.u64.wrap (s + g)))) (M' := fun _ => Mem w [.blk b2 [.int .u64 0, .int .u64 0] 27, .blk b1 [.int .u64 (IntKind.u64.wrap (s + g)), .int .u64 g] 27]) ⟨by kernel_rfl⟩ (fun w_ hM hS => (Mix_calls (IntKind.u64.wrap (s + g)) w_).mono (by rintro e w' ⟨rfl, hb⟩; exact ⟨(), rfl, hM.step hb, hS.step hb⟩)) (fun _ => ?_)
  refine ops_run (is := [(4, true)]) (r := [(5, false)]) (l' := [(2, .int .u64 (mixv (IntKind.u64.wrap (s + g)))), (13, .agg #[.int .u64 (IntKind.u64.wrap (s + g)), .int .u64 g]), (3, .pointer (some ⟨b2, 0, none⟩))]) [2, 13, 3] (by kernel_rfl) ?_
  refine ops_store (an := []) (evs := [.store ⟨b2, 0, none⟩ (.int .u64 (IntKind.u64.wrap (s + g))), .store ⟨b2, 1, none⟩ (.int .u64 g)]) (M' := Mem w [.blk b2 [.int .u64 (IntKind.u64.wrap (s + g)), .int .u64 g] 27, .blk b1 [.int .u64 (IntKind.u64.wrap (s + g)), .int .u64 g] 27]) ⟨by kernel_rfl⟩ (fun w_ hM hS => let ⟨w', he, h'⟩ := hM.evs_stores [.int .u64 (IntKind.u64.wrap (s + g)), .int .u64 g] 0 rfl 0 (Nat.le_of_ble_eq_true rfl); ⟨w', he, h', (by exact h'.sub (by simp))⟩) ?_
  refine ops_run (is := []) (r := []) (l' := [(2, .int .u64 (mixv (IntKind.u64.wrap (s + g)))), (3, .pointer (some ⟨b2, 0, none⟩))]) [2, 3] (by kernel_rfl) ?_
  refine ops_nil ?_
  refine fin_then ?_
  refine st_ret ?_
  refine fin_ret [.tmp 2, .cell 3 27] [.int .u64 (mixv (IntKind.u64.wrap (s + g))), .agg #[.int .u64 (IntKind.u64.wrap (s + g)), .int .u64 g]] rfl rfl (fun w_ hM => (.tmp rfl (.cell rfl (tr_run _ [.v (.int .u64 (IntKind.u64.wrap (s + g))), .v (.int .u64 g)] [.load ⟨b2, 0, none⟩ (.int .u64 (IntKind.u64.wrap (s + g))), .load ⟨b2, 1, none⟩ (.int .u64 g)] (.agg #[.int .u64 (IntKind.u64.wrap (s + g)), .int .u64 g] : Value) _ _ (by kernel_rfl) ⟨hM.cell 0 rfl rfl, hM.cell 0 rfl rfl, rfl⟩) .nil))) (fun w_ hM => ?_)
  exact ⟨rfl, hM.done⟩
set_option maxRecDepth 100000 in
theorem Behind_calls (s g k : Int) (w : World) : Calls Try.prog 18 #[.agg #[.int .u64 s, .int .u64 g], .int .i64 k] w fun e w' => e = .returned (.agg #[.int .u64 (IntKind.u64.wrap (s + IntKind.u64.wrap (IntKind.u64.wrap k * g))), .int .u64 g]) ∧ Below w.heap.size w w' := by
  refine sx_calls Try.func18 rfl (n := 16) (by kernel_rfl) (l := [(0, .agg #[.int .u64 s, .int .u64 g]), (1, .int .i64 k)]) rfl (by rfl) (Mem.nil w) ?_
  refine st_seq ?_
  refine st_region [(0, false), (1, false)] (by rfl) ?_
  refine ops_new (d := some 2) (o := .cells #[.int .u64 s, .int .u64 g] 27) (v := fun b1 => .pointer (some ⟨b1, 0, none⟩)) (M' := fun b1 => Mem w [.blk b1 [.int .u64 s, .int .u64 g] 27]) (fun b1 => ⟨by kernel_rfl⟩) (fun w_ hM hS => ⟨hM.blk [.int .u64 s, .int .u64 g] 27, trivial⟩) (fun b1 => ?_)
  refine ops_run (is := []) (r := [(1, false)]) (l' := [(2, .pointer (some ⟨b1, 0, none⟩)), (1, .int .i64 k)]) [2, 1] (by kernel_rfl) ?_
  refine ops_new (d := some 4) (o := .cells #[.int .u64 0, .int .u64 0] 27) (v := fun b2 => .pointer (some ⟨b2, 0, none⟩)) (M' := fun b2 => Mem w [.blk b2 [.int .u64 0, .int .u64 0] 27, .blk b1 [.int .u64 s, .int .u64 g] 27]) (fun b2 => ⟨by kernel_rfl⟩) (fun w_ hM hS => ⟨hM.blk [.int .u64 0, .int .u64 0] 27, trivial⟩) (fun b2 => ?_)
  refine ops_run (is := []) (r := []) (l' := [(4, .pointer (some ⟨b2, 0, none⟩)), (2, .pointer (some ⟨b1, 0, none⟩)), (1, .int .i64 k)]) [4, 2, 1] (by kernel_rfl) ?_
  refine ops_nil ?_
  refine fin_then ?_
  refine st_seq ?_
  refine st_region [(0, false), (1, false), (2, false), (3, false), (4, false), (5, false), (6, false), (7, false), (8, false), (9, false), (10, false), (11, false)] (by rfl) ?_
  refine ops_run (is := [(0, false)]) (r := [(1, false), (2, false), (3, false), (4, false), (5, false), (6, false), (7, false), (8, false), (9, false), (10, false), (11, false)]) (l' := [(5, .pointer (some ⟨b1, 0, none⟩)), (4, .pointer (some ⟨b2, 0, none⟩)), (2, .pointer (some ⟨b1, 0, none⟩)), (1, .int .i64 k)]) [5, 4, 2, 1] (by kernel_rfl) ?_
  refine ops_mem (d := some 6) (an := [.v (.int .u64 s)]) (evs := [.load ⟨b1, 0, none⟩ (.int .u64 s)]) (v := .int .u64 s) (M' := Mem w [.blk b2 [.int .u64 0, .int .u64 0] 27, .blk b1 [.int .u64 s, .int .u64 g] 27]) ⟨by kernel_rfl⟩ (fun w_ hM hS => ⟨w_, ⟨hM.cell 1 rfl rfl, rfl⟩, hM, trivial⟩) ?_
  refine ops_run (is := [(2, false), (3, false), (4, false)]) (r := [(5, false), (6, false), (7, false), (8, false), (9, false), (10, false), (11, false)]) (l' := [(9, .pointer (some ⟨b1, 1, none⟩)), (8, .int .u64 (IntKind.u64.wrap k)), (6, .int .u64 s), (4, .pointer (some ⟨b2, 0, none⟩)), (2, .pointer (some ⟨b1, 0, none⟩))]) [9, 8, 6, 4, 2] (by kernel_rfl) ?_
  refine ops_mem (d := some 10) (an := [.v (.int .u64 g)]) (evs := [.load ⟨b1, 1, none⟩ (.int .u64 g)]) (v := .int .u64 g) (M' := Mem w [.blk b2 [.int .u64 0, .int .u64 0] 27, .blk b1 [.int .u64 s, .int .u64 g] 27]) ⟨by kernel_rfl⟩ (fun w_ hM hS => ⟨w_, ⟨hM.cell 1 rfl rfl, rfl⟩, hM, trivial⟩) ?_
  refine ops_run (is := [(6, false), (7, false), (8, false)]) (r := [(9, false), (10, false), (11, false)]) (l' := [(13, .pointer (some ⟨b1, 1, none⟩)), (12, .int .u64 (IntKind.u64.wrap (s + IntKind.u64.wrap (IntKind.u64.wrap k * g)))), (4, .pointer (some ⟨b2, 0, none⟩))]) [13, 12, 4] (by kernel_rfl) ?_
  refine ops_mem (d := some 14) (an := [.v (.int .u64 g)]) (evs := [.load ⟨b1, 1, none⟩ (.int .u64 g)]) (v := .int .u64 g) (M' := Mem w [.blk b2 [.int .u64 0, .int .u64 0] 27, .blk b1 [.int .u64 s, .int .u64 g] 27]) ⟨by kernel_rfl⟩ (fun w_ hM hS => ⟨w_, ⟨hM.cell 1 rfl rfl, rfl⟩, hM, trivial⟩) ?_
  refine ops_run (is := [(10, false)]) (r := [(11, false)]) (l' := [(15, .agg #[.int .u64 (IntKind.u64.wrap (s + IntKind.u64.wrap (IntKind.u64.wrap k * g))), .int .u64 g]), (4, .pointer (some ⟨b2, 0, none⟩))]) [15, 4] (by kernel_rfl) ?_
  refine ops_store (an := []) (evs := [.store ⟨b2, 0, none⟩ (.int .u64 (IntKind.u64.wrap (s + IntKind.u64.wrap (IntKind.u64.wrap k * g)))), .store ⟨b2, 1, none⟩ (.int .u64 g)]) (M' := Mem w [.blk b2 [.int .u64 (IntKind.u64.wrap (s + IntKind.u64.wrap (IntKind.u64.wrap k * g))), .int .u64 g] 27, .blk b1 [.int .u64 s, .int .u64 g] 27]) ⟨by kernel_rfl⟩ (fun w_ hM hS => let ⟨w', he, h'⟩ := hM.evs_stores [.int .u64 (IntKind.u64.wrap (s + IntKind.u64.wrap (IntKind.u64.wrap k * g))), .int .u64 g] 0 rfl 0 (Nat.le_of_ble_eq_true rfl); ⟨w', he, h', trivial⟩) ?_
  refine ops_run (is := []) (r := []) (l' := [(4, .pointer (some ⟨b2, 0, none⟩))]) [4] (by kernel_rfl) ?_
  refine ops_nil ?_
  refine fin_then ?_
  refine st_ret ?_
  refine fin_ret [.cell 4 27] [.agg #[.int .u64 (IntKind.u64.wrap (s + IntKind.u64.wrap (IntKind.u64.wrap k * g))), .int .u64 g]] rfl rfl (fun w_ hM => (.cell rfl (tr_run _ [.v (.int .u64 (IntKind.u64.wrap (s + IntKind.u64.wrap (IntKind.u64.wrap k * g)))), .v (.int .u64 g)] [.load ⟨b2, 0, none⟩ (.int .u64 (IntKind.u64.wrap (s + IntKind.u64.wrap (IntKind.u64.wrap k * g)))), .load ⟨b2, 1, none⟩ (.int .u64 g)] (.agg #[.int .u64 (IntKind.u64.wrap (s + IntKind.u64.wrap (IntKind.u64.wrap k * g))), .int .u64 g] : Value) _ _ (by kernel_rfl) ⟨hM.cell 0 rfl rfl, hM.cell 0 rfl rfl, rfl⟩) .nil)) (fun w_ hM => ?_)
  exact ⟨rfl, hM.done⟩
set_option maxRecDepth 100000 in
theorem Number1_calls (s g k : Int) (w : World) : Calls Try.prog 32 #[.agg #[.int .u64 s, .int .u64 g], .int .i64 k] w fun e w' => e = .returned (.int .u64 (scrv (IntKind.u64.wrap (s + IntKind.u64.wrap (IntKind.u64.wrap k * g))))) ∧ Below w.heap.size w w' := by
  refine sx_calls Try.func32 rfl (n := 14) (by kernel_rfl) (l := [(0, .agg #[.int .u64 s, .int .u64 g]), (1, .int .i64 k)]) rfl (by rfl) (Mem.nil w) ?_
  refine st_seq ?_
  refine st_region [(0, false), (1, false)] (by rfl) ?_
  refine ops_new (d := some 2) (o := .cells #[.int .u64 s, .int .u64 g] 27) (v := fun b1 => .pointer (some ⟨b1, 0, none⟩)) (M' := fun b1 => Mem w [.blk b1 [.int .u64 s, .int .u64 g] 27]) (fun b1 => ⟨by kernel_rfl⟩) (fun w_ hM hS => ⟨hM.blk [.int .u64 s, .int .u64 g] 27, trivial⟩) (fun b1 => ?_)
  refine ops_run (is := [(1, false)]) (r := []) (l' := [(2, .pointer (some ⟨b1, 0, none⟩)), (1, .int .i64 k)]) [2, 1] (by kernel_rfl) ?_
  refine ops_nil ?_
  refine fin_then ?_
  refine st_seq ?_
  refine st_region [(0, false), (1, false), (2, false), (3, false), (4, false), (5, false), (6, false), (7, false), (8, false), (9, false)] (by rfl) ?_
  refine ops_run (is := [(0, false)]) (r := [(1, false), (2, false), (3, false), (4, false), (5, false), (6, false), (7, false), (8, false), (9, false)]) (l' := [(5, .pointer (some ⟨b1, 0, none⟩)), (2, .pointer (some ⟨b1, 0, none⟩)), (1, .int .i64 k)]) [5, 2, 1] (by kernel_rfl) ?_
  refine ops_mem (d := some 6) (an := [.v (.int .u64 s)]) (evs := [.load ⟨b1, 0, none⟩ (.int .u64 s)]) (v := .int .u64 s) (M' := Mem w [.blk b1 [.int .u64 s, .int .u64 g] 27]) ⟨by kernel_rfl⟩ (fun w_ hM hS => ⟨w_, ⟨hM.cell 0 rfl rfl, rfl⟩, hM, trivial⟩) ?_
  refine ops_run (is := [(2, false), (3, false), (4, false)]) (r := [(5, false), (6, false), (7, false), (8, false), (9, false)]) (l' := [(9, .pointer (some ⟨b1, 1, none⟩)), (8, .int .u64 (IntKind.u64.wrap k)), (6, .int .u64 s)]) [9, 8, 6] (by kernel_rfl) ?_
  refine ops_mem (d := some 10) (an := [.v (.int .u64 g)]) (evs := [.load ⟨b1, 1, none⟩ (.int .u64 g)]) (v := .int .u64 g) (M' := Mem w [.blk b1 [.int .u64 s, .int .u64 g] 27]) ⟨by kernel_rfl⟩ (fun w_ hM hS => ⟨w_, ⟨hM.cell 0 rfl rfl, rfl⟩, hM, trivial⟩) ?_
  refine ops_run (is := [(6, false), (7, false)]) (r := [(8, false), (9, false)]) (l' := [(12, .int .u64 (IntKind.u64.wrap (s + IntKind.u64.wrap (IntKind.u64.wrap k * g))))]) [12] (by kernel_rfl) ?_
  refine ops_call (σ := Unit) (d := some 13) (f := 34) (args := #[.int .u64 (IntKind.u64.wrap (s + IntKind.u64.wrap (IntKind.u64.wrap k * g)))]) (v := fun _ => .int .u64 (scrv (IntKind.u64.wrap (s + IntKind.u64.wrap (IntKind.u64.wrap k * g))))) (M' := fun _ => Mem w [.blk b1 [.int .u64 s, .int .u64 g] 27]) ⟨by kernel_rfl⟩ (fun w_ hM hS => (Scrambled_calls (IntKind.u64.wrap (s + IntKind.u64.wrap (IntKind.u64.wrap k * g))) w_).mono (by rintro e w' ⟨rfl, hb⟩; exact ⟨(), rfl, hM.step hb, trivial⟩)) (fun _ => ?_)
  refine ops_run (is := [(9, false)]) (r := []) (l' := [(4, .int .u64 (scrv (IntKind.u64.wrap (s + IntKind.u64.wrap (IntKind.u64.wrap k * g)))))]) [4] (by kernel_rfl) ?_
  refine ops_nil ?_
  refine fin_then ?_
  refine st_ret ?_
  refine fin_ret [.tmp 4] [.int .u64 (scrv (IntKind.u64.wrap (s + IntKind.u64.wrap (IntKind.u64.wrap k * g))))] rfl rfl (fun w_ hM => (.tmp rfl .nil)) (fun w_ hM => ?_)
  exact ⟨rfl, hM.done⟩
theorem Next_st (s g : Int) (i : Nat) (w : World) : Calls Try.prog 30 #[.agg #[.int .u64 (st s g i), .int .u64 g]] w fun e w' => e = .returned (.tuple #[.int .u64 (mixv (st s g (i + 1))), .agg #[.int .u64 (st s g (i + 1)), .int .u64 g]]) ∧ Below w.heap.size w w' := by
  have h := Next_calls (st s g i) g w
  rw [st_succ] at h
  exact h
set_option maxRecDepth 100000 in
theorem Below_small (s g n : Int) (w : World) (h : n < 1) : Calls Try.prog 16 #[.agg #[.int .u64 s, .int .u64 g], .int .i64 n] w fun e w' => e = .returned (.tuple #[.int .i64 0, .agg #[.int .u64 0, .int .u64 0], .int .i64 1]) ∧ Below w.heap.size w w' := by
  have hk1 : decide (n < 1) = true := by simpa using h
  refine sx_calls Try.func16 rfl (n := 40) (by kernel_rfl) (l := [(0, .agg #[.int .u64 s, .int .u64 g]), (1, .int .i64 n)]) rfl (by rfl) (Mem.nil w) ?_
  refine st_seq ?_
  refine st_region [(0, false), (1, false), (2, false), (3, false)] (by rfl) ?_
  refine ops_new (d := some 2) (o := .cells #[.int .u64 s, .int .u64 g] 27) (v := fun b1 => .pointer (some ⟨b1, 0, none⟩)) (M' := fun b1 => Mem w [.blk b1 [.int .u64 s, .int .u64 g] 27]) (fun b1 => ⟨by kernel_rfl⟩) (fun w_ hM hS => ⟨hM.blk [.int .u64 s, .int .u64 g] 27, trivial⟩) (fun b1 => ?_)
  refine ops_run (is := [(1, false)]) (r := [(2, false), (3, false)]) (l' := [(2, .pointer (some ⟨b1, 0, none⟩)), (1, .int .i64 n)]) [2, 1] (by kernel_rfl) ?_
  refine ops_new (d := some 5) (o := .cells #[.int .u64 0, .int .u64 0] 27) (v := fun b2 => .pointer (some ⟨b2, 0, none⟩)) (M' := fun b2 => Mem w [.blk b2 [.int .u64 0, .int .u64 0] 27, .blk b1 [.int .u64 s, .int .u64 g] 27]) (fun b2 => ⟨by kernel_rfl⟩) (fun w_ hM hS => ⟨hM.blk [.int .u64 0, .int .u64 0] 27, trivial⟩) (fun b2 => ?_)
  refine ops_run (is := [(3, false)]) (r := []) (l' := [(5, .pointer (some ⟨b2, 0, none⟩)), (2, .pointer (some ⟨b1, 0, none⟩)), (1, .int .i64 n)]) [5, 2, 1] (by kernel_rfl) ?_
  refine ops_nil ?_
  refine fin_then ?_
  refine st_seq ?_
  refine st_seq ?_
  refine st_region [(0, false), (1, false), (2, false), (3, false), (4, false), (5, false), (6, false), (7, false)] (by rfl) ?_
  refine ops_run (is := [(0, false), (1, false), (2, false)]) (r := [(3, false), (4, false), (5, false), (6, false), (7, false)]) (l' := [(12, .bool (decide (n < 1))), (5, .pointer (some ⟨b2, 0, none⟩)), (2, .pointer (some ⟨b1, 0, none⟩)), (1, .int .i64 n)]) [12, 5, 2, 1] (by kernel_rfl) ?_
  refine ops_conv (l' := [(12, .bool true), (5, .pointer (some ⟨b2, 0, none⟩)), (2, .pointer (some ⟨b1, 0, none⟩)), (1, .int .i64 n)]) (by rw [hk1]) (fun _ h => h) ?_
  refine ops_run (is := [(3, false), (4, false), (5, false), (6, false), (7, false)]) (r := []) (l' := [(17, .bool true), (5, .pointer (some ⟨b2, 0, none⟩)), (2, .pointer (some ⟨b1, 0, none⟩)), (1, .int .i64 n)]) [17, 5, 2, 1] (by kernel_rfl) ?_
  refine ops_nil ?_
  refine fin_then ?_
  refine st_true rfl ?_
  refine st_seq ?_
  refine st_region [(0, false), (1, false), (2, false), (3, false)] (by rfl) ?_
  refine ops_run (is := [(0, false), (1, false)]) (r := [(2, false), (3, false)]) (l' := [(4, .int .i64 0), (18, .agg #[.int .u64 0, .int .u64 0]), (5, .pointer (some ⟨b2, 0, none⟩))]) [4, 18, 5] (by kernel_rfl) ?_
  refine ops_store (an := []) (evs := [.store ⟨b2, 0, none⟩ (.int .u64 0), .store ⟨b2, 1, none⟩ (.int .u64 0)]) (M' := Mem w [.blk b2 [.int .u64 0, .int .u64 0] 27, .blk b1 [.int .u64 s, .int .u64 g] 27]) ⟨by kernel_rfl⟩ (fun w_ hM hS => let ⟨w', he, h'⟩ := hM.evs_stores [.int .u64 0, .int .u64 0] 0 rfl 0 (Nat.le_of_ble_eq_true rfl); ⟨w', he, h', trivial⟩) ?_
  refine ops_run (is := [(3, false)]) (r := []) (l' := [(6, .int .i64 1), (4, .int .i64 0), (5, .pointer (some ⟨b2, 0, none⟩))]) [6, 4, 5] (by kernel_rfl) ?_
  refine ops_nil ?_
  refine fin_then ?_
  refine st_ret ?_
  refine fin_ret_then ?_
  refine fin_ret [.tmp 4, .cell 5 27, .tmp 6] [.int .i64 0, .agg #[.int .u64 0, .int .u64 0], .int .i64 1] rfl rfl (fun w_ hM => (.tmp rfl (.cell rfl (tr_run _ [.v (.int .u64 0), .v (.int .u64 0)] [.load ⟨b2, 0, none⟩ (.int .u64 0), .load ⟨b2, 1, none⟩ (.int .u64 0)] (.agg #[.int .u64 0, .int .u64 0] : Value) _ _ (by kernel_rfl) ⟨hM.cell 0 rfl rfl, hM.cell 0 rfl rfl, rfl⟩) (.tmp rfl .nil)))) (fun w_ hM => ?_)
  refine ⟨?_, hM.done⟩
  rfl
set_option maxRecDepth 100000 in
theorem Below_even (s g n : Int) (w : World) (h : 1 ≤ n) (h2 : Int.tmod g 2 = 0) : Calls Try.prog 16 #[.agg #[.int .u64 s, .int .u64 g], .int .i64 n] w fun e w' => e = .returned (.tuple #[.int .i64 0, .agg #[.int .u64 0, .int .u64 0], .int .i64 1]) ∧ Below w.heap.size w w' := by
  have hk1 : decide (n < 1) = false := by simp; omega
  have hk2 : (Int.tmod g 2 == 0) = true := by simp [h2]
  refine sx_calls Try.func16 rfl (n := 40) (by kernel_rfl) (l := [(0, .agg #[.int .u64 s, .int .u64 g]), (1, .int .i64 n)]) rfl (by rfl) (Mem.nil w) ?_
  refine st_seq ?_
  refine st_region [(0, false), (1, false), (2, false), (3, false)] (by rfl) ?_
  refine ops_new (d := some 2) (o := .cells #[.int .u64 s, .int .u64 g] 27) (v := fun b1 => .pointer (some ⟨b1, 0, none⟩)) (M' := fun b1 => Mem w [.blk b1 [.int .u64 s, .int .u64 g] 27]) (fun b1 => ⟨by kernel_rfl⟩) (fun w_ hM hS => ⟨hM.blk [.int .u64 s, .int .u64 g] 27, trivial⟩) (fun b1 => ?_)
  refine ops_run (is := [(1, false)]) (r := [(2, false), (3, false)]) (l' := [(2, .pointer (some ⟨b1, 0, none⟩)), (1, .int .i64 n)]) [2, 1] (by kernel_rfl) ?_
  refine ops_new (d := some 5) (o := .cells #[.int .u64 0, .int .u64 0] 27) (v := fun b2 => .pointer (some ⟨b2, 0, none⟩)) (M' := fun b2 => Mem w [.blk b2 [.int .u64 0, .int .u64 0] 27, .blk b1 [.int .u64 s, .int .u64 g] 27]) (fun b2 => ⟨by kernel_rfl⟩) (fun w_ hM hS => ⟨hM.blk [.int .u64 0, .int .u64 0] 27, trivial⟩) (fun b2 => ?_)
  refine ops_run (is := [(3, false)]) (r := []) (l' := [(5, .pointer (some ⟨b2, 0, none⟩)), (2, .pointer (some ⟨b1, 0, none⟩)), (1, .int .i64 n)]) [5, 2, 1] (by kernel_rfl) ?_
  refine ops_nil ?_
  refine fin_then ?_
  refine st_seq ?_
  refine st_seq ?_
  refine st_region [(0, false), (1, false), (2, false), (3, false), (4, false), (5, false), (6, false), (7, false)] (by rfl) ?_
  refine ops_run (is := [(0, false), (1, false), (2, false)]) (r := [(3, false), (4, false), (5, false), (6, false), (7, false)]) (l' := [(12, .bool (decide (n < 1))), (5, .pointer (some ⟨b2, 0, none⟩)), (2, .pointer (some ⟨b1, 0, none⟩)), (1, .int .i64 n)]) [12, 5, 2, 1] (by kernel_rfl) ?_
  refine ops_conv (l' := [(12, .bool false), (5, .pointer (some ⟨b2, 0, none⟩)), (2, .pointer (some ⟨b1, 0, none⟩)), (1, .int .i64 n)]) (by rw [hk1]) (fun _ h => h) ?_
  refine ops_run (is := [(3, false)]) (r := [(4, false), (5, false), (6, false), (7, false)]) (l' := [(13, .pointer (some ⟨b1, 1, none⟩)), (12, .bool false), (5, .pointer (some ⟨b2, 0, none⟩)), (2, .pointer (some ⟨b1, 0, none⟩)), (1, .int .i64 n)]) [13, 12, 5, 2, 1] (by kernel_rfl) ?_
  refine ops_mem (d := some 14) (an := [.v (.int .u64 g)]) (evs := [.load ⟨b1, 1, none⟩ (.int .u64 g)]) (v := .int .u64 g) (M' := Mem w [.blk b2 [.int .u64 0, .int .u64 0] 27, .blk b1 [.int .u64 s, .int .u64 g] 27]) ⟨by kernel_rfl⟩ (fun w_ hM hS => ⟨w_, ⟨hM.cell 1 rfl rfl, rfl⟩, hM, trivial⟩) ?_
  refine ops_run (is := [(5, false), (6, false), (7, false)]) (r := []) (l' := [(17, .bool (Int.tmod g 2 == 0)), (5, .pointer (some ⟨b2, 0, none⟩)), (2, .pointer (some ⟨b1, 0, none⟩)), (1, .int .i64 n)]) [17, 5, 2, 1] (by kernel_rfl) ?_
  refine ops_nil ?_
  refine fin_then ?_
  refine st_conv (l' := [(17, .bool true), (5, .pointer (some ⟨b2, 0, none⟩)), (2, .pointer (some ⟨b1, 0, none⟩)), (1, .int .i64 n)]) (by rw [hk2]) (fun _ h => h) ?_
  refine st_true rfl ?_
  refine st_seq ?_
  refine st_region [(0, false), (1, false), (2, false), (3, false)] (by rfl) ?_
  refine ops_run (is := [(0, false), (1, false)]) (r := [(2, false), (3, false)]) (l' := [(4, .int .i64 0), (18, .agg #[.int .u64 0, .int .u64 0]), (5, .pointer (some ⟨b2, 0, none⟩))]) [4, 18, 5] (by kernel_rfl) ?_
  refine ops_store (an := []) (evs := [.store ⟨b2, 0, none⟩ (.int .u64 0), .store ⟨b2, 1, none⟩ (.int .u64 0)]) (M' := Mem w [.blk b2 [.int .u64 0, .int .u64 0] 27, .blk b1 [.int .u64 s, .int .u64 g] 27]) ⟨by kernel_rfl⟩ (fun w_ hM hS => let ⟨w', he, h'⟩ := hM.evs_stores [.int .u64 0, .int .u64 0] 0 rfl 0 (Nat.le_of_ble_eq_true rfl); ⟨w', he, h', trivial⟩) ?_
  refine ops_run (is := [(3, false)]) (r := []) (l' := [(6, .int .i64 1), (4, .int .i64 0), (5, .pointer (some ⟨b2, 0, none⟩))]) [6, 4, 5] (by kernel_rfl) ?_
  refine ops_nil ?_
  refine fin_then ?_
  refine st_ret ?_
  refine fin_ret_then ?_
  refine fin_ret [.tmp 4, .cell 5 27, .tmp 6] [.int .i64 0, .agg #[.int .u64 0, .int .u64 0], .int .i64 1] rfl rfl (fun w_ hM => (.tmp rfl (.cell rfl (tr_run _ [.v (.int .u64 0), .v (.int .u64 0)] [.load ⟨b2, 0, none⟩ (.int .u64 0), .load ⟨b2, 1, none⟩ (.int .u64 0)] (.agg #[.int .u64 0, .int .u64 0] : Value) _ _ (by kernel_rfl) ⟨hM.cell 0 rfl rfl, hM.cell 0 rfl rfl, rfl⟩) (.tmp rfl .nil)))) (fun w_ hM => ?_)
  refine ⟨?_, hM.done⟩
  rfl
set_option maxRecDepth 100000 in
theorem Below_calls (s g n : Int) (w : World) (j : Nat) (h : 1 ≤ n) (h1 : n ≤ 9223372036854775807) (h2 : Int.tmod g 2 ≠ 0) (hs0 : 0 ≤ s) (hs1 : s < 18446744073709551616) (hacc : Acc n (mixv (st s g (j + 1)))) (hmin : ∀ i, i < j → ¬ Acc n (mixv (st s g (i + 1)))) : Calls Try.prog 16 #[.agg #[.int .u64 s, .int .u64 g], .int .i64 n] w fun e w' => e = .returned (.tuple #[.int .i64 (IntKind.i64.wrap (Int.tmod (mixv (st s g (j + 1))) n)), .agg #[.int .u64 (st s g (j + 1)), .int .u64 g], .int .i64 0]) ∧ Below w.heap.size w w' := by
  have hk1 : decide (n < 1) = false := by simp; omega
  have hk2 : (Int.tmod g 2 == 0) = false := by simp [h2]
  have hm : IntKind.u64.wrap n = n := w64_in (by omega) (by omega)
  have hr : Int.tmod (IntKind.u64.wrap (Int.tmod 18446744073709551615 n + 1)) n = restv n := rfl
  have hst0 : s = st s g 0 := (st_zero g hs0 hs1).symm
  refine sx_calls Try.func16 rfl (n := 40) (by kernel_rfl) (l := [(0, .agg #[.int .u64 s, .int .u64 g]), (1, .int .i64 n)]) rfl (by rfl) (Mem.nil w) ?_
  refine st_seq ?_
  refine st_region [(0, false), (1, false), (2, false), (3, false)] (by rfl) ?_
  refine ops_new (d := some 2) (o := .cells #[.int .u64 s, .int .u64 g] 27) (v := fun b1 => .pointer (some ⟨b1, 0, none⟩)) (M' := fun b1 => Mem w [.blk b1 [.int .u64 s, .int .u64 g] 27]) (fun b1 => ⟨by kernel_rfl⟩) (fun w_ hM hS => ⟨hM.blk [.int .u64 s, .int .u64 g] 27, trivial⟩) (fun b1 => ?_)
  refine ops_run (is := [(1, false)]) (r := [(2, false), (3, false)]) (l' := [(2, .pointer (some ⟨b1, 0, none⟩)), (1, .int .i64 n)]) [2, 1] (by kernel_rfl) ?_
  refine ops_new (d := some 5) (o := .cells #[.int .u64 0, .int .u64 0] 27) (v := fun b2 => .pointer (some ⟨b2, 0, none⟩)) (M' := fun b2 => Mem w [.blk b2 [.int .u64 0, .int .u64 0] 27, .blk b1 [.int .u64 s, .int .u64 g] 27]) (fun b2 => ⟨by kernel_rfl⟩) (fun w_ hM hS => ⟨hM.blk [.int .u64 0, .int .u64 0] 27, trivial⟩) (fun b2 => ?_)
  refine ops_run (is := [(3, false)]) (r := []) (l' := [(5, .pointer (some ⟨b2, 0, none⟩)), (2, .pointer (some ⟨b1, 0, none⟩)), (1, .int .i64 n)]) [5, 2, 1] (by kernel_rfl) ?_
  refine ops_nil ?_
  refine fin_then ?_
  refine st_seq ?_
  refine st_seq ?_
  refine st_region [(0, false), (1, false), (2, false), (3, false), (4, false), (5, false), (6, false), (7, false)] (by rfl) ?_
  refine ops_run (is := [(0, false), (1, false), (2, false)]) (r := [(3, false), (4, false), (5, false), (6, false), (7, false)]) (l' := [(12, .bool (decide (n < 1))), (5, .pointer (some ⟨b2, 0, none⟩)), (2, .pointer (some ⟨b1, 0, none⟩)), (1, .int .i64 n)]) [12, 5, 2, 1] (by kernel_rfl) ?_
  refine ops_conv (l' := [(12, .bool false), (5, .pointer (some ⟨b2, 0, none⟩)), (2, .pointer (some ⟨b1, 0, none⟩)), (1, .int .i64 n)]) (by rw [hk1]) (fun _ h => h) ?_
  refine ops_run (is := [(3, false)]) (r := [(4, false), (5, false), (6, false), (7, false)]) (l' := [(13, .pointer (some ⟨b1, 1, none⟩)), (12, .bool false), (5, .pointer (some ⟨b2, 0, none⟩)), (2, .pointer (some ⟨b1, 0, none⟩)), (1, .int .i64 n)]) [13, 12, 5, 2, 1] (by kernel_rfl) ?_
  refine ops_mem (d := some 14) (an := [.v (.int .u64 g)]) (evs := [.load ⟨b1, 1, none⟩ (.int .u64 g)]) (v := .int .u64 g) (M' := Mem w [.blk b2 [.int .u64 0, .int .u64 0] 27, .blk b1 [.int .u64 s, .int .u64 g] 27]) ⟨by kernel_rfl⟩ (fun w_ hM hS => ⟨w_, ⟨hM.cell 1 rfl rfl, rfl⟩, hM, trivial⟩) ?_
  refine ops_run (is := [(5, false), (6, false), (7, false)]) (r := []) (l' := [(17, .bool (Int.tmod g 2 == 0)), (5, .pointer (some ⟨b2, 0, none⟩)), (2, .pointer (some ⟨b1, 0, none⟩)), (1, .int .i64 n)]) [17, 5, 2, 1] (by kernel_rfl) ?_
  refine ops_nil ?_
  refine fin_then ?_
  refine st_conv (l' := [(17, .bool false), (5, .pointer (some ⟨b2, 0, none⟩)), (2, .pointer (some ⟨b1, 0, none⟩)), (1, .int .i64 n)]) (by rw [hk2]) (fun _ h => h) ?_
  refine st_false rfl ?_
  refine st_skip ?_
  refine fin_then ?_
  refine st_seq ?_
  refine st_region [(0, false), (1, false), (2, false)] (by rfl) ?_
  refine ops_run (is := [(0, false), (1, false), (2, false)]) (r := []) (l' := [(7, .int .u64 (IntKind.u64.wrap n)), (5, .pointer (some ⟨b2, 0, none⟩)), (2, .pointer (some ⟨b1, 0, none⟩))]) [7, 5, 2] (by kernel_rfl) ?_
  refine ops_conv (l' := [(7, .int .u64 n), (5, .pointer (some ⟨b2, 0, none⟩)), (2, .pointer (some ⟨b1, 0, none⟩))]) (by rw [hm]) (fun _ h => h) ?_
  refine ops_nil ?_
  refine fin_then ?_
  refine st_seq ?_
  refine st_region [(0, false), (1, false), (2, false), (3, false), (4, false), (5, false)] (by rfl) ?_
  refine ops_run (is := [(0, false)]) (r := [(1, false), (2, false), (3, false), (4, false), (5, false)]) (l' := [(21, .int .u64 n), (7, .int .u64 n), (5, .pointer (some ⟨b2, 0, none⟩)), (2, .pointer (some ⟨b1, 0, none⟩))]) [21, 7, 5, 2] (by kernel_rfl) ?_
  refine ops_val (op := (Go.Op.binOp Go.BinOp.rem 25 (Go.Operand.const (Go.Value.int Go.IntKind.u64 18446744073709551615)) (Go.Operand.tmp 21) 25)) (d := some 22) (v := .int .u64 (Int.tmod 18446744073709551615 n)) ⟨by kernel_rfl⟩ (run_rem rfl rfl (by omega)) ?_
  refine ops_run (is := [(2, false), (3, false)]) (r := [(4, false), (5, false)]) (l' := [(24, .int .u64 n), (23, .int .u64 (IntKind.u64.wrap (Int.tmod 18446744073709551615 n + 1))), (7, .int .u64 n), (5, .pointer (some ⟨b2, 0, none⟩)), (2, .pointer (some ⟨b1, 0, none⟩))]) [24, 23, 7, 5, 2] (by kernel_rfl) ?_
  refine ops_val (op := (Go.Op.binOp Go.BinOp.rem 25 (Go.Operand.tmp 23) (Go.Operand.tmp 24) 25)) (d := some 25) (v := .int .u64 (Int.tmod (IntKind.u64.wrap (Int.tmod 18446744073709551615 n + 1)) n)) ⟨by kernel_rfl⟩ (run_rem rfl rfl (by omega)) ?_
  refine ops_run (is := [(5, false)]) (r := []) (l' := [(8, .int .u64 (Int.tmod (IntKind.u64.wrap (Int.tmod 18446744073709551615 n + 1)) n)), (7, .int .u64 n), (5, .pointer (some ⟨b2, 0, none⟩)), (2, .pointer (some ⟨b1, 0, none⟩))]) [8, 7, 5, 2] (by kernel_rfl) ?_
  refine ops_conv (l' := [(8, .int .u64 (restv n)), (7, .int .u64 n), (5, .pointer (some ⟨b2, 0, none⟩)), (2, .pointer (some ⟨b1, 0, none⟩))]) (by rw [hr]) (fun _ h => h) ?_
  refine ops_nil ?_
  refine fin_then ?_
  refine st_block ?_
  refine st_loop (σ := Nat) 0 (fun i => [(8, .int .u64 (restv n)), (7, .int .u64 n), (5, .pointer (some ⟨b2, 0, none⟩)), (2, .pointer (some ⟨b1, 0, none⟩))]) (fun i => Mem w [.blk b2 [.int .u64 0, .int .u64 0] 27, .blk b1 [.int .u64 (st s g i), .int .u64 g] 27]) (fun i => i ≤ j) (fun i => j - i) (by exact Nat.zero_le j) (look_has ⟨rfl, rfl, rfl, rfl, trivial⟩) (fun w_ hM => by rw [st_zero g hs0 hs1]; exact hM) ?_
  rintro i hI
  have hI : i ≤ j := hI
  refine st_block ?_
  refine st_seq ?_
  refine st_region [(0, false)] (by rfl) ?_
  refine ops_run (is := [(0, false)]) (r := []) (l' := [(8, .int .u64 (restv n)), (7, .int .u64 n), (5, .pointer (some ⟨b2, 0, none⟩)), (2, .pointer (some ⟨b1, 0, none⟩))]) [8, 7, 5, 2] (by kernel_rfl) ?_
  refine ops_nil ?_
  refine fin_then ?_
  refine st_seq ?_
  refine st_region [(0, false), (1, false), (2, false), (3, false), (4, false), (5, false), (6, false)] (by rfl) ?_
  refine ops_mem (d := some 27) (an := [.v (.int .u64 (st s g i)), .v (.int .u64 g)]) (evs := [.load ⟨b1, 0, none⟩ (.int .u64 (st s g i)), .load ⟨b1, 1, none⟩ (.int .u64 g)]) (v := .agg #[.int .u64 (st s g i), .int .u64 g]) (M' := Mem w [.blk b2 [.int .u64 0, .int .u64 0] 27, .blk b1 [.int .u64 (st s g i), .int .u64 g] 27]) ⟨by kernel_rfl⟩ (fun w_ hM hS => ⟨w_, ⟨hM.cell 1 rfl rfl, hM.cell 1 rfl rfl, rfl⟩, hM, trivial⟩) ?_
  refine ops_run (is := []) (r := [(1, false), (2, false), (3, false), (4, false), (5, false), (6, false)]) (l' := [(27, .agg #[.int .u64 (st s g i), .int .u64 g]), (8, .int .u64 (restv n)), (7, .int .u64 n), (5, .pointer (some ⟨b2, 0, none⟩)), (2, .pointer (some ⟨b1, 0, none⟩))]) [27, 8, 7, 5, 2] (by kernel_rfl) ?_
  refine ops_call (σ := Unit) (d := some 28) (f := 30) (args := #[.agg #[.int .u64 (st s g i), .int .u64 g]]) (v := fun _ => .tuple #[.int .u64 (mixv (st s g (i + 1))), .agg #[.int .u64 (st s g (i + 1)), .int .u64 g]]) (M' := fun _ => Mem w [.blk b2 [.int .u64 0, .int .u64 0] 27, .blk b1 [.int .u64 (st s g i), .int .u64 g] 27]) ⟨by kernel_rfl⟩ (fun w_ hM hS => (Next_st s g i w_).mono (by rintro e w' ⟨rfl, hb⟩; exact ⟨(), rfl, hM.step hb, trivial⟩)) (fun _ => ?_)
  refine ops_run (is := [(2, false), (3, false), (4, false), (5, false)]) (r := [(6, false)]) (l' := [(9, .int .u64 (mixv (st s g (i + 1)))), (30, .agg #[.int .u64 (st s g (i + 1)), .int .u64 g]), (8, .int .u64 (restv n)), (7, .int .u64 n), (5, .pointer (some ⟨b2, 0, none⟩)), (2, .pointer (some ⟨b1, 0, none⟩))]) [9, 30, 8, 7, 5, 2] (by kernel_rfl) ?_
  refine ops_store (an := []) (evs := [.store ⟨b1, 0, none⟩ (.int .u64 (st s g (i + 1))), .store ⟨b1, 1, none⟩ (.int .u64 g)]) (M' := Mem w [.blk b2 [.int .u64 0, .int .u64 0] 27, .blk b1 [.int .u64 (st s g (i + 1)), .int .u64 g] 27]) ⟨by kernel_rfl⟩ (fun w_ hM hS => let ⟨w', he, h'⟩ := hM.evs_stores [.int .u64 (st s g (i + 1)), .int .u64 g] 1 rfl 0 (Nat.le_of_ble_eq_true rfl); ⟨w', he, h', trivial⟩) ?_
  refine ops_run (is := []) (r := []) (l' := [(9, .int .u64 (mixv (st s g (i + 1)))), (8, .int .u64 (restv n)), (7, .int .u64 n), (5, .pointer (some ⟨b2, 0, none⟩)), (2, .pointer (some ⟨b1, 0, none⟩))]) [9, 8, 7, 5, 2] (by kernel_rfl) ?_
  refine ops_nil ?_
  refine fin_then ?_
  refine st_seq ?_
  refine st_region [(0, false), (1, false), (2, false), (3, false)] (by rfl) ?_
  refine ops_run (is := [(0, false), (1, false), (2, false), (3, false)]) (r := []) (l' := [(34, .bool (decide (mixv (st s g (i + 1)) ≤ IntKind.u64.wrap (18446744073709551615 - restv n)))), (9, .int .u64 (mixv (st s g (i + 1)))), (8, .int .u64 (restv n)), (7, .int .u64 n), (5, .pointer (some ⟨b2, 0, none⟩)), (2, .pointer (some ⟨b1, 0, none⟩))]) [34, 9, 8, 7, 5, 2] (by kernel_rfl) ?_
  refine ops_nil ?_
  refine fin_then ?_
  refine st_if (b := decide (mixv (st s g (i + 1)) ≤ IntKind.u64.wrap (18446744073709551615 - restv n))) rfl (fun hc3 => ?_) (fun hc3 => ?_)
  · --
    refine st_seq ?_
    refine st_region_draw [(0, true), (1, true), (2, true), (3, true), (4, true), (5, true), (6, false), (7, true)] (Mem w [.blk b1 [.int .u64 (st s g (i + 1)), .int .u64 g] 27]) (by kernel_rfl) (by kernel_rfl) (by kernel_rfl) (fun _ d _ _ _ h => by cases d <;> exact h) (M' := Mem w [.blk b2 [.int .u64 0, .int .u64 0] 27, .blk b1 [.int .u64 (st s g (i + 1)), .int .u64 g] 27]) (fun w_ hM => ⟨hM.drew, hM.drew.sub (by simp)⟩) ?_
    refine ops_run (is := [(0, true), (1, true)]) (r := [(2, true), (3, true), (4, true), (5, true), (6, false), (7, true)]) (l' := [(36, .int .u64 n), (35, .int .u64 (mixv (st s g (i + 1)))), (5, .pointer (some ⟨b2, 0, none⟩)), (2, .pointer (some ⟨b1, 0, none⟩))]) [36, 35, 5, 2] (by kernel_rfl) ?_
    refine ops_val (op := (Go.Op.binOp Go.BinOp.rem 25 (Go.Operand.tmp 35) (Go.Operand.tmp 36) 25)) (d := some 37) (v := .int .u64 (Int.tmod (mixv (st s g (i + 1))) n)) ⟨by kernel_rfl⟩ (run_rem rfl rfl (by omega)) ?_
    refine ops_run (is := [(3, true)]) (r := [(4, true), (5, true), (6, false), (7, true)]) (l' := [(38, .int .i64 (IntKind.i64.wrap (Int.tmod (mixv (st s g (i + 1))) n))), (5, .pointer (some ⟨b2, 0, none⟩)), (2, .pointer (some ⟨b1, 0, none⟩))]) [38, 5, 2] (by kernel_rfl) ?_
    refine ops_load (d := some 39) (an := [.v (.int .u64 (st s g (i + 1))), .v (.int .u64 g)]) (evs := [.load ⟨b1, 0, none⟩ (.int .u64 (st s g (i + 1))), .load ⟨b1, 1, none⟩ (.int .u64 g)]) (v := .agg #[.int .u64 (st s g (i + 1)), .int .u64 g]) ⟨by kernel_rfl⟩ (fun w_ hM => ⟨hM.cell 0 rfl rfl, hM.cell 0 rfl rfl, rfl⟩) ?_
    refine ops_run (is := [(5, true)]) (r := [(6, false), (7, true)]) (l' := [(4, .int .i64 (IntKind.i64.wrap (Int.tmod (mixv (st s g (i + 1))) n))), (39, .agg #[.int .u64 (st s g (i + 1)), .int .u64 g]), (5, .pointer (some ⟨b2, 0, none⟩))]) [4, 39, 5] (by kernel_rfl) ?_
    refine ops_store (an := []) (evs := [.store ⟨b2, 0, none⟩ (.int .u64 (st s g (i + 1))), .store ⟨b2, 1, none⟩ (.int .u64 g)]) (M' := Mem w [.blk b2 [.int .u64 (st s g (i + 1)), .int .u64 g] 27, .blk b1 [.int .u64 (st s g (i + 1)), .int .u64 g] 27]) ⟨by kernel_rfl⟩ (fun w_ hM hS => let ⟨w', he, h'⟩ := hM.evs_stores [.int .u64 (st s g (i + 1)), .int .u64 g] 0 rfl 0 (Nat.le_of_ble_eq_true rfl); ⟨w', he, h', (by exact h'.sub (by simp))⟩) ?_
    refine ops_run (is := [(7, true)]) (r := []) (l' := [(6, .int .i64 0), (4, .int .i64 (IntKind.i64.wrap (Int.tmod (mixv (st s g (i + 1))) n))), (5, .pointer (some ⟨b2, 0, none⟩))]) [6, 4, 5] (by kernel_rfl) ?_
    refine ops_nil ?_
    refine fin_then ?_
    refine st_ret ?_
    refine fin_ret_block ?_
    refine fin_ret_then ?_
    refine fin_ret_block ?_
    refine fin_ret [.tmp 4, .cell 5 27, .tmp 6] [.int .i64 (IntKind.i64.wrap (Int.tmod (mixv (st s g (i + 1))) n)), .agg #[.int .u64 (st s g (i + 1)), .int .u64 g], .int .i64 0] rfl rfl (fun w_ hM => (.tmp rfl (.cell rfl (tr_run _ [.v (.int .u64 (st s g (i + 1))), .v (.int .u64 g)] [.load ⟨b2, 0, none⟩ (.int .u64 (st s g (i + 1))), .load ⟨b2, 1, none⟩ (.int .u64 g)] (.agg #[.int .u64 (st s g (i + 1)), .int .u64 g] : Value) _ _ (by kernel_rfl) ⟨hM.cell 0 rfl rfl, hM.cell 0 rfl rfl, rfl⟩) (.tmp rfl .nil)))) (fun w_ hM => ?_)
    have hij : i = j := Nat.le_antisymm hI (Nat.not_lt.1 fun hlt => hmin i hlt (by simpa [Acc] using hc3))
    refine ⟨?_, hM.done⟩
    subst hij
    rfl
  · --
    refine st_skip ?_
    refine fin_block ?_
    have hlt : i < j := Nat.lt_of_le_of_ne hI fun e => of_decide_eq_false hc3 (by rw [e]; exact hacc)
    refine fin_round (i + 1) (by exact hlt) (by omega) (look_has ⟨rfl, rfl, rfl, rfl, trivial⟩) (fun w_ hM => by exact hM)
theorem Number1_st (s g : Int) (i : Nat) (w : World) : Calls Try.prog 32 #[.agg #[.int .u64 s, .int .u64 g], .int .i64 (cnt i)] w fun e w' => e = .returned (.int .u64 (mixv (st s g (i + 1)))) ∧ Below w.heap.size w w' := by
  have h := Number1_calls s g (cnt i) w
  rw [st_at s g (cnt i) (i + 1) (cnt_mod i), scrv_eq (st_lo _ _ _) (st_hi _ _ _)] at h
  exact h
theorem Behind_st (s g : Int) (i : Nat) (w : World) : Calls Try.prog 18 #[.agg #[.int .u64 s, .int .u64 g], .int .i64 (cnt i)] w fun e w' => e = .returned (.agg #[.int .u64 (st s g (i + 1)), .int .u64 g]) ∧ Below w.heap.size w w' := by
  have h := Behind_calls s g (cnt i) w
  rw [st_at s g (cnt i) (i + 1) (cnt_mod i)] at h
  exact h
set_option maxRecDepth 100000 in
theorem Under_calls (s g n : Int) (w : World) (j : Nat) (h : 1 ≤ n) (h1 : n ≤ 9223372036854775807) (hacc : Acc n (mixv (st s g (j + 1)))) (hmin : ∀ i, i < j → ¬ Acc n (mixv (st s g (i + 1)))) : Calls Try.prog 17 #[.agg #[.int .u64 s, .int .u64 g], .int .i64 n] w fun e w' => e = .returned (.tuple #[.int .i64 (IntKind.i64.wrap (Int.tmod (mixv (st s g (j + 1))) n)), .int .i64 (cnt j)]) ∧ Below w.heap.size w w' := by
  have hm : IntKind.u64.wrap n = n := w64_in (by omega) (by omega)
  have h1' : n < 9223372036854775808 := by omega
  have hacc' := (acc_iff h h1' (mixv_lo _) (mixv_hi _)).1 hacc
  refine sx_calls Try.func17 rfl (n := 33) (by kernel_rfl) (l := [(0, .agg #[.int .u64 s, .int .u64 g]), (1, .int .i64 n)]) rfl (by rfl) (Mem.nil w) ?_
  refine st_seq ?_
  refine st_region [(0, false), (1, false), (2, false)] (by rfl) ?_
  refine ops_new (d := some 2) (o := .cells #[.int .u64 s, .int .u64 g] 27) (v := fun b1 => .pointer (some ⟨b1, 0, none⟩)) (M' := fun b1 => Mem w [.blk b1 [.int .u64 s, .int .u64 g] 27]) (fun b1 => ⟨by kernel_rfl⟩) (fun w_ hM hS => ⟨hM.blk [.int .u64 s, .int .u64 g] 27, trivial⟩) (fun b1 => ?_)
  refine ops_run (is := [(1, false), (2, false)]) (r := []) (l' := [(2, .pointer (some ⟨b1, 0, none⟩)), (1, .int .i64 n)]) [2, 1] (by kernel_rfl) ?_
  refine ops_nil ?_
  refine fin_then ?_
  refine st_seq ?_
  refine st_region [(0, false), (1, false), (2, false)] (by rfl) ?_
  refine ops_run (is := [(0, false), (1, false), (2, false)]) (r := []) (l' := [(6, .int .u64 (IntKind.u64.wrap n)), (2, .pointer (some ⟨b1, 0, none⟩))]) [6, 2] (by kernel_rfl) ?_
  refine ops_conv (l' := [(6, .int .u64 n), (2, .pointer (some ⟨b1, 0, none⟩))]) (by rw [hm]) (fun _ h => h) ?_
  refine ops_nil ?_
  refine fin_then ?_
  refine st_seq ?_
  refine st_region [(0, false)] (by rfl) ?_
  refine ops_run (is := [(0, false)]) (r := []) (l' := [(7, .int .i64 1), (6, .int .u64 n), (2, .pointer (some ⟨b1, 0, none⟩))]) [7, 6, 2] (by kernel_rfl) ?_
  refine ops_nil ?_
  refine fin_then ?_
  refine st_block ?_
  refine st_loop (σ := Nat) 0 (fun i => [(7, .int .i64 (cnt i)), (6, .int .u64 n), (2, .pointer (some ⟨b1, 0, none⟩))]) (fun i => Mem w [.blk b1 [.int .u64 s, .int .u64 g] 27]) (fun i => i ≤ j) (fun i => j - i) (by exact Nat.zero_le j) (look_has ⟨rfl, rfl, rfl, trivial⟩) (fun w_ hM => by exact hM) ?_
  rintro i hI
  have hI : i ≤ j := hI
  refine st_seq ?_
  refine st_block ?_
  refine st_seq ?_
  refine st_region [(0, false), (1, false), (2, false), (3, false)] (by rfl) ?_
  refine ops_mem (d := some 14) (an := [.v (.int .u64 s), .v (.int .u64 g)]) (evs := [.load ⟨b1, 0, none⟩ (.int .u64 s), .load ⟨b1, 1, none⟩ (.int .u64 g)]) (v := .agg #[.int .u64 s, .int .u64 g]) (M' := Mem w [.blk b1 [.int .u64 s, .int .u64 g] 27]) ⟨by kernel_rfl⟩ (fun w_ hM hS => ⟨w_, ⟨hM.cell 0 rfl rfl, hM.cell 0 rfl rfl, rfl⟩, hM, trivial⟩) ?_
  refine ops_run (is := [(1, false)]) (r := [(2, false), (3, false)]) (l' := [(15, .int .i64 (cnt i)), (14, .agg #[.int .u64 s, .int .u64 g]), (7, .int .i64 (cnt i)), (6, .int .u64 n), (2, .pointer (some ⟨b1, 0, none⟩))]) [15, 14, 7, 6, 2] (by kernel_rfl) ?_
  refine ops_call (σ := Unit) (d := some 16) (f := 32) (args := #[.agg #[.int .u64 s, .int .u64 g], .int .i64 (cnt i)]) (v := fun _ => .int .u64 (mixv (st s g (i + 1)))) (M' := fun _ => Mem w [.blk b1 [.int .u64 s, .int .u64 g] 27]) ⟨by kernel_rfl⟩ (fun w_ hM hS => (Number1_st s g i w_).mono (by rintro e w' ⟨rfl, hb⟩; exact ⟨(), rfl, hM.step hb, trivial⟩)) (fun _ => ?_)
  refine ops_run (is := [(3, false)]) (r := []) (l' := [(8, .int .u64 (mixv (st s g (i + 1)))), (7, .int .i64 (cnt i)), (6, .int .u64 n), (2, .pointer (some ⟨b1, 0, none⟩))]) [8, 7, 6, 2] (by kernel_rfl) ?_
  refine ops_nil ?_
  refine fin_then ?_
  refine st_seq ?_
  refine st_region [(0, false), (1, false), (2, false), (3, false), (4, false), (5, false)] (by rfl) ?_
  refine ops_run (is := [(0, false), (1, false), (2, false)]) (r := [(3, false), (4, false), (5, false)]) (l' := [(19, .int .u64 n), (18, .int .u64 (mixv (st s g (i + 1)))), (17, .int .u64 (mixv (st s g (i + 1)))), (8, .int .u64 (mixv (st s g (i + 1)))), (7, .int .i64 (cnt i)), (6, .int .u64 n), (2, .pointer (some ⟨b1, 0, none⟩))]) [19, 18, 17, 8, 7, 6, 2] (by kernel_rfl) ?_
  refine ops_val (op := (Go.Op.binOp Go.BinOp.rem 25 (Go.Operand.tmp 18) (Go.Operand.tmp 19) 25)) (d := some 20) (v := .int .u64 (Int.tmod (mixv (st s g (i + 1))) n)) ⟨by kernel_rfl⟩ (run_rem rfl rfl (by omega)) ?_
  refine ops_run (is := [(4, false), (5, false)]) (r := []) (l' := [(9, .int .u64 (IntKind.u64.wrap (mixv (st s g (i + 1)) - Int.tmod (mixv (st s g (i + 1))) n))), (8, .int .u64 (mixv (st s g (i + 1)))), (7, .int .i64 (cnt i)), (6, .int .u64 n), (2, .pointer (some ⟨b1, 0, none⟩))]) [9, 8, 7, 6, 2] (by kernel_rfl) ?_
  refine ops_nil ?_
  refine fin_then ?_
  refine st_seq ?_
  refine st_region [(0, false), (1, false), (2, false), (3, false), (4, false), (5, false)] (by rfl) ?_
  refine ops_run (is := [(0, false), (1, false), (2, false), (3, false), (4, false), (5, false)]) (r := []) (l' := [(27, .bool (decide (IntKind.u64.wrap (mixv (st s g (i + 1)) - Int.tmod (mixv (st s g (i + 1))) n) ≤ IntKind.u64.wrap (IntKind.u64.wrap (mixv (st s g (i + 1)) - Int.tmod (mixv (st s g (i + 1))) n) + IntKind.u64.wrap (n - 1))))), (8, .int .u64 (mixv (st s g (i + 1)))), (7, .int .i64 (cnt i)), (6, .int .u64 n), (2, .pointer (some ⟨b1, 0, none⟩))]) [27, 8, 7, 6, 2] (by kernel_rfl) ?_
  refine ops_nil ?_
  refine fin_then ?_
  refine st_if (b := decide (IntKind.u64.wrap (mixv (st s g (i + 1)) - Int.tmod (mixv (st s g (i + 1))) n) ≤ IntKind.u64.wrap (IntKind.u64.wrap (mixv (st s g (i + 1)) - Int.tmod (mixv (st s g (i + 1))) n) + IntKind.u64.wrap (n - 1)))) rfl (fun hc2 => ?_) (fun hc2 => ?_)
  · --
    refine st_seq ?_
    refine st_region [(0, false), (1, false), (2, false), (3, false), (4, false), (5, false), (6, false)] (by rfl) ?_
    refine ops_run (is := [(0, false), (1, false)]) (r := [(2, false), (3, false), (4, false), (5, false), (6, false)]) (l' := [(29, .int .u64 n), (28, .int .u64 (mixv (st s g (i + 1)))), (7, .int .i64 (cnt i))]) [29, 28, 7] (by kernel_rfl) ?_
    refine ops_val (op := (Go.Op.binOp Go.BinOp.rem 25 (Go.Operand.tmp 28) (Go.Operand.tmp 29) 25)) (d := some 30) (v := .int .u64 (Int.tmod (mixv (st s g (i + 1))) n)) ⟨by kernel_rfl⟩ (run_rem rfl rfl (by omega)) ?_
    refine ops_run (is := [(3, false), (4, false), (5, false), (6, false)]) (r := []) (l' := [(5, .int .i64 (cnt i)), (4, .int .i64 (IntKind.i64.wrap (Int.tmod (mixv (st s g (i + 1))) n)))]) [5, 4] (by kernel_rfl) ?_
    refine ops_nil ?_
    refine fin_then ?_
    refine st_ret ?_
    refine fin_ret_block ?_
    refine fin_ret_then ?_
    refine fin_ret_then ?_
    refine fin_ret_block ?_
    refine fin_ret [.tmp 4, .tmp 5] [.int .i64 (IntKind.i64.wrap (Int.tmod (mixv (st s g (i + 1))) n)), .int .i64 (cnt i)] rfl rfl (fun w_ hM => (.tmp rfl (.tmp rfl .nil))) (fun w_ hM => ?_)
    have hij : i = j := Nat.le_antisymm hI (Nat.not_lt.1 fun hlt => hmin i hlt ((acc_iff h h1' (mixv_lo _) (mixv_hi _)).2 (of_decide_eq_true hc2)))
    refine ⟨?_, hM.done⟩
    subst hij
    rfl
  · --
    refine st_skip ?_
    refine fin_block ?_
    refine fin_then ?_
    refine st_region [(0, false), (1, false), (2, false)] (by rfl) ?_
    refine ops_run (is := [(0, false), (1, false), (2, false)]) (r := []) (l' := [(7, .int .i64 (IntKind.i64.wrap (cnt i + 1))), (6, .int .u64 n), (2, .pointer (some ⟨b1, 0, none⟩))]) [7, 6, 2] (by kernel_rfl) ?_
    refine ops_conv (l' := [(7, .int .i64 (cnt (i + 1))), (6, .int .u64 n), (2, .pointer (some ⟨b1, 0, none⟩))]) (by rw [cnt_succ]) (fun _ h => h) ?_
    refine ops_nil ?_
    have hlt : i < j := Nat.lt_of_le_of_ne hI fun e => of_decide_eq_false hc2 (by rw [e]; exact hacc')
    refine fin_round (i + 1) (by exact hlt) (by omega) (look_has ⟨rfl, rfl, rfl, trivial⟩) (fun w_ hM => by exact hM)
theorem Below_begun (w : World) : Calls Try.prog 16 #[.agg #[.int .u64 (mixv (IntKind.u64.wrap 1)), .int .u64 11400714819323198485], .int .i64 1] w fun e w' => e = .returned (.tuple #[.int .i64 0, .agg #[.int .u64 (st (mixv (IntKind.u64.wrap 1)) 11400714819323198485 1), .int .u64 11400714819323198485], .int .i64 0]) ∧ Below w.heap.size w w' := by
  have h := Below_calls (mixv (IntKind.u64.wrap 1)) 11400714819323198485 1 w 0 (by omega) (by omega) (by decide) (mixv_lo _) (mixv_hi _) (by decide +kernel) (fun i hi => absurd hi (Nat.not_lt_zero i))
  have e : IntKind.i64.wrap (Int.tmod (mixv (st (mixv (IntKind.u64.wrap 1)) 11400714819323198485 (0 + 1))) 1) = 0 := by decide +kernel
  rw [e] at h
  exact h
set_option maxRecDepth 100000 in
theorem Begun_calls  (w : World) : Calls Try.prog 15 #[] w fun e w' => e = .returned (.bool true) ∧ Below w.heap.size w w' := by
  refine sx_calls Try.func15 rfl (n := 29) (by kernel_rfl) (l := []) rfl (by rfl) (Mem.nil w) ?_
  refine st_seq ?_
  refine st_region [(0, false)] (by rfl) ?_
  refine ops_run (is := [(0, false)]) (r := []) (l' := []) [] (by kernel_rfl) ?_
  refine ops_nil ?_
  refine fin_then ?_
  refine st_seq ?_
  refine st_region [(0, false), (1, false), (2, false), (3, false), (4, false), (5, false), (6, false), (7, false), (8, false), (9, false)] (by rfl) ?_
  refine ops_call (σ := Unit) (d := some 5) (f := 35) (args := #[.int .i64 1]) (v := fun _ => .agg #[.int .u64 (mixv (IntKind.u64.wrap 1)), .int .u64 11400714819323198485]) (M' := fun _ => Mem w []) ⟨by kernel_rfl⟩ (fun w_ hM hS => (New_calls 1 w_).mono (by rintro e w' ⟨rfl, hb⟩; exact ⟨(), rfl, hM.step hb, trivial⟩)) (fun _ => ?_)
  refine ops_run (is := []) (r := [(1, false), (2, false), (3, false), (4, false), (5, false), (6, false), (7, false), (8, false), (9, false)]) (l' := [(5, .agg #[.int .u64 (mixv (IntKind.u64.wrap 1)), .int .u64 11400714819323198485])]) [5] (by kernel_rfl) ?_
  refine ops_call (σ := Unit) (d := some 6) (f := 16) (args := #[.agg #[.int .u64 (mixv (IntKind.u64.wrap 1)), .int .u64 11400714819323198485], .int .i64 1]) (v := fun _ => .tuple #[.int .i64 0, .agg #[.int .u64 (st (mixv (IntKind.u64.wrap 1)) 11400714819323198485 1), .int .u64 11400714819323198485], .int .i64 0]) (M' := fun _ => Mem w []) ⟨by kernel_rfl⟩ (fun w_ hM hS => (Below_begun w_).mono (by rintro e w' ⟨rfl, hb⟩; exact ⟨(), rfl, hM.step hb, trivial⟩)) (fun _ => ?_)
  refine ops_run (is := [(2, false), (3, false), (4, false), (5, false)]) (r := [(6, false), (7, false), (8, false), (9, false)]) (l' := [(9, .int .i64 0), (8, .agg #[.int .u64 (st (mixv (IntKind.u64.wrap 1)) 11400714819323198485 1), .int .u64 11400714819323198485]), (7, .int .i64 0)]) [9, 8, 7] (by kernel_rfl) ?_
  refine ops_new (d := some 2) (o := .cells #[.int .u64 0, .int .u64 0] 27) (v := fun b1 => .pointer (some ⟨b1, 0, none⟩)) (M' := fun b1 => Mem w [.blk b1 [.int .u64 0, .int .u64 0] 27]) (fun b1 => ⟨by kernel_rfl⟩) (fun w_ hM hS => ⟨hM.blk [.int .u64 0, .int .u64 0] 27, trivial⟩) (fun b1 => ?_)
  refine ops_run (is := [(7, false)]) (r := [(8, false), (9, false)]) (l' := [(1, .int .i64 0), (2, .pointer (some ⟨b1, 0, none⟩)), (9, .int .i64 0), (8, .agg #[.int .u64 (st (mixv (IntKind.u64.wrap 1)) 11400714819323198485 1), .int .u64 11400714819323198485])]) [1, 2, 9, 8] (by kernel_rfl) ?_
  refine ops_store (an := []) (evs := [.store ⟨b1, 0, none⟩ (.int .u64 (st (mixv (IntKind.u64.wrap 1)) 11400714819323198485 1)), .store ⟨b1, 1, none⟩ (.int .u64 11400714819323198485)]) (M' := Mem w [.blk b1 [.int .u64 (st (mixv (IntKind.u64.wrap 1)) 11400714819323198485 1), .int .u64 11400714819323198485] 27]) ⟨by kernel_rfl⟩ (fun w_ hM hS => let ⟨w', he, h'⟩ := hM.evs_stores [.int .u64 (st (mixv (IntKind.u64.wrap 1)) 11400714819323198485 1), .int .u64 11400714819323198485] 0 rfl 0 (Nat.le_of_ble_eq_true rfl); ⟨w', he, h', trivial⟩) ?_
  refine ops_run (is := [(9, false)]) (r := []) (l' := [(3, .int .i64 0), (1, .int .i64 0), (2, .pointer (some ⟨b1, 0, none⟩))]) [3, 1, 2] (by kernel_rfl) ?_
  refine ops_nil ?_
  refine fin_then ?_
  refine st_seq ?_
  refine st_region_draw [(0, true), (1, true), (2, true), (3, true), (4, true), (5, true), (6, true), (7, true), (8, true), (9, false), (10, true), (11, true), (12, true), (13, true), (14, true), (15, true), (16, true), (17, true), (18, true), (19, true)] (Mem w [.blk b1 [.int .u64 (st (mixv (IntKind.u64.wrap 1)) 11400714819323198485 1), .int .u64 11400714819323198485] 27]) (by kernel_rfl) (by kernel_rfl) (by kernel_rfl) (fun _ d _ _ _ h => by cases d <;> exact h) (M' := Mem w [.blk b1 [.int .u64 (st (mixv (IntKind.u64.wrap 1)) 11400714819323198485 1), .int .u64 11400714819323198485] 27]) (fun w_ hM => ⟨hM.drew, hM.drew.sub (by simp)⟩) ?_
  refine ops_run (is := [(0, true), (1, true), (2, true), (3, true), (4, true), (5, true), (6, true), (7, true)]) (r := [(8, true), (9, false), (10, true), (11, true), (12, true), (13, true), (14, true), (15, true), (16, true), (17, true), (18, true), (19, true)]) (l' := [(17, .pointer (some ⟨b1, 1, none⟩)), (16, .bool true), (2, .pointer (some ⟨b1, 0, none⟩))]) [17, 16, 2] (by kernel_rfl) ?_
  refine ops_load (d := some 18) (an := [.v (.int .u64 11400714819323198485)]) (evs := [.load ⟨b1, 1, none⟩ (.int .u64 11400714819323198485)]) (v := .int .u64 11400714819323198485) ⟨by kernel_rfl⟩ (fun w_ hM => ⟨hM.cell 0 rfl rfl, rfl⟩) ?_
  refine ops_run (is := []) (r := [(9, false), (10, true), (11, true), (12, true), (13, true), (14, true), (15, true), (16, true), (17, true), (18, true), (19, true)]) (l' := [(18, .int .u64 11400714819323198485), (16, .bool true), (2, .pointer (some ⟨b1, 0, none⟩))]) [18, 16, 2] (by kernel_rfl) ?_
  refine ops_call (σ := Unit) (d := some 19) (f := 35) (args := #[.int .i64 1]) (v := fun _ => .agg #[.int .u64 (mixv (IntKind.u64.wrap 1)), .int .u64 11400714819323198485]) (M' := fun _ => Mem w [.blk b1 [.int .u64 (st (mixv (IntKind.u64.wrap 1)) 11400714819323198485 1), .int .u64 11400714819323198485] 27]) ⟨by kernel_rfl⟩ (fun w_ hM hS => (New_calls 1 w_).mono (by rintro e w' ⟨rfl, hb⟩; exact ⟨(), rfl, hM.step hb, hS.step hb⟩)) (fun _ => ?_)
  refine ops_run (is := [(10, true), (11, true), (12, true), (13, true), (14, true)]) (r := [(15, true), (16, true), (17, true), (18, true), (19, true)]) (l' := [(24, .pointer (some ⟨b1, 1, none⟩)), (23, .bool true)]) [24, 23] (by kernel_rfl) ?_
  refine ops_load (d := some 25) (an := [.v (.int .u64 11400714819323198485)]) (evs := [.load ⟨b1, 1, none⟩ (.int .u64 11400714819323198485)]) (v := .int .u64 11400714819323198485) ⟨by kernel_rfl⟩ (fun w_ hM => ⟨hM.cell 0 rfl rfl, rfl⟩) ?_
  refine ops_run (is := [(16, true), (17, true), (18, true), (19, true)]) (r := []) (l' := [(0, .bool true)]) [0] (by kernel_rfl) ?_
  refine ops_nil ?_
  refine fin_then ?_
  refine st_ret ?_
  refine fin_ret [.tmp 0] [.bool true] rfl rfl (fun w_ hM => (.tmp rfl .nil)) (fun w_ hM => ?_)
  refine ⟨?_, hM.done⟩
  rfl
theorem eqA27 (d : Nat) (w : World) (x0 y0 : Int) (x1 y1 : Int) :
    (Op.equalIn (d + 2) 27 (.agg #[.int .u64 x0, .int .u64 x1]) (.agg #[.int .u64 y0, .int .u64 y1])).run Try.prog w = .ok (x0 == y0 && (x1 == y1)) w := by
  refine eqA_of Try.underlying27 (by kernel_rfl) ?_
  refine eqf_cons (by rfl) (by go_simp; rfl) (by go_simp; rfl) (by go_simp) ?_
  exact eqf_last (by rfl) (by go_simp; rfl) (by go_simp; rfl) (by go_simp)
set_option maxRecDepth 100000 in
theorem RndBelows_small (s g n : Int) (w : World) (h : n < 1) : Calls Try.prog 4 #[.agg #[.int .u64 s, .int .u64 g], .int .i64 n] w fun e w' => e = .returned (.bool true) ∧ Below w.heap.size w w' := by
  have hk1 : decide (n < 1) = true := by simpa using h
  refine sx_calls Try.func4 rfl (n := 58) (by kernel_rfl) (l := [(0, .agg #[.int .u64 s, .int .u64 g]), (1, .int .i64 n)]) rfl (by rfl) (Mem.nil w) ?_
  refine st_seq ?_
  refine st_region [(0, false), (1, false)] (by rfl) ?_
  refine ops_new (d := some 2) (o := .cells #[.int .u64 s, .int .u64 g] 27) (v := fun b1 => .pointer (some ⟨b1, 0, none⟩)) (M' := fun b1 => Mem w [.blk b1 [.int .u64 s, .int .u64 g] 27]) (fun b1 => ⟨by kernel_rfl⟩) (fun w_ hM hS => ⟨hM.blk [.int .u64 s, .int .u64 g] 27, trivial⟩) (fun b1 => ?_)
  refine ops_run (is := [(1, false)]) (r := []) (l' := [(2, .pointer (some ⟨b1, 0, none⟩)), (1, .int .i64 n)]) [2, 1] (by kernel_rfl) ?_
  refine ops_nil ?_
  refine fin_then ?_
  refine st_seq ?_
  refine st_seq ?_
  refine st_region [(0, false), (1, false)] (by rfl) ?_
  refine ops_call (σ := Unit) (d := some 10) (f := 15) (args := #[]) (v := fun _ => .bool true) (M' := fun _ => Mem w [.blk b1 [.int .u64 s, .int .u64 g] 27]) ⟨by kernel_rfl⟩ (fun w_ hM hS => (Begun_calls w_).mono (by rintro e w' ⟨rfl, hb⟩; exact ⟨(), rfl, hM.step hb, trivial⟩)) (fun _ => ?_)
  refine ops_run (is := [(1, false)]) (r := []) (l' := [(11, .bool false), (2, .pointer (some ⟨b1, 0, none⟩)), (1, .int .i64 n)]) [11, 2, 1] (by kernel_rfl) ?_
  refine ops_nil ?_
  refine fin_then ?_
  refine st_false rfl ?_
  refine st_skip ?_
  refine fin_then ?_
  refine st_seq ?_
  refine st_region [(0, false), (1, false), (2, false), (3, false), (4, false), (5, false), (6, false), (7, false), (8, false), (9, false), (10, false)] (by rfl) ?_
  refine ops_run (is := []) (r := [(0, false), (1, false), (2, false), (3, false), (4, false), (5, false), (6, false), (7, false), (8, false), (9, false), (10, false)]) (l' := [(2, .pointer (some ⟨b1, 0, none⟩)), (1, .int .i64 n)]) [2, 1] (by kernel_rfl) ?_
  refine ops_mem (d := some 13) (an := [.v (.int .u64 s), .v (.int .u64 g)]) (evs := [.load ⟨b1, 0, none⟩ (.int .u64 s), .load ⟨b1, 1, none⟩ (.int .u64 g)]) (v := .agg #[.int .u64 s, .int .u64 g]) (M' := Mem w [.blk b1 [.int .u64 s, .int .u64 g] 27]) ⟨by kernel_rfl⟩ (fun w_ hM hS => ⟨w_, ⟨hM.cell 0 rfl rfl, hM.cell 0 rfl rfl, rfl⟩, hM, trivial⟩) ?_
  refine ops_run (is := [(1, false)]) (r := [(2, false), (3, false), (4, false), (5, false), (6, false), (7, false), (8, false), (9, false), (10, false)]) (l' := [(14, .int .i64 n), (13, .agg #[.int .u64 s, .int .u64 g]), (2, .pointer (some ⟨b1, 0, none⟩)), (1, .int .i64 n)]) [14, 13, 2, 1] (by kernel_rfl) ?_
  refine ops_call (σ := Unit) (d := some 15) (f := 16) (args := #[.agg #[.int .u64 s, .int .u64 g], .int .i64 n]) (v := fun _ => .tuple #[.int .i64 0, .agg #[.int .u64 0, .int .u64 0], .int .i64 1]) (M' := fun _ => Mem w [.blk b1 [.int .u64 s, .int .u64 g] 27]) ⟨by kernel_rfl⟩ (fun w_ hM hS => (Below_small s g n w_ h).mono (by rintro e w' ⟨rfl, hb⟩; exact ⟨(), rfl, hM.step hb, trivial⟩)) (fun _ => ?_)
  refine ops_run (is := [(3, false), (4, false), (5, false), (6, false)]) (r := [(7, false), (8, false), (9, false), (10, false)]) (l' := [(18, .int .i64 1), (17, .agg #[.int .u64 0, .int .u64 0]), (16, .int .i64 0), (2, .pointer (some ⟨b1, 0, none⟩)), (1, .int .i64 n)]) [18, 17, 16, 2, 1] (by kernel_rfl) ?_
  refine ops_new (d := some 6) (o := .cells #[.int .u64 0, .int .u64 0] 27) (v := fun b2 => .pointer (some ⟨b2, 0, none⟩)) (M' := fun b2 => Mem w [.blk b2 [.int .u64 0, .int .u64 0] 27, .blk b1 [.int .u64 s, .int .u64 g] 27]) (fun b2 => ⟨by kernel_rfl⟩) (fun w_ hM hS => ⟨hM.blk [.int .u64 0, .int .u64 0] 27, trivial⟩) (fun b2 => ?_)
  refine ops_run (is := [(8, false)]) (r := [(9, false), (10, false)]) (l' := [(5, .int .i64 0), (6, .pointer (some ⟨b2, 0, none⟩)), (18, .int .i64 1), (17, .agg #[.int .u64 0, .int .u64 0]), (2, .pointer (some ⟨b1, 0, none⟩)), (1, .int .i64 n)]) [5, 6, 18, 17, 2, 1] (by kernel_rfl) ?_
  refine ops_store (an := []) (evs := [.store ⟨b2, 0, none⟩ (.int .u64 0), .store ⟨b2, 1, none⟩ (.int .u64 0)]) (M' := Mem w [.blk b2 [.int .u64 0, .int .u64 0] 27, .blk b1 [.int .u64 s, .int .u64 g] 27]) ⟨by kernel_rfl⟩ (fun w_ hM hS => let ⟨w', he, h'⟩ := hM.evs_stores [.int .u64 0, .int .u64 0] 0 rfl 0 (Nat.le_of_ble_eq_true rfl); ⟨w', he, h', trivial⟩) ?_
  refine ops_run (is := [(10, false)]) (r := []) (l' := [(7, .int .i64 1), (5, .int .i64 0), (6, .pointer (some ⟨b2, 0, none⟩)), (2, .pointer (some ⟨b1, 0, none⟩)), (1, .int .i64 n)]) [7, 5, 6, 2, 1] (by kernel_rfl) ?_
  refine ops_nil ?_
  refine fin_then ?_
  refine st_seq ?_
  refine st_seq ?_
  refine st_region [(0, false), (1, false), (2, false), (3, false), (4, false), (5, false), (6, false), (7, false)] (by rfl) ?_
  refine ops_run (is := [(0, false), (1, false), (2, false)]) (r := [(3, false), (4, false), (5, false), (6, false), (7, false)]) (l' := [(21, .bool (decide (n < 1))), (7, .int .i64 1), (5, .int .i64 0), (6, .pointer (some ⟨b2, 0, none⟩)), (2, .pointer (some ⟨b1, 0, none⟩)), (1, .int .i64 n)]) [21, 7, 5, 6, 2, 1] (by kernel_rfl) ?_
  refine ops_conv (l' := [(21, .bool true), (7, .int .i64 1), (5, .int .i64 0), (6, .pointer (some ⟨b2, 0, none⟩)), (2, .pointer (some ⟨b1, 0, none⟩)), (1, .int .i64 n)]) (by rw [hk1]) (fun _ h => h) ?_
  refine ops_run (is := [(3, false), (4, false), (5, false), (6, false), (7, false)]) (r := []) (l' := [(26, .bool true), (7, .int .i64 1), (5, .int .i64 0), (6, .pointer (some ⟨b2, 0, none⟩)), (2, .pointer (some ⟨b1, 0, none⟩)), (1, .int .i64 n)]) [26, 7, 5, 6, 2, 1] (by kernel_rfl) ?_
  refine ops_nil ?_
  refine fin_then ?_
  refine st_true rfl ?_
  refine st_seq ?_
  refine st_region [(0, false), (1, false), (2, false), (3, false), (4, false), (5, false), (6, false), (7, false), (8, false), (9, false), (10, false), (11, false)] (by rfl) ?_
  refine ops_run (is := [(0, false), (1, false), (2, false)]) (r := [(3, false), (4, false), (5, false), (6, false), (7, false), (8, false), (9, false), (10, false), (11, false)]) (l' := [(29, .bool true), (7, .int .i64 1), (6, .pointer (some ⟨b2, 0, none⟩))]) [29, 7, 6] (by kernel_rfl) ?_
  refine ops_mem (d := some 30) (an := [.v (.int .u64 0), .v (.int .u64 0)]) (evs := [.load ⟨b2, 0, none⟩ (.int .u64 0), .load ⟨b2, 1, none⟩ (.int .u64 0)]) (v := .agg #[.int .u64 0, .int .u64 0]) (M' := Mem w [.blk b2 [.int .u64 0, .int .u64 0] 27, .blk b1 [.int .u64 s, .int .u64 g] 27]) ⟨by kernel_rfl⟩ (fun w_ hM hS => ⟨w_, ⟨hM.cell 0 rfl rfl, hM.cell 0 rfl rfl, rfl⟩, hM, trivial⟩) ?_
  refine ops_run (is := [(4, false)]) (r := [(5, false), (6, false), (7, false), (8, false), (9, false), (10, false), (11, false)]) (l' := [(31, .agg #[.int .u64 0, .int .u64 0]), (30, .agg #[.int .u64 0, .int .u64 0]), (29, .bool true), (7, .int .i64 1)]) [31, 30, 29, 7] (by kernel_rfl) ?_
  refine ops_val (op := (Go.Op.binOp Go.BinOp.eql 27 (Go.Operand.tmp 30) (Go.Operand.tmp 31) 27)) (d := some 32) (v := .bool true) ⟨by kernel_rfl⟩ (run_eql_agg (r := true) rfl rfl (by kernel_rfl) (fun w => by have h := eqA27 9998 w 0 0 0 0; simpa only [BEq.rfl, Bool.and_true] using h)) ?_
  refine ops_run (is := [(6, false), (7, false), (8, false), (9, false), (10, false), (11, false)]) (r := []) (l' := [(4, .bool true)]) [4] (by kernel_rfl) ?_
  refine ops_nil ?_
  refine fin_then ?_
  refine st_ret ?_
  refine fin_ret_then ?_
  refine fin_ret [.tmp 4] [.bool true] rfl rfl (fun w_ hM => (.tmp rfl .nil)) (fun w_ hM => ?_)
  refine ⟨?_, hM.done⟩
  rfl
set_option maxRecDepth 100000 in
theorem RndBelows_even (s g n : Int) (w : World) (h : 1 ≤ n) (h2 : Int.tmod g 2 = 0) : Calls Try.prog 4 #[.agg #[.int .u64 s, .int .u64 g], .int .i64 n] w fun e w' => e = .returned (.bool true) ∧ Below w.heap.size w w' := by
  have hk1 : decide (n < 1) = false := by simp; omega
  have hk2 : (Int.tmod g 2 == 0) = true := by simp [h2]
  refine sx_calls Try.func4 rfl (n := 58) (by kernel_rfl) (l := [(0, .agg #[.int .u64 s, .int .u64 g]), (1, .int .i64 n)]) rfl (by rfl) (Mem.nil w) ?_
  refine st_seq ?_
  refine st_region [(0, false), (1, false)] (by rfl) ?_
  refine ops_new (d := some 2) (o := .cells #[.int .u64 s, .int .u64 g] 27) (v := fun b1 => .pointer (some ⟨b1, 0, none⟩)) (M' := fun b1 => Mem w [.blk b1 [.int .u64 s, .int .u64 g] 27]) (fun b1 => ⟨by kernel_rfl⟩) (fun w_ hM hS => ⟨hM.blk [.int .u64 s, .int .u64 g] 27, trivial⟩) (fun b1 => ?_)
  refine ops_run (is := [(1, false)]) (r := []) (l' := [(2, .pointer (some ⟨b1, 0, none⟩)), (1, .int .i64 n)]) [2, 1] (by kernel_rfl) ?_
  refine ops_nil ?_
  refine fin_then ?_
  refine st_seq ?_
  refine st_seq ?_
  refine st_region [(0, false), (1, false)] (by rfl) ?_
  refine ops_call (σ := Unit) (d := some 10) (f := 15) (args := #[]) (v := fun _ => .bool true) (M' := fun _ => Mem w [.blk b1 [.int .u64 s, .int .u64 g] 27]) ⟨by kernel_rfl⟩ (fun w_ hM hS => (Begun_calls w_).mono (by rintro e w' ⟨rfl, hb⟩; exact ⟨(), rfl, hM.step hb, trivial⟩)) (fun _ => ?_)
  refine ops_run (is := [(1, false)]) (r := []) (l' := [(11, .bool false), (2, .pointer (some ⟨b1, 0, none⟩)), (1, .int .i64 n)]) [11, 2, 1] (by kernel_rfl) ?_
  refine ops_nil ?_
  refine fin_then ?_
  refine st_false rfl ?_
  refine st_skip ?_
  refine fin_then ?_
  refine st_seq ?_
  refine st_region [(0, false), (1, false), (2, false), (3, false), (4, false), (5, false), (6, false), (7, false), (8, false), (9, false), (10, false)] (by rfl) ?_
  refine ops_run (is := []) (r := [(0, false), (1, false), (2, false), (3, false), (4, false), (5, false), (6, false), (7, false), (8, false), (9, false), (10, false)]) (l' := [(2, .pointer (some ⟨b1, 0, none⟩)), (1, .int .i64 n)]) [2, 1] (by kernel_rfl) ?_
  refine ops_mem (d := some 13) (an := [.v (.int .u64 s), .v (.int .u64 g)]) (evs := [.load ⟨b1, 0, none⟩ (.int .u64 s), .load ⟨b1, 1, none⟩ (.int .u64 g)]) (v := .agg #[.int .u64 s, .int .u64 g]) (M' := Mem w [.blk b1 [.int .u64 s, .int .u64 g] 27]) ⟨by kernel_rfl⟩ (fun w_ hM hS => ⟨w_, ⟨hM.cell 0 rfl rfl, hM.cell 0 rfl rfl, rfl⟩, hM, trivial⟩) ?_
  refine ops_run (is := [(1, false)]) (r := [(2, false), (3, false), (4, false), (5, false), (6, false), (7, false), (8, false), (9, false), (10, false)]) (l' := [(14, .int .i64 n), (13, .agg #[.int .u64 s, .int .u64 g]), (2, .pointer (some ⟨b1, 0, none⟩)), (1, .int .i64 n)]) [14, 13, 2, 1] (by kernel_rfl) ?_
  refine ops_call (σ := Unit) (d := some 15) (f := 16) (args := #[.agg #[.int .u64 s, .int .u64 g], .int .i64 n]) (v := fun _ => .tuple #[.int .i64 0, .agg #[.int .u64 0, .int .u64 0], .int .i64 1]) (M' := fun _ => Mem w [.blk b1 [.int .u64 s, .int .u64 g] 27]) ⟨by kernel_rfl⟩ (fun w_ hM hS => (Below_even s g n w_ h h2).mono (by rintro e w' ⟨rfl, hb⟩; exact ⟨(), rfl, hM.step hb, trivial⟩)) (fun _ => ?_)
  refine ops_run (is := [(3, false), (4, false), (5, false), (6, false)]) (r := [(7, false), (8, false), (9, false), (10, false)]) (l' := [(18, .int .i64 1), (17, .agg #[.int .u64 0, .int .u64 0]), (16, .int .i64 0), (2, .pointer (some ⟨b1, 0, none⟩)), (1, .int .i64 n)]) [18, 17, 16, 2, 1] (by kernel_rfl) ?_
  refine ops_new (d := some 6) (o := .cells #[.int .u64 0, .int .u64 0] 27) (v := fun b2 => .pointer (some ⟨b2, 0, none⟩)) (M' := fun b2 => Mem w [.blk b2 [.int .u64 0, .int .u64 0] 27, .blk b1 [.int .u64 s, .int .u64 g] 27]) (fun b2 => ⟨by kernel_rfl⟩) (fun w_ hM hS => ⟨hM.blk [.int .u64 0, .int .u64 0] 27, trivial⟩) (fun b2 => ?_)
  refine ops_run (is := [(8, false)]) (r := [(9, false), (10, false)]) (l' := [(5, .int .i64 0), (6, .pointer (some ⟨b2, 0, none⟩)), (18, .int .i64 1), (17, .agg #[.int .u64 0, .int .u64 0]), (2, .pointer (some ⟨b1, 0, none⟩)), (1, .int .i64 n)]) [5, 6, 18, 17, 2, 1] (by kernel_rfl) ?_
  refine ops_store (an := []) (evs := [.store ⟨b2, 0, none⟩ (.int .u64 0), .store ⟨b2, 1, none⟩ (.int .u64 0)]) (M' := Mem w [.blk b2 [.int .u64 0, .int .u64 0] 27, .blk b1 [.int .u64 s, .int .u64 g] 27]) ⟨by kernel_rfl⟩ (fun w_ hM hS => let ⟨w', he, h'⟩ := hM.evs_stores [.int .u64 0, .int .u64 0] 0 rfl 0 (Nat.le_of_ble_eq_true rfl); ⟨w', he, h', trivial⟩) ?_
  refine ops_run (is := [(10, false)]) (r := []) (l' := [(7, .int .i64 1), (5, .int .i64 0), (6, .pointer (some ⟨b2, 0, none⟩)), (2, .pointer (some ⟨b1, 0, none⟩)), (1, .int .i64 n)]) [7, 5, 6, 2, 1] (by kernel_rfl) ?_
  refine ops_nil ?_
  refine fin_then ?_
  refine st_seq ?_
  refine st_seq ?_
  refine st_region [(0, false), (1, false), (2, false), (3, false), (4, false), (5, false), (6, false), (7, false)] (by rfl) ?_
  refine ops_run (is := [(0, false), (1, false), (2, false)]) (r := [(3, false), (4, false), (5, false), (6, false), (7, false)]) (l' := [(21, .bool (decide (n < 1))), (7, .int .i64 1), (5, .int .i64 0), (6, .pointer (some ⟨b2, 0, none⟩)), (2, .pointer (some ⟨b1, 0, none⟩)), (1, .int .i64 n)]) [21, 7, 5, 6, 2, 1] (by kernel_rfl) ?_
  refine ops_conv (l' := [(21, .bool false), (7, .int .i64 1), (5, .int .i64 0), (6, .pointer (some ⟨b2, 0, none⟩)), (2, .pointer (some ⟨b1, 0, none⟩)), (1, .int .i64 n)]) (by rw [hk1]) (fun _ h => h) ?_
  refine ops_run (is := [(3, false)]) (r := [(4, false), (5, false), (6, false), (7, false)]) (l' := [(22, .pointer (some ⟨b1, 1, none⟩)), (21, .bool false), (7, .int .i64 1), (5, .int .i64 0), (6, .pointer (some ⟨b2, 0, none⟩)), (2, .pointer (some ⟨b1, 0, none⟩)), (1, .int .i64 n)]) [22, 21, 7, 5, 6, 2, 1] (by kernel_rfl) ?_
  refine ops_mem (d := some 23) (an := [.v (.int .u64 g)]) (evs := [.load ⟨b1, 1, none⟩ (.int .u64 g)]) (v := .int .u64 g) (M' := Mem w [.blk b2 [.int .u64 0, .int .u64 0] 27, .blk b1 [.int .u64 s, .int .u64 g] 27]) ⟨by kernel_rfl⟩ (fun w_ hM hS => ⟨w_, ⟨hM.cell 1 rfl rfl, rfl⟩, hM, trivial⟩) ?_
  refine ops_run (is := [(5, false), (6, false), (7, false)]) (r := []) (l' := [(26, .bool (Int.tmod g 2 == 0)), (7, .int .i64 1), (5, .int .i64 0), (6, .pointer (some ⟨b2, 0, none⟩)), (2, .pointer (some ⟨b1, 0, none⟩)), (1, .int .i64 n)]) [26, 7, 5, 6, 2, 1] (by kernel_rfl) ?_
  refine ops_nil ?_
  refine fin_then ?_
  refine st_conv (l' := [(26, .bool true), (7, .int .i64 1), (5, .int .i64 0), (6, .pointer (some ⟨b2, 0, none⟩)), (2, .pointer (some ⟨b1, 0, none⟩)), (1, .int .i64 n)]) (by rw [hk2]) (fun _ h => h) ?_
  refine st_true rfl ?_
  refine st_seq ?_
  refine st_region [(0, false), (1, false), (2, false), (3, false), (4, false), (5, false), (6, false), (7, false), (8, false), (9, false), (10, false), (11, false)] (by rfl) ?_
  refine ops_run (is := [(0, false), (1, false), (2, false)]) (r := [(3, false), (4, false), (5, false), (6, false), (7, false), (8, false), (9, false), (10, false), (11, false)]) (l' := [(29, .bool true), (7, .int .i64 1), (6, .pointer (some ⟨b2, 0, none⟩))]) [29, 7, 6] (by kernel_rfl) ?_
  refine ops_mem (d := some 30) (an := [.v (.int .u64 0), .v (.int .u64 0)]) (evs := [.load ⟨b2, 0, none⟩ (.int .u64 0), .load ⟨b2, 1, none⟩ (.int .u64 0)]) (v := .agg #[.int .u64 0, .int .u64 0]) (M' := Mem w [.blk b2 [.int .u64 0, .int .u64 0] 27, .blk b1 [.int .u64 s, .int .u64 g] 27]) ⟨by kernel_rfl⟩ (fun w_ hM hS => ⟨w_, ⟨hM.cell 0 rfl rfl, hM.cell 0 rfl rfl, rfl⟩, hM, trivial⟩) ?_
  refine ops_run (is := [(4, false)]) (r := [(5, false), (6, false), (7, false), (8, false), (9, false), (10, false), (11, false)]) (l' := [(31, .agg #[.int .u64 0, .int .u64 0]), (30, .agg #[.int .u64 0, .int .u64 0]), (29, .bool true), (7, .int .i64 1)]) [31, 30, 29, 7] (by kernel_rfl) ?_
  refine ops_val (op := (Go.Op.binOp Go.BinOp.eql 27 (Go.Operand.tmp 30) (Go.Operand.tmp 31) 27)) (d := some 32) (v := .bool true) ⟨by kernel_rfl⟩ (run_eql_agg (r := true) rfl rfl (by kernel_rfl) (fun w => by have h := eqA27 9998 w 0 0 0 0; simpa only [BEq.rfl, Bool.and_true] using h)) ?_
  refine ops_run (is := [(6, false), (7, false), (8, false), (9, false), (10, false), (11, false)]) (r := []) (l' := [(4, .bool true)]) [4] (by kernel_rfl) ?_
  refine ops_nil ?_
  refine fin_then ?_
  refine st_ret ?_
  refine fin_ret_then ?_
  refine fin_ret [.tmp 4] [.bool true] rfl rfl (fun w_ hM => (.tmp rfl .nil)) (fun w_ hM => ?_)
  refine ⟨?_, hM.done⟩
  rfl
set_option maxRecDepth 100000 in
theorem RndBelows_ok (s g n : Int) (w : World) (j : Nat) (h : 1 ≤ n) (h1 : n ≤ 9223372036854775807) (hacc : Acc n (mixv (st s g (j + 1)))) (hmin : ∀ i, i < j → ¬ Acc n (mixv (st s g (i + 1)))) (h2 : Int.tmod g 2 ≠ 0) (hs0 : 0 ≤ s) (hs1 : s < 18446744073709551616) : Calls Try.prog 4 #[.agg #[.int .u64 s, .int .u64 g], .int .i64 n] w fun e w' => e = .returned (.bool true) ∧ Below w.heap.size w w' := by
  have hk1 : decide (n < 1) = false := by simp; omega
  have hk2 : (Int.tmod g 2 == 0) = false := by simp [h2]
  refine sx_calls Try.func4 rfl (n := 58) (by kernel_rfl) (l := [(0, .agg #[.int .u64 s, .int .u64 g]), (1, .int .i64 n)]) rfl (by rfl) (Mem.nil w) ?_
  refine st_seq ?_
  refine st_region [(0, false), (1, false)] (by rfl) ?_
  refine ops_new (d := some 2) (o := .cells #[.int .u64 s, .int .u64 g] 27) (v := fun b1 => .pointer (some ⟨b1, 0, none⟩)) (M' := fun b1 => Mem w [.blk b1 [.int .u64 s, .int .u64 g] 27]) (fun b1 => ⟨by kernel_rfl⟩) (fun w_ hM hS => ⟨hM.blk [.int .u64 s, .int .u64 g] 27, trivial⟩) (fun b1 => ?_)
  refine ops_run (is := [(1, false)]) (r := []) (l' := [(2, .pointer (some ⟨b1, 0, none⟩)), (1, .int .i64 n)]) [2, 1] (by kernel_rfl) ?_
  refine ops_nil ?_
  refine fin_then ?_
  refine st_seq ?_
  refine st_seq ?_
  refine st_region [(0, false), (1, false)] (by rfl) ?_
  refine ops_call (σ := Unit) (d := some 10) (f := 15) (args := #[]) (v := fun _ => .bool true) (M' := fun _ => Mem w [.blk b1 [.int .u64 s, .int .u64 g] 27]) ⟨by kernel_rfl⟩ (fun w_ hM hS => (Begun_calls w_).mono (by rintro e w' ⟨rfl, hb⟩; exact ⟨(), rfl, hM.step hb, trivial⟩)) (fun _ => ?_)
  refine ops_run (is := [(1, false)]) (r := []) (l' := [(11, .bool false), (2, .pointer (some ⟨b1, 0, none⟩)), (1, .int .i64 n)]) [11, 2, 1] (by kernel_rfl) ?_
  refine ops_nil ?_
  refine fin_then ?_
  refine st_false rfl ?_
  refine st_skip ?_
  refine fin_then ?_
  refine st_seq ?_
  refine st_region [(0, false), (1, false), (2, false), (3, false), (4, false), (5, false), (6, false), (7, false), (8, false), (9, false), (10, false)] (by rfl) ?_
  refine ops_run (is := []) (r := [(0, false), (1, false), (2, false), (3, false), (4, false), (5, false), (6, false), (7, false), (8, false), (9, false), (10, false)]) (l' := [(2, .pointer (some ⟨b1, 0, none⟩)), (1, .int .i64 n)]) [2, 1] (by kernel_rfl) ?_
  refine ops_mem (d := some 13) (an := [.v (.int .u64 s), .v (.int .u64 g)]) (evs := [.load ⟨b1, 0, none⟩ (.int .u64 s), .load ⟨b1, 1, none⟩ (.int .u64 g)]) (v := .agg #[.int .u64 s, .int .u64 g]) (M' := Mem w [.blk b1 [.int .u64 s, .int .u64 g] 27]) ⟨by kernel_rfl⟩ (fun w_ hM hS => ⟨w_, ⟨hM.cell 0 rfl rfl, hM.cell 0 rfl rfl, rfl⟩, hM, trivial⟩) ?_
  refine ops_run (is := [(1, false)]) (r := [(2, false), (3, false), (4, false), (5, false), (6, false), (7, false), (8, false), (9, false), (10, false)]) (l' := [(14, .int .i64 n), (13, .agg #[.int .u64 s, .int .u64 g]), (2, .pointer (some ⟨b1, 0, none⟩)), (1, .int .i64 n)]) [14, 13, 2, 1] (by kernel_rfl) ?_
  refine ops_call (σ := Unit) (d := some 15) (f := 16) (args := #[.agg #[.int .u64 s, .int .u64 g], .int .i64 n]) (v := fun _ => .tuple #[.int .i64 (IntKind.i64.wrap (Int.tmod (mixv (st s g (j + 1))) n)), .agg #[.int .u64 (st s g (j + 1)), .int .u64 g], .int .i64 0]) (M' := fun _ => Mem w [.blk b1 [.int .u64 s, .int .u64 g] 27]) ⟨by kernel_rfl⟩ (fun w_ hM hS => (Below_calls s g n w_ j h h1 h2 hs0 hs1 hacc hmin).mono (by rintro e w' ⟨rfl, hb⟩; exact ⟨(), rfl, hM.step hb, trivial⟩)) (fun _ => ?_)
  refine ops_run (is := [(3, false), (4, false), (5, false), (6, false)]) (r := [(7, false), (8, false), (9, false), (10, false)]) (l' := [(18, .int .i64 0), (17, .agg #[.int .u64 (st s g (j + 1)), .int .u64 g]), (16, .int .i64 (IntKind.i64.wrap (Int.tmod (mixv (st s g (j + 1))) n))), (2, .pointer (some ⟨b1, 0, none⟩)), (1, .int .i64 n)]) [18, 17, 16, 2, 1] (by kernel_rfl) ?_
  refine ops_new (d := some 6) (o := .cells #[.int .u64 0, .int .u64 0] 27) (v := fun b2 => .pointer (some ⟨b2, 0, none⟩)) (M' := fun b2 => Mem w [.blk b2 [.int .u64 0, .int .u64 0] 27, .blk b1 [.int .u64 s, .int .u64 g] 27]) (fun b2 => ⟨by kernel_rfl⟩) (fun w_ hM hS => ⟨hM.blk [.int .u64 0, .int .u64 0] 27, trivial⟩) (fun b2 => ?_)
  refine ops_run (is := [(8, false)]) (r := [(9, false), (10, false)]) (l' := [(5, .int .i64 (IntKind.i64.wrap (Int.tmod (mixv (st s g (j + 1))) n))), (6, .pointer (some ⟨b2, 0, none⟩)), (18, .int .i64 0), (17, .agg #[.int .u64 (st s g (j + 1)), .int .u64 g]), (2, .pointer (some ⟨b1, 0, none⟩)), (1, .int .i64 n)]) [5, 6, 18, 17, 2, 1] (by kernel_rfl) ?_
  refine ops_store (an := []) (evs := [.store ⟨b2, 0, none⟩ (.int .u64 (st s g (j + 1))), .store ⟨b2, 1, none⟩ (.int .u64 g)]) (M' := Mem w [.blk b2 [.int .u64 (st s g (j + 1)), .int .u64 g] 27, .blk b1 [.int .u64 s, .int .u64 g] 27]) ⟨by kernel_rfl⟩ (fun w_ hM hS => let ⟨w', he, h'⟩ := hM.evs_stores [.int .u64 (st s g (j + 1)), .int .u64 g] 0 rfl 0 (Nat.le_of_ble_eq_true rfl); ⟨w', he, h', trivial⟩) ?_
  refine ops_run (is := [(10, false)]) (r := []) (l' := [(7, .int .i64 0), (5, .int .i64 (IntKind.i64.wrap (Int.tmod (mixv (st s g (j + 1))) n))), (6, .pointer (some ⟨b2, 0, none⟩)), (2, .pointer (some ⟨b1, 0, none⟩)), (1, .int .i64 n)]) [7, 5, 6, 2, 1] (by kernel_rfl) ?_
  refine ops_nil ?_
  refine fin_then ?_
  refine st_seq ?_
  refine st_seq ?_
  refine st_region [(0, false), (1, false), (2, false), (3, false), (4, false), (5, false), (6, false), (7, false)] (by rfl) ?_
  refine ops_run (is := [(0, false), (1, false), (2, false)]) (r := [(3, false), (4, false), (5, false), (6, false), (7, false)]) (l' := [(21, .bool (decide (n < 1))), (7, .int .i64 0), (5, .int .i64 (IntKind.i64.wrap (Int.tmod (mixv (st s g (j + 1))) n))), (6, .pointer (some ⟨b2, 0, none⟩)), (2, .pointer (some ⟨b1, 0, none⟩)), (1, .int .i64 n)]) [21, 7, 5, 6, 2, 1] (by kernel_rfl) ?_
  refine ops_conv (l' := [(21, .bool false), (7, .int .i64 0), (5, .int .i64 (IntKind.i64.wrap (Int.tmod (mixv (st s g (j + 1))) n))), (6, .pointer (some ⟨b2, 0, none⟩)), (2, .pointer (some ⟨b1, 0, none⟩)), (1, .int .i64 n)]) (by rw [hk1]) (fun _ h => h) ?_
  refine ops_run (is := [(3, false)]) (r := [(4, false), (5, false), (6, false), (7, false)]) (l' := [(22, .pointer (some ⟨b1, 1, none⟩)), (21, .bool false), (7, .int .i64 0), (5, .int .i64 (IntKind.i64.wrap (Int.tmod (mixv (st s g (j + 1))) n))), (6, .pointer (some ⟨b2, 0, none⟩)), (2, .pointer (some ⟨b1, 0, none⟩)), (1, .int .i64 n)]) [22, 21, 7, 5, 6, 2, 1] (by kernel_rfl) ?_
  refine ops_mem (d := some 23) (an := [.v (.int .u64 g)]) (evs := [.load ⟨b1, 1, none⟩ (.int .u64 g)]) (v := .int .u64 g) (M' := Mem w [.blk b2 [.int .u64 (st s g (j + 1)), .int .u64 g] 27, .blk b1 [.int .u64 s, .int .u64 g] 27]) ⟨by kernel_rfl⟩ (fun w_ hM hS => ⟨w_, ⟨hM.cell 1 rfl rfl, rfl⟩, hM, trivial⟩) ?_
  refine ops_run (is := [(5, false), (6, false), (7, false)]) (r := []) (l' := [(26, .bool (Int.tmod g 2 == 0)), (7, .int .i64 0), (5, .int .i64 (IntKind.i64.wrap (Int.tmod (mixv (st s g (j + 1))) n))), (6, .pointer (some ⟨b2, 0, none⟩)), (2, .pointer (some ⟨b1, 0, none⟩)), (1, .int .i64 n)]) [26, 7, 5, 6, 2, 1] (by kernel_rfl) ?_
  refine ops_nil ?_
  refine fin_then ?_
  refine st_conv (l' := [(26, .bool false), (7, .int .i64 0), (5, .int .i64 (IntKind.i64.wrap (Int.tmod (mixv (st s g (j + 1))) n))), (6, .pointer (some ⟨b2, 0, none⟩)), (2, .pointer (some ⟨b1, 0, none⟩)), (1, .int .i64 n)]) (by rw [hk2]) (fun _ h => h) ?_
  refine st_false rfl ?_
  refine st_skip ?_
  refine fin_then ?_
  refine st_seq ?_
  refine st_region [(0, false), (1, false), (2, false), (3, false), (4, false), (5, false), (6, false), (7, false)] (by rfl) ?_
  refine ops_run (is := []) (r := [(0, false), (1, false), (2, false), (3, false), (4, false), (5, false), (6, false), (7, false)]) (l' := [(7, .int .i64 0), (5, .int .i64 (IntKind.i64.wrap (Int.tmod (mixv (st s g (j + 1))) n))), (6, .pointer (some ⟨b2, 0, none⟩)), (2, .pointer (some ⟨b1, 0, none⟩)), (1, .int .i64 n)]) [7, 5, 6, 2, 1] (by kernel_rfl) ?_
  refine ops_mem (d := some 39) (an := [.v (.int .u64 s), .v (.int .u64 g)]) (evs := [.load ⟨b1, 0, none⟩ (.int .u64 s), .load ⟨b1, 1, none⟩ (.int .u64 g)]) (v := .agg #[.int .u64 s, .int .u64 g]) (M' := Mem w [.blk b2 [.int .u64 (st s g (j + 1)), .int .u64 g] 27, .blk b1 [.int .u64 s, .int .u64 g] 27]) ⟨by kernel_rfl⟩ (fun w_ hM hS => ⟨w_, ⟨hM.cell 1 rfl rfl, hM.cell 1 rfl rfl, rfl⟩, hM, trivial⟩) ?_
  refine ops_run (is := [(1, false)]) (r := [(2, false), (3, false), (4, false), (5, false), (6, false), (7, false)]) (l' := [(40, .int .i64 n), (39, .agg #[.int .u64 s, .int .u64 g]), (7, .int .i64 0), (5, .int .i64 (IntKind.i64.wrap (Int.tmod (mixv (st s g (j + 1))) n))), (6, .pointer (some ⟨b2, 0, none⟩)), (2, .pointer (some ⟨b1, 0, none⟩))]) [40, 39, 7, 5, 6, 2] (by kernel_rfl) ?_
  refine ops_call (σ := Unit) (d := some 41) (f := 17) (args := #[.agg #[.int .u64 s, .int .u64 g], .int .i64 n]) (v := fun _ => .tuple #[.int .i64 (IntKind.i64.wrap (Int.tmod (mixv (st s g (j + 1))) n)), .int .i64 (cnt j)]) (M' := fun _ => Mem w [.blk b2 [.int .u64 (st s g (j + 1)), .int .u64 g] 27, .blk b1 [.int .u64 s, .int .u64 g] 27]) ⟨by kernel_rfl⟩ (fun w_ hM hS => (Under_calls s g n w_ j h h1 hacc hmin).mono (by rintro e w' ⟨rfl, hb⟩; exact ⟨(), rfl, hM.step hb, trivial⟩)) (fun _ => ?_)
  refine ops_run (is := [(3, false), (4, false), (5, false), (6, false), (7, false)]) (r := []) (l' := [(9, .int .i64 (cnt j)), (8, .int .i64 (IntKind.i64.wrap (Int.tmod (mixv (st s g (j + 1))) n))), (7, .int .i64 0), (5, .int .i64 (IntKind.i64.wrap (Int.tmod (mixv (st s g (j + 1))) n))), (6, .pointer (some ⟨b2, 0, none⟩)), (2, .pointer (some ⟨b1, 0, none⟩))]) [9, 8, 7, 5, 6, 2] (by kernel_rfl) ?_
  refine ops_nil ?_
  refine fin_then ?_
  refine st_seq ?_
  refine st_region_draw [(0, true), (1, true), (2, true), (3, true), (4, true), (5, true), (6, true), (7, true), (8, true), (9, true), (10, true), (11, false), (12, true), (13, true), (14, true)] (Mem w [.blk b2 [.int .u64 (st s g (j + 1)), .int .u64 g] 27, .blk b1 [.int .u64 s, .int .u64 g] 27]) (by kernel_rfl) (by kernel_rfl) (by kernel_rfl) (fun _ d _ _ _ h => by cases d <;> exact h) (M' := Mem w [.blk b2 [.int .u64 (st s g (j + 1)), .int .u64 g] 27, .blk b1 [.int .u64 s, .int .u64 g] 27]) (fun w_ hM => ⟨hM.drew, hM.drew.sub (by simp)⟩) ?_
  refine ops_run (is := [(0, true), (1, true), (2, true), (3, true), (4, true)]) (r := [(5, true), (6, true), (7, true), (8, true), (9, true), (10, true), (11, false), (12, true), (13, true), (14, true)]) (l' := [(48, .int .i64 (IntKind.i64.wrap (Int.tmod (mixv (st s g (j + 1))) n))), (47, .int .i64 (IntKind.i64.wrap (Int.tmod (mixv (st s g (j + 1))) n))), (46, .bool true), (9, .int .i64 (cnt j)), (6, .pointer (some ⟨b2, 0, none⟩)), (2, .pointer (some ⟨b1, 0, none⟩))]) [48, 47, 46, 9, 6, 2] (by kernel_rfl) ?_
  refine ops_val (op := (Go.Op.binOp Go.BinOp.eql 3 (Go.Operand.tmp 47) (Go.Operand.tmp 48) 3)) (d := some 49) (v := .bool true) ⟨by kernel_rfl⟩ (run_eql_same rfl rfl) ?_
  refine ops_run (is := [(6, true), (7, true)]) (r := [(8, true), (9, true), (10, true), (11, false), (12, true), (13, true), (14, true)]) (l' := [(51, .bool true), (9, .int .i64 (cnt j)), (6, .pointer (some ⟨b2, 0, none⟩)), (2, .pointer (some ⟨b1, 0, none⟩))]) [51, 9, 6, 2] (by kernel_rfl) ?_
  refine ops_load (d := some 52) (an := [.v (.int .u64 (st s g (j + 1))), .v (.int .u64 g)]) (evs := [.load ⟨b2, 0, none⟩ (.int .u64 (st s g (j + 1))), .load ⟨b2, 1, none⟩ (.int .u64 g)]) (v := .agg #[.int .u64 (st s g (j + 1)), .int .u64 g]) ⟨by kernel_rfl⟩ (fun w_ hM => ⟨hM.cell 0 rfl rfl, hM.cell 0 rfl rfl, rfl⟩) ?_
  refine ops_run (is := []) (r := [(9, true), (10, true), (11, false), (12, true), (13, true), (14, true)]) (l' := [(52, .agg #[.int .u64 (st s g (j + 1)), .int .u64 g]), (51, .bool true), (9, .int .i64 (cnt j)), (2, .pointer (some ⟨b1, 0, none⟩))]) [52, 51, 9, 2] (by kernel_rfl) ?_
  refine ops_load (d := some 53) (an := [.v (.int .u64 s), .v (.int .u64 g)]) (evs := [.load ⟨b1, 0, none⟩ (.int .u64 s), .load ⟨b1, 1, none⟩ (.int .u64 g)]) (v := .agg #[.int .u64 s, .int .u64 g]) ⟨by kernel_rfl⟩ (fun w_ hM => ⟨hM.cell 1 rfl rfl, hM.cell 1 rfl rfl, rfl⟩) ?_
  refine ops_run (is := [(10, true)]) (r := [(11, false), (12, true), (13, true), (14, true)]) (l' := [(54, .int .i64 (cnt j)), (53, .agg #[.int .u64 s, .int .u64 g]), (52, .agg #[.int .u64 (st s g (j + 1)), .int .u64 g]), (51, .bool true)]) [54, 53, 52, 51] (by kernel_rfl) ?_
  refine ops_call (σ := Unit) (d := some 55) (f := 18) (args := #[.agg #[.int .u64 s, .int .u64 g], .int .i64 (cnt j)]) (v := fun _ => .agg #[.int .u64 (st s g (j + 1)), .int .u64 g]) (M' := fun _ => Mem w [.blk b2 [.int .u64 (st s g (j + 1)), .int .u64 g] 27, .blk b1 [.int .u64 s, .int .u64 g] 27]) ⟨by kernel_rfl⟩ (fun w_ hM hS => (Behind_st s g j w_).mono (by rintro e w' ⟨rfl, hb⟩; exact ⟨(), rfl, hM.step hb, hS.step hb⟩)) (fun _ => ?_)
  refine ops_run (is := []) (r := [(12, true), (13, true), (14, true)]) (l' := [(55, .agg #[.int .u64 (st s g (j + 1)), .int .u64 g]), (52, .agg #[.int .u64 (st s g (j + 1)), .int .u64 g]), (51, .bool true)]) [55, 52, 51] (by kernel_rfl) ?_
  refine ops_val (op := (Go.Op.binOp Go.BinOp.eql 27 (Go.Operand.tmp 52) (Go.Operand.tmp 55) 27)) (d := some 56) (v := .bool true) ⟨by kernel_rfl⟩ (run_eql_agg (r := true) rfl rfl (by kernel_rfl) (fun w => by have h := eqA27 9998 w (st s g (j + 1)) (st s g (j + 1)) g g; simpa only [BEq.rfl, Bool.and_true] using h)) ?_
  refine ops_run (is := [(13, true), (14, true)]) (r := []) (l' := [(4, .bool true)]) [4] (by kernel_rfl) ?_
  refine ops_nil ?_
  refine fin_then ?_
  refine st_ret ?_
  refine fin_ret [.tmp 4] [.bool true] rfl rfl (fun w_ hM => (.tmp rfl .nil)) (fun w_ hM => ?_)
  refine ⟨?_, hM.done⟩
  rfl
theorem RndBelows_calls (s g n : Int) (w : World) (hs : (Lit.int .u64 s).wf = true) (hg : (Lit.int .u64 g).wf = true) (hn : (Lit.int .i64 n).wf = true) : Calls Try.prog 4 #[.agg #[.int .u64 s, .int .u64 g], .int .i64 n] w fun e w' => e = .returned (.bool true) ∧ Below w.heap.size w w' := by
  have a := wf_u64 hs
  have b := wf_u64 hg
  have c := wf_i64 hn
  by_cases h : n < 1
  · exact RndBelows_small s g n w h
  · by_cases h2 : Int.tmod g 2 = 0
    · exact RndBelows_even s g n w (by omega) h2
    · obtain ⟨j, hacc, hmin⟩ := acc_first s g n (by rw [Int.tmod_eq_emod_of_nonneg b.1] at h2; omega)
      exact RndBelows_ok s g n w j (by omega) (by omega) hacc hmin h2 a.1 a.2
set_option maxRecDepth 100000 in
theorem Of_calls (A : Option Addr) (c : Nat) (l : List Int) (w : World) (hr : RInts .i64 A l w) (hlen : l.length * 8 ≤ 140737488351232) : Calls Try.prog 37 #[.slice A l.length c] w fun e w' => e = .returned (.agg #[.int .u64 (ofS l), .int .u64 (ofG l)]) ∧ Below w.heap.size w w' := by
  refine sx_calls Try.func37 rfl (n := 31) (by kernel_rfl) (l := [(0, .slice A l.length c)]) rfl (by rfl) (Mem.nil w) ?_
  refine st_seq ?_
  refine st_region [(0, false)] (by rfl) ?_
  refine ops_new (d := some 2) (o := .cells #[.int .u64 0, .int .u64 0] 27) (v := fun b1 => .pointer (some ⟨b1, 0, none⟩)) (M' := fun b1 => Mem w [.blk b1 [.int .u64 0, .int .u64 0] 27]) (fun b1 => ⟨by kernel_rfl⟩) (fun w_ hM hS => ⟨hM.blk [.int .u64 0, .int .u64 0] 27, trivial⟩) (fun b1 => ?_)
  refine ops_run (is := []) (r := []) (l' := [(2, .pointer (some ⟨b1, 0, none⟩)), (0, .slice A l.length c)]) [2, 0] (by kernel_rfl) ?_
  refine ops_nil ?_
  refine fin_then ?_
  refine st_seq ?_
  refine st_region [(0, false), (1, false), (2, false), (3, false)] (by rfl) ?_
  refine ops_run (is := [(0, false), (1, false), (2, false), (3, false)]) (r := []) (l' := [(3, .int .u64 (IntKind.u64.wrap (l.length : Int))), (2, .pointer (some ⟨b1, 0, none⟩)), (0, .slice A l.length c)]) [3, 2, 0] (by kernel_rfl) ?_
  refine ops_nil ?_
  refine fin_then ?_
  refine st_seq ?_
  refine st_seq ?_
  refine st_region [(0, false), (1, false), (2, false)] (by rfl) ?_
  refine ops_run (is := [(0, false), (1, false), (2, false)]) (r := []) (l' := [(11, .int .i64 0), (10, .int .i64 (l.length : Int)), (9, .slice A l.length c), (3, .int .u64 (IntKind.u64.wrap (l.length : Int))), (2, .pointer (some ⟨b1, 0, none⟩))]) [11, 10, 9, 3, 2] (by kernel_rfl) ?_
  refine ops_nil ?_
  refine fin_then ?_
  refine st_block ?_
  refine st_loop (σ := Nat) 0 (fun k => [(11, .int .i64 (k : Int)), (10, .int .i64 (l.length : Int)), (9, .slice A l.length c), (3, .int .u64 (ofAt l k)), (2, .pointer (some ⟨b1, 0, none⟩))]) (fun k => Mem w [.blk b1 [.int .u64 0, .int .u64 0] 27]) (fun k => k ≤ l.length) (fun k => l.length - k) (by exact Nat.zero_le _) (look_has ⟨rfl, rfl, rfl, rfl, rfl, trivial⟩) (fun w_ hM => by exact hM) ?_
  rintro k hI
  have hIk : k ≤ l.length := hI
  refine st_seq ?_
  refine st_region [(0, false)] (by rfl) ?_
  refine ops_run (is := [(0, false)]) (r := []) (l' := [(12, .bool (decide ((k : Int) < (l.length : Int)))), (11, .int .i64 (k : Int)), (10, .int .i64 (l.length : Int)), (9, .slice A l.length c), (3, .int .u64 (ofAt l k)), (2, .pointer (some ⟨b1, 0, none⟩))]) [12, 11, 10, 9, 3, 2] (by kernel_rfl) ?_
  refine ops_nil ?_
  refine fin_then ?_
  refine st_seq ?_
  refine st_if (b := decide ((k : Int) < (l.length : Int))) rfl (fun hc2 => ?_) (fun hc2 => ?_)
  · --
    have hk : k < l.length := by have := of_decide_eq_true hc2; omega
    have hk1 : IntKind.i64.wrap ((k : Int) + 1) = ((k + 1 : Nat) : Int) := succ_i64 (by omega)
    refine st_skip ?_
    refine fin_then ?_
    refine st_seq ?_
    refine st_block ?_
    refine st_seq ?_
    refine st_region [(0, false), (1, false), (2, false)] (by rfl) ?_
    refine ops_run (is := []) (r := [(0, false), (1, false), (2, false)]) (l' := [(11, .int .i64 (k : Int)), (10, .int .i64 (l.length : Int)), (9, .slice A l.length c), (3, .int .u64 (ofAt l k)), (2, .pointer (some ⟨b1, 0, none⟩))]) [11, 10, 9, 3, 2] (by kernel_rfl) ?_
    obtain ⟨ad3, hA4, hx5⟩ := hr k (by omega)
    refine ops_val (op := (Go.Op.indexAddr 37 (Go.Operand.tmp 9) (Go.Operand.tmp 11))) (d := some 13) (v := .pointer (some (ad3.add k))) ⟨by kernel_rfl⟩ (run_index1 hA4 Try.underlying37 (by kernel_rfl) rfl rfl (m := k) (by first | rfl | omega) (by omega)) ?_
    refine ops_run (is := []) (r := [(1, false), (2, false)]) (l' := [(13, .pointer (some (ad3.add k))), (11, .int .i64 (k : Int)), (10, .int .i64 (l.length : Int)), (9, .slice A l.length c), (3, .int .u64 (ofAt l k)), (2, .pointer (some ⟨b1, 0, none⟩))]) [13, 11, 10, 9, 3, 2] (by kernel_rfl) ?_
    refine ops_mem (d := some 14) (an := [.v (.int .i64 (l.getD k 0))]) (evs := [.load (ad3.add k) (.int .i64 (l.getD k 0))]) (v := .int .i64 (l.getD k 0)) (M' := Mem w [.blk b1 [.int .u64 0, .int .u64 0] 27]) ⟨by kernel_rfl⟩ (fun w_ hM hS => ⟨w_, ⟨hM.oldcell hx5, rfl⟩, hM, trivial⟩) ?_
    refine ops_run (is := [(2, false)]) (r := []) (l' := [(5, .int .i64 (l.getD k 0)), (11, .int .i64 (k : Int)), (10, .int .i64 (l.length : Int)), (9, .slice A l.length c), (3, .int .u64 (ofAt l k)), (2, .pointer (some ⟨b1, 0, none⟩))]) [5, 11, 10, 9, 3, 2] (by kernel_rfl) ?_
    refine ops_nil ?_
    refine fin_then ?_
    refine st_region [(0, false), (1, false), (2, false), (3, false), (4, false), (5, false), (6, false)] (by rfl) ?_
    refine ops_run (is := [(0, false), (1, false)]) (r := [(2, false), (3, false), (4, false), (5, false), (6, false)]) (l' := [(16, .int .u64 (IntKind.u64.wrap (ofAt l k + 11400714819323198485))), (5, .int .i64 (l.getD k 0)), (11, .int .i64 (k : Int)), (10, .int .i64 (l.length : Int)), (9, .slice A l.length c), (3, .int .u64 (ofAt l k)), (2, .pointer (some ⟨b1, 0, none⟩))]) [16, 5, 11, 10, 9, 3, 2] (by kernel_rfl) ?_
    refine ops_call (σ := Unit) (d := some 17) (f := 33) (args := #[.int .u64 (IntKind.u64.wrap (ofAt l k + 11400714819323198485))]) (v := fun _ => .int .u64 (mixv (IntKind.u64.wrap (ofAt l k + 11400714819323198485)))) (M' := fun _ => Mem w [.blk b1 [.int .u64 0, .int .u64 0] 27]) ⟨by kernel_rfl⟩ (fun w_ hM hS => (Mix_calls (IntKind.u64.wrap (ofAt l k + 11400714819323198485)) w_).mono (by rintro e w' ⟨rfl, hb⟩; exact ⟨(), rfl, hM.step hb, trivial⟩)) (fun _ => ?_)
    refine ops_run (is := [(3, false), (4, false), (5, false), (6, false)]) (r := []) (l' := [(3, .int .u64 (Go.bits .xor .u64 (mixv (IntKind.u64.wrap (ofAt l k + 11400714819323198485))) (IntKind.u64.wrap (l.getD k 0)))), (11, .int .i64 (k : Int)), (10, .int .i64 (l.length : Int)), (9, .slice A l.length c), (2, .pointer (some ⟨b1, 0, none⟩))]) [3, 11, 10, 9, 2] (by kernel_rfl) ?_
    refine ops_conv (l' := [(3, .int .u64 (ofAt l (k + 1))), (11, .int .i64 (k : Int)), (10, .int .i64 (l.length : Int)), (9, .slice A l.length c), (2, .pointer (some ⟨b1, 0, none⟩))]) (by rw [ofAt_succ l k hk]) (fun _ h => h) ?_
    refine ops_nil ?_
    refine fin_block ?_
    refine fin_then ?_
    refine st_region [(0, false), (1, false)] (by rfl) ?_
    refine ops_run (is := [(0, false), (1, false)]) (r := []) (l' := [(11, .int .i64 (IntKind.i64.wrap ((k : Int) + 1))), (3, .int .u64 (ofAt l (k + 1))), (10, .int .i64 (l.length : Int)), (9, .slice A l.length c), (2, .pointer (some ⟨b1, 0, none⟩))]) [11, 3, 10, 9, 2] (by kernel_rfl) ?_
    refine ops_conv (l' := [(11, .int .i64 ((k + 1 : Nat) : Int)), (3, .int .u64 (ofAt l (k + 1))), (10, .int .i64 (l.length : Int)), (9, .slice A l.length c), (2, .pointer (some ⟨b1, 0, none⟩))]) (by rw [hk1]) (fun _ h => h) ?_
    refine ops_nil ?_
    refine fin_round (k + 1) (by omega) (by omega) (look_has ⟨rfl, rfl, rfl, rfl, rfl, trivial⟩) (fun w_ hM => by exact hM)
  · --
    have hk : k = l.length := by have := of_decide_eq_false hc2; omega
    refine st_exit ?_
    refine fin_exit_then ?_
    refine fin_exit_then ?_
    refine fin_exit ?_
    refine fin_then ?_
    refine st_seq ?_
    refine st_region [(0, false), (1, false), (2, false), (3, false)] (by rfl) ?_
    refine ops_run (is := [(0, false), (1, false)]) (r := [(2, false), (3, false)]) (l' := [(23, .int .u64 (IntKind.u64.wrap (ofAt l k + 11400714819323198485))), (3, .int .u64 (ofAt l k)), (2, .pointer (some ⟨b1, 0, none⟩))]) [23, 3, 2] (by kernel_rfl) ?_
    refine ops_call (σ := Unit) (d := some 24) (f := 33) (args := #[.int .u64 (IntKind.u64.wrap (ofAt l k + 11400714819323198485))]) (v := fun _ => .int .u64 (mixv (IntKind.u64.wrap (ofAt l k + 11400714819323198485)))) (M' := fun _ => Mem w [.blk b1 [.int .u64 0, .int .u64 0] 27]) ⟨by kernel_rfl⟩ (fun w_ hM hS => (Mix_calls (IntKind.u64.wrap (ofAt l k + 11400714819323198485)) w_).mono (by rintro e w' ⟨rfl, hb⟩; exact ⟨(), rfl, hM.step hb, trivial⟩)) (fun _ => ?_)
    refine ops_run (is := [(3, false)]) (r := []) (l' := [(3, .int .u64 (mixv (IntKind.u64.wrap (ofAt l k + 11400714819323198485)))), (2, .pointer (some ⟨b1, 0, none⟩))]) [3, 2] (by kernel_rfl) ?_
    refine ops_nil ?_
    refine fin_then ?_
    refine st_seq ?_
    refine st_region [(0, false), (1, false), (2, false), (3, false), (4, false), (5, false), (6, false)] (by rfl) ?_
    refine ops_run (is := [(0, false), (1, false), (2, false)]) (r := [(3, false), (4, false), (5, false), (6, false)]) (l' := [(27, .int .u64 (IntKind.u64.wrap (mixv (IntKind.u64.wrap (ofAt l k + 11400714819323198485)) + 11400714819323198485))), (25, .int .u64 (mixv (IntKind.u64.wrap (ofAt l k + 11400714819323198485)))), (2, .pointer (some ⟨b1, 0, none⟩))]) [27, 25, 2] (by kernel_rfl) ?_
    refine ops_call (σ := Unit) (d := some 28) (f := 33) (args := #[.int .u64 (IntKind.u64.wrap (mixv (IntKind.u64.wrap (ofAt l k + 11400714819323198485)) + 11400714819323198485))]) (v := fun _ => .int .u64 (mixv (IntKind.u64.wrap (mixv (IntKind.u64.wrap (ofAt l k + 11400714819323198485)) + 11400714819323198485)))) (M' := fun _ => Mem w [.blk b1 [.int .u64 0, .int .u64 0] 27]) ⟨by kernel_rfl⟩ (fun w_ hM hS => (Mix_calls (IntKind.u64.wrap (mixv (IntKind.u64.wrap (ofAt l k + 11400714819323198485)) + 11400714819323198485)) w_).mono (by rintro e w' ⟨rfl, hb⟩; exact ⟨(), rfl, hM.step hb, trivial⟩)) (fun _ => ?_)
    refine ops_run (is := [(4, false), (5, false)]) (r := [(6, false)]) (l' := [(30, .agg #[.int .u64 (mixv (IntKind.u64.wrap (ofAt l k + 11400714819323198485))), .int .u64 (Go.bits .or .u64 (mixv (IntKind.u64.wrap (mixv (IntKind.u64.wrap (ofAt l k + 11400714819323198485)) + 11400714819323198485))) 1)]), (2, .pointer (some ⟨b1, 0, none⟩))]) [30, 2] (by kernel_rfl) ?_
    refine ops_store (an := []) (evs := [.store ⟨b1, 0, none⟩ (.int .u64 (mixv (IntKind.u64.wrap (ofAt l k + 11400714819323198485)))), .store ⟨b1, 1, none⟩ (.int .u64 (Go.bits .or .u64 (mixv (IntKind.u64.wrap (mixv (IntKind.u64.wrap (ofAt l k + 11400714819323198485)) + 11400714819323198485))) 1))]) (M' := Mem w [.blk b1 [.int .u64 (mixv (IntKind.u64.wrap (ofAt l k + 11400714819323198485))), .int .u64 (Go.bits .or .u64 (mixv (IntKind.u64.wrap (mixv (IntKind.u64.wrap (ofAt l k + 11400714819323198485)) + 11400714819323198485))) 1)] 27]) ⟨by kernel_rfl⟩ (fun w_ hM hS => let ⟨w', he, h'⟩ := hM.evs_stores [.int .u64 (mixv (IntKind.u64.wrap (ofAt l k + 11400714819323198485))), .int .u64 (Go.bits .or .u64 (mixv (IntKind.u64.wrap (mixv (IntKind.u64.wrap (ofAt l k + 11400714819323198485)) + 11400714819323198485))) 1)] 0 rfl 0 (Nat.le_of_ble_eq_true rfl); ⟨w', he, h', trivial⟩) ?_
    refine ops_run (is := []) (r := []) (l' := [(2, .pointer (some ⟨b1, 0, none⟩))]) [2] (by kernel_rfl) ?_
    refine ops_nil ?_
    refine fin_then ?_
    refine st_ret ?_
    refine fin_ret [.cell 2 27] [.agg #[.int .u64 (mixv (IntKind.u64.wrap (ofAt l k + 11400714819323198485))), .int .u64 (Go.bits .or .u64 (mixv (IntKind.u64.wrap (mixv (IntKind.u64.wrap (ofAt l k + 11400714819323198485)) + 11400714819323198485))) 1)]] rfl rfl (fun w_ hM => (.cell rfl (tr_run _ [.v (.int .u64 (mixv (IntKind.u64.wrap (ofAt l k + 11400714819323198485)))), .v (.int .u64 (Go.bits .or .u64 (mixv (IntKind.u64.wrap (mixv (IntKind.u64.wrap (ofAt l k + 11400714819323198485)) + 11400714819323198485))) 1))] [.load ⟨b1, 0, none⟩ (.int .u64 (mixv (IntKind.u64.wrap (ofAt l k + 11400714819323198485)))), .load ⟨b1, 1, none⟩ (.int .u64 (Go.bits .or .u64 (mixv (IntKind.u64.wrap (mixv (IntKind.u64.wrap (ofAt l k + 11400714819323198485)) + 11400714819323198485))) 1))] (.agg #[.int .u64 (mixv (IntKind.u64.wrap (ofAt l k + 11400714819323198485))), .int .u64 (Go.bits .or .u64 (mixv (IntKind.u64.wrap (mixv (IntKind.u64.wrap (ofAt l k + 11400714819323198485)) + 11400714819323198485))) 1)] : Value) _ _ (by kernel_rfl) ⟨hM.cell 0 rfl rfl, hM.cell 0 rfl rfl, rfl⟩) .nil)) (fun w_ hM => ?_)
    refine ⟨?_, hM.done⟩
    subst hk
    rfl
set_option maxRecDepth 100000 in
theorem Named_calls (A : Option Addr) (c : Nat) (l : List Int) (w : World) (hr : RInts .i64 A l w) (hlen : l.length * 8 ≤ 140737488351232) : Calls Try.prog 38 #[.slice A l.length c] w fun e w' => e = .returned (.agg #[.int .u64 (ofS l), .int .u64 (ofG l)]) ∧ Below w.heap.size w w' := by
  refine sx_calls Try.func38 rfl (n := 35) (by kernel_rfl) (l := [(0, .slice A l.length c)]) rfl (by rfl) (Mem.nil w) ?_
  refine st_seq ?_
  refine st_region [(0, false)] (by rfl) ?_
  refine ops_new (d := some 2) (o := .cells #[.int .u64 0, .int .u64 0] 27) (v := fun b1 => .pointer (some ⟨b1, 0, none⟩)) (M' := fun b1 => Mem w [.blk b1 [.int .u64 0, .int .u64 0] 27]) (fun b1 => ⟨by kernel_rfl⟩) (fun w_ hM hS => ⟨hM.blk [.int .u64 0, .int .u64 0] 27, trivial⟩) (fun b1 => ?_)
  refine ops_run (is := []) (r := []) (l' := [(2, .pointer (some ⟨b1, 0, none⟩)), (0, .slice A l.length c)]) [2, 0] (by kernel_rfl) ?_
  refine ops_nil ?_
  refine fin_then ?_
  refine st_seq ?_
  refine st_region [(0, false), (1, false), (2, false), (3, false)] (by rfl) ?_
  refine ops_run (is := [(0, false), (1, false), (2, false), (3, false)]) (r := []) (l' := [(3, .int .u64 (IntKind.u64.wrap (l.length : Int))), (2, .pointer (some ⟨b1, 0, none⟩)), (0, .slice A l.length c)]) [3, 2, 0] (by kernel_rfl) ?_
  refine ops_nil ?_
  refine fin_then ?_
  refine st_seq ?_
  refine st_seq ?_
  refine st_region [(0, false), (1, false), (2, false)] (by rfl) ?_
  refine ops_run (is := [(0, false), (1, false), (2, false)]) (r := []) (l' := [(12, .int .i64 0), (11, .int .i64 (l.length : Int)), (10, .slice A l.length c), (3, .int .u64 (IntKind.u64.wrap (l.length : Int))), (2, .pointer (some ⟨b1, 0, none⟩))]) [12, 11, 10, 3, 2] (by kernel_rfl) ?_
  refine ops_nil ?_
  refine fin_then ?_
  refine st_block ?_
  refine st_loop (σ := Nat) 0 (fun k => [(12, .int .i64 (k : Int)), (11, .int .i64 (l.length : Int)), (10, .slice A l.length c), (3, .int .u64 (ofAt l k)), (2, .pointer (some ⟨b1, 0, none⟩))]) (fun k => Mem w [.blk b1 [.int .u64 0, .int .u64 0] 27]) (fun k => k ≤ l.length) (fun k => l.length - k) (by exact Nat.zero_le _) (look_has ⟨rfl, rfl, rfl, rfl, rfl, trivial⟩) (fun w_ hM => by exact hM) ?_
  rintro k hI
  have hIk : k ≤ l.length := hI
  refine st_seq ?_
  refine st_region [(0, false)] (by rfl) ?_
  refine ops_run (is := [(0, false)]) (r := []) (l' := [(13, .bool (decide ((k : Int) < (l.length : Int)))), (12, .int .i64 (k : Int)), (11, .int .i64 (l.length : Int)), (10, .slice A l.length c), (3, .int .u64 (ofAt l k)), (2, .pointer (some ⟨b1, 0, none⟩))]) [13, 12, 11, 10, 3, 2] (by kernel_rfl) ?_
  refine ops_nil ?_
  refine fin_then ?_
  refine st_seq ?_
  refine st_if (b := decide ((k : Int) < (l.length : Int))) rfl (fun hc2 => ?_) (fun hc2 => ?_)
  · --
    have hk : k < l.length := by have := of_decide_eq_true hc2; omega
    have hk1 : IntKind.i64.wrap ((k : Int) + 1) = ((k + 1 : Nat) : Int) := succ_i64 (by omega)
    refine st_skip ?_
    refine fin_then ?_
    refine st_seq ?_
    refine st_block ?_
    refine st_seq ?_
    refine st_region [(0, false), (1, false), (2, false)] (by rfl) ?_
    refine ops_run (is := []) (r := [(0, false), (1, false), (2, false)]) (l' := [(12, .int .i64 (k : Int)), (11, .int .i64 (l.length : Int)), (10, .slice A l.length c), (3, .int .u64 (ofAt l k)), (2, .pointer (some ⟨b1, 0, none⟩))]) [12, 11, 10, 3, 2] (by kernel_rfl) ?_
    obtain ⟨ad3, hA4, hx5⟩ := hr k (by omega)
    refine ops_val (op := (Go.Op.indexAddr 37 (Go.Operand.tmp 10) (Go.Operand.tmp 12))) (d := some 14) (v := .pointer (some (ad3.add k))) ⟨by kernel_rfl⟩ (run_index1 hA4 Try.underlying37 (by kernel_rfl) rfl rfl (m := k) (by first | rfl | omega) (by omega)) ?_
    refine ops_run (is := []) (r := [(1, false), (2, false)]) (l' := [(14, .pointer (some (ad3.add k))), (12, .int .i64 (k : Int)), (11, .int .i64 (l.length : Int)), (10, .slice A l.length c), (3, .int .u64 (ofAt l k)), (2, .pointer (some ⟨b1, 0, none⟩))]) [14, 12, 11, 10, 3, 2] (by kernel_rfl) ?_
    refine ops_mem (d := some 15) (an := [.v (.int .i64 (l.getD k 0))]) (evs := [.load (ad3.add k) (.int .i64 (l.getD k 0))]) (v := .int .i64 (l.getD k 0)) (M' := Mem w [.blk b1 [.int .u64 0, .int .u64 0] 27]) ⟨by kernel_rfl⟩ (fun w_ hM hS => ⟨w_, ⟨hM.oldcell hx5, rfl⟩, hM, trivial⟩) ?_
    refine ops_run (is := [(2, false)]) (r := []) (l' := [(5, .int .i64 (l.getD k 0)), (12, .int .i64 (k : Int)), (11, .int .i64 (l.length : Int)), (10, .slice A l.length c), (3, .int .u64 (ofAt l k)), (2, .pointer (some ⟨b1, 0, none⟩))]) [5, 12, 11, 10, 3, 2] (by kernel_rfl) ?_
    refine ops_nil ?_
    refine fin_then ?_
    refine st_region [(0, false), (1, false), (2, false), (3, false), (4, false), (5, false), (6, false)] (by rfl) ?_
    refine ops_run (is := [(0, false), (1, false)]) (r := [(2, false), (3, false), (4, false), (5, false), (6, false)]) (l' := [(17, .int .u64 (IntKind.u64.wrap (ofAt l k + 11400714819323198485))), (5, .int .i64 (l.getD k 0)), (12, .int .i64 (k : Int)), (11, .int .i64 (l.length : Int)), (10, .slice A l.length c), (3, .int .u64 (ofAt l k)), (2, .pointer (some ⟨b1, 0, none⟩))]) [17, 5, 12, 11, 10, 3, 2] (by kernel_rfl) ?_
    refine ops_call (σ := Unit) (d := some 18) (f := 34) (args := #[.int .u64 (IntKind.u64.wrap (ofAt l k + 11400714819323198485))]) (v := fun _ => .int .u64 (scrv (IntKind.u64.wrap (ofAt l k + 11400714819323198485)))) (M' := fun _ => Mem w [.blk b1 [.int .u64 0, .int .u64 0] 27]) ⟨by kernel_rfl⟩ (fun w_ hM hS => (Scrambled_calls (IntKind.u64.wrap (ofAt l k + 11400714819323198485)) w_).mono (by rintro e w' ⟨rfl, hb⟩; exact ⟨(), rfl, hM.step hb, trivial⟩)) (fun _ => ?_)
    refine ops_run (is := [(3, false), (4, false), (5, false), (6, false)]) (r := []) (l' := [(3, .int .u64 (Go.bits .xor .u64 (scrv (IntKind.u64.wrap (ofAt l k + 11400714819323198485))) (IntKind.u64.wrap (l.getD k 0)))), (12, .int .i64 (k : Int)), (11, .int .i64 (l.length : Int)), (10, .slice A l.length c), (2, .pointer (some ⟨b1, 0, none⟩))]) [3, 12, 11, 10, 2] (by kernel_rfl) ?_
    refine ops_conv (l' := [(3, .int .u64 (ofAt l (k + 1))), (12, .int .i64 (k : Int)), (11, .int .i64 (l.length : Int)), (10, .slice A l.length c), (2, .pointer (some ⟨b1, 0, none⟩))]) (by rw [ofAt_succ' l k hk]) (fun _ h => h) ?_
    refine ops_nil ?_
    refine fin_block ?_
    refine fin_then ?_
    refine st_region [(0, false), (1, false)] (by rfl) ?_
    refine ops_run (is := [(0, false), (1, false)]) (r := []) (l' := [(12, .int .i64 (IntKind.i64.wrap ((k : Int) + 1))), (3, .int .u64 (ofAt l (k + 1))), (11, .int .i64 (l.length : Int)), (10, .slice A l.length c), (2, .pointer (some ⟨b1, 0, none⟩))]) [12, 3, 11, 10, 2] (by kernel_rfl) ?_
    refine ops_conv (l' := [(12, .int .i64 ((k + 1 : Nat) : Int)), (3, .int .u64 (ofAt l (k + 1))), (11, .int .i64 (l.length : Int)), (10, .slice A l.length c), (2, .pointer (some ⟨b1, 0, none⟩))]) (by rw [hk1]) (fun _ h => h) ?_
    refine ops_nil ?_
    refine fin_round (k + 1) (by omega) (by omega) (look_has ⟨rfl, rfl, rfl, rfl, rfl, trivial⟩) (fun w_ hM => by exact hM)
  · --
    have hk : k = l.length := by have := of_decide_eq_false hc2; omega
    refine st_exit ?_
    refine fin_exit_then ?_
    refine fin_exit_then ?_
    refine fin_exit ?_
    refine fin_then ?_
    refine st_seq ?_
    refine st_region [(0, false), (1, false), (2, false), (3, false)] (by rfl) ?_
    refine ops_run (is := [(0, false), (1, false)]) (r := [(2, false), (3, false)]) (l' := [(24, .int .u64 (IntKind.u64.wrap (ofAt l k + 11400714819323198485))), (3, .int .u64 (ofAt l k)), (2, .pointer (some ⟨b1, 0, none⟩))]) [24, 3, 2] (by kernel_rfl) ?_
    refine ops_call (σ := Unit) (d := some 25) (f := 34) (args := #[.int .u64 (IntKind.u64.wrap (ofAt l k + 11400714819323198485))]) (v := fun _ => .int .u64 (scrv (IntKind.u64.wrap (ofAt l k + 11400714819323198485)))) (M' := fun _ => Mem w [.blk b1 [.int .u64 0, .int .u64 0] 27]) ⟨by kernel_rfl⟩ (fun w_ hM hS => (Scrambled_calls (IntKind.u64.wrap (ofAt l k + 11400714819323198485)) w_).mono (by rintro e w' ⟨rfl, hb⟩; exact ⟨(), rfl, hM.step hb, trivial⟩)) (fun _ => ?_)
    refine ops_run (is := [(3, false)]) (r := []) (l' := [(3, .int .u64 (scrv (IntKind.u64.wrap (ofAt l k + 11400714819323198485)))), (2, .pointer (some ⟨b1, 0, none⟩))]) [3, 2] (by kernel_rfl) ?_
    refine ops_nil ?_
    refine fin_then ?_
    refine st_seq ?_
    refine st_region [(0, false), (1, false), (2, false), (3, false)] (by rfl) ?_
    refine ops_run (is := [(0, false), (1, false)]) (r := [(2, false), (3, false)]) (l' := [(27, .int .u64 (IntKind.u64.wrap (scrv (IntKind.u64.wrap (ofAt l k + 11400714819323198485)) + 11400714819323198485))), (3, .int .u64 (scrv (IntKind.u64.wrap (ofAt l k + 11400714819323198485)))), (2, .pointer (some ⟨b1, 0, none⟩))]) [27, 3, 2] (by kernel_rfl) ?_
    refine ops_call (σ := Unit) (d := some 28) (f := 34) (args := #[.int .u64 (IntKind.u64.wrap (scrv (IntKind.u64.wrap (ofAt l k + 11400714819323198485)) + 11400714819323198485))]) (v := fun _ => .int .u64 (scrv (IntKind.u64.wrap (scrv (IntKind.u64.wrap (ofAt l k + 11400714819323198485)) + 11400714819323198485)))) (M' := fun _ => Mem w [.blk b1 [.int .u64 0, .int .u64 0] 27]) ⟨by kernel_rfl⟩ (fun w_ hM hS => (Scrambled_calls (IntKind.u64.wrap (scrv (IntKind.u64.wrap (ofAt l k + 11400714819323198485)) + 11400714819323198485)) w_).mono (by rintro e w' ⟨rfl, hb⟩; exact ⟨(), rfl, hM.step hb, trivial⟩)) (fun _ => ?_)
    refine ops_run (is := [(3, false)]) (r := []) (l' := [(6, .int .u64 (scrv (IntKind.u64.wrap (scrv (IntKind.u64.wrap (ofAt l k + 11400714819323198485)) + 11400714819323198485)))), (3, .int .u64 (scrv (IntKind.u64.wrap (ofAt l k + 11400714819323198485)))), (2, .pointer (some ⟨b1, 0, none⟩))]) [6, 3, 2] (by kernel_rfl) ?_
    refine ops_nil ?_
    refine fin_then ?_
    refine st_seq ?_
    refine st_region [(0, false), (1, false), (2, false), (3, false), (4, false), (5, false), (6, false)] (by rfl) ?_
    refine ops_run (is := [(0, false), (1, false), (2, false), (3, false), (4, false), (5, false)]) (r := [(6, false)]) (l' := [(34, .agg #[.int .u64 (scrv (IntKind.u64.wrap (ofAt l k + 11400714819323198485))), .int .u64 (IntKind.u64.wrap (IntKind.u64.wrap (IntKind.u64.wrap (Int.tdiv (scrv (IntKind.u64.wrap (scrv (IntKind.u64.wrap (ofAt l k + 11400714819323198485)) + 11400714819323198485))) 2) * 2) + 1))]), (2, .pointer (some ⟨b1, 0, none⟩))]) [34, 2] (by kernel_rfl) ?_
    refine ops_store (an := []) (evs := [.store ⟨b1, 0, none⟩ (.int .u64 (scrv (IntKind.u64.wrap (ofAt l k + 11400714819323198485)))), .store ⟨b1, 1, none⟩ (.int .u64 (IntKind.u64.wrap (IntKind.u64.wrap (IntKind.u64.wrap (Int.tdiv (scrv (IntKind.u64.wrap (scrv (IntKind.u64.wrap (ofAt l k + 11400714819323198485)) + 11400714819323198485))) 2) * 2) + 1)))]) (M' := Mem w [.blk b1 [.int .u64 (scrv (IntKind.u64.wrap (ofAt l k + 11400714819323198485))), .int .u64 (IntKind.u64.wrap (IntKind.u64.wrap (IntKind.u64.wrap (Int.tdiv (scrv (IntKind.u64.wrap (scrv (IntKind.u64.wrap (ofAt l k + 11400714819323198485)) + 11400714819323198485))) 2) * 2) + 1))] 27]) ⟨by kernel_rfl⟩ (fun w_ hM hS => let ⟨w', he, h'⟩ := hM.evs_stores [.int .u64 (scrv (IntKind.u64.wrap (ofAt l k + 11400714819323198485))), .int .u64 (IntKind.u64.wrap (IntKind.u64.wrap (IntKind.u64.wrap (Int.tdiv (scrv (IntKind.u64.wrap (scrv (IntKind.u64.wrap (ofAt l k + 11400714819323198485)) + 11400714819323198485))) 2) * 2) + 1))] 0 rfl 0 (Nat.le_of_ble_eq_true rfl); ⟨w', he, h', trivial⟩) ?_
    refine ops_run (is := []) (r := []) (l' := [(2, .pointer (some ⟨b1, 0, none⟩))]) [2] (by kernel_rfl) ?_
    refine ops_nil ?_
    refine fin_then ?_
    refine st_ret ?_
    refine fin_ret [.cell 2 27] [.agg #[.int .u64 (scrv (IntKind.u64.wrap (ofAt l k + 11400714819323198485))), .int .u64 (IntKind.u64.wrap (IntKind.u64.wrap (IntKind.u64.wrap (Int.tdiv (scrv (IntKind.u64.wrap (scrv (IntKind.u64.wrap (ofAt l k + 11400714819323198485)) + 11400714819323198485))) 2) * 2) + 1))]] rfl rfl (fun w_ hM => (.cell rfl (tr_run _ [.v (.int .u64 (scrv (IntKind.u64.wrap (ofAt l k + 11400714819323198485)))), .v (.int .u64 (IntKind.u64.wrap (IntKind.u64.wrap (IntKind.u64.wrap (Int.tdiv (scrv (IntKind.u64.wrap (scrv (IntKind.u64.wrap (ofAt l k + 11400714819323198485)) + 11400714819323198485))) 2) * 2) + 1)))] [.load ⟨b1, 0, none⟩ (.int .u64 (scrv (IntKind.u64.wrap (ofAt l k + 11400714819323198485)))), .load ⟨b1, 1, none⟩ (.int .u64 (IntKind.u64.wrap (IntKind.u64.wrap (IntKind.u64.wrap (Int.tdiv (scrv (IntKind.u64.wrap (scrv (IntKind.u64.wrap (ofAt l k + 11400714819323198485)) + 11400714819323198485))) 2) * 2) + 1)))] (.agg #[.int .u64 (scrv (IntKind.u64.wrap (ofAt l k + 11400714819323198485))), .int .u64 (IntKind.u64.wrap (IntKind.u64.wrap (IntKind.u64.wrap (Int.tdiv (scrv (IntKind.u64.wrap (scrv (IntKind.u64.wrap (ofAt l k + 11400714819323198485)) + 11400714819323198485))) 2) * 2) + 1))] : Value) _ _ (by kernel_rfl) ⟨hM.cell 0 rfl rfl, hM.cell 0 rfl rfl, rfl⟩) .nil)) (fun w_ hM => ?_)
    refine ⟨?_, hM.done⟩
    subst hk
    simp only [theOne, ofS, ofG, scrv_eq (w64_lo _) (w64_hi _), oddv_eq (mixv_lo _) (mixv_hi _)]
set_option maxRecDepth 100000 in
theorem Stream_calls (x : Int) (w : World) : Calls Try.prog 36 #[.int .i64 x] w fun e w' => e = .returned (.agg #[.int .u64 (mixv (IntKind.u64.wrap x)), .int .u64 11400714819323198485]) ∧ Below w.heap.size w w' := by
  refine sx_calls Try.func36 rfl (n := 7) (by kernel_rfl) (l := [(0, .int .i64 x)]) rfl (by rfl) (Mem.nil w) ?_
  refine st_seq ?_
  refine st_region [(0, false)] (by rfl) ?_
  refine ops_new (d := some 2) (o := .cells #[.int .u64 0, .int .u64 0] 27) (v := fun b1 => .pointer (some ⟨b1, 0, none⟩)) (M' := fun b1 => Mem w [.blk b1 [.int .u64 0, .int .u64 0] 27]) (fun b1 => ⟨by kernel_rfl⟩) (fun w_ hM hS => ⟨hM.blk [.int .u64 0, .int .u64 0] 27, trivial⟩) (fun b1 => ?_)
  refine ops_run (is := []) (r := []) (l' := [(2, .pointer (some ⟨b1, 0, none⟩)), (0, .int .i64 x)]) [2, 0] (by kernel_rfl) ?_
  refine ops_nil ?_
  refine fin_then ?_
  refine st_seq ?_
  refine st_region [(0, false), (1, false), (2, false), (3, false), (4, false)] (by rfl) ?_
  refine ops_run (is := [(0, false), (1, false)]) (r := [(2, false), (3, false), (4, false)]) (l' := [(4, .int .u64 (IntKind.u64.wrap x)), (2, .pointer (some ⟨b1, 0, none⟩))]) [4, 2] (by kernel_rfl) ?_
  refine ops_call (σ := Unit) (d := some 5) (f := 34) (args := #[.int .u64 (IntKind.u64.wrap x)]) (v := fun _ => .int .u64 (scrv (IntKind.u64.wrap x))) (M' := fun _ => Mem w [.blk b1 [.int .u64 0, .int .u64 0] 27]) ⟨by kernel_rfl⟩ (fun w_ hM hS => (Scrambled_calls (IntKind.u64.wrap x) w_).mono (by rintro e w' ⟨rfl, hb⟩; exact ⟨(), rfl, hM.step hb, trivial⟩)) (fun _ => ?_)
  refine ops_run (is := [(3, false)]) (r := [(4, false)]) (l' := [(6, .agg #[.int .u64 (scrv (IntKind.u64.wrap x)), .int .u64 11400714819323198485]), (2, .pointer (some ⟨b1, 0, none⟩))]) [6, 2] (by kernel_rfl) ?_
  refine ops_store (an := []) (evs := [.store ⟨b1, 0, none⟩ (.int .u64 (scrv (IntKind.u64.wrap x))), .store ⟨b1, 1, none⟩ (.int .u64 11400714819323198485)]) (M' := Mem w [.blk b1 [.int .u64 (scrv (IntKind.u64.wrap x)), .int .u64 11400714819323198485] 27]) ⟨by kernel_rfl⟩ (fun w_ hM hS => let ⟨w', he, h'⟩ := hM.evs_stores [.int .u64 (scrv (IntKind.u64.wrap x)), .int .u64 11400714819323198485] 0 rfl 0 (Nat.le_of_ble_eq_true rfl); ⟨w', he, h', trivial⟩) ?_
  refine ops_run (is := []) (r := []) (l' := [(2, .pointer (some ⟨b1, 0, none⟩))]) [2] (by kernel_rfl) ?_
  refine ops_nil ?_
  refine fin_then ?_
  refine st_ret ?_
  refine fin_ret [.cell 2 27] [.agg #[.int .u64 (scrv (IntKind.u64.wrap x)), .int .u64 11400714819323198485]] rfl rfl (fun w_ hM => (.cell rfl (tr_run _ [.v (.int .u64 (scrv (IntKind.u64.wrap x))), .v (.int .u64 11400714819323198485)] [.load ⟨b1, 0, none⟩ (.int .u64 (scrv (IntKind.u64.wrap x))), .load ⟨b1, 1, none⟩ (.int .u64 11400714819323198485)] (.agg #[.int .u64 (scrv (IntKind.u64.wrap x)), .int .u64 11400714819323198485] : Value) _ _ (by kernel_rfl) ⟨hM.cell 0 rfl rfl, hM.cell 0 rfl rfl, rfl⟩) .nil)) (fun w_ hM => ?_)
  refine ⟨?_, hM.done⟩
  simp only [theOne, scrv_eq (w64_lo _) (w64_hi _)]
set_option maxRecDepth 100000 in
theorem Split_calls (s g : Int) (w : World) : Calls Try.prog 31 #[.agg #[.int .u64 s, .int .u64 g]] w fun e w' => e = .returned (.tuple #[.agg #[.int .u64 (mixv (IntKind.u64.wrap (s + g))), .int .u64 (oddv (mixv (IntKind.u64.wrap (IntKind.u64.wrap (s + g) + g))))], .agg #[.int .u64 (IntKind.u64.wrap (IntKind.u64.wrap (s + g) + g)), .int .u64 g]]) ∧ Below w.heap.size w w' := by
  refine sx_calls Try.func31 rfl (n := 21) (by kernel_rfl) (l := [(0, .agg #[.int .u64 s, .int .u64 g])]) rfl (by rfl) (Mem.nil w) ?_
  refine st_seq ?_
  refine st_region [(0, false), (1, false), (2, false)] (by rfl) ?_
  refine ops_new (d := some 1) (o := .cells #[.int .u64 s, .int .u64 g] 27) (v := fun b1 => .pointer (some ⟨b1, 0, none⟩)) (M' := fun b1 => Mem w [.blk b1 [.int .u64 s, .int .u64 g] 27]) (fun b1 => ⟨by kernel_rfl⟩) (fun w_ hM hS => ⟨hM.blk [.int .u64 s, .int .u64 g] 27, trivial⟩) (fun b1 => ?_)
  refine ops_run (is := []) (r := [(1, false), (2, false)]) (l' := [(1, .pointer (some ⟨b1, 0, none⟩))]) [1] (by kernel_rfl) ?_
  refine ops_new (d := some 2) (o := .cells #[.int .u64 0, .int .u64 0] 27) (v := fun b2 => .pointer (some ⟨b2, 0, none⟩)) (M' := fun b2 => Mem w [.blk b2 [.int .u64 0, .int .u64 0] 27, .blk b1 [.int .u64 s, .int .u64 g] 27]) (fun b2 => ⟨by kernel_rfl⟩) (fun w_ hM hS => ⟨hM.blk [.int .u64 0, .int .u64 0] 27, trivial⟩) (fun b2 => ?_)
  refine ops_run (is := []) (r := [(2, false)]) (l' := [(2, .pointer (some ⟨b2, 0, none⟩)), (1, .pointer (some ⟨b1, 0, none⟩))]) [2, 1] (by kernel_rfl) ?_
  refine ops_new (d := some 3) (o := .cells #[.int .u64 0, .int .u64 0] 27) (v := fun b3 => .pointer (some ⟨b3, 0, none⟩)) (M' := fun b3 => Mem w [.blk b3 [.int .u64 0, .int .u64 0] 27, .blk b2 [.int .u64 0, .int .u64 0] 27, .blk b1 [.int .u64 s, .int .u64 g] 27]) (fun b3 => ⟨by kernel_rfl⟩) (fun w_ hM hS => ⟨hM.blk [.int .u64 0, .int .u64 0] 27, trivial⟩) (fun b3 => ?_)
  refine ops_run (is := []) (r := []) (l' := [(3, .pointer (some ⟨b3, 0, none⟩)), (2, .pointer (some ⟨b2, 0, none⟩)), (1, .pointer (some ⟨b1, 0, none⟩))]) [3, 2, 1] (by kernel_rfl) ?_
  refine ops_nil ?_
  refine fin_then ?_
  refine st_seq ?_
  refine st_region [(0, false), (1, false), (2, false), (3, false), (4, false), (5, false), (6, false)] (by rfl) ?_
  refine ops_mem (d := some 7) (an := [.v (.int .u64 s), .v (.int .u64 g)]) (evs := [.load ⟨b1, 0, none⟩ (.int .u64 s), .load ⟨b1, 1, none⟩ (.int .u64 g)]) (v := .agg #[.int .u64 s, .int .u64 g]) (M' := Mem w [.blk b3 [.int .u64 0, .int .u64 0] 27, .blk b2 [.int .u64 0, .int .u64 0] 27, .blk b1 [.int .u64 s, .int .u64 g] 27]) ⟨by kernel_rfl⟩ (fun w_ hM hS => ⟨w_, ⟨hM.cell 2 rfl rfl, hM.cell 2 rfl rfl, rfl⟩, hM, trivial⟩) ?_
  refine ops_run (is := []) (r := [(1, false), (2, false), (3, false), (4, false), (5, false), (6, false)]) (l' := [(7, .agg #[.int .u64 s, .int .u64 g]), (3, .pointer (some ⟨b3, 0, none⟩)), (2, .pointer (some ⟨b2, 0, none⟩)), (1, .pointer (some ⟨b1, 0, none⟩))]) [7, 3, 2, 1] (by kernel_rfl) ?_
  refine ops_call (σ := Unit) (d := some 8) (f := 30) (args := #[.agg #[.int .u64 s, .int .u64 g]]) (v := fun _ => .tuple #[.int .u64 (mixv (IntKind.u64.wrap (s + g))), .agg #[.int .u64 (IntKind.u64.wrap (s + g)), .int .u64 g]]) (M' := fun _ => Mem w [.blk b3 [.int .u64 0, .int .u64 0] 27, .blk b2 [.int .u64 0, .int .u64 0] 27, .blk b1 [.int .u64 s, .int .u64 g] 27]) ⟨by kernel_rfl⟩ (fun w_ hM hS => (Next_calls s g w_).mono (by rintro e w' ⟨rfl, hb⟩; exact ⟨(), rfl, hM.step hb, trivial⟩)) (fun _ => ?_)
  refine ops_run (is := [(2, false), (3, false), (4, false), (5, false)]) (r := [(6, false)]) (l' := [(4, .int .u64 (mixv (IntKind.u64.wrap (s + g)))), (10, .agg #[.int .u64 (IntKind.u64.wrap (s + g)), .int .u64 g]), (3, .pointer (some ⟨b3, 0, none⟩)), (2, .pointer (some ⟨b2, 0, none⟩)), (1, .pointer (some ⟨b1, 0, none⟩))]) [4, 10, 3, 2, 1] (by kernel_rfl) ?_
  refine ops_store (an := []) (evs := [.store ⟨b1, 0, none⟩ (.int .u64 (IntKind.u64.wrap (s + g))), .store ⟨b1, 1, none⟩ (.int .u64 g)]) (M' := Mem w [.blk b3 [.int .u64 0, .int .u64 0] 27, .blk b2 [.int .u64 0, .int .u64 0] 27, .blk b1 [.int .u64 (IntKind.u64.wrap (s + g)), .int .u64 g] 27]) ⟨by kernel_rfl⟩ (fun w_ hM hS => let ⟨w', he, h'⟩ := hM.evs_stores [.int .u64 (IntKind.u64.wrap (s + g)), .int .u64 g] 2 rfl 0 (Nat.le_of_ble_eq_true rfl); ⟨w', he, h', trivial⟩) ?_
  refine ops_run (is := []) (r := []) (l' := [(4, .int .u64 (mixv (IntKind.u64.wrap (s + g)))), (3, .pointer (some ⟨b3, 0, none⟩)), (2, .pointer (some ⟨b2, 0, none⟩)), (1, .pointer (some ⟨b1, 0, none⟩))]) [4, 3, 2, 1] (by kernel_rfl) ?_
  refine ops_nil ?_
  refine fin_then ?_
  refine st_seq ?_
  refine st_region [(0, false), (1, false), (2, false), (3, false), (4, false), (5, false), (6, false)] (by rfl) ?_
  refine ops_mem (d := some 12) (an := [.v (.int .u64 (IntKind.u64.wrap (s + g))), .v (.int .u64 g)]) (evs := [.load ⟨b1, 0, none⟩ (.int .u64 (IntKind.u64.wrap (s + g))), .load ⟨b1, 1, none⟩ (.int .u64 g)]) (v := .agg #[.int .u64 (IntKind.u64.wrap (s + g)), .int .u64 g]) (M' := Mem w [.blk b3 [.int .u64 0, .int .u64 0] 27, .blk b2 [.int .u64 0, .int .u64 0] 27, .blk b1 [.int .u64 (IntKind.u64.wrap (s + g)), .int .u64 g] 27]) ⟨by kernel_rfl⟩ (fun w_ hM hS => ⟨w_, ⟨hM.cell 2 rfl rfl, hM.cell 2 rfl rfl, rfl⟩, hM, trivial⟩) ?_
  refine ops_run (is := []) (r := [(1, false), (2, false), (3, false), (4, false), (5, false), (6, false)]) (l' := [(12, .agg #[.int .u64 (IntKind.u64.wrap (s + g)), .int .u64 g]), (4, .int .u64 (mixv (IntKind.u64.wrap (s + g)))), (3, .pointer (some ⟨b3, 0, none⟩)), (2, .pointer (some ⟨b2, 0, none⟩)), (1, .pointer (some ⟨b1, 0, none⟩))]) [12, 4, 3, 2, 1] (by kernel_rfl) ?_
  refine ops_call (σ := Unit) (d := some 13) (f := 30) (args := #[.agg #[.int .u64 (IntKind.u64.wrap (s + g)), .int .u64 g]]) (v := fun _ => .tuple #[.int .u64 (mixv (IntKind.u64.wrap (IntKind.u64.wrap (s + g) + g))), .agg #[.int .u64 (IntKind.u64.wrap (IntKind.u64.wrap (s + g) + g)), .int .u64 g]]) (M' := fun _ => Mem w [.blk b3 [.int .u64 0, .int .u64 0] 27, .blk b2 [.int .u64 0, .int .u64 0] 27, .blk b1 [.int .u64 (IntKind.u64.wrap (s + g)), .int .u64 g] 27]) ⟨by kernel_rfl⟩ (fun w_ hM hS => (Next_calls (IntKind.u64.wrap (s + g)) g w_).mono (by rintro e w' ⟨rfl, hb⟩; exact ⟨(), rfl, hM.step hb, trivial⟩)) (fun _ => ?_)
  refine ops_run (is := [(2, false), (3, false), (4, false), (5, false)]) (r := [(6, false)]) (l' := [(5, .int .u64 (mixv (IntKind.u64.wrap (IntKind.u64.wrap (s + g) + g)))), (15, .agg #[.int .u64 (IntKind.u64.wrap (IntKind.u64.wrap (s + g) + g)), .int .u64 g]), (4, .int .u64 (mixv (IntKind.u64.wrap (s + g)))), (3, .pointer (some ⟨b3, 0, none⟩)), (2, .pointer (some ⟨b2, 0, none⟩)), (1, .pointer (some ⟨b1, 0, none⟩))]) [5, 15, 4, 3, 2, 1] (by kernel_rfl) ?_
  refine ops_store (an := []) (evs := [.store ⟨b1, 0, none⟩ (.int .u64 (IntKind.u64.wrap (IntKind.u64.wrap (s + g) + g))), .store ⟨b1, 1, none⟩ (.int .u64 g)]) (M' := Mem w [.blk b3 [.int .u64 0, .int .u64 0] 27, .blk b2 [.int .u64 0, .int .u64 0] 27, .blk b1 [.int .u64 (IntKind.u64.wrap (IntKind.u64.wrap (s + g) + g)), .int .u64 g] 27]) ⟨by kernel_rfl⟩ (fun w_ hM hS => let ⟨w', he, h'⟩ := hM.evs_stores [.int .u64 (IntKind.u64.wrap (IntKind.u64.wrap (s + g) + g)), .int .u64 g] 2 rfl 0 (Nat.le_of_ble_eq_true rfl); ⟨w', he, h', trivial⟩) ?_
  refine ops_run (is := []) (r := []) (l' := [(5, .int .u64 (mixv (IntKind.u64.wrap (IntKind.u64.wrap (s + g) + g)))), (4, .int .u64 (mixv (IntKind.u64.wrap (s + g)))), (3, .pointer (some ⟨b3, 0, none⟩)), (2, .pointer (some ⟨b2, 0, none⟩)), (1, .pointer (some ⟨b1, 0, none⟩))]) [5, 4, 3, 2, 1] (by kernel_rfl) ?_
  refine ops_nil ?_
  refine fin_then ?_
  refine st_seq ?_
  refine st_region_draw [(0, true), (1, true), (2, true), (3, true), (4, true), (5, false), (6, false)] (Mem w [.blk b1 [.int .u64 (IntKind.u64.wrap (IntKind.u64.wrap (s + g) + g)), .int .u64 g] 27]) (by kernel_rfl) (by kernel_rfl) (by kernel_rfl) (fun _ d _ _ _ h => by cases d <;> exact h) (M' := Mem w [.blk b3 [.int .u64 0, .int .u64 0] 27, .blk b2 [.int .u64 0, .int .u64 0] 27, .blk b1 [.int .u64 (IntKind.u64.wrap (IntKind.u64.wrap (s + g) + g)), .int .u64 g] 27]) (fun w_ hM => ⟨hM.drew, hM.drew.sub (by simp)⟩) ?_
  refine ops_run (is := [(0, true), (1, true), (2, true), (3, true)]) (r := [(4, true), (5, false), (6, false)]) (l' := [(19, .agg #[.int .u64 (mixv (IntKind.u64.wrap (s + g))), .int .u64 (Go.bits .or .u64 (mixv (IntKind.u64.wrap (IntKind.u64.wrap (s + g) + g))) 1)]), (3, .pointer (some ⟨b3, 0, none⟩)), (2, .pointer (some ⟨b2, 0, none⟩)), (1, .pointer (some ⟨b1, 0, none⟩))]) [19, 3, 2, 1] (by kernel_rfl) ?_
  refine ops_load (d := some 20) (an := [.v (.int .u64 (IntKind.u64.wrap (IntKind.u64.wrap (s + g) + g))), .v (.int .u64 g)]) (evs := [.load ⟨b1, 0, none⟩ (.int .u64 (IntKind.u64.wrap (IntKind.u64.wrap (s + g) + g))), .load ⟨b1, 1, none⟩ (.int .u64 g)]) (v := .agg #[.int .u64 (IntKind.u64.wrap (IntKind.u64.wrap (s + g) + g)), .int .u64 g]) ⟨by kernel_rfl⟩ (fun w_ hM => ⟨hM.cell 0 rfl rfl, hM.cell 0 rfl rfl, rfl⟩) ?_
  refine ops_run (is := []) (r := [(5, false), (6, false)]) (l' := [(20, .agg #[.int .u64 (IntKind.u64.wrap (IntKind.u64.wrap (s + g) + g)), .int .u64 g]), (19, .agg #[.int .u64 (mixv (IntKind.u64.wrap (s + g))), .int .u64 (Go.bits .or .u64 (mixv (IntKind.u64.wrap (IntKind.u64.wrap (s + g) + g))) 1)]), (3, .pointer (some ⟨b3, 0, none⟩)), (2, .pointer (some ⟨b2, 0, none⟩))]) [20, 19, 3, 2] (by kernel_rfl) ?_
  refine ops_store (an := []) (evs := [.store ⟨b2, 0, none⟩ (.int .u64 (mixv (IntKind.u64.wrap (s + g)))), .store ⟨b2, 1, none⟩ (.int .u64 (Go.bits .or .u64 (mixv (IntKind.u64.wrap (IntKind.u64.wrap (s + g) + g))) 1))]) (M' := Mem w [.blk b3 [.int .u64 0, .int .u64 0] 27, .blk b2 [.int .u64 (mixv (IntKind.u64.wrap (s + g))), .int .u64 (Go.bits .or .u64 (mixv (IntKind.u64.wrap (IntKind.u64.wrap (s + g) + g))) 1)] 27, .blk b1 [.int .u64 (IntKind.u64.wrap (IntKind.u64.wrap (s + g) + g)), .int .u64 g] 27]) ⟨by kernel_rfl⟩ (fun w_ hM hS => let ⟨w', he, h'⟩ := hM.evs_stores [.int .u64 (mixv (IntKind.u64.wrap (s + g))), .int .u64 (Go.bits .or .u64 (mixv (IntKind.u64.wrap (IntKind.u64.wrap (s + g) + g))) 1)] 1 rfl 0 (Nat.le_of_ble_eq_true rfl); ⟨w', he, h', (by exact h'.sub (by simp))⟩) ?_
  refine ops_run (is := []) (r := [(6, false)]) (l' := [(20, .agg #[.int .u64 (IntKind.u64.wrap (IntKind.u64.wrap (s + g) + g)), .int .u64 g]), (3, .pointer (some ⟨b3, 0, none⟩)), (2, .pointer (some ⟨b2, 0, none⟩))]) [20, 3, 2] (by kernel_rfl) ?_
  refine ops_store (an := []) (evs := [.store ⟨b3, 0, none⟩ (.int .u64 (IntKind.u64.wrap (IntKind.u64.wrap (s + g) + g))), .store ⟨b3, 1, none⟩ (.int .u64 g)]) (M' := Mem w [.blk b3 [.int .u64 (IntKind.u64.wrap (IntKind.u64.wrap (s + g) + g)), .int .u64 g] 27, .blk b2 [.int .u64 (mixv (IntKind.u64.wrap (s + g))), .int .u64 (Go.bits .or .u64 (mixv (IntKind.u64.wrap (IntKind.u64.wrap (s + g) + g))) 1)] 27, .blk b1 [.int .u64 (IntKind.u64.wrap (IntKind.u64.wrap (s + g) + g)), .int .u64 g] 27]) ⟨by kernel_rfl⟩ (fun w_ hM hS => let ⟨w', he, h'⟩ := hM.evs_stores [.int .u64 (IntKind.u64.wrap (IntKind.u64.wrap (s + g) + g)), .int .u64 g] 0 rfl 0 (Nat.le_of_ble_eq_true rfl); ⟨w', he, h', (by exact h'.sub (by simp))⟩) ?_
  refine ops_run (is := []) (r := []) (l' := [(3, .pointer (some ⟨b3, 0, none⟩)), (2, .pointer (some ⟨b2, 0, none⟩))]) [3, 2] (by kernel_rfl) ?_
  refine ops_nil ?_
  refine fin_then ?_
  refine st_ret ?_
  refine fin_ret [.cell 2 27, .cell 3 27] [.agg #[.int .u64 (mixv (IntKind.u64.wrap (s + g))), .int .u64 (Go.bits .or .u64 (mixv (IntKind.u64.wrap (IntKind.u64.wrap (s + g) + g))) 1)], .agg #[.int .u64 (IntKind.u64.wrap (IntKind.u64.wrap (s + g) + g)), .int .u64 g]] rfl rfl (fun w_ hM => (.cell rfl (tr_run _ [.v (.int .u64 (mixv (IntKind.u64.wrap (s + g)))), .v (.int .u64 (Go.bits .or .u64 (mixv (IntKind.u64.wrap (IntKind.u64.wrap (s + g) + g))) 1))] [.load ⟨b2, 0, none⟩ (.int .u64 (mixv (IntKind.u64.wrap (s + g)))), .load ⟨b2, 1, none⟩ (.int .u64 (Go.bits .or .u64 (mixv (IntKind.u64.wrap (IntKind.u64.wrap (s + g) + g))) 1))] (.agg #[.int .u64 (mixv (IntKind.u64.wrap (s + g))), .int .u64 (Go.bits .or .u64 (mixv (IntKind.u64.wrap (IntKind.u64.wrap (s + g) + g))) 1)] : Value) _ _ (by kernel_rfl) ⟨hM.cell 1 rfl rfl, hM.cell 1 rfl rfl, rfl⟩) (.cell rfl (tr_run _ [.v (.int .u64 (IntKind.u64.wrap (IntKind.u64.wrap (s + g) + g))), .v (.int .u64 g)] [.load ⟨b3, 0, none⟩ (.int .u64 (IntKind.u64.wrap (IntKind.u64.wrap (s + g) + g))), .load ⟨b3, 1, none⟩ (.int .u64 g)] (.agg #[.int .u64 (IntKind.u64.wrap (IntKind.u64.wrap (s + g) + g)), .int .u64 g] : Value) _ _ (by kernel_rfl) ⟨hM.cell 0 rfl rfl, hM.cell 0 rfl rfl, rfl⟩) .nil))) (fun w_ hM => ?_)
  refine ⟨?_, hM.done⟩
  rfl
theorem back1 (s g : Int) : IntKind.u64.wrap (s + IntKind.u64.wrap (IntKind.u64.wrap 1 * g)) = IntKind.u64.wrap (s + g) := by
  rw [show IntKind.u64.wrap 1 = 1 from rfl, Int.one_mul, w64, w64, w64]; omega
theorem back2 (s g : Int) : IntKind.u64.wrap (s + IntKind.u64.wrap (IntKind.u64.wrap 2 * g)) = IntKind.u64.wrap (IntKind.u64.wrap (s + g) + g) := by
  rw [show IntKind.u64.wrap 2 = 2 from rfl, w64, w64, w64, w64]; omega
theorem Number1_one (s g : Int) (w : World) : Calls Try.prog 32 #[.agg #[.int .u64 s, .int .u64 g], .int .i64 1] w fun e w' => e = .returned (.int .u64 (mixv (IntKind.u64.wrap (s + g)))) ∧ Below w.heap.size w w' := by
  have h := Number1_calls s g 1 w
  rw [back1, scrv_eq (w64_lo _) (w64_hi _)] at h; exact h
theorem Number1_two (s g : Int) (w : World) : Calls Try.prog 32 #[.agg #[.int .u64 s, .int .u64 g], .int .i64 2] w fun e w' => e = .returned (.int .u64 (mixv (IntKind.u64.wrap (IntKind.u64.wrap (s + g) + g)))) ∧ Below w.heap.size w w' := by
  have h := Number1_calls s g 2 w
  rw [back2, scrv_eq (w64_lo _) (w64_hi _)] at h; exact h
theorem Behind_one (s g : Int) (w : World) : Calls Try.prog 18 #[.agg #[.int .u64 s, .int .u64 g], .int .i64 1] w fun e w' => e = .returned (.agg #[.int .u64 (IntKind.u64.wrap (s + g)), .int .u64 g]) ∧ Below w.heap.size w w' := by
  have h := Behind_calls s g 1 w
  rw [back1] at h; exact h
theorem Behind_two (s g : Int) (w : World) : Calls Try.prog 18 #[.agg #[.int .u64 s, .int .u64 g], .int .i64 2] w fun e w' => e = .returned (.agg #[.int .u64 (IntKind.u64.wrap (IntKind.u64.wrap (s + g) + g)), .int .u64 g]) ∧ Below w.heap.size w w' := by
  have h := Behind_calls s g 2 w
  rw [back2] at h; exact h
set_option maxRecDepth 100000 in
theorem RndTells_calls0 (s g seed : Int) (A : Option Addr) (c : Nat) (l : List Int) (w : World) (hs0 : 0 ≤ s) (hs1 : s < 18446744073709551616) (hr : RInts .i64 A l w) (hlen : l.length * 8 ≤ 140737488351232) : Calls Try.prog 7 #[.agg #[.int .u64 s, .int .u64 g], .int .i64 seed, .slice A l.length c] w fun e w' => e = .returned (.bool true) ∧ Below w.heap.size w w' := by
  refine sx_calls Try.func7 rfl (n := 76) (by kernel_rfl) (l := [(0, .agg #[.int .u64 s, .int .u64 g]), (1, .int .i64 seed), (2, .slice A l.length c)]) rfl (by rfl) (Mem.nil w) ?_
  refine st_seq ?_
  refine st_region [(0, false), (1, false)] (by rfl) ?_
  refine ops_new (d := some 3) (o := .cells #[.int .u64 s, .int .u64 g] 27) (v := fun b1 => .pointer (some ⟨b1, 0, none⟩)) (M' := fun b1 => Mem w [.blk b1 [.int .u64 s, .int .u64 g] 27]) (fun b1 => ⟨by kernel_rfl⟩) (fun w_ hM hS => ⟨hM.blk [.int .u64 s, .int .u64 g] 27, trivial⟩) (fun b1 => ?_)
  refine ops_run (is := [(1, false)]) (r := []) (l' := [(3, .pointer (some ⟨b1, 0, none⟩)), (1, .int .i64 seed), (2, .slice A l.length c)]) [3, 1, 2] (by kernel_rfl) ?_
  refine ops_nil ?_
  refine fin_then ?_
  refine st_seq ?_
  refine st_seq ?_
  refine st_region [(0, false), (1, false)] (by rfl) ?_
  refine ops_call (σ := Unit) (d := some 12) (f := 15) (args := #[]) (v := fun _ => .bool true) (M' := fun _ => Mem w [.blk b1 [.int .u64 s, .int .u64 g] 27]) ⟨by kernel_rfl⟩ (fun w_ hM hS => (Begun_calls w_).mono (by rintro e w' ⟨rfl, hb⟩; exact ⟨(), rfl, hM.step hb, trivial⟩)) (fun _ => ?_)
  refine ops_run (is := [(1, false)]) (r := []) (l' := [(13, .bool false), (3, .pointer (some ⟨b1, 0, none⟩)), (1, .int .i64 seed), (2, .slice A l.length c)]) [13, 3, 1, 2] (by kernel_rfl) ?_
  refine ops_nil ?_
  refine fin_then ?_
  refine st_false rfl ?_
  refine st_skip ?_
  refine fin_then ?_
  refine st_seq ?_
  refine st_region [(0, false), (1, false), (2, false), (3, false), (4, false), (5, false), (6, false), (7, false)] (by rfl) ?_
  refine ops_run (is := []) (r := [(0, false), (1, false), (2, false), (3, false), (4, false), (5, false), (6, false), (7, false)]) (l' := [(3, .pointer (some ⟨b1, 0, none⟩)), (1, .int .i64 seed), (2, .slice A l.length c)]) [3, 1, 2] (by kernel_rfl) ?_
  refine ops_mem (d := some 15) (an := [.v (.int .u64 s), .v (.int .u64 g)]) (evs := [.load ⟨b1, 0, none⟩ (.int .u64 s), .load ⟨b1, 1, none⟩ (.int .u64 g)]) (v := .agg #[.int .u64 s, .int .u64 g]) (M' := Mem w [.blk b1 [.int .u64 s, .int .u64 g] 27]) ⟨by kernel_rfl⟩ (fun w_ hM hS => ⟨w_, ⟨hM.cell 0 rfl rfl, hM.cell 0 rfl rfl, rfl⟩, hM, trivial⟩) ?_
  refine ops_run (is := []) (r := [(1, false), (2, false), (3, false), (4, false), (5, false), (6, false), (7, false)]) (l' := [(15, .agg #[.int .u64 s, .int .u64 g]), (3, .pointer (some ⟨b1, 0, none⟩)), (1, .int .i64 seed), (2, .slice A l.length c)]) [15, 3, 1, 2] (by kernel_rfl) ?_
  refine ops_call (σ := Unit) (d := some 16) (f := 30) (args := #[.agg #[.int .u64 s, .int .u64 g]]) (v := fun _ => .tuple #[.int .u64 (mixv (IntKind.u64.wrap (s + g))), .agg #[.int .u64 (IntKind.u64.wrap (s + g)), .int .u64 g]]) (M' := fun _ => Mem w [.blk b1 [.int .u64 s, .int .u64 g] 27]) ⟨by kernel_rfl⟩ (fun w_ hM hS => (Next_calls s g w_).mono (by rintro e w' ⟨rfl, hb⟩; exact ⟨(), rfl, hM.step hb, trivial⟩)) (fun _ => ?_)
  refine ops_run (is := [(2, false), (3, false), (4, false)]) (r := [(5, false), (6, false), (7, false)]) (l' := [(18, .agg #[.int .u64 (IntKind.u64.wrap (s + g)), .int .u64 g]), (17, .int .u64 (mixv (IntKind.u64.wrap (s + g)))), (3, .pointer (some ⟨b1, 0, none⟩)), (1, .int .i64 seed), (2, .slice A l.length c)]) [18, 17, 3, 1, 2] (by kernel_rfl) ?_
  refine ops_new (d := some 8) (o := .cells #[.int .u64 0, .int .u64 0] 27) (v := fun b2 => .pointer (some ⟨b2, 0, none⟩)) (M' := fun b2 => Mem w [.blk b2 [.int .u64 0, .int .u64 0] 27, .blk b1 [.int .u64 s, .int .u64 g] 27]) (fun b2 => ⟨by kernel_rfl⟩) (fun w_ hM hS => ⟨hM.blk [.int .u64 0, .int .u64 0] 27, trivial⟩) (fun b2 => ?_)
  refine ops_run (is := [(6, false)]) (r := [(7, false)]) (l' := [(7, .int .u64 (mixv (IntKind.u64.wrap (s + g)))), (8, .pointer (some ⟨b2, 0, none⟩)), (18, .agg #[.int .u64 (IntKind.u64.wrap (s + g)), .int .u64 g]), (3, .pointer (some ⟨b1, 0, none⟩)), (1, .int .i64 seed), (2, .slice A l.length c)]) [7, 8, 18, 3, 1, 2] (by kernel_rfl) ?_
  refine ops_store (an := []) (evs := [.store ⟨b2, 0, none⟩ (.int .u64 (IntKind.u64.wrap (s + g))), .store ⟨b2, 1, none⟩ (.int .u64 g)]) (M' := Mem w [.blk b2 [.int .u64 (IntKind.u64.wrap (s + g)), .int .u64 g] 27, .blk b1 [.int .u64 s, .int .u64 g] 27]) ⟨by kernel_rfl⟩ (fun w_ hM hS => let ⟨w', he, h'⟩ := hM.evs_stores [.int .u64 (IntKind.u64.wrap (s + g)), .int .u64 g] 0 rfl 0 (Nat.le_of_ble_eq_true rfl); ⟨w', he, h', trivial⟩) ?_
  refine ops_run (is := []) (r := []) (l' := [(7, .int .u64 (mixv (IntKind.u64.wrap (s + g)))), (8, .pointer (some ⟨b2, 0, none⟩)), (3, .pointer (some ⟨b1, 0, none⟩)), (1, .int .i64 seed), (2, .slice A l.length c)]) [7, 8, 3, 1, 2] (by kernel_rfl) ?_
  refine ops_nil ?_
  refine fin_then ?_
  refine st_seq ?_
  refine st_region [(0, false), (1, false), (2, false), (3, false), (4, false), (5, false), (6, false), (7, false), (8, false)] (by rfl) ?_
  refine ops_mem (d := some 20) (an := [.v (.int .u64 s), .v (.int .u64 g)]) (evs := [.load ⟨b1, 0, none⟩ (.int .u64 s), .load ⟨b1, 1, none⟩ (.int .u64 g)]) (v := .agg #[.int .u64 s, .int .u64 g]) (M' := Mem w [.blk b2 [.int .u64 (IntKind.u64.wrap (s + g)), .int .u64 g] 27, .blk b1 [.int .u64 s, .int .u64 g] 27]) ⟨by kernel_rfl⟩ (fun w_ hM hS => ⟨w_, ⟨hM.cell 1 rfl rfl, hM.cell 1 rfl rfl, rfl⟩, hM, trivial⟩) ?_
  refine ops_run (is := []) (r := [(1, false), (2, false), (3, false), (4, false), (5, false), (6, false), (7, false), (8, false)]) (l' := [(20, .agg #[.int .u64 s, .int .u64 g]), (7, .int .u64 (mixv (IntKind.u64.wrap (s + g)))), (8, .pointer (some ⟨b2, 0, none⟩)), (3, .pointer (some ⟨b1, 0, none⟩)), (1, .int .i64 seed), (2, .slice A l.length c)]) [20, 7, 8, 3, 1, 2] (by kernel_rfl) ?_
  refine ops_call (σ := Unit) (d := some 21) (f := 31) (args := #[.agg #[.int .u64 s, .int .u64 g]]) (v := fun _ => .tuple #[.agg #[.int .u64 (mixv (IntKind.u64.wrap (s + g))), .int .u64 (oddv (mixv (IntKind.u64.wrap (IntKind.u64.wrap (s + g) + g))))], .agg #[.int .u64 (IntKind.u64.wrap (IntKind.u64.wrap (s + g) + g)), .int .u64 g]]) (M' := fun _ => Mem w [.blk b2 [.int .u64 (IntKind.u64.wrap (s + g)), .int .u64 g] 27, .blk b1 [.int .u64 s, .int .u64 g] 27]) ⟨by kernel_rfl⟩ (fun w_ hM hS => (Split_calls s g w_).mono (by rintro e w' ⟨rfl, hb⟩; exact ⟨(), rfl, hM.step hb, trivial⟩)) (fun _ => ?_)
  refine ops_run (is := [(2, false), (3, false), (4, false)]) (r := [(5, false), (6, false), (7, false), (8, false)]) (l' := [(23, .agg #[.int .u64 (IntKind.u64.wrap (IntKind.u64.wrap (s + g) + g)), .int .u64 g]), (22, .agg #[.int .u64 (mixv (IntKind.u64.wrap (s + g))), .int .u64 (oddv (mixv (IntKind.u64.wrap (IntKind.u64.wrap (s + g) + g))))]), (7, .int .u64 (mixv (IntKind.u64.wrap (s + g)))), (8, .pointer (some ⟨b2, 0, none⟩)), (3, .pointer (some ⟨b1, 0, none⟩)), (1, .int .i64 seed), (2, .slice A l.length c)]) [23, 22, 7, 8, 3, 1, 2] (by kernel_rfl) ?_
  refine ops_new (d := some 9) (o := .cells #[.int .u64 0, .int .u64 0] 27) (v := fun b3 => .pointer (some ⟨b3, 0, none⟩)) (M' := fun b3 => Mem w [.blk b3 [.int .u64 0, .int .u64 0] 27, .blk b2 [.int .u64 (IntKind.u64.wrap (s + g)), .int .u64 g] 27, .blk b1 [.int .u64 s, .int .u64 g] 27]) (fun b3 => ⟨by kernel_rfl⟩) (fun w_ hM hS => ⟨hM.blk [.int .u64 0, .int .u64 0] 27, trivial⟩) (fun b3 => ?_)
  refine ops_run (is := []) (r := [(6, false), (7, false), (8, false)]) (l' := [(9, .pointer (some ⟨b3, 0, none⟩)), (23, .agg #[.int .u64 (IntKind.u64.wrap (IntKind.u64.wrap (s + g) + g)), .int .u64 g]), (22, .agg #[.int .u64 (mixv (IntKind.u64.wrap (s + g))), .int .u64 (oddv (mixv (IntKind.u64.wrap (IntKind.u64.wrap (s + g) + g))))]), (7, .int .u64 (mixv (IntKind.u64.wrap (s + g)))), (8, .pointer (some ⟨b2, 0, none⟩)), (3, .pointer (some ⟨b1, 0, none⟩)), (1, .int .i64 seed), (2, .slice A l.length c)]) [9, 23, 22, 7, 8, 3, 1, 2] (by kernel_rfl) ?_
  refine ops_new (d := some 10) (o := .cells #[.int .u64 0, .int .u64 0] 27) (v := fun b4 => .pointer (some ⟨b4, 0, none⟩)) (M' := fun b4 => Mem w [.blk b4 [.int .u64 0, .int .u64 0] 27, .blk b3 [.int .u64 0, .int .u64 0] 27, .blk b2 [.int .u64 (IntKind.u64.wrap (s + g)), .int .u64 g] 27, .blk b1 [.int .u64 s, .int .u64 g] 27]) (fun b4 => ⟨by kernel_rfl⟩) (fun w_ hM hS => ⟨hM.blk [.int .u64 0, .int .u64 0] 27, trivial⟩) (fun b4 => ?_)
  refine ops_run (is := []) (r := [(7, false), (8, false)]) (l' := [(10, .pointer (some ⟨b4, 0, none⟩)), (9, .pointer (some ⟨b3, 0, none⟩)), (23, .agg #[.int .u64 (IntKind.u64.wrap (IntKind.u64.wrap (s + g) + g)), .int .u64 g]), (22, .agg #[.int .u64 (mixv (IntKind.u64.wrap (s + g))), .int .u64 (oddv (mixv (IntKind.u64.wrap (IntKind.u64.wrap (s + g) + g))))]), (7, .int .u64 (mixv (IntKind.u64.wrap (s + g)))), (8, .pointer (some ⟨b2, 0, none⟩)), (3, .pointer (some ⟨b1, 0, none⟩)), (1, .int .i64 seed), (2, .slice A l.length c)]) [10, 9, 23, 22, 7, 8, 3, 1, 2] (by kernel_rfl) ?_
  refine ops_store (an := []) (evs := [.store ⟨b3, 0, none⟩ (.int .u64 (mixv (IntKind.u64.wrap (s + g)))), .store ⟨b3, 1, none⟩ (.int .u64 (oddv (mixv (IntKind.u64.wrap (IntKind.u64.wrap (s + g) + g)))))]) (M' := Mem w [.blk b4 [.int .u64 0, .int .u64 0] 27, .blk b3 [.int .u64 (mixv (IntKind.u64.wrap (s + g))), .int .u64 (oddv (mixv (IntKind.u64.wrap (IntKind.u64.wrap (s + g) + g))))] 27, .blk b2 [.int .u64 (IntKind.u64.wrap (s + g)), .int .u64 g] 27, .blk b1 [.int .u64 s, .int .u64 g] 27]) ⟨by kernel_rfl⟩ (fun w_ hM hS => let ⟨w', he, h'⟩ := hM.evs_stores [.int .u64 (mixv (IntKind.u64.wrap (s + g))), .int .u64 (oddv (mixv (IntKind.u64.wrap (IntKind.u64.wrap (s + g) + g))))] 1 rfl 0 (Nat.le_of_ble_eq_true rfl); ⟨w', he, h', trivial⟩) ?_
  refine ops_run (is := []) (r := [(8, false)]) (l' := [(10, .pointer (some ⟨b4, 0, none⟩)), (9, .pointer (some ⟨b3, 0, none⟩)), (23, .agg #[.int .u64 (IntKind.u64.wrap (IntKind.u64.wrap (s + g) + g)), .int .u64 g]), (7, .int .u64 (mixv (IntKind.u64.wrap (s + g)))), (8, .pointer (some ⟨b2, 0, none⟩)), (3, .pointer (some ⟨b1, 0, none⟩)), (1, .int .i64 seed), (2, .slice A l.length c)]) [10, 9, 23, 7, 8, 3, 1, 2] (by kernel_rfl) ?_
  refine ops_store (an := []) (evs := [.store ⟨b4, 0, none⟩ (.int .u64 (IntKind.u64.wrap (IntKind.u64.wrap (s + g) + g))), .store ⟨b4, 1, none⟩ (.int .u64 g)]) (M' := Mem w [.blk b4 [.int .u64 (IntKind.u64.wrap (IntKind.u64.wrap (s + g) + g)), .int .u64 g] 27, .blk b3 [.int .u64 (mixv (IntKind.u64.wrap (s + g))), .int .u64 (oddv (mixv (IntKind.u64.wrap (IntKind.u64.wrap (s + g) + g))))] 27, .blk b2 [.int .u64 (IntKind.u64.wrap (s + g)), .int .u64 g] 27, .blk b1 [.int .u64 s, .int .u64 g] 27]) ⟨by kernel_rfl⟩ (fun w_ hM hS => let ⟨w', he, h'⟩ := hM.evs_stores [.int .u64 (IntKind.u64.wrap (IntKind.u64.wrap (s + g) + g)), .int .u64 g] 0 rfl 0 (Nat.le_of_ble_eq_true rfl); ⟨w', he, h', trivial⟩) ?_
  refine ops_run (is := []) (r := []) (l' := [(10, .pointer (some ⟨b4, 0, none⟩)), (9, .pointer (some ⟨b3, 0, none⟩)), (7, .int .u64 (mixv (IntKind.u64.wrap (s + g)))), (8, .pointer (some ⟨b2, 0, none⟩)), (3, .pointer (some ⟨b1, 0, none⟩)), (1, .int .i64 seed), (2, .slice A l.length c)]) [10, 9, 7, 8, 3, 1, 2] (by kernel_rfl) ?_
  refine ops_nil ?_
  refine fin_then ?_
  refine st_seq_cut (σ := Nat) (fun b5 => [(11, .pointer (some ⟨b5, 0, none⟩)), (10, .pointer (some ⟨b4, 0, none⟩)), (9, .pointer (some ⟨b3, 0, none⟩)), (7, .int .u64 (mixv (IntKind.u64.wrap (s + g)))), (8, .pointer (some ⟨b2, 0, none⟩)), (3, .pointer (some ⟨b1, 0, none⟩)), (1, .int .i64 seed), (2, .slice A l.length c)]) (fun b5 => Mem w [.blk b5 [.int .u64 (mixv (IntKind.u64.wrap (s + g))), .int .u64 (oddv (mixv (IntKind.u64.wrap (IntKind.u64.wrap (s + g) + g))))] 27, .blk b4 [.int .u64 (IntKind.u64.wrap (IntKind.u64.wrap (s + g) + g)), .int .u64 g] 27, .blk b3 [.int .u64 (mixv (IntKind.u64.wrap (s + g))), .int .u64 (oddv (mixv (IntKind.u64.wrap (IntKind.u64.wrap (s + g) + g))))] 27, .blk b2 [.int .u64 (IntKind.u64.wrap (s + g)), .int .u64 g] 27, .blk b1 [.int .u64 s, .int .u64 g] 27]) ?_ ?_
  · --
    refine st_region_tree (.node [(0, true), (2, true)] (.node [(1, false)] (.leaf [(3, false), (4, true), (5, true), (6, true), (7, true), (8, false), (9, false)]) (.leaf [(8, false), (3, false), (4, true), (5, true), (6, true), (7, true), (9, false)])) (.leaf [(8, false), (1, false), (3, false), (4, true), (5, true), (6, true), (7, true), (9, false)])) (Mem w [.blk b4 [.int .u64 (IntKind.u64.wrap (IntKind.u64.wrap (s + g) + g)), .int .u64 g] 27, .blk b3 [.int .u64 (mixv (IntKind.u64.wrap (s + g))), .int .u64 (oddv (mixv (IntKind.u64.wrap (IntKind.u64.wrap (s + g) + g))))] 27, .blk b2 [.int .u64 (IntKind.u64.wrap (s + g)), .int .u64 g] 27, .blk b1 [.int .u64 s, .int .u64 g] 27]) (by kernel_rfl) (by kernel_rfl) (by kernel_rfl) (fun _ d _ _ _ h => by cases d <;> exact h) (M' := Mem w [.blk b4 [.int .u64 (IntKind.u64.wrap (IntKind.u64.wrap (s + g) + g)), .int .u64 g] 27, .blk b3 [.int .u64 (mixv (IntKind.u64.wrap (s + g))), .int .u64 (oddv (mixv (IntKind.u64.wrap (IntKind.u64.wrap (s + g) + g))))] 27, .blk b2 [.int .u64 (IntKind.u64.wrap (s + g)), .int .u64 g] 27, .blk b1 [.int .u64 s, .int .u64 g] 27]) (fun w_ hM => ⟨hM.drew, hM.drew.sub (by simp)⟩) ?_
    refine tree_node ?_
    refine ops_load (d := some 24) (an := [.v (.int .u64 s), .v (.int .u64 g)]) (evs := [.load ⟨b1, 0, none⟩ (.int .u64 s), .load ⟨b1, 1, none⟩ (.int .u64 g)]) (v := .agg #[.int .u64 s, .int .u64 g]) ⟨by kernel_rfl⟩ (fun w_ hM => ⟨hM.cell 3 rfl rfl, hM.cell 3 rfl rfl, rfl⟩) ?_
    refine ops_run (is := []) (r := [(2, true)]) (l' := [(24, .agg #[.int .u64 s, .int .u64 g]), (10, .pointer (some ⟨b4, 0, none⟩)), (9, .pointer (some ⟨b3, 0, none⟩)), (7, .int .u64 (mixv (IntKind.u64.wrap (s + g)))), (8, .pointer (some ⟨b2, 0, none⟩)), (3, .pointer (some ⟨b1, 0, none⟩)), (1, .int .i64 seed), (2, .slice A l.length c)]) [24, 10, 9, 7, 8, 3, 1, 2] (by kernel_rfl) ?_
    refine ops_load (d := some 26) (an := [.v (.int .u64 s), .v (.int .u64 g)]) (evs := [.load ⟨b1, 0, none⟩ (.int .u64 s), .load ⟨b1, 1, none⟩ (.int .u64 g)]) (v := .agg #[.int .u64 s, .int .u64 g]) ⟨by kernel_rfl⟩ (fun w_ hM => ⟨hM.cell 3 rfl rfl, hM.cell 3 rfl rfl, rfl⟩) ?_
    refine ops_run (is := []) (r := []) (l' := [(26, .agg #[.int .u64 s, .int .u64 g]), (24, .agg #[.int .u64 s, .int .u64 g]), (10, .pointer (some ⟨b4, 0, none⟩)), (9, .pointer (some ⟨b3, 0, none⟩)), (7, .int .u64 (mixv (IntKind.u64.wrap (s + g)))), (8, .pointer (some ⟨b2, 0, none⟩)), (3, .pointer (some ⟨b1, 0, none⟩)), (1, .int .i64 seed), (2, .slice A l.length c)]) [26, 24, 10, 9, 7, 8, 3, 1, 2] (by kernel_rfl) ?_
    refine ops_nil ?_
    refine tree_both ?_ ?_
    · --
      refine tree_node ?_
      refine ops_call (σ := Unit) (d := some 25) (f := 32) (args := #[.agg #[.int .u64 s, .int .u64 g], .int .i64 1]) (v := fun _ => .int .u64 (mixv (IntKind.u64.wrap (s + g)))) (M' := fun _ => Mem w [.blk b4 [.int .u64 (IntKind.u64.wrap (IntKind.u64.wrap (s + g) + g)), .int .u64 g] 27, .blk b3 [.int .u64 (mixv (IntKind.u64.wrap (s + g))), .int .u64 (oddv (mixv (IntKind.u64.wrap (IntKind.u64.wrap (s + g) + g))))] 27, .blk b2 [.int .u64 (IntKind.u64.wrap (s + g)), .int .u64 g] 27, .blk b1 [.int .u64 s, .int .u64 g] 27]) ⟨by kernel_rfl⟩ (fun w_ hM hS => (Number1_one s g w_).mono (by rintro e w' ⟨rfl, hb⟩; exact ⟨(), rfl, hM.step hb, hS.step hb⟩)) (fun _ => ?_)
      refine ops_run (is := []) (r := []) (l' := [(25, .int .u64 (mixv (IntKind.u64.wrap (s + g)))), (26, .agg #[.int .u64 s, .int .u64 g]), (10, .pointer (some ⟨b4, 0, none⟩)), (9, .pointer (some ⟨b3, 0, none⟩)), (7, .int .u64 (mixv (IntKind.u64.wrap (s + g)))), (8, .pointer (some ⟨b2, 0, none⟩)), (3, .pointer (some ⟨b1, 0, none⟩)), (1, .int .i64 seed), (2, .slice A l.length c)]) [25, 26, 10, 9, 7, 8, 3, 1, 2] (by kernel_rfl) ?_
      refine ops_nil ?_
      refine tree_both ?_ ?_
      · --
        refine tree_leaf ?_
        refine ops_call (σ := Unit) (d := some 27) (f := 32) (args := #[.agg #[.int .u64 s, .int .u64 g], .int .i64 2]) (v := fun _ => .int .u64 (mixv (IntKind.u64.wrap (IntKind.u64.wrap (s + g) + g)))) (M' := fun _ => Mem w [.blk b4 [.int .u64 (IntKind.u64.wrap (IntKind.u64.wrap (s + g) + g)), .int .u64 g] 27, .blk b3 [.int .u64 (mixv (IntKind.u64.wrap (s + g))), .int .u64 (oddv (mixv (IntKind.u64.wrap (IntKind.u64.wrap (s + g) + g))))] 27, .blk b2 [.int .u64 (IntKind.u64.wrap (s + g)), .int .u64 g] 27, .blk b1 [.int .u64 s, .int .u64 g] 27]) ⟨by kernel_rfl⟩ (fun w_ hM hS => (Number1_two s g w_).mono (by rintro e w' ⟨rfl, hb⟩; exact ⟨(), rfl, hM.step hb, hS.step hb⟩)) (fun _ => ?_)
        refine ops_run (is := [(4, true), (5, true), (6, true), (7, true)]) (r := [(8, false), (9, false)]) (l' := [(31, .agg #[.int .u64 (mixv (IntKind.u64.wrap (s + g))), .int .u64 (IntKind.u64.wrap (IntKind.u64.wrap (IntKind.u64.wrap (Int.tdiv (mixv (IntKind.u64.wrap (IntKind.u64.wrap (s + g) + g))) 2) * 2) + 1))]), (10, .pointer (some ⟨b4, 0, none⟩)), (9, .pointer (some ⟨b3, 0, none⟩)), (7, .int .u64 (mixv (IntKind.u64.wrap (s + g)))), (8, .pointer (some ⟨b2, 0, none⟩)), (3, .pointer (some ⟨b1, 0, none⟩)), (1, .int .i64 seed), (2, .slice A l.length c)]) [31, 10, 9, 7, 8, 3, 1, 2] (by kernel_rfl) ?_
        refine ops_conv (l' := [(31, .agg #[.int .u64 (mixv (IntKind.u64.wrap (s + g))), .int .u64 (oddv (mixv (IntKind.u64.wrap (IntKind.u64.wrap (s + g) + g))))]), (10, .pointer (some ⟨b4, 0, none⟩)), (9, .pointer (some ⟨b3, 0, none⟩)), (7, .int .u64 (mixv (IntKind.u64.wrap (s + g)))), (8, .pointer (some ⟨b2, 0, none⟩)), (3, .pointer (some ⟨b1, 0, none⟩)), (1, .int .i64 seed), (2, .slice A l.length c)]) (by rw [(oddv_eq (mixv_lo (IntKind.u64.wrap (IntKind.u64.wrap (s + g) + g))) (mixv_hi (IntKind.u64.wrap (IntKind.u64.wrap (s + g) + g))))]) (fun _ h => h) ?_
        refine ops_new (d := some 11) (o := .cells #[.int .u64 0, .int .u64 0] 27) (v := fun b5 => .pointer (some ⟨b5, 0, none⟩)) (M' := fun b5 => Mem w [.blk b5 [.int .u64 0, .int .u64 0] 27, .blk b4 [.int .u64 (IntKind.u64.wrap (IntKind.u64.wrap (s + g) + g)), .int .u64 g] 27, .blk b3 [.int .u64 (mixv (IntKind.u64.wrap (s + g))), .int .u64 (oddv (mixv (IntKind.u64.wrap (IntKind.u64.wrap (s + g) + g))))] 27, .blk b2 [.int .u64 (IntKind.u64.wrap (s + g)), .int .u64 g] 27, .blk b1 [.int .u64 s, .int .u64 g] 27]) (fun b5 => ⟨by kernel_rfl⟩) (fun w_ hM hS => ⟨hM.blk [.int .u64 0, .int .u64 0] 27, hS.alloc _⟩) (fun b5 => ?_)
        refine ops_run (is := []) (r := [(9, false)]) (l' := [(11, .pointer (some ⟨b5, 0, none⟩)), (31, .agg #[.int .u64 (mixv (IntKind.u64.wrap (s + g))), .int .u64 (oddv (mixv (IntKind.u64.wrap (IntKind.u64.wrap (s + g) + g))))]), (10, .pointer (some ⟨b4, 0, none⟩)), (9, .pointer (some ⟨b3, 0, none⟩)), (7, .int .u64 (mixv (IntKind.u64.wrap (s + g)))), (8, .pointer (some ⟨b2, 0, none⟩)), (3, .pointer (some ⟨b1, 0, none⟩)), (1, .int .i64 seed), (2, .slice A l.length c)]) [11, 31, 10, 9, 7, 8, 3, 1, 2] (by kernel_rfl) ?_
        refine ops_store (an := []) (evs := [.store ⟨b5, 0, none⟩ (.int .u64 (mixv (IntKind.u64.wrap (s + g)))), .store ⟨b5, 1, none⟩ (.int .u64 (oddv (mixv (IntKind.u64.wrap (IntKind.u64.wrap (s + g) + g)))))]) (M' := Mem w [.blk b5 [.int .u64 (mixv (IntKind.u64.wrap (s + g))), .int .u64 (oddv (mixv (IntKind.u64.wrap (IntKind.u64.wrap (s + g) + g))))] 27, .blk b4 [.int .u64 (IntKind.u64.wrap (IntKind.u64.wrap (s + g) + g)), .int .u64 g] 27, .blk b3 [.int .u64 (mixv (IntKind.u64.wrap (s + g))), .int .u64 (oddv (mixv (IntKind.u64.wrap (IntKind.u64.wrap (s + g) + g))))] 27, .blk b2 [.int .u64 (IntKind.u64.wrap (s + g)), .int .u64 g] 27, .blk b1 [.int .u64 s, .int .u64 g] 27]) ⟨by kernel_rfl⟩ (fun w_ hM hS => let ⟨w', he, h'⟩ := hM.evs_stores [.int .u64 (mixv (IntKind.u64.wrap (s + g))), .int .u64 (oddv (mixv (IntKind.u64.wrap (IntKind.u64.wrap (s + g) + g))))] 0 rfl 0 (Nat.le_of_ble_eq_true rfl); ⟨w', he, h', (by exact h'.sub (by simp))⟩) ?_
        refine ops_run (is := []) (r := []) (l' := [(11, .pointer (some ⟨b5, 0, none⟩)), (10, .pointer (some ⟨b4, 0, none⟩)), (9, .pointer (some ⟨b3, 0, none⟩)), (7, .int .u64 (mixv (IntKind.u64.wrap (s + g)))), (8, .pointer (some ⟨b2, 0, none⟩)), (3, .pointer (some ⟨b1, 0, none⟩)), (1, .int .i64 seed), (2, .slice A l.length c)]) [11, 10, 9, 7, 8, 3, 1, 2] (by kernel_rfl) ?_
        refine ops_nil ?_
        exact fin_cut (b5) (look_has ⟨rfl, rfl, rfl, rfl, rfl, rfl, rfl, rfl, trivial⟩) (fun w_ hM => hM.reorder [0, 1, 2, 3, 4] (by decide) rfl)
      · --
        refine tree_leaf ?_
        refine ops_new (d := some 11) (o := .cells #[.int .u64 0, .int .u64 0] 27) (v := fun b6 => .pointer (some ⟨b6, 0, none⟩)) (M' := fun b6 => Mem w [.blk b6 [.int .u64 0, .int .u64 0] 27, .blk b4 [.int .u64 (IntKind.u64.wrap (IntKind.u64.wrap (s + g) + g)), .int .u64 g] 27, .blk b3 [.int .u64 (mixv (IntKind.u64.wrap (s + g))), .int .u64 (oddv (mixv (IntKind.u64.wrap (IntKind.u64.wrap (s + g) + g))))] 27, .blk b2 [.int .u64 (IntKind.u64.wrap (s + g)), .int .u64 g] 27, .blk b1 [.int .u64 s, .int .u64 g] 27]) (fun b6 => ⟨by kernel_rfl⟩) (fun w_ hM hS => ⟨hM.blk [.int .u64 0, .int .u64 0] 27, hS.alloc _⟩) (fun b6 => ?_)
        refine ops_run (is := []) (r := [(3, false), (4, true), (5, true), (6, true), (7, true), (9, false)]) (l' := [(11, .pointer (some ⟨b6, 0, none⟩)), (25, .int .u64 (mixv (IntKind.u64.wrap (s + g)))), (26, .agg #[.int .u64 s, .int .u64 g]), (10, .pointer (some ⟨b4, 0, none⟩)), (9, .pointer (some ⟨b3, 0, none⟩)), (7, .int .u64 (mixv (IntKind.u64.wrap (s + g)))), (8, .pointer (some ⟨b2, 0, none⟩)), (3, .pointer (some ⟨b1, 0, none⟩)), (1, .int .i64 seed), (2, .slice A l.length c)]) [11, 25, 26, 10, 9, 7, 8, 3, 1, 2] (by kernel_rfl) ?_
        refine ops_call (σ := Unit) (d := some 27) (f := 32) (args := #[.agg #[.int .u64 s, .int .u64 g], .int .i64 2]) (v := fun _ => .int .u64 (mixv (IntKind.u64.wrap (IntKind.u64.wrap (s + g) + g)))) (M' := fun _ => Mem w [.blk b6 [.int .u64 0, .int .u64 0] 27, .blk b4 [.int .u64 (IntKind.u64.wrap (IntKind.u64.wrap (s + g) + g)), .int .u64 g] 27, .blk b3 [.int .u64 (mixv (IntKind.u64.wrap (s + g))), .int .u64 (oddv (mixv (IntKind.u64.wrap (IntKind.u64.wrap (s + g) + g))))] 27, .blk b2 [.int .u64 (IntKind.u64.wrap (s + g)), .int .u64 g] 27, .blk b1 [.int .u64 s, .int .u64 g] 27]) ⟨by kernel_rfl⟩ (fun w_ hM hS => (Number1_two s g w_).mono (by rintro e w' ⟨rfl, hb⟩; exact ⟨(), rfl, hM.step hb, hS.step hb⟩)) (fun _ => ?_)
        refine ops_run (is := [(4, true), (5, true), (6, true), (7, true)]) (r := [(9, false)]) (l' := [(31, .agg #[.int .u64 (mixv (IntKind.u64.wrap (s + g))), .int .u64 (IntKind.u64.wrap (IntKind.u64.wrap (IntKind.u64.wrap (Int.tdiv (mixv (IntKind.u64.wrap (IntKind.u64.wrap (s + g) + g))) 2) * 2) + 1))]), (11, .pointer (some ⟨b6, 0, none⟩)), (10, .pointer (some ⟨b4, 0, none⟩)), (9, .pointer (some ⟨b3, 0, none⟩)), (7, .int .u64 (mixv (IntKind.u64.wrap (s + g)))), (8, .pointer (some ⟨b2, 0, none⟩)), (3, .pointer (some ⟨b1, 0, none⟩)), (1, .int .i64 seed), (2, .slice A l.length c)]) [31, 11, 10, 9, 7, 8, 3, 1, 2] (by kernel_rfl) ?_
        refine ops_conv (l' := [(31, .agg #[.int .u64 (mixv (IntKind.u64.wrap (s + g))), .int .u64 (oddv (mixv (IntKind.u64.wrap (IntKind.u64.wrap (s + g) + g))))]), (11, .pointer (some ⟨b6, 0, none⟩)), (10, .pointer (some ⟨b4, 0, none⟩)), (9, .pointer (some ⟨b3, 0, none⟩)), (7, .int .u64 (mixv (IntKind.u64.wrap (s + g)))), (8, .pointer (some ⟨b2, 0, none⟩)), (3, .pointer (some ⟨b1, 0, none⟩)), (1, .int .i64 seed), (2, .slice A l.length c)]) (by rw [(oddv_eq (mixv_lo (IntKind.u64.wrap (IntKind.u64.wrap (s + g) + g))) (mixv_hi (IntKind.u64.wrap (IntKind.u64.wrap (s + g) + g))))]) (fun _ h => h) ?_
        refine ops_store (an := []) (evs := [.store ⟨b6, 0, none⟩ (.int .u64 (mixv (IntKind.u64.wrap (s + g)))), .store ⟨b6, 1, none⟩ (.int .u64 (oddv (mixv (IntKind.u64.wrap (IntKind.u64.wrap (s + g) + g)))))]) (M' := Mem w [.blk b6 [.int .u64 (mixv (IntKind.u64.wrap (s + g))), .int .u64 (oddv (mixv (IntKind.u64.wrap (IntKind.u64.wrap (s + g) + g))))] 27, .blk b4 [.int .u64 (IntKind.u64.wrap (IntKind.u64.wrap (s + g) + g)), .int .u64 g] 27, .blk b3 [.int .u64 (mixv (IntKind.u64.wrap (s + g))), .int .u64 (oddv (mixv (IntKind.u64.wrap (IntKind.u64.wrap (s + g) + g))))] 27, .blk b2 [.int .u64 (IntKind.u64.wrap (s + g)), .int .u64 g] 27, .blk b1 [.int .u64 s, .int .u64 g] 27]) ⟨by kernel_rfl⟩ (fun w_ hM hS => let ⟨w', he, h'⟩ := hM.evs_stores [.int .u64 (mixv (IntKind.u64.wrap (s + g))), .int .u64 (oddv (mixv (IntKind.u64.wrap (IntKind.u64.wrap (s + g) + g))))] 0 rfl 0 (Nat.le_of_ble_eq_true rfl); ⟨w', he, h', (by exact h'.sub (by simp))⟩) ?_
        refine ops_run (is := []) (r := []) (l' := [(11, .pointer (some ⟨b6, 0, none⟩)), (10, .pointer (some ⟨b4, 0, none⟩)), (9, .pointer (some ⟨b3, 0, none⟩)), (7, .int .u64 (mixv (IntKind.u64.wrap (s + g)))), (8, .pointer (some ⟨b2, 0, none⟩)), (3, .pointer (some ⟨b1, 0, none⟩)), (1, .int .i64 seed), (2, .slice A l.length c)]) [11, 10, 9, 7, 8, 3, 1, 2] (by kernel_rfl) ?_
        refine ops_nil ?_
        exact fin_cut (b6) (look_has ⟨rfl, rfl, rfl, rfl, rfl, rfl, rfl, rfl, trivial⟩) (fun w_ hM => hM.reorder [0, 1, 2, 3, 4] (by decide) rfl)
    · --
      refine tree_leaf ?_
      refine ops_new (d := some 11) (o := .cells #[.int .u64 0, .int .u64 0] 27) (v := fun b7 => .pointer (some ⟨b7, 0, none⟩)) (M' := fun b7 => Mem w [.blk b7 [.int .u64 0, .int .u64 0] 27, .blk b4 [.int .u64 (IntKind.u64.wrap (IntKind.u64.wrap (s + g) + g)), .int .u64 g] 27, .blk b3 [.int .u64 (mixv (IntKind.u64.wrap (s + g))), .int .u64 (oddv (mixv (IntKind.u64.wrap (IntKind.u64.wrap (s + g) + g))))] 27, .blk b2 [.int .u64 (IntKind.u64.wrap (s + g)), .int .u64 g] 27, .blk b1 [.int .u64 s, .int .u64 g] 27]) (fun b7 => ⟨by kernel_rfl⟩) (fun w_ hM hS => ⟨hM.blk [.int .u64 0, .int .u64 0] 27, hS.alloc _⟩) (fun b7 => ?_)
      refine ops_run (is := []) (r := [(1, false), (3, false), (4, true), (5, true), (6, true), (7, true), (9, false)]) (l' := [(11, .pointer (some ⟨b7, 0, none⟩)), (26, .agg #[.int .u64 s, .int .u64 g]), (24, .agg #[.int .u64 s, .int .u64 g]), (10, .pointer (some ⟨b4, 0, none⟩)), (9, .pointer (some ⟨b3, 0, none⟩)), (7, .int .u64 (mixv (IntKind.u64.wrap (s + g)))), (8, .pointer (some ⟨b2, 0, none⟩)), (3, .pointer (some ⟨b1, 0, none⟩)), (1, .int .i64 seed), (2, .slice A l.length c)]) [11, 26, 24, 10, 9, 7, 8, 3, 1, 2] (by kernel_rfl) ?_
      refine ops_call (σ := Unit) (d := some 25) (f := 32) (args := #[.agg #[.int .u64 s, .int .u64 g], .int .i64 1]) (v := fun _ => .int .u64 (mixv (IntKind.u64.wrap (s + g)))) (M' := fun _ => Mem w [.blk b7 [.int .u64 0, .int .u64 0] 27, .blk b4 [.int .u64 (IntKind.u64.wrap (IntKind.u64.wrap (s + g) + g)), .int .u64 g] 27, .blk b3 [.int .u64 (mixv (IntKind.u64.wrap (s + g))), .int .u64 (oddv (mixv (IntKind.u64.wrap (IntKind.u64.wrap (s + g) + g))))] 27, .blk b2 [.int .u64 (IntKind.u64.wrap (s + g)), .int .u64 g] 27, .blk b1 [.int .u64 s, .int .u64 g] 27]) ⟨by kernel_rfl⟩ (fun w_ hM hS => (Number1_one s g w_).mono (by rintro e w' ⟨rfl, hb⟩; exact ⟨(), rfl, hM.step hb, hS.step hb⟩)) (fun _ => ?_)
      refine ops_run (is := []) (r := [(3, false), (4, true), (5, true), (6, true), (7, true), (9, false)]) (l' := [(25, .int .u64 (mixv (IntKind.u64.wrap (s + g)))), (11, .pointer (some ⟨b7, 0, none⟩)), (26, .agg #[.int .u64 s, .int .u64 g]), (10, .pointer (some ⟨b4, 0, none⟩)), (9, .pointer (some ⟨b3, 0, none⟩)), (7, .int .u64 (mixv (IntKind.u64.wrap (s + g)))), (8, .pointer (some ⟨b2, 0, none⟩)), (3, .pointer (some ⟨b1, 0, none⟩)), (1, .int .i64 seed), (2, .slice A l.length c)]) [25, 11, 26, 10, 9, 7, 8, 3, 1, 2] (by kernel_rfl) ?_
      refine ops_call (σ := Unit) (d := some 27) (f := 32) (args := #[.agg #[.int .u64 s, .int .u64 g], .int .i64 2]) (v := fun _ => .int .u64 (mixv (IntKind.u64.wrap (IntKind.u64.wrap (s + g) + g)))) (M' := fun _ => Mem w [.blk b7 [.int .u64 0, .int .u64 0] 27, .blk b4 [.int .u64 (IntKind.u64.wrap (IntKind.u64.wrap (s + g) + g)), .int .u64 g] 27, .blk b3 [.int .u64 (mixv (IntKind.u64.wrap (s + g))), .int .u64 (oddv (mixv (IntKind.u64.wrap (IntKind.u64.wrap (s + g) + g))))] 27, .blk b2 [.int .u64 (IntKind.u64.wrap (s + g)), .int .u64 g] 27, .blk b1 [.int .u64 s, .int .u64 g] 27]) ⟨by kernel_rfl⟩ (fun w_ hM hS => (Number1_two s g w_).mono (by rintro e w' ⟨rfl, hb⟩; exact ⟨(), rfl, hM.step hb, hS.step hb⟩)) (fun _ => ?_)
      refine ops_run (is := [(4, true), (5, true), (6, true), (7, true)]) (r := [(9, false)]) (l' := [(31, .agg #[.int .u64 (mixv (IntKind.u64.wrap (s + g))), .int .u64 (IntKind.u64.wrap (IntKind.u64.wrap (IntKind.u64.wrap (Int.tdiv (mixv (IntKind.u64.wrap (IntKind.u64.wrap (s + g) + g))) 2) * 2) + 1))]), (11, .pointer (some ⟨b7, 0, none⟩)), (10, .pointer (some ⟨b4, 0, none⟩)), (9, .pointer (some ⟨b3, 0, none⟩)), (7, .int .u64 (mixv (IntKind.u64.wrap (s + g)))), (8, .pointer (some ⟨b2, 0, none⟩)), (3, .pointer (some ⟨b1, 0, none⟩)), (1, .int .i64 seed), (2, .slice A l.length c)]) [31, 11, 10, 9, 7, 8, 3, 1, 2] (by kernel_rfl) ?_
      refine ops_conv (l' := [(31, .agg #[.int .u64 (mixv (IntKind.u64.wrap (s + g))), .int .u64 (oddv (mixv (IntKind.u64.wrap (IntKind.u64.wrap (s + g) + g))))]), (11, .pointer (some ⟨b7, 0, none⟩)), (10, .pointer (some ⟨b4, 0, none⟩)), (9, .pointer (some ⟨b3, 0, none⟩)), (7, .int .u64 (mixv (IntKind.u64.wrap (s + g)))), (8, .pointer (some ⟨b2, 0, none⟩)), (3, .pointer (some ⟨b1, 0, none⟩)), (1, .int .i64 seed), (2, .slice A l.length c)]) (by rw [(oddv_eq (mixv_lo (IntKind.u64.wrap (IntKind.u64.wrap (s + g) + g))) (mixv_hi (IntKind.u64.wrap (IntKind.u64.wrap (s + g) + g))))]) (fun _ h => h) ?_
      refine ops_store (an := []) (evs := [.store ⟨b7, 0, none⟩ (.int .u64 (mixv (IntKind.u64.wrap (s + g)))), .store ⟨b7, 1, none⟩ (.int .u64 (oddv (mixv (IntKind.u64.wrap (IntKind.u64.wrap (s + g) + g)))))]) (M' := Mem w [.blk b7 [.int .u64 (mixv (IntKind.u64.wrap (s + g))), .int .u64 (oddv (mixv (IntKind.u64.wrap (IntKind.u64.wrap (s + g) + g))))] 27, .blk b4 [.int .u64 (IntKind.u64.wrap (IntKind.u64.wrap (s + g) + g)), .int .u64 g] 27, .blk b3 [.int .u64 (mixv (IntKind.u64.wrap (s + g))), .int .u64 (oddv (mixv (IntKind.u64.wrap (IntKind.u64.wrap (s + g) + g))))] 27, .blk b2 [.int .u64 (IntKind.u64.wrap (s + g)), .int .u64 g] 27, .blk b1 [.int .u64 s, .int .u64 g] 27]) ⟨by kernel_rfl⟩ (fun w_ hM hS => let ⟨w', he, h'⟩ := hM.evs_stores [.int .u64 (mixv (IntKind.u64.wrap (s + g))), .int .u64 (oddv (mixv (IntKind.u64.wrap (IntKind.u64.wrap (s + g) + g))))] 0 rfl 0 (Nat.le_of_ble_eq_true rfl); ⟨w', he, h', (by exact h'.sub (by simp))⟩) ?_
      refine ops_run (is := []) (r := []) (l' := [(11, .pointer (some ⟨b7, 0, none⟩)), (10, .pointer (some ⟨b4, 0, none⟩)), (9, .pointer (some ⟨b3, 0, none⟩)), (7, .int .u64 (mixv (IntKind.u64.wrap (s + g)))), (8, .pointer (some ⟨b2, 0, none⟩)), (3, .pointer (some ⟨b1, 0, none⟩)), (1, .int .i64 seed), (2, .slice A l.length c)]) [11, 10, 9, 7, 8, 3, 1, 2] (by kernel_rfl) ?_
      refine ops_nil ?_
      exact fin_cut (b7) (look_has ⟨rfl, rfl, rfl, rfl, rfl, rfl, rfl, rfl, trivial⟩) (fun w_ hM => hM.reorder [0, 1, 2, 3, 4] (by decide) rfl)
  · --
    intro b5
    refine st_seq ?_
    refine st_region_draw [(0, true), (1, true), (3, true), (4, true), (2, false), (5, false), (6, true), (7, true), (8, true), (10, true), (9, false), (11, false), (12, true), (13, true), (14, true), (15, true), (16, true), (17, false), (18, true), (19, true), (20, true), (21, true), (22, true), (23, false), (24, true), (25, true), (26, true), (27, true), (28, true), (29, true), (30, true), (31, true), (32, true), (33, true), (34, false), (35, true), (36, true), (37, true), (38, true), (40, true), (39, false), (41, false), (42, true), (43, true), (44, true)] (Mem w [.blk b5 [.int .u64 (mixv (IntKind.u64.wrap (s + g))), .int .u64 (oddv (mixv (IntKind.u64.wrap (IntKind.u64.wrap (s + g) + g))))] 27, .blk b4 [.int .u64 (IntKind.u64.wrap (IntKind.u64.wrap (s + g) + g)), .int .u64 g] 27, .blk b3 [.int .u64 (mixv (IntKind.u64.wrap (s + g))), .int .u64 (oddv (mixv (IntKind.u64.wrap (IntKind.u64.wrap (s + g) + g))))] 27, .blk b2 [.int .u64 (IntKind.u64.wrap (s + g)), .int .u64 g] 27, .blk b1 [.int .u64 s, .int .u64 g] 27]) (by kernel_rfl) (by kernel_rfl) (by kernel_rfl) (fun _ d _ _ _ h => by cases d <;> exact h) (M' := Mem w [.blk b5 [.int .u64 (mixv (IntKind.u64.wrap (s + g))), .int .u64 (oddv (mixv (IntKind.u64.wrap (IntKind.u64.wrap (s + g) + g))))] 27, .blk b4 [.int .u64 (IntKind.u64.wrap (IntKind.u64.wrap (s + g) + g)), .int .u64 g] 27, .blk b3 [.int .u64 (mixv (IntKind.u64.wrap (s + g))), .int .u64 (oddv (mixv (IntKind.u64.wrap (IntKind.u64.wrap (s + g) + g))))] 27, .blk b2 [.int .u64 (IntKind.u64.wrap (s + g)), .int .u64 g] 27, .blk b1 [.int .u64 s, .int .u64 g] 27]) (fun w_ hM => ⟨hM.drew, hM.drew.sub (by simp)⟩) ?_
    refine ops_run (is := [(0, true)]) (r := [(1, true), (3, true), (4, true), (2, false), (5, false), (6, true), (7, true), (8, true), (10, true), (9, false), (11, false), (12, true), (13, true), (14, true), (15, true), (16, true), (17, false), (18, true), (19, true), (20, true), (21, true), (22, true), (23, false), (24, true), (25, true), (26, true), (27, true), (28, true), (29, true), (30, true), (31, true), (32, true), (33, true), (34, false), (35, true), (36, true), (37, true), (38, true), (40, true), (39, false), (41, false), (42, true), (43, true), (44, true)]) (l' := [(32, .pointer (some ⟨b1, 0, none⟩)), (11, .pointer (some ⟨b5, 0, none⟩)), (10, .pointer (some ⟨b4, 0, none⟩)), (9, .pointer (some ⟨b3, 0, none⟩)), (7, .int .u64 (mixv (IntKind.u64.wrap (s + g)))), (8, .pointer (some ⟨b2, 0, none⟩)), (3, .pointer (some ⟨b1, 0, none⟩)), (1, .int .i64 seed), (2, .slice A l.length c)]) [32, 11, 10, 9, 7, 8, 3, 1, 2] (by kernel_rfl) ?_
    refine ops_load (d := some 33) (an := [.v (.int .u64 s)]) (evs := [.load ⟨b1, 0, none⟩ (.int .u64 s)]) (v := .int .u64 s) ⟨by kernel_rfl⟩ (fun w_ hM => ⟨hM.cell 4 rfl rfl, rfl⟩) ?_
    refine ops_run (is := [(3, true)]) (r := [(4, true), (2, false), (5, false), (6, true), (7, true), (8, true), (10, true), (9, false), (11, false), (12, true), (13, true), (14, true), (15, true), (16, true), (17, false), (18, true), (19, true), (20, true), (21, true), (22, true), (23, false), (24, true), (25, true), (26, true), (27, true), (28, true), (29, true), (30, true), (31, true), (32, true), (33, true), (34, false), (35, true), (36, true), (37, true), (38, true), (40, true), (39, false), (41, false), (42, true), (43, true), (44, true)]) (l' := [(35, .pointer (some ⟨b1, 0, none⟩)), (33, .int .u64 s), (11, .pointer (some ⟨b5, 0, none⟩)), (10, .pointer (some ⟨b4, 0, none⟩)), (9, .pointer (some ⟨b3, 0, none⟩)), (7, .int .u64 (mixv (IntKind.u64.wrap (s + g)))), (8, .pointer (some ⟨b2, 0, none⟩)), (3, .pointer (some ⟨b1, 0, none⟩)), (1, .int .i64 seed), (2, .slice A l.length c)]) [35, 33, 11, 10, 9, 7, 8, 3, 1, 2] (by kernel_rfl) ?_
    refine ops_load (d := some 36) (an := [.v (.int .u64 s)]) (evs := [.load ⟨b1, 0, none⟩ (.int .u64 s)]) (v := .int .u64 s) ⟨by kernel_rfl⟩ (fun w_ hM => ⟨hM.cell 4 rfl rfl, rfl⟩) ?_
    refine ops_run (is := []) (r := [(2, false), (5, false), (6, true), (7, true), (8, true), (10, true), (9, false), (11, false), (12, true), (13, true), (14, true), (15, true), (16, true), (17, false), (18, true), (19, true), (20, true), (21, true), (22, true), (23, false), (24, true), (25, true), (26, true), (27, true), (28, true), (29, true), (30, true), (31, true), (32, true), (33, true), (34, false), (35, true), (36, true), (37, true), (38, true), (40, true), (39, false), (41, false), (42, true), (43, true), (44, true)]) (l' := [(36, .int .u64 s), (33, .int .u64 s), (11, .pointer (some ⟨b5, 0, none⟩)), (10, .pointer (some ⟨b4, 0, none⟩)), (9, .pointer (some ⟨b3, 0, none⟩)), (7, .int .u64 (mixv (IntKind.u64.wrap (s + g)))), (8, .pointer (some ⟨b2, 0, none⟩)), (3, .pointer (some ⟨b1, 0, none⟩)), (1, .int .i64 seed), (2, .slice A l.length c)]) [36, 33, 11, 10, 9, 7, 8, 3, 1, 2] (by kernel_rfl) ?_
    refine ops_call (σ := Unit) (d := some 34) (f := 33) (args := #[.int .u64 s]) (v := fun _ => .int .u64 (mixv s)) (M' := fun _ => Mem w [.blk b5 [.int .u64 (mixv (IntKind.u64.wrap (s + g))), .int .u64 (oddv (mixv (IntKind.u64.wrap (IntKind.u64.wrap (s + g) + g))))] 27, .blk b4 [.int .u64 (IntKind.u64.wrap (IntKind.u64.wrap (s + g) + g)), .int .u64 g] 27, .blk b3 [.int .u64 (mixv (IntKind.u64.wrap (s + g))), .int .u64 (oddv (mixv (IntKind.u64.wrap (IntKind.u64.wrap (s + g) + g))))] 27, .blk b2 [.int .u64 (IntKind.u64.wrap (s + g)), .int .u64 g] 27, .blk b1 [.int .u64 s, .int .u64 g] 27]) ⟨by kernel_rfl⟩ (fun w_ hM hS => (Mix_calls s w_).mono (by rintro e w' ⟨rfl, hb⟩; exact ⟨(), rfl, hM.step hb, hS.step hb⟩)) (fun _ => ?_)
    refine ops_run (is := []) (r := [(5, false), (6, true), (7, true), (8, true), (10, true), (9, false), (11, false), (12, true), (13, true), (14, true), (15, true), (16, true), (17, false), (18, true), (19, true), (20, true), (21, true), (22, true), (23, false), (24, true), (25, true), (26, true), (27, true), (28, true), (29, true), (30, true), (31, true), (32, true), (33, true), (34, false), (35, true), (36, true), (37, true), (38, true), (40, true), (39, false), (41, false), (42, true), (43, true), (44, true)]) (l' := [(34, .int .u64 (mixv s)), (36, .int .u64 s), (11, .pointer (some ⟨b5, 0, none⟩)), (10, .pointer (some ⟨b4, 0, none⟩)), (9, .pointer (some ⟨b3, 0, none⟩)), (7, .int .u64 (mixv (IntKind.u64.wrap (s + g)))), (8, .pointer (some ⟨b2, 0, none⟩)), (3, .pointer (some ⟨b1, 0, none⟩)), (1, .int .i64 seed), (2, .slice A l.length c)]) [34, 36, 11, 10, 9, 7, 8, 3, 1, 2] (by kernel_rfl) ?_
    refine ops_call (σ := Unit) (d := some 37) (f := 34) (args := #[.int .u64 s]) (v := fun _ => .int .u64 (mixv s)) (M' := fun _ => Mem w [.blk b5 [.int .u64 (mixv (IntKind.u64.wrap (s + g))), .int .u64 (oddv (mixv (IntKind.u64.wrap (IntKind.u64.wrap (s + g) + g))))] 27, .blk b4 [.int .u64 (IntKind.u64.wrap (IntKind.u64.wrap (s + g) + g)), .int .u64 g] 27, .blk b3 [.int .u64 (mixv (IntKind.u64.wrap (s + g))), .int .u64 (oddv (mixv (IntKind.u64.wrap (IntKind.u64.wrap (s + g) + g))))] 27, .blk b2 [.int .u64 (IntKind.u64.wrap (s + g)), .int .u64 g] 27, .blk b1 [.int .u64 s, .int .u64 g] 27]) ⟨by kernel_rfl⟩ (fun w_ hM hS => ((scrv_eq hs0 hs1 ▸ Scrambled_calls s w_)).mono (by rintro e w' ⟨rfl, hb⟩; exact ⟨(), rfl, hM.step hb, hS.step hb⟩)) (fun _ => ?_)
    refine ops_run (is := []) (r := [(6, true), (7, true), (8, true), (10, true), (9, false), (11, false), (12, true), (13, true), (14, true), (15, true), (16, true), (17, false), (18, true), (19, true), (20, true), (21, true), (22, true), (23, false), (24, true), (25, true), (26, true), (27, true), (28, true), (29, true), (30, true), (31, true), (32, true), (33, true), (34, false), (35, true), (36, true), (37, true), (38, true), (40, true), (39, false), (41, false), (42, true), (43, true), (44, true)]) (l' := [(37, .int .u64 (mixv s)), (34, .int .u64 (mixv s)), (11, .pointer (some ⟨b5, 0, none⟩)), (10, .pointer (some ⟨b4, 0, none⟩)), (9, .pointer (some ⟨b3, 0, none⟩)), (7, .int .u64 (mixv (IntKind.u64.wrap (s + g)))), (8, .pointer (some ⟨b2, 0, none⟩)), (3, .pointer (some ⟨b1, 0, none⟩)), (1, .int .i64 seed), (2, .slice A l.length c)]) [37, 34, 11, 10, 9, 7, 8, 3, 1, 2] (by kernel_rfl) ?_
    refine ops_val (op := (Go.Op.binOp Go.BinOp.eql 25 (Go.Operand.tmp 34) (Go.Operand.tmp 37) 25)) (d := some 38) (v := .bool true) ⟨by kernel_rfl⟩ (run_eql_same rfl rfl) ?_
    refine ops_run (is := [(7, true), (8, true), (10, true)]) (r := [(9, false), (11, false), (12, true), (13, true), (14, true), (15, true), (16, true), (17, false), (18, true), (19, true), (20, true), (21, true), (22, true), (23, false), (24, true), (25, true), (26, true), (27, true), (28, true), (29, true), (30, true), (31, true), (32, true), (33, true), (34, false), (35, true), (36, true), (37, true), (38, true), (40, true), (39, false), (41, false), (42, true), (43, true), (44, true)]) (l' := [(42, .int .i64 seed), (40, .int .i64 seed), (39, .bool true), (11, .pointer (some ⟨b5, 0, none⟩)), (10, .pointer (some ⟨b4, 0, none⟩)), (9, .pointer (some ⟨b3, 0, none⟩)), (7, .int .u64 (mixv (IntKind.u64.wrap (s + g)))), (8, .pointer (some ⟨b2, 0, none⟩)), (3, .pointer (some ⟨b1, 0, none⟩)), (2, .slice A l.length c)]) [42, 40, 39, 11, 10, 9, 7, 8, 3, 2] (by kernel_rfl) ?_
    refine ops_call (σ := Unit) (d := some 41) (f := 35) (args := #[.int .i64 seed]) (v := fun _ => .agg #[.int .u64 (mixv (IntKind.u64.wrap seed)), .int .u64 11400714819323198485]) (M' := fun _ => Mem w [.blk b5 [.int .u64 (mixv (IntKind.u64.wrap (s + g))), .int .u64 (oddv (mixv (IntKind.u64.wrap (IntKind.u64.wrap (s + g) + g))))] 27, .blk b4 [.int .u64 (IntKind.u64.wrap (IntKind.u64.wrap (s + g) + g)), .int .u64 g] 27, .blk b3 [.int .u64 (mixv (IntKind.u64.wrap (s + g))), .int .u64 (oddv (mixv (IntKind.u64.wrap (IntKind.u64.wrap (s + g) + g))))] 27, .blk b2 [.int .u64 (IntKind.u64.wrap (s + g)), .int .u64 g] 27, .blk b1 [.int .u64 s, .int .u64 g] 27]) ⟨by kernel_rfl⟩ (fun w_ hM hS => (New_calls seed w_).mono (by rintro e w' ⟨rfl, hb⟩; exact ⟨(), rfl, hM.step hb, hS.step hb⟩)) (fun _ => ?_)
    refine ops_run (is := []) (r := [(11, false), (12, true), (13, true), (14, true), (15, true), (16, true), (17, false), (18, true), (19, true), (20, true), (21, true), (22, true), (23, false), (24, true), (25, true), (26, true), (27, true), (28, true), (29, true), (30, true), (31, true), (32, true), (33, true), (34, false), (35, true), (36, true), (37, true), (38, true), (40, true), (39, false), (41, false), (42, true), (43, true), (44, true)]) (l' := [(41, .agg #[.int .u64 (mixv (IntKind.u64.wrap seed)), .int .u64 11400714819323198485]), (42, .int .i64 seed), (39, .bool true), (11, .pointer (some ⟨b5, 0, none⟩)), (10, .pointer (some ⟨b4, 0, none⟩)), (9, .pointer (some ⟨b3, 0, none⟩)), (7, .int .u64 (mixv (IntKind.u64.wrap (s + g)))), (8, .pointer (some ⟨b2, 0, none⟩)), (3, .pointer (some ⟨b1, 0, none⟩)), (2, .slice A l.length c)]) [41, 42, 39, 11, 10, 9, 7, 8, 3, 2] (by kernel_rfl) ?_
    refine ops_call (σ := Unit) (d := some 43) (f := 36) (args := #[.int .i64 seed]) (v := fun _ => .agg #[.int .u64 (mixv (IntKind.u64.wrap seed)), .int .u64 11400714819323198485]) (M' := fun _ => Mem w [.blk b5 [.int .u64 (mixv (IntKind.u64.wrap (s + g))), .int .u64 (oddv (mixv (IntKind.u64.wrap (IntKind.u64.wrap (s + g) + g))))] 27, .blk b4 [.int .u64 (IntKind.u64.wrap (IntKind.u64.wrap (s + g) + g)), .int .u64 g] 27, .blk b3 [.int .u64 (mixv (IntKind.u64.wrap (s + g))), .int .u64 (oddv (mixv (IntKind.u64.wrap (IntKind.u64.wrap (s + g) + g))))] 27, .blk b2 [.int .u64 (IntKind.u64.wrap (s + g)), .int .u64 g] 27, .blk b1 [.int .u64 s, .int .u64 g] 27]) ⟨by kernel_rfl⟩ (fun w_ hM hS => (Stream_calls seed w_).mono (by rintro e w' ⟨rfl, hb⟩; exact ⟨(), rfl, hM.step hb, hS.step hb⟩)) (fun _ => ?_)
    refine ops_run (is := []) (r := [(12, true), (13, true), (14, true), (15, true), (16, true), (17, false), (18, true), (19, true), (20, true), (21, true), (22, true), (23, false), (24, true), (25, true), (26, true), (27, true), (28, true), (29, true), (30, true), (31, true), (32, true), (33, true), (34, false), (35, true), (36, true), (37, true), (38, true), (40, true), (39, false), (41, false), (42, true), (43, true), (44, true)]) (l' := [(43, .agg #[.int .u64 (mixv (IntKind.u64.wrap seed)), .int .u64 11400714819323198485]), (41, .agg #[.int .u64 (mixv (IntKind.u64.wrap seed)), .int .u64 11400714819323198485]), (39, .bool true), (11, .pointer (some ⟨b5, 0, none⟩)), (10, .pointer (some ⟨b4, 0, none⟩)), (9, .pointer (some ⟨b3, 0, none⟩)), (7, .int .u64 (mixv (IntKind.u64.wrap (s + g)))), (8, .pointer (some ⟨b2, 0, none⟩)), (3, .pointer (some ⟨b1, 0, none⟩)), (2, .slice A l.length c)]) [43, 41, 39, 11, 10, 9, 7, 8, 3, 2] (by kernel_rfl) ?_
    refine ops_val (op := (Go.Op.binOp Go.BinOp.eql 27 (Go.Operand.tmp 41) (Go.Operand.tmp 43) 27)) (d := some 44) (v := .bool true) ⟨by kernel_rfl⟩ (run_eql_agg (r := true) rfl rfl (by kernel_rfl) (fun w => by have h := eqA27 9998 w (mixv (IntKind.u64.wrap seed)) (mixv (IntKind.u64.wrap seed)) 11400714819323198485 11400714819323198485; simpa only [BEq.rfl, Bool.and_true] using h)) ?_
    refine ops_run (is := [(13, true), (14, true), (15, true)]) (r := [(16, true), (17, false), (18, true), (19, true), (20, true), (21, true), (22, true), (23, false), (24, true), (25, true), (26, true), (27, true), (28, true), (29, true), (30, true), (31, true), (32, true), (33, true), (34, false), (35, true), (36, true), (37, true), (38, true), (40, true), (39, false), (41, false), (42, true), (43, true), (44, true)]) (l' := [(47, .int .u64 (mixv (IntKind.u64.wrap (s + g)))), (46, .bool true), (11, .pointer (some ⟨b5, 0, none⟩)), (10, .pointer (some ⟨b4, 0, none⟩)), (9, .pointer (some ⟨b3, 0, none⟩)), (8, .pointer (some ⟨b2, 0, none⟩)), (3, .pointer (some ⟨b1, 0, none⟩)), (2, .slice A l.length c)]) [47, 46, 11, 10, 9, 8, 3, 2] (by kernel_rfl) ?_
    refine ops_load (d := some 48) (an := [.v (.int .u64 s), .v (.int .u64 g)]) (evs := [.load ⟨b1, 0, none⟩ (.int .u64 s), .load ⟨b1, 1, none⟩ (.int .u64 g)]) (v := .agg #[.int .u64 s, .int .u64 g]) ⟨by kernel_rfl⟩ (fun w_ hM => ⟨hM.cell 4 rfl rfl, hM.cell 4 rfl rfl, rfl⟩) ?_
    refine ops_run (is := []) (r := [(17, false), (18, true), (19, true), (20, true), (21, true), (22, true), (23, false), (24, true), (25, true), (26, true), (27, true), (28, true), (29, true), (30, true), (31, true), (32, true), (33, true), (34, false), (35, true), (36, true), (37, true), (38, true), (40, true), (39, false), (41, false), (42, true), (43, true), (44, true)]) (l' := [(48, .agg #[.int .u64 s, .int .u64 g]), (47, .int .u64 (mixv (IntKind.u64.wrap (s + g)))), (46, .bool true), (11, .pointer (some ⟨b5, 0, none⟩)), (10, .pointer (some ⟨b4, 0, none⟩)), (9, .pointer (some ⟨b3, 0, none⟩)), (8, .pointer (some ⟨b2, 0, none⟩)), (3, .pointer (some ⟨b1, 0, none⟩)), (2, .slice A l.length c)]) [48, 47, 46, 11, 10, 9, 8, 3, 2] (by kernel_rfl) ?_
    refine ops_call (σ := Unit) (d := some 49) (f := 32) (args := #[.agg #[.int .u64 s, .int .u64 g], .int .i64 1]) (v := fun _ => .int .u64 (mixv (IntKind.u64.wrap (s + g)))) (M' := fun _ => Mem w [.blk b5 [.int .u64 (mixv (IntKind.u64.wrap (s + g))), .int .u64 (oddv (mixv (IntKind.u64.wrap (IntKind.u64.wrap (s + g) + g))))] 27, .blk b4 [.int .u64 (IntKind.u64.wrap (IntKind.u64.wrap (s + g) + g)), .int .u64 g] 27, .blk b3 [.int .u64 (mixv (IntKind.u64.wrap (s + g))), .int .u64 (oddv (mixv (IntKind.u64.wrap (IntKind.u64.wrap (s + g) + g))))] 27, .blk b2 [.int .u64 (IntKind.u64.wrap (s + g)), .int .u64 g] 27, .blk b1 [.int .u64 s, .int .u64 g] 27]) ⟨by kernel_rfl⟩ (fun w_ hM hS => (Number1_one s g w_).mono (by rintro e w' ⟨rfl, hb⟩; exact ⟨(), rfl, hM.step hb, hS.step hb⟩)) (fun _ => ?_)
    refine ops_run (is := []) (r := [(18, true), (19, true), (20, true), (21, true), (22, true), (23, false), (24, true), (25, true), (26, true), (27, true), (28, true), (29, true), (30, true), (31, true), (32, true), (33, true), (34, false), (35, true), (36, true), (37, true), (38, true), (40, true), (39, false), (41, false), (42, true), (43, true), (44, true)]) (l' := [(49, .int .u64 (mixv (IntKind.u64.wrap (s + g)))), (47, .int .u64 (mixv (IntKind.u64.wrap (s + g)))), (46, .bool true), (11, .pointer (some ⟨b5, 0, none⟩)), (10, .pointer (some ⟨b4, 0, none⟩)), (9, .pointer (some ⟨b3, 0, none⟩)), (8, .pointer (some ⟨b2, 0, none⟩)), (3, .pointer (some ⟨b1, 0, none⟩)), (2, .slice A l.length c)]) [49, 47, 46, 11, 10, 9, 8, 3, 2] (by kernel_rfl) ?_
    refine ops_val (op := (Go.Op.binOp Go.BinOp.eql 25 (Go.Operand.tmp 47) (Go.Operand.tmp 49) 25)) (d := some 50) (v := .bool true) ⟨by kernel_rfl⟩ (run_eql_same rfl rfl) ?_
    refine ops_run (is := [(19, true), (20, true)]) (r := [(21, true), (22, true), (23, false), (24, true), (25, true), (26, true), (27, true), (28, true), (29, true), (30, true), (31, true), (32, true), (33, true), (34, false), (35, true), (36, true), (37, true), (38, true), (40, true), (39, false), (41, false), (42, true), (43, true), (44, true)]) (l' := [(52, .bool true), (11, .pointer (some ⟨b5, 0, none⟩)), (10, .pointer (some ⟨b4, 0, none⟩)), (9, .pointer (some ⟨b3, 0, none⟩)), (8, .pointer (some ⟨b2, 0, none⟩)), (3, .pointer (some ⟨b1, 0, none⟩)), (2, .slice A l.length c)]) [52, 11, 10, 9, 8, 3, 2] (by kernel_rfl) ?_
    refine ops_load (d := some 53) (an := [.v (.int .u64 (IntKind.u64.wrap (s + g))), .v (.int .u64 g)]) (evs := [.load ⟨b2, 0, none⟩ (.int .u64 (IntKind.u64.wrap (s + g))), .load ⟨b2, 1, none⟩ (.int .u64 g)]) (v := .agg #[.int .u64 (IntKind.u64.wrap (s + g)), .int .u64 g]) ⟨by kernel_rfl⟩ (fun w_ hM => ⟨hM.cell 3 rfl rfl, hM.cell 3 rfl rfl, rfl⟩) ?_
    refine ops_run (is := []) (r := [(22, true), (23, false), (24, true), (25, true), (26, true), (27, true), (28, true), (29, true), (30, true), (31, true), (32, true), (33, true), (34, false), (35, true), (36, true), (37, true), (38, true), (40, true), (39, false), (41, false), (42, true), (43, true), (44, true)]) (l' := [(53, .agg #[.int .u64 (IntKind.u64.wrap (s + g)), .int .u64 g]), (52, .bool true), (11, .pointer (some ⟨b5, 0, none⟩)), (10, .pointer (some ⟨b4, 0, none⟩)), (9, .pointer (some ⟨b3, 0, none⟩)), (3, .pointer (some ⟨b1, 0, none⟩)), (2, .slice A l.length c)]) [53, 52, 11, 10, 9, 3, 2] (by kernel_rfl) ?_
    refine ops_load (d := some 54) (an := [.v (.int .u64 s), .v (.int .u64 g)]) (evs := [.load ⟨b1, 0, none⟩ (.int .u64 s), .load ⟨b1, 1, none⟩ (.int .u64 g)]) (v := .agg #[.int .u64 s, .int .u64 g]) ⟨by kernel_rfl⟩ (fun w_ hM => ⟨hM.cell 4 rfl rfl, hM.cell 4 rfl rfl, rfl⟩) ?_
    refine ops_run (is := []) (r := [(23, false), (24, true), (25, true), (26, true), (27, true), (28, true), (29, true), (30, true), (31, true), (32, true), (33, true), (34, false), (35, true), (36, true), (37, true), (38, true), (40, true), (39, false), (41, false), (42, true), (43, true), (44, true)]) (l' := [(54, .agg #[.int .u64 s, .int .u64 g]), (53, .agg #[.int .u64 (IntKind.u64.wrap (s + g)), .int .u64 g]), (52, .bool true), (11, .pointer (some ⟨b5, 0, none⟩)), (10, .pointer (some ⟨b4, 0, none⟩)), (9, .pointer (some ⟨b3, 0, none⟩)), (3, .pointer (some ⟨b1, 0, none⟩)), (2, .slice A l.length c)]) [54, 53, 52, 11, 10, 9, 3, 2] (by kernel_rfl) ?_
    refine ops_call (σ := Unit) (d := some 55) (f := 18) (args := #[.agg #[.int .u64 s, .int .u64 g], .int .i64 1]) (v := fun _ => .agg #[.int .u64 (IntKind.u64.wrap (s + g)), .int .u64 g]) (M' := fun _ => Mem w [.blk b5 [.int .u64 (mixv (IntKind.u64.wrap (s + g))), .int .u64 (oddv (mixv (IntKind.u64.wrap (IntKind.u64.wrap (s + g) + g))))] 27, .blk b4 [.int .u64 (IntKind.u64.wrap (IntKind.u64.wrap (s + g) + g)), .int .u64 g] 27, .blk b3 [.int .u64 (mixv (IntKind.u64.wrap (s + g))), .int .u64 (oddv (mixv (IntKind.u64.wrap (IntKind.u64.wrap (s + g) + g))))] 27, .blk b2 [.int .u64 (IntKind.u64.wrap (s + g)), .int .u64 g] 27, .blk b1 [.int .u64 s, .int .u64 g] 27]) ⟨by kernel_rfl⟩ (fun w_ hM hS => (Behind_one s g w_).mono (by rintro e w' ⟨rfl, hb⟩; exact ⟨(), rfl, hM.step hb, hS.step hb⟩)) (fun _ => ?_)
    refine ops_run (is := []) (r := [(24, true), (25, true), (26, true), (27, true), (28, true), (29, true), (30, true), (31, true), (32, true), (33, true), (34, false), (35, true), (36, true), (37, true), (38, true), (40, true), (39, false), (41, false), (42, true), (43, true), (44, true)]) (l' := [(55, .agg #[.int .u64 (IntKind.u64.wrap (s + g)), .int .u64 g]), (53, .agg #[.int .u64 (IntKind.u64.wrap (s + g)), .int .u64 g]), (52, .bool true), (11, .pointer (some ⟨b5, 0, none⟩)), (10, .pointer (some ⟨b4, 0, none⟩)), (9, .pointer (some ⟨b3, 0, none⟩)), (3, .pointer (some ⟨b1, 0, none⟩)), (2, .slice A l.length c)]) [55, 53, 52, 11, 10, 9, 3, 2] (by kernel_rfl) ?_
    refine ops_val (op := (Go.Op.binOp Go.BinOp.eql 27 (Go.Operand.tmp 53) (Go.Operand.tmp 55) 27)) (d := some 56) (v := .bool true) ⟨by kernel_rfl⟩ (run_eql_agg (r := true) rfl rfl (by kernel_rfl) (fun w => by have h := eqA27 9998 w (IntKind.u64.wrap (s + g)) (IntKind.u64.wrap (s + g)) g g; simpa only [BEq.rfl, Bool.and_true] using h)) ?_
    refine ops_run (is := [(25, true), (26, true)]) (r := [(27, true), (28, true), (29, true), (30, true), (31, true), (32, true), (33, true), (34, false), (35, true), (36, true), (37, true), (38, true), (40, true), (39, false), (41, false), (42, true), (43, true), (44, true)]) (l' := [(58, .bool true), (11, .pointer (some ⟨b5, 0, none⟩)), (10, .pointer (some ⟨b4, 0, none⟩)), (9, .pointer (some ⟨b3, 0, none⟩)), (3, .pointer (some ⟨b1, 0, none⟩)), (2, .slice A l.length c)]) [58, 11, 10, 9, 3, 2] (by kernel_rfl) ?_
    refine ops_load (d := some 59) (an := [.v (.int .u64 (mixv (IntKind.u64.wrap (s + g)))), .v (.int .u64 (oddv (mixv (IntKind.u64.wrap (IntKind.u64.wrap (s + g) + g)))))]) (evs := [.load ⟨b3, 0, none⟩ (.int .u64 (mixv (IntKind.u64.wrap (s + g)))), .load ⟨b3, 1, none⟩ (.int .u64 (oddv (mixv (IntKind.u64.wrap (IntKind.u64.wrap (s + g) + g)))))]) (v := .agg #[.int .u64 (mixv (IntKind.u64.wrap (s + g))), .int .u64 (oddv (mixv (IntKind.u64.wrap (IntKind.u64.wrap (s + g) + g))))]) ⟨by kernel_rfl⟩ (fun w_ hM => ⟨hM.cell 2 rfl rfl, hM.cell 2 rfl rfl, rfl⟩) ?_
    refine ops_run (is := []) (r := [(28, true), (29, true), (30, true), (31, true), (32, true), (33, true), (34, false), (35, true), (36, true), (37, true), (38, true), (40, true), (39, false), (41, false), (42, true), (43, true), (44, true)]) (l' := [(59, .agg #[.int .u64 (mixv (IntKind.u64.wrap (s + g))), .int .u64 (oddv (mixv (IntKind.u64.wrap (IntKind.u64.wrap (s + g) + g))))]), (58, .bool true), (11, .pointer (some ⟨b5, 0, none⟩)), (10, .pointer (some ⟨b4, 0, none⟩)), (3, .pointer (some ⟨b1, 0, none⟩)), (2, .slice A l.length c)]) [59, 58, 11, 10, 3, 2] (by kernel_rfl) ?_
    refine ops_load (d := some 60) (an := [.v (.int .u64 (mixv (IntKind.u64.wrap (s + g)))), .v (.int .u64 (oddv (mixv (IntKind.u64.wrap (IntKind.u64.wrap (s + g) + g)))))]) (evs := [.load ⟨b5, 0, none⟩ (.int .u64 (mixv (IntKind.u64.wrap (s + g)))), .load ⟨b5, 1, none⟩ (.int .u64 (oddv (mixv (IntKind.u64.wrap (IntKind.u64.wrap (s + g) + g)))))]) (v := .agg #[.int .u64 (mixv (IntKind.u64.wrap (s + g))), .int .u64 (oddv (mixv (IntKind.u64.wrap (IntKind.u64.wrap (s + g) + g))))]) ⟨by kernel_rfl⟩ (fun w_ hM => ⟨hM.cell 0 rfl rfl, hM.cell 0 rfl rfl, rfl⟩) ?_
    refine ops_run (is := []) (r := [(29, true), (30, true), (31, true), (32, true), (33, true), (34, false), (35, true), (36, true), (37, true), (38, true), (40, true), (39, false), (41, false), (42, true), (43, true), (44, true)]) (l' := [(60, .agg #[.int .u64 (mixv (IntKind.u64.wrap (s + g))), .int .u64 (oddv (mixv (IntKind.u64.wrap (IntKind.u64.wrap (s + g) + g))))]), (59, .agg #[.int .u64 (mixv (IntKind.u64.wrap (s + g))), .int .u64 (oddv (mixv (IntKind.u64.wrap (IntKind.u64.wrap (s + g) + g))))]), (58, .bool true), (10, .pointer (some ⟨b4, 0, none⟩)), (3, .pointer (some ⟨b1, 0, none⟩)), (2, .slice A l.length c)]) [60, 59, 58, 10, 3, 2] (by kernel_rfl) ?_
    refine ops_val (op := (Go.Op.binOp Go.BinOp.eql 27 (Go.Operand.tmp 59) (Go.Operand.tmp 60) 27)) (d := some 61) (v := .bool true) ⟨by kernel_rfl⟩ (run_eql_agg (r := true) rfl rfl (by kernel_rfl) (fun w => by have h := eqA27 9998 w (mixv (IntKind.u64.wrap (s + g))) (mixv (IntKind.u64.wrap (s + g))) (oddv (mixv (IntKind.u64.wrap (IntKind.u64.wrap (s + g) + g)))) (oddv (mixv (IntKind.u64.wrap (IntKind.u64.wrap (s + g) + g)))); simpa only [BEq.rfl, Bool.and_true] using h)) ?_
    refine ops_run (is := [(30, true), (31, true)]) (r := [(32, true), (33, true), (34, false), (35, true), (36, true), (37, true), (38, true), (40, true), (39, false), (41, false), (42, true), (43, true), (44, true)]) (l' := [(63, .bool true), (10, .pointer (some ⟨b4, 0, none⟩)), (3, .pointer (some ⟨b1, 0, none⟩)), (2, .slice A l.length c)]) [63, 10, 3, 2] (by kernel_rfl) ?_
    refine ops_load (d := some 64) (an := [.v (.int .u64 (IntKind.u64.wrap (IntKind.u64.wrap (s + g) + g))), .v (.int .u64 g)]) (evs := [.load ⟨b4, 0, none⟩ (.int .u64 (IntKind.u64.wrap (IntKind.u64.wrap (s + g) + g))), .load ⟨b4, 1, none⟩ (.int .u64 g)]) (v := .agg #[.int .u64 (IntKind.u64.wrap (IntKind.u64.wrap (s + g) + g)), .int .u64 g]) ⟨by kernel_rfl⟩ (fun w_ hM => ⟨hM.cell 1 rfl rfl, hM.cell 1 rfl rfl, rfl⟩) ?_
    refine ops_run (is := []) (r := [(33, true), (34, false), (35, true), (36, true), (37, true), (38, true), (40, true), (39, false), (41, false), (42, true), (43, true), (44, true)]) (l' := [(64, .agg #[.int .u64 (IntKind.u64.wrap (IntKind.u64.wrap (s + g) + g)), .int .u64 g]), (63, .bool true), (3, .pointer (some ⟨b1, 0, none⟩)), (2, .slice A l.length c)]) [64, 63, 3, 2] (by kernel_rfl) ?_
    refine ops_load (d := some 65) (an := [.v (.int .u64 s), .v (.int .u64 g)]) (evs := [.load ⟨b1, 0, none⟩ (.int .u64 s), .load ⟨b1, 1, none⟩ (.int .u64 g)]) (v := .agg #[.int .u64 s, .int .u64 g]) ⟨by kernel_rfl⟩ (fun w_ hM => ⟨hM.cell 4 rfl rfl, hM.cell 4 rfl rfl, rfl⟩) ?_
    refine ops_run (is := []) (r := [(34, false), (35, true), (36, true), (37, true), (38, true), (40, true), (39, false), (41, false), (42, true), (43, true), (44, true)]) (l' := [(65, .agg #[.int .u64 s, .int .u64 g]), (64, .agg #[.int .u64 (IntKind.u64.wrap (IntKind.u64.wrap (s + g) + g)), .int .u64 g]), (63, .bool true), (2, .slice A l.length c)]) [65, 64, 63, 2] (by kernel_rfl) ?_
    refine ops_call (σ := Unit) (d := some 66) (f := 18) (args := #[.agg #[.int .u64 s, .int .u64 g], .int .i64 2]) (v := fun _ => .agg #[.int .u64 (IntKind.u64.wrap (IntKind.u64.wrap (s + g) + g)), .int .u64 g]) (M' := fun _ => Mem w [.blk b5 [.int .u64 (mixv (IntKind.u64.wrap (s + g))), .int .u64 (oddv (mixv (IntKind.u64.wrap (IntKind.u64.wrap (s + g) + g))))] 27, .blk b4 [.int .u64 (IntKind.u64.wrap (IntKind.u64.wrap (s + g) + g)), .int .u64 g] 27, .blk b3 [.int .u64 (mixv (IntKind.u64.wrap (s + g))), .int .u64 (oddv (mixv (IntKind.u64.wrap (IntKind.u64.wrap (s + g) + g))))] 27, .blk b2 [.int .u64 (IntKind.u64.wrap (s + g)), .int .u64 g] 27, .blk b1 [.int .u64 s, .int .u64 g] 27]) ⟨by kernel_rfl⟩ (fun w_ hM hS => (Behind_two s g w_).mono (by rintro e w' ⟨rfl, hb⟩; exact ⟨(), rfl, hM.step hb, hS.step hb⟩)) (fun _ => ?_)
    refine ops_run (is := []) (r := [(35, true), (36, true), (37, true), (38, true), (40, true), (39, false), (41, false), (42, true), (43, true), (44, true)]) (l' := [(66, .agg #[.int .u64 (IntKind.u64.wrap (IntKind.u64.wrap (s + g) + g)), .int .u64 g]), (64, .agg #[.int .u64 (IntKind.u64.wrap (IntKind.u64.wrap (s + g) + g)), .int .u64 g]), (63, .bool true), (2, .slice A l.length c)]) [66, 64, 63, 2] (by kernel_rfl) ?_
    refine ops_val (op := (Go.Op.binOp Go.BinOp.eql 27 (Go.Operand.tmp 64) (Go.Operand.tmp 66) 27)) (d := some 67) (v := .bool true) ⟨by kernel_rfl⟩ (run_eql_agg (r := true) rfl rfl (by kernel_rfl) (fun w => by have h := eqA27 9998 w (IntKind.u64.wrap (IntKind.u64.wrap (s + g) + g)) (IntKind.u64.wrap (IntKind.u64.wrap (s + g) + g)) g g; simpa only [BEq.rfl, Bool.and_true] using h)) ?_
    refine ops_run (is := [(36, true), (37, true), (38, true), (40, true)]) (r := [(39, false), (41, false), (42, true), (43, true), (44, true)]) (l' := [(72, .slice A l.length c), (70, .slice A l.length c), (69, .bool true)]) [72, 70, 69] (by kernel_rfl) ?_
    refine ops_call (σ := Unit) (d := some 71) (f := 37) (args := #[.slice A l.length c]) (v := fun _ => .agg #[.int .u64 (ofS l), .int .u64 (ofG l)]) (M' := fun _ => Mem w [.blk b5 [.int .u64 (mixv (IntKind.u64.wrap (s + g))), .int .u64 (oddv (mixv (IntKind.u64.wrap (IntKind.u64.wrap (s + g) + g))))] 27, .blk b4 [.int .u64 (IntKind.u64.wrap (IntKind.u64.wrap (s + g) + g)), .int .u64 g] 27, .blk b3 [.int .u64 (mixv (IntKind.u64.wrap (s + g))), .int .u64 (oddv (mixv (IntKind.u64.wrap (IntKind.u64.wrap (s + g) + g))))] 27, .blk b2 [.int .u64 (IntKind.u64.wrap (s + g)), .int .u64 g] 27, .blk b1 [.int .u64 s, .int .u64 g] 27]) ⟨by kernel_rfl⟩ (fun w_ hM hS => (Of_calls A c l w_ (hr.mem hM) hlen).mono (by rintro e w' ⟨rfl, hb⟩; exact ⟨(), rfl, hM.step hb, hS.step hb⟩)) (fun _ => ?_)
    refine ops_run (is := []) (r := [(41, false), (42, true), (43, true), (44, true)]) (l' := [(71, .agg #[.int .u64 (ofS l), .int .u64 (ofG l)]), (72, .slice A l.length c), (69, .bool true)]) [71, 72, 69] (by kernel_rfl) ?_
    refine ops_call (σ := Unit) (d := some 73) (f := 38) (args := #[.slice A l.length c]) (v := fun _ => .agg #[.int .u64 (ofS l), .int .u64 (ofG l)]) (M' := fun _ => Mem w [.blk b5 [.int .u64 (mixv (IntKind.u64.wrap (s + g))), .int .u64 (oddv (mixv (IntKind.u64.wrap (IntKind.u64.wrap (s + g) + g))))] 27, .blk b4 [.int .u64 (IntKind.u64.wrap (IntKind.u64.wrap (s + g) + g)), .int .u64 g] 27, .blk b3 [.int .u64 (mixv (IntKind.u64.wrap (s + g))), .int .u64 (oddv (mixv (IntKind.u64.wrap (IntKind.u64.wrap (s + g) + g))))] 27, .blk b2 [.int .u64 (IntKind.u64.wrap (s + g)), .int .u64 g] 27, .blk b1 [.int .u64 s, .int .u64 g] 27]) ⟨by kernel_rfl⟩ (fun w_ hM hS => (Named_calls A c l w_ (hr.mem hM) hlen).mono (by rintro e w' ⟨rfl, hb⟩; exact ⟨(), rfl, hM.step hb, hS.step hb⟩)) (fun _ => ?_)
    refine ops_run (is := []) (r := [(42, true), (43, true), (44, true)]) (l' := [(73, .agg #[.int .u64 (ofS l), .int .u64 (ofG l)]), (71, .agg #[.int .u64 (ofS l), .int .u64 (ofG l)]), (69, .bool true)]) [73, 71, 69] (by kernel_rfl) ?_
    refine ops_val (op := (Go.Op.binOp Go.BinOp.eql 27 (Go.Operand.tmp 71) (Go.Operand.tmp 73) 27)) (d := some 74) (v := .bool true) ⟨by kernel_rfl⟩ (run_eql_agg (r := true) rfl rfl (by kernel_rfl) (fun w => by have h := eqA27 9998 w (ofS l) (ofS l) (ofG l) (ofG l); simpa only [BEq.rfl, Bool.and_true] using h)) ?_
    refine ops_run (is := [(43, true), (44, true)]) (r := []) (l' := [(6, .bool true)]) [6] (by kernel_rfl) ?_
    refine ops_nil ?_
    refine fin_then ?_
    refine st_ret ?_
    refine fin_ret [.tmp 6] [.bool true] rfl rfl (fun w_ hM => (.tmp rfl .nil)) (fun w_ hM => ?_)
    refine ⟨?_, hM.done⟩
    rfl
theorem RndTells_calls (s g seed : Int) (A : Option Addr) (c : Nat) (l : List Int) (w : World) (hs : (Lit.int .u64 s).wf = true) (hg : (Lit.int .u64 g).wf = true) (hseed : (Lit.int .i64 seed).wf = true) (hr : ReadsInt w .i64 A l.length l) (hc : l.length ≤ c) (hlen : l.length * 8 ≤ 140737488351232) (hw : ∀ x ∈ l, (Lit.int .i64 x).wf = true) :
    Calls Try.prog 7 #[.agg #[.int .u64 s, .int .u64 g], .int .i64 seed, .slice A l.length c] w fun e w' => e = .returned (.bool true) ∧ Below w.heap.size w w' :=
  RndTells_calls0 s g seed A c l w (wf_u64 hs).1 (wf_u64 hs).2 (rints_of hr) hlen
end Go.Proofs.Ytdmlapkindoghaa.Rnd
