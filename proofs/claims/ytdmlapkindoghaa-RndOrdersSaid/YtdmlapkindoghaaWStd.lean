/- Walks of slices.Equal: it tells whether two lists are the same. No condition. -/
import Derived.Test.YtdmlapkindoghaaProg
import Derived.Test.YtdmlapkindoghaaSxOps
namespace Go.Proofs.Ytdmlapkindoghaa.WStd
open Go Go.RowKit Go.Proofs.Ytdmlapkindoghaa.Sx
set_option linter.unusedVariables false
set_option maxRecDepth 100000 in
theorem EqI_same (A1 A2 : Option Addr) (n1 c1 c2 : Nat) (l1 : List Int) (w : World) (hr1 : RInts .i64 A1 l1 w) (hr2 : RInts .i64 A2 l1 w) (hn1 : l1.length = n1) (hb1 : n1 < 9223372036854775807) : Calls Try.prog 55 #[.slice A1 n1 c1, .slice A2 n1 c2] w fun e w' => e = .returned (.bool true) ∧ Below w.heap.size w w' := by
  refine sx_calls Try.func55 rfl (n := 26) (by kernel_rfl) (l := [(0, .slice A1 n1 c1), (1, .slice A2 n1 c2)]) rfl (by rfl) (Mem.nil w) ?_
  refine st_seq ?_
  refine st_region [(0, false)] (by rfl) ?_
  refine ops_run (is := [(0, false)]) (r := []) (l' := [(0, .slice A1 n1 c1), (1, .slice A2 n1 c2)]) [0, 1] (by kernel_rfl) ?_
  refine ops_nil ?_
  refine fin_then ?_
  refine st_seq ?_
  refine st_seq ?_
  refine st_region [(0, false), (1, false), (2, false), (3, false), (4, false)] (by rfl) ?_
  refine ops_run (is := [(0, false), (1, false), (2, false), (3, false)]) (r := [(4, false)]) (l' := [(9, .int .i64 (n1 : Int)), (7, .int .i64 (n1 : Int)), (0, .slice A1 n1 c1), (1, .slice A2 n1 c2)]) [9, 7, 0, 1] (by kernel_rfl) ?_
  refine ops_val (op := (Go.Op.binOp Go.BinOp.neq 3 (Go.Operand.tmp 7) (Go.Operand.tmp 9) 3)) (d := some 10) (v := .bool false) ⟨by kernel_rfl⟩ (run_neq_same rfl rfl) ?_
  refine ops_run (is := []) (r := []) (l' := [(10, .bool false), (0, .slice A1 n1 c1), (1, .slice A2 n1 c2)]) [10, 0, 1] (by kernel_rfl) ?_
  refine ops_nil ?_
  refine fin_then ?_
  refine st_false rfl ?_
  refine st_skip ?_
  refine fin_then ?_
  refine st_seq ?_
  refine st_seq ?_
  refine st_region [(0, false), (1, false), (2, false)] (by rfl) ?_
  refine ops_run (is := [(0, false), (1, false), (2, false)]) (r := []) (l' := [(13, .int .i64 0), (12, .int .i64 (n1 : Int)), (0, .slice A1 n1 c1), (1, .slice A2 n1 c2)]) [13, 12, 0, 1] (by kernel_rfl) ?_
  refine ops_nil ?_
  refine fin_then ?_
  refine st_block ?_
  refine st_loop (σ := Nat) 0 (fun k => [(13, .int .i64 (k : Int)), (12, .int .i64 (n1 : Int)), (0, .slice A1 n1 c1), (1, .slice A2 n1 c2)]) (fun k => Mem w []) (fun k => k ≤ n1) (fun k => n1 - k) (by exact Nat.zero_le _) (look_has ⟨rfl, rfl, rfl, rfl, trivial⟩) (fun w_ hM => by exact hM) ?_
  rintro k hI
  have hIk : k ≤ n1 := hI
  refine st_seq ?_
  refine st_region [(0, false)] (by rfl) ?_
  refine ops_run (is := [(0, false)]) (r := []) (l' := [(14, .bool (decide ((k : Int) < (n1 : Int)))), (13, .int .i64 (k : Int)), (12, .int .i64 (n1 : Int)), (0, .slice A1 n1 c1), (1, .slice A2 n1 c2)]) [14, 13, 12, 0, 1] (by kernel_rfl) ?_
  refine ops_nil ?_
  refine fin_then ?_
  refine st_seq ?_
  refine st_if (b := decide ((k : Int) < (n1 : Int))) rfl (fun hc1 => ?_) (fun hc1 => ?_)
  · --
    have hk : k < n1 := by have := of_decide_eq_true hc1; omega
    have hk1 : IntKind.i64.wrap ((k : Int) + 1) = ((k + 1 : Nat) : Int) := succ_i64 (by omega)
    refine st_skip ?_
    refine fin_then ?_
    refine st_seq ?_
    refine st_block ?_
    refine st_seq ?_
    refine st_region [(0, false), (1, false)] (by rfl) ?_
    refine ops_run (is := [(0, false), (1, false)]) (r := []) (l' := [(5, .int .i64 (k : Int)), (13, .int .i64 (k : Int)), (12, .int .i64 (n1 : Int)), (0, .slice A1 n1 c1), (1, .slice A2 n1 c2)]) [5, 13, 12, 0, 1] (by kernel_rfl) ?_
    refine ops_nil ?_
    refine fin_then ?_
    refine st_seq ?_
    refine st_region_draw [(0, true), (1, true), (2, true), (3, true), (4, true), (5, true), (6, true), (7, true), (8, true)] (Mem w []) (by kernel_rfl) (by kernel_rfl) (by kernel_rfl) (fun _ d _ _ _ h => by cases d <;> exact h) (M' := Mem w []) (fun w_ hM => ⟨hM.drew, hM.drew.sub (by simp)⟩) ?_
    refine ops_run (is := [(0, true), (1, true)]) (r := [(2, true), (3, true), (4, true), (5, true), (6, true), (7, true), (8, true)]) (l' := [(17, .int .i64 (k : Int)), (16, .slice A1 n1 c1), (5, .int .i64 (k : Int)), (13, .int .i64 (k : Int)), (12, .int .i64 (n1 : Int)), (0, .slice A1 n1 c1), (1, .slice A2 n1 c2)]) [17, 16, 5, 13, 12, 0, 1] (by kernel_rfl) ?_
    obtain ⟨ad2, hA3, hx4⟩ := hr1 k (by omega)
    refine ops_val (op := (Go.Op.indexAddr 37 (Go.Operand.tmp 16) (Go.Operand.tmp 17))) (d := some 18) (v := .pointer (some (ad2.add k))) ⟨by kernel_rfl⟩ (run_index1 hA3 Try.underlying37 (by kernel_rfl) rfl rfl (m := k) (by first | rfl | omega) (by omega)) ?_
    refine ops_run (is := []) (r := [(3, true), (4, true), (5, true), (6, true), (7, true), (8, true)]) (l' := [(18, .pointer (some (ad2.add k))), (5, .int .i64 (k : Int)), (13, .int .i64 (k : Int)), (12, .int .i64 (n1 : Int)), (0, .slice A1 n1 c1), (1, .slice A2 n1 c2)]) [18, 5, 13, 12, 0, 1] (by kernel_rfl) ?_
    refine ops_load (d := some 19) (an := [.v (.int .i64 (l1.getD k 0))]) (evs := [.load (ad2.add k) (.int .i64 (l1.getD k 0))]) (v := .int .i64 (l1.getD k 0)) ⟨by kernel_rfl⟩ (fun w_ hM => ⟨hM.oldcell hx4, rfl⟩) ?_
    refine ops_run (is := [(4, true), (5, true)]) (r := [(6, true), (7, true), (8, true)]) (l' := [(21, .int .i64 (k : Int)), (20, .slice A2 n1 c2), (19, .int .i64 (l1.getD k 0)), (13, .int .i64 (k : Int)), (12, .int .i64 (n1 : Int)), (0, .slice A1 n1 c1), (1, .slice A2 n1 c2)]) [21, 20, 19, 13, 12, 0, 1] (by kernel_rfl) ?_
    obtain ⟨ad5, hA6, hx7⟩ := hr2 k (by omega)
    refine ops_val (op := (Go.Op.indexAddr 37 (Go.Operand.tmp 20) (Go.Operand.tmp 21))) (d := some 22) (v := .pointer (some (ad5.add k))) ⟨by kernel_rfl⟩ (run_index1 hA6 Try.underlying37 (by kernel_rfl) rfl rfl (m := k) (by first | rfl | omega) (by omega)) ?_
    refine ops_run (is := []) (r := [(7, true), (8, true)]) (l' := [(22, .pointer (some (ad5.add k))), (19, .int .i64 (l1.getD k 0)), (13, .int .i64 (k : Int)), (12, .int .i64 (n1 : Int)), (0, .slice A1 n1 c1), (1, .slice A2 n1 c2)]) [22, 19, 13, 12, 0, 1] (by kernel_rfl) ?_
    refine ops_load (d := some 23) (an := [.v (.int .i64 (l1.getD k 0))]) (evs := [.load (ad5.add k) (.int .i64 (l1.getD k 0))]) (v := .int .i64 (l1.getD k 0)) ⟨by kernel_rfl⟩ (fun w_ hM => ⟨hM.oldcell hx7, rfl⟩) ?_
    refine ops_run (is := []) (r := [(8, true)]) (l' := [(23, .int .i64 (l1.getD k 0)), (19, .int .i64 (l1.getD k 0)), (13, .int .i64 (k : Int)), (12, .int .i64 (n1 : Int)), (0, .slice A1 n1 c1), (1, .slice A2 n1 c2)]) [23, 19, 13, 12, 0, 1] (by kernel_rfl) ?_
    refine ops_val (op := (Go.Op.binOp Go.BinOp.neq 3 (Go.Operand.tmp 19) (Go.Operand.tmp 23) 3)) (d := some 24) (v := .bool false) ⟨by kernel_rfl⟩ (run_neq_same rfl rfl) ?_
    refine ops_run (is := []) (r := []) (l' := [(24, .bool false), (13, .int .i64 (k : Int)), (12, .int .i64 (n1 : Int)), (0, .slice A1 n1 c1), (1, .slice A2 n1 c2)]) [24, 13, 12, 0, 1] (by kernel_rfl) ?_
    refine ops_nil ?_
    refine fin_then ?_
    refine st_false rfl ?_
    refine st_skip ?_
    refine fin_block ?_
    refine fin_then ?_
    refine st_region [(0, false), (1, false)] (by rfl) ?_
    refine ops_run (is := [(0, false), (1, false)]) (r := []) (l' := [(13, .int .i64 (IntKind.i64.wrap ((k : Int) + 1))), (12, .int .i64 (n1 : Int)), (0, .slice A1 n1 c1), (1, .slice A2 n1 c2)]) [13, 12, 0, 1] (by kernel_rfl) ?_
    refine ops_conv (l' := [(13, .int .i64 ((k + 1 : Nat) : Int)), (12, .int .i64 (n1 : Int)), (0, .slice A1 n1 c1), (1, .slice A2 n1 c2)]) (by rw [hk1]) (fun _ h => h) ?_
    refine ops_nil ?_
    refine fin_round (k + 1) (by omega) (by omega) (look_has ⟨rfl, rfl, rfl, rfl, trivial⟩) (fun w_ hM => by exact hM)
  · --
    have hk : k = n1 := by have := of_decide_eq_false hc1; omega
    refine st_exit ?_
    refine fin_exit_then ?_
    refine fin_exit_then ?_
    refine fin_exit ?_
    refine fin_then ?_
    refine st_seq ?_
    refine st_region [(0, false)] (by rfl) ?_
    refine ops_run (is := [(0, false)]) (r := []) (l' := [(4, .bool true)]) [4] (by kernel_rfl) ?_
    refine ops_nil ?_
    refine fin_then ?_
    refine st_ret ?_
    refine fin_ret [.tmp 4] [.bool true] rfl rfl (fun w_ hM => (.tmp rfl .nil)) (fun w_ hM => ?_)
    refine ⟨?_, hM.done⟩
    rfl
set_option maxRecDepth 100000 in
theorem EqB_same (A1 A2 : Option Addr) (n1 c1 c2 : Nat) (l1 : List Int) (w : World) (hr1 : RInts .u8 A1 l1 w) (hr2 : RInts .u8 A2 l1 w) (hn1 : l1.length = n1) (hb1 : n1 < 9223372036854775807) : Calls Try.prog 70 #[.slice A1 n1 c1, .slice A2 n1 c2] w fun e w' => e = .returned (.bool true) ∧ Below w.heap.size w w' := by
  refine sx_calls Try.func70 rfl (n := 26) (by kernel_rfl) (l := [(0, .slice A1 n1 c1), (1, .slice A2 n1 c2)]) rfl (by rfl) (Mem.nil w) ?_
  refine st_seq ?_
  refine st_region [(0, false)] (by rfl) ?_
  refine ops_run (is := [(0, false)]) (r := []) (l' := [(0, .slice A1 n1 c1), (1, .slice A2 n1 c2)]) [0, 1] (by kernel_rfl) ?_
  refine ops_nil ?_
  refine fin_then ?_
  refine st_seq ?_
  refine st_seq ?_
  refine st_region [(0, false), (1, false), (2, false), (3, false), (4, false)] (by rfl) ?_
  refine ops_run (is := [(0, false), (1, false), (2, false), (3, false)]) (r := [(4, false)]) (l' := [(9, .int .i64 (n1 : Int)), (7, .int .i64 (n1 : Int)), (0, .slice A1 n1 c1), (1, .slice A2 n1 c2)]) [9, 7, 0, 1] (by kernel_rfl) ?_
  refine ops_val (op := (Go.Op.binOp Go.BinOp.neq 3 (Go.Operand.tmp 7) (Go.Operand.tmp 9) 3)) (d := some 10) (v := .bool false) ⟨by kernel_rfl⟩ (run_neq_same rfl rfl) ?_
  refine ops_run (is := []) (r := []) (l' := [(10, .bool false), (0, .slice A1 n1 c1), (1, .slice A2 n1 c2)]) [10, 0, 1] (by kernel_rfl) ?_
  refine ops_nil ?_
  refine fin_then ?_
  refine st_false rfl ?_
  refine st_skip ?_
  refine fin_then ?_
  refine st_seq ?_
  refine st_seq ?_
  refine st_region [(0, false), (1, false), (2, false)] (by rfl) ?_
  refine ops_run (is := [(0, false), (1, false), (2, false)]) (r := []) (l' := [(13, .int .i64 0), (12, .int .i64 (n1 : Int)), (0, .slice A1 n1 c1), (1, .slice A2 n1 c2)]) [13, 12, 0, 1] (by kernel_rfl) ?_
  refine ops_nil ?_
  refine fin_then ?_
  refine st_block ?_
  refine st_loop (σ := Nat) 0 (fun k => [(13, .int .i64 (k : Int)), (12, .int .i64 (n1 : Int)), (0, .slice A1 n1 c1), (1, .slice A2 n1 c2)]) (fun k => Mem w []) (fun k => k ≤ n1) (fun k => n1 - k) (by exact Nat.zero_le _) (look_has ⟨rfl, rfl, rfl, rfl, trivial⟩) (fun w_ hM => by exact hM) ?_
  rintro k hI
  have hIk : k ≤ n1 := hI
  refine st_seq ?_
  refine st_region [(0, false)] (by rfl) ?_
  refine ops_run (is := [(0, false)]) (r := []) (l' := [(14, .bool (decide ((k : Int) < (n1 : Int)))), (13, .int .i64 (k : Int)), (12, .int .i64 (n1 : Int)), (0, .slice A1 n1 c1), (1, .slice A2 n1 c2)]) [14, 13, 12, 0, 1] (by kernel_rfl) ?_
  refine ops_nil ?_
  refine fin_then ?_
  refine st_seq ?_
  refine st_if (b := decide ((k : Int) < (n1 : Int))) rfl (fun hc1 => ?_) (fun hc1 => ?_)
  · --
    have hk : k < n1 := by have := of_decide_eq_true hc1; omega
    have hk1 : IntKind.i64.wrap ((k : Int) + 1) = ((k + 1 : Nat) : Int) := succ_i64 (by omega)
    refine st_skip ?_
    refine fin_then ?_
    refine st_seq ?_
    refine st_block ?_
    refine st_seq ?_
    refine st_region [(0, false), (1, false)] (by rfl) ?_
    refine ops_run (is := [(0, false), (1, false)]) (r := []) (l' := [(5, .int .i64 (k : Int)), (13, .int .i64 (k : Int)), (12, .int .i64 (n1 : Int)), (0, .slice A1 n1 c1), (1, .slice A2 n1 c2)]) [5, 13, 12, 0, 1] (by kernel_rfl) ?_
    refine ops_nil ?_
    refine fin_then ?_
    refine st_seq ?_
    refine st_region_draw [(0, true), (1, true), (2, true), (3, true), (4, true), (5, true), (6, true), (7, true), (8, true)] (Mem w []) (by kernel_rfl) (by kernel_rfl) (by kernel_rfl) (fun _ d _ _ _ h => by cases d <;> exact h) (M' := Mem w []) (fun w_ hM => ⟨hM.drew, hM.drew.sub (by simp)⟩) ?_
    refine ops_run (is := [(0, true), (1, true)]) (r := [(2, true), (3, true), (4, true), (5, true), (6, true), (7, true), (8, true)]) (l' := [(17, .int .i64 (k : Int)), (16, .slice A1 n1 c1), (5, .int .i64 (k : Int)), (13, .int .i64 (k : Int)), (12, .int .i64 (n1 : Int)), (0, .slice A1 n1 c1), (1, .slice A2 n1 c2)]) [17, 16, 5, 13, 12, 0, 1] (by kernel_rfl) ?_
    obtain ⟨ad2, hA3, hx4⟩ := hr1 k (by omega)
    refine ops_val (op := (Go.Op.indexAddr 38 (Go.Operand.tmp 16) (Go.Operand.tmp 17))) (d := some 18) (v := .pointer (some (ad2.add k))) ⟨by kernel_rfl⟩ (run_index1 hA3 Try.underlying38 (by kernel_rfl) rfl rfl (m := k) (by first | rfl | omega) (by omega)) ?_
    refine ops_run (is := []) (r := [(3, true), (4, true), (5, true), (6, true), (7, true), (8, true)]) (l' := [(18, .pointer (some (ad2.add k))), (5, .int .i64 (k : Int)), (13, .int .i64 (k : Int)), (12, .int .i64 (n1 : Int)), (0, .slice A1 n1 c1), (1, .slice A2 n1 c2)]) [18, 5, 13, 12, 0, 1] (by kernel_rfl) ?_
    refine ops_load (d := some 19) (an := [.v (.int .u8 (l1.getD k 0))]) (evs := [.load (ad2.add k) (.int .u8 (l1.getD k 0))]) (v := .int .u8 (l1.getD k 0)) ⟨by kernel_rfl⟩ (fun w_ hM => ⟨hM.oldcell hx4, rfl⟩) ?_
    refine ops_run (is := [(4, true), (5, true)]) (r := [(6, true), (7, true), (8, true)]) (l' := [(21, .int .i64 (k : Int)), (20, .slice A2 n1 c2), (19, .int .u8 (l1.getD k 0)), (13, .int .i64 (k : Int)), (12, .int .i64 (n1 : Int)), (0, .slice A1 n1 c1), (1, .slice A2 n1 c2)]) [21, 20, 19, 13, 12, 0, 1] (by kernel_rfl) ?_
    obtain ⟨ad5, hA6, hx7⟩ := hr2 k (by omega)
    refine ops_val (op := (Go.Op.indexAddr 38 (Go.Operand.tmp 20) (Go.Operand.tmp 21))) (d := some 22) (v := .pointer (some (ad5.add k))) ⟨by kernel_rfl⟩ (run_index1 hA6 Try.underlying38 (by kernel_rfl) rfl rfl (m := k) (by first | rfl | omega) (by omega)) ?_
    refine ops_run (is := []) (r := [(7, true), (8, true)]) (l' := [(22, .pointer (some (ad5.add k))), (19, .int .u8 (l1.getD k 0)), (13, .int .i64 (k : Int)), (12, .int .i64 (n1 : Int)), (0, .slice A1 n1 c1), (1, .slice A2 n1 c2)]) [22, 19, 13, 12, 0, 1] (by kernel_rfl) ?_
    refine ops_load (d := some 23) (an := [.v (.int .u8 (l1.getD k 0))]) (evs := [.load (ad5.add k) (.int .u8 (l1.getD k 0))]) (v := .int .u8 (l1.getD k 0)) ⟨by kernel_rfl⟩ (fun w_ hM => ⟨hM.oldcell hx7, rfl⟩) ?_
    refine ops_run (is := []) (r := [(8, true)]) (l' := [(23, .int .u8 (l1.getD k 0)), (19, .int .u8 (l1.getD k 0)), (13, .int .i64 (k : Int)), (12, .int .i64 (n1 : Int)), (0, .slice A1 n1 c1), (1, .slice A2 n1 c2)]) [23, 19, 13, 12, 0, 1] (by kernel_rfl) ?_
    refine ops_val (op := (Go.Op.binOp Go.BinOp.neq 5 (Go.Operand.tmp 19) (Go.Operand.tmp 23) 5)) (d := some 24) (v := .bool false) ⟨by kernel_rfl⟩ (run_neq_same rfl rfl) ?_
    refine ops_run (is := []) (r := []) (l' := [(24, .bool false), (13, .int .i64 (k : Int)), (12, .int .i64 (n1 : Int)), (0, .slice A1 n1 c1), (1, .slice A2 n1 c2)]) [24, 13, 12, 0, 1] (by kernel_rfl) ?_
    refine ops_nil ?_
    refine fin_then ?_
    refine st_false rfl ?_
    refine st_skip ?_
    refine fin_block ?_
    refine fin_then ?_
    refine st_region [(0, false), (1, false)] (by rfl) ?_
    refine ops_run (is := [(0, false), (1, false)]) (r := []) (l' := [(13, .int .i64 (IntKind.i64.wrap ((k : Int) + 1))), (12, .int .i64 (n1 : Int)), (0, .slice A1 n1 c1), (1, .slice A2 n1 c2)]) [13, 12, 0, 1] (by kernel_rfl) ?_
    refine ops_conv (l' := [(13, .int .i64 ((k + 1 : Nat) : Int)), (12, .int .i64 (n1 : Int)), (0, .slice A1 n1 c1), (1, .slice A2 n1 c2)]) (by rw [hk1]) (fun _ h => h) ?_
    refine ops_nil ?_
    refine fin_round (k + 1) (by omega) (by omega) (look_has ⟨rfl, rfl, rfl, rfl, trivial⟩) (fun w_ hM => by exact hM)
  · --
    have hk : k = n1 := by have := of_decide_eq_false hc1; omega
    refine st_exit ?_
    refine fin_exit_then ?_
    refine fin_exit_then ?_
    refine fin_exit ?_
    refine fin_then ?_
    refine st_seq ?_
    refine st_region [(0, false)] (by rfl) ?_
    refine ops_run (is := [(0, false)]) (r := []) (l' := [(4, .bool true)]) [4] (by kernel_rfl) ?_
    refine ops_nil ?_
    refine fin_then ?_
    refine st_ret ?_
    refine fin_ret [.tmp 4] [.bool true] rfl rfl (fun w_ hM => (.tmp rfl .nil)) (fun w_ hM => ?_)
    refine ⟨?_, hM.done⟩
    rfl
end Go.Proofs.Ytdmlapkindoghaa.WStd
