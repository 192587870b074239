/- Walks of fix.Clamp and of the reference's Limit: the nearest number within the limits. No condition. -/
import Derived.Test.YtioijglogoppnaaProg
import Derived.Test.YtioijglogoppnaaSxOps
import Derived.Test.YtioijglogoppnaaTrigSpec
namespace Go.Proofs.Ytioijglogoppnaa.WClamp
open Go Go.RowKit Go.Proofs.Ytioijglogoppnaa.Sx Go.Proofs.Ytioijglogoppnaa.Trig
set_option linter.unusedVariables false
set_option linter.unusedSimpArgs false
set_option maxHeartbeats 4000000 in
set_option maxRecDepth 100000 in
theorem Clamp_calls (a : Int) (w : World) : Calls Try.prog 18 #[.int .i64 a] w fun e w' => e = .returned (.int .i64 (min (max a (-1099511627776)) 1099511627776)) ∧ Below w.heap.size w w' := by
  refine sx_calls Try.func18 rfl (n := 6) (by kernel_rfl) (l := [(0, .int .i64 a)]) rfl (by rfl) (Mem.nil w) ?_
  refine st_seq ?_
  refine st_region [(0, false)] (by rfl) ?_
  refine ops_run (is := [(0, false)]) (r := []) (l' := [(0, .int .i64 a)]) [0] (by kernel_rfl) ?_
  refine ops_nil ?_
  refine fin_then ?_
  refine st_seq ?_
  refine st_region [(0, false), (1, false), (2, false), (3, false)] (by rfl) ?_
  refine ops_run (is := [(0, false)]) (r := [(1, false), (2, false), (3, false)]) (l' := [(3, .int .i64 a)]) [3] (by kernel_rfl) ?_
  refine ops_val (op := (Go.Op.call { callee := (Go.Callee.builtin Go.Builtin.max), args := #[(Go.Operand.tmp 3), (Go.Operand.const (Go.Value.int Go.IntKind.i64 (-1099511627776)))], argTypes := #[3, 3] })) (d := some 4) (v := .int .i64 (max a (-1099511627776))) ⟨by kernel_rfl⟩ (run_max rfl rfl) ?_
  refine ops_run (is := []) (r := [(2, false), (3, false)]) (l' := [(4, .int .i64 (max a (-1099511627776)))]) [4] (by kernel_rfl) ?_
  refine ops_val (op := (Go.Op.call { callee := (Go.Callee.builtin Go.Builtin.min), args := #[(Go.Operand.tmp 4), (Go.Operand.const (Go.Value.int Go.IntKind.i64 1099511627776))], argTypes := #[3, 3] })) (d := some 5) (v := .int .i64 (min (max a (-1099511627776)) 1099511627776)) ⟨by kernel_rfl⟩ (run_min rfl rfl) ?_
  refine ops_run (is := [(3, false)]) (r := []) (l' := [(2, .int .i64 (min (max a (-1099511627776)) 1099511627776))]) [2] (by kernel_rfl) ?_
  refine ops_nil ?_
  refine fin_then ?_
  refine st_ret ?_
  refine fin_ret [.tmp 2] [.int .i64 (min (max a (-1099511627776)) 1099511627776)] rfl rfl (fun w_ hM => (.tmp rfl .nil)) (fun w_ hM => ?_)
  refine ⟨?_, hM.done⟩
  rfl
set_option maxHeartbeats 4000000 in
set_option maxRecDepth 100000 in
theorem Limit_calls (a : Int) (w : World) : Calls Try.prog 19 #[.int .i64 a] w fun e w' => e = .returned (.int .i64 (min (max a (-1099511627776)) 1099511627776)) ∧ Below w.heap.size w w' := by
  refine sx_calls Try.func19 rfl (n := 10) (by kernel_rfl) (l := [(0, .int .i64 a)]) rfl (by rfl) (Mem.nil w) ?_
  refine st_seq ?_
  refine st_region [(0, false)] (by rfl) ?_
  refine ops_run (is := [(0, false)]) (r := []) (l' := [(0, .int .i64 a)]) [0] (by kernel_rfl) ?_
  refine ops_nil ?_
  refine fin_then ?_
  refine st_seq ?_
  refine st_block ?_
  refine st_seq ?_
  refine st_region [(0, false), (1, false), (2, false)] (by rfl) ?_
  refine ops_run (is := [(0, false), (1, false), (2, false)]) (r := []) (l' := [(3, .bool (decide (1099511627776 < a))), (0, .int .i64 a)]) [3, 0] (by kernel_rfl) ?_
  refine ops_nil ?_
  refine fin_then ?_
  refine st_if (b := decide (1099511627776 < a)) rfl (fun hc1 => ?_) (fun hc1 => ?_)
  · --
    refine st_seq ?_
    refine st_region [(0, false)] (by rfl) ?_
    refine ops_run (is := [(0, false)]) (r := []) (l' := [(2, .int .i64 1099511627776)]) [2] (by kernel_rfl) ?_
    refine ops_nil ?_
    refine fin_then ?_
    refine st_ret ?_
    refine fin_ret_block ?_
    refine fin_ret_then ?_
    refine fin_ret [.tmp 2] [.int .i64 1099511627776] rfl rfl (fun w_ hM => (.tmp rfl .nil)) (fun w_ hM => ?_)
    refine ⟨?_, hM.done⟩
    have := of_decide_eq_true hc1
    exact congrArg (fun z => Ending.returned (.int .i64 z)) (by omega)
  · --
    refine st_seq ?_
    refine st_region [(0, false), (1, false), (2, false)] (by rfl) ?_
    refine ops_run (is := [(0, false), (1, false), (2, false)]) (r := []) (l' := [(6, .bool (decide (a < (-1099511627776)))), (0, .int .i64 a)]) [6, 0] (by kernel_rfl) ?_
    refine ops_nil ?_
    refine fin_then ?_
    refine st_if (b := decide (a < (-1099511627776))) rfl (fun hc2 => ?_) (fun hc2 => ?_)
    · --
      refine st_seq ?_
      refine st_region [(0, false)] (by rfl) ?_
      refine ops_run (is := [(0, false)]) (r := []) (l' := [(2, .int .i64 (-1099511627776))]) [2] (by kernel_rfl) ?_
      refine ops_nil ?_
      refine fin_then ?_
      refine st_ret ?_
      refine fin_ret_block ?_
      refine fin_ret_then ?_
      refine fin_ret [.tmp 2] [.int .i64 (-1099511627776)] rfl rfl (fun w_ hM => (.tmp rfl .nil)) (fun w_ hM => ?_)
      refine ⟨?_, hM.done⟩
      have := of_decide_eq_false hc1
      have := of_decide_eq_true hc2
      exact congrArg (fun z => Ending.returned (.int .i64 z)) (by omega)
    · --
      refine st_skip ?_
      refine fin_block ?_
      refine fin_then ?_
      refine st_seq ?_
      refine st_region [(0, false), (1, false)] (by rfl) ?_
      refine ops_run (is := [(0, false), (1, false)]) (r := []) (l' := [(2, .int .i64 a)]) [2] (by kernel_rfl) ?_
      refine ops_nil ?_
      refine fin_then ?_
      refine st_ret ?_
      refine fin_ret [.tmp 2] [.int .i64 a] rfl rfl (fun w_ hM => (.tmp rfl .nil)) (fun w_ hM => ?_)
      refine ⟨?_, hM.done⟩
      have := of_decide_eq_false hc1
      have := of_decide_eq_false hc2
      exact congrArg (fun z => Ending.returned (.int .i64 z)) (by omega)
end Go.Proofs.Ytioijglogoppnaa.WClamp
