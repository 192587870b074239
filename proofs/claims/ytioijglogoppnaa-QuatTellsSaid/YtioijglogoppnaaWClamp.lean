/- Walks of fix.Clamp and of the reference's Limit: the nearest number within the limits. No condition. -/
import Derived.Test.YtioijglogoppnaaProg
import Derived.Test.YtioijglogoppnaaSxOps
import Derived.Test.YtioijglogoppnaaTrigSpec
namespace Go.Proofs.Ytioijglogoppnaa.WClamp
open Go Go.RowKit Go.Proofs.Ytioijglogoppnaa.Sx Go.Proofs.Ytioijglogoppnaa.Trig
set_option linter.unusedVariables false
set_option linter.unusedSimpArgs false
set_option maxHeartbeats 4000000 in
set_option maxRecDepth 100000 in
theorem Clamp_calls (a : Int) (w : World) : Calls Try.prog 18 #[vI a] w fun e w' => e = .returned (vI (min (max a (-1099511627776)) 1099511627776)) ∧ Below w.heap.size w w' := by
 refine sx_calls Try.func18 rfl (n := 6) (by kernel_rfl) (l := [(0, vI a)]) rfl (by rfl) (Mem.nil w) ?_
 refine st_seq ?_
 refine st_region [oF 0] (by rfl) ?_
 refine oR [oF 0] [(0, vI a)] [0] (by kernel_rfl) ?_
 refine ops_nil ?_
 refine fin_then ?_
 refine st_seq ?_
 refine st_region [oF 0, oF 1, oF 2, oF 3] (by rfl) ?_
 refine oR [oF 0] [(3, vI a)] [3] (by kernel_rfl) ?_
 refine ops_val (op := (Go.Op.call { callee := (Go.Callee.builtin Go.Builtin.max), args := #[(Go.Operand.tmp 3), (Go.Operand.const (Go.Value.int Go.IntKind.i64 (-1099511627776)))], argTypes := #[3, 3] })) (d := some 4) (v := vI (max a (-1099511627776))) ⟨by kernel_rfl⟩ (run_max rfl rfl) ?_
 refine oR [] [(4, vI (max a (-1099511627776)))] [4] (by kernel_rfl) ?_
 refine ops_val (op := (Go.Op.call { callee := (Go.Callee.builtin Go.Builtin.min), args := #[(Go.Operand.tmp 4), (Go.Operand.const (Go.Value.int Go.IntKind.i64 1099511627776))], argTypes := #[3, 3] })) (d := some 5) (v := vI (min (max a (-1099511627776)) 1099511627776)) ⟨by kernel_rfl⟩ (run_min rfl rfl) ?_
 refine oR [oF 3] [(2, vI (min (max a (-1099511627776)) 1099511627776))] [2] (by kernel_rfl) ?_
 refine ops_nil ?_
 refine fin_then ?_
 refine st_ret ?_
 refine fin_ret [.tmp 2] [vI (min (max a (-1099511627776)) 1099511627776)] rfl rfl (fun w_ hM => (.tmp rfl .nil)) (fun w_ hM => ?_)
 refine ⟨?_, hM.done⟩
 rfl
set_option maxHeartbeats 4000000 in
set_option maxRecDepth 100000 in
theorem Limit_calls (a : Int) (w : World) : Calls Try.prog 19 #[vI a] w fun e w' => e = .returned (vI (min (max a (-1099511627776)) 1099511627776)) ∧ Below w.heap.size w w' := by
 refine sx_calls Try.func19 rfl (n := 10) (by kernel_rfl) (l := [(0, vI a)]) rfl (by rfl) (Mem.nil w) ?_
 refine st_seq ?_
 refine st_region [oF 0] (by rfl) ?_
 refine oR [oF 0] [(0, vI a)] [0] (by kernel_rfl) ?_
 refine ops_nil ?_
 refine fin_then ?_
 refine st_seq ?_
 refine st_block ?_
 refine st_seq ?_
 refine st_region [oF 0, oF 1, oF 2] (by rfl) ?_
 refine oR [oF 0, oF 1, oF 2] [(3, .bool (decide (1099511627776 < a))), (0, vI a)] [3, 0] (by kernel_rfl) ?_
 refine ops_nil ?_
 refine fin_then ?_
 refine st_if (b := decide (1099511627776 < a)) rfl (fun hc1 => ?_) (fun hc1 => ?_)
 · --
  refine st_seq ?_
  refine st_region [oF 0] (by rfl) ?_
  refine oR [oF 0] [(2, vI 1099511627776)] [2] (by kernel_rfl) ?_
  refine ops_nil ?_
  refine fin_then ?_
  refine st_ret ?_
  refine fin_ret_block ?_
  refine fin_ret_then ?_
  refine fin_ret [.tmp 2] [vI 1099511627776] rfl rfl (fun w_ hM => (.tmp rfl .nil)) (fun w_ hM => ?_)
  refine ⟨?_, hM.done⟩
  have := of_decide_eq_true hc1
  exact congrArg (fun z => Ending.returned (.int .i64 z)) (by omega)
 · --
  refine st_seq ?_
  refine st_region [oF 0, oF 1, oF 2] (by rfl) ?_
  refine oR [oF 0, oF 1, oF 2] [(6, .bool (decide (a < (-1099511627776)))), (0, vI a)] [6, 0] (by kernel_rfl) ?_
  refine ops_nil ?_
  refine fin_then ?_
  refine st_if (b := decide (a < (-1099511627776))) rfl (fun hc2 => ?_) (fun hc2 => ?_)
  · --
   refine st_seq ?_
   refine st_region [oF 0] (by rfl) ?_
   refine oR [oF 0] [(2, vI (-1099511627776))] [2] (by kernel_rfl) ?_
   refine ops_nil ?_
   refine fin_then ?_
   refine st_ret ?_
   refine fin_ret_block ?_
   refine fin_ret_then ?_
   refine fin_ret [.tmp 2] [vI (-1099511627776)] rfl rfl (fun w_ hM => (.tmp rfl .nil)) (fun w_ hM => ?_)
   refine ⟨?_, hM.done⟩
   have := of_decide_eq_false hc1
   have := of_decide_eq_true hc2
   exact congrArg (fun z => Ending.returned (.int .i64 z)) (by omega)
  · --
   refine st_skip ?_
   refine fin_block ?_
   refine fin_then ?_
   refine st_seq ?_
   refine st_region [oF 0, oF 1] (by rfl) ?_
   refine oR [oF 0, oF 1] [(2, vI a)] [2] (by kernel_rfl) ?_
   refine ops_nil ?_
   refine fin_then ?_
   refine st_ret ?_
   refine fin_ret [.tmp 2] [vI a] rfl rfl (fun w_ hM => (.tmp rfl .nil)) (fun w_ hM => ?_)
   refine ⟨?_, hM.done⟩
   have := of_decide_eq_false hc1
   have := of_decide_eq_false hc2
   exact congrArg (fun z => Ending.returned (.int .i64 z)) (by omega)
end Go.Proofs.Ytioijglogoppnaa.WClamp
