/- Walks of package fix's Add, Sub, Mul and Div and of the reference's. No condition. -/
import Derived.Test.YtioijglogoppnaaProg
import Derived.Test.YtioijglogoppnaaSxOps
import Derived.Test.YtioijglogoppnaaDivSpec
import Derived.Test.YtioijglogoppnaaWThru
import Derived.Test.YtioijglogoppnaaWThru3
import Derived.Test.YtioijglogoppnaaWClamp
namespace Go.Proofs.Ytioijglogoppnaa.WFix
open Go Go.RowKit Go.Proofs.Ytioijglogoppnaa.Sx Go.Proofs.Ytioijglogoppnaa.Rnd Go.Proofs.Ytioijglogoppnaa.Nats Go.Proofs.Ytioijglogoppnaa.Trig Go.Proofs.Ytioijglogoppnaa.Vecs Go.Proofs.Ytioijglogoppnaa.Divs Go.Proofs.Ytioijglogoppnaa.WThru Go.Proofs.Ytioijglogoppnaa.WThru3 Go.Proofs.Ytioijglogoppnaa.WClamp
set_option linter.unusedVariables false
set_option linter.unusedSimpArgs false
set_option maxHeartbeats 4000000 in
set_option maxRecDepth 100000 in
theorem Add_calls (a b : Int) (w : World) : Calls Try.prog 20 #[vI a, vI b] w fun e w' => e = .returned (vI (min (max (min (max a (-1099511627776)) 1099511627776 + min (max b (-1099511627776)) 1099511627776) (-1099511627776)) 1099511627776)) ∧ Below w.heap.size w w' := by
 refine sx_calls Try.func20 rfl (n := 11) (by kernel_rfl) (l := [(0, vI a), (1, vI b)]) rfl (by rfl) (Mem.nil w) ?_
 refine st_seq ?_
 refine st_region [oF 0] (by rfl) ?_
 refine oR [oF 0] [(0, vI a), (1, vI b)] [0, 1] (by kernel_rfl) ?_
 refine ops_nil ?_
 refine fin_then ?_
 refine st_seq ?_
 refine st_region [oF 0, oF 1, oF 2, oF 3, oF 4, oF 5, oF 6] (by rfl) ?_
 refine oR [oF 0] [(5, vI a), (1, vI b)] [5, 1] (by kernel_rfl) ?_
 refine oC (some 6) 18 #[vI a] (vI (min (max a (-1099511627776)) 1099511627776)) ⟨by kernel_rfl⟩ (fun w_ hM => Clamp_calls a w_) ?_
 refine oR [oF 2] [(7, vI b), (6, vI (min (max a (-1099511627776)) 1099511627776))] [7, 6] (by kernel_rfl) ?_
 refine oC (some 8) 18 #[vI b] (vI (min (max b (-1099511627776)) 1099511627776)) ⟨by kernel_rfl⟩ (fun w_ hM => Clamp_calls b w_) ?_
 refine oR [oF 4] [(9, vI (IntKind.i64.wrap (min (max a (-1099511627776)) 1099511627776 + min (max b (-1099511627776)) 1099511627776)))] [9] (by kernel_rfl) ?_
 refine ops_conv (l' := [(9, vI (min (max a (-1099511627776)) 1099511627776 + min (max b (-1099511627776)) 1099511627776))]) (by rw [(i64in (x := min (max a (-1099511627776)) 1099511627776 + min (max b (-1099511627776)) 1099511627776) (by omega) (by omega))]) (fun _ h => h) ?_
 refine oC (some 10) 18 #[vI (min (max a (-1099511627776)) 1099511627776 + min (max b (-1099511627776)) 1099511627776)] (vI (min (max (min (max a (-1099511627776)) 1099511627776 + min (max b (-1099511627776)) 1099511627776) (-1099511627776)) 1099511627776)) ⟨by kernel_rfl⟩ (fun w_ hM => Clamp_calls (min (max a (-1099511627776)) 1099511627776 + min (max b (-1099511627776)) 1099511627776) w_) ?_
 refine oR [oF 6] [(4, vI (min (max (min (max a (-1099511627776)) 1099511627776 + min (max b (-1099511627776)) 1099511627776) (-1099511627776)) 1099511627776))] [4] (by kernel_rfl) ?_
 refine ops_nil ?_
 refine fin_then ?_
 refine st_ret ?_
 refine fin_ret [.tmp 4] [vI (min (max (min (max a (-1099511627776)) 1099511627776 + min (max b (-1099511627776)) 1099511627776) (-1099511627776)) 1099511627776)] rfl rfl (fun w_ hM => (.tmp rfl .nil)) (fun w_ hM => ?_)
 refine ⟨?_, hM.done⟩
 rfl
set_option maxHeartbeats 4000000 in
set_option maxRecDepth 100000 in
theorem Sub_calls (a b : Int) (w : World) : Calls Try.prog 22 #[vI a, vI b] w fun e w' => e = .returned (vI (min (max (min (max a (-1099511627776)) 1099511627776 - min (max b (-1099511627776)) 1099511627776) (-1099511627776)) 1099511627776)) ∧ Below w.heap.size w w' := by
 refine sx_calls Try.func22 rfl (n := 11) (by kernel_rfl) (l := [(0, vI a), (1, vI b)]) rfl (by rfl) (Mem.nil w) ?_
 refine st_seq ?_
 refine st_region [oF 0] (by rfl) ?_
 refine oR [oF 0] [(0, vI a), (1, vI b)] [0, 1] (by kernel_rfl) ?_
 refine ops_nil ?_
 refine fin_then ?_
 refine st_seq ?_
 refine st_region [oF 0, oF 1, oF 2, oF 3, oF 4, oF 5, oF 6] (by rfl) ?_
 refine oR [oF 0] [(5, vI a), (1, vI b)] [5, 1] (by kernel_rfl) ?_
 refine oC (some 6) 18 #[vI a] (vI (min (max a (-1099511627776)) 1099511627776)) ⟨by kernel_rfl⟩ (fun w_ hM => Clamp_calls a w_) ?_
 refine oR [oF 2] [(7, vI b), (6, vI (min (max a (-1099511627776)) 1099511627776))] [7, 6] (by kernel_rfl) ?_
 refine oC (some 8) 18 #[vI b] (vI (min (max b (-1099511627776)) 1099511627776)) ⟨by kernel_rfl⟩ (fun w_ hM => Clamp_calls b w_) ?_
 refine oR [oF 4] [(9, vI (IntKind.i64.wrap (min (max a (-1099511627776)) 1099511627776 - min (max b (-1099511627776)) 1099511627776)))] [9] (by kernel_rfl) ?_
 refine ops_conv (l' := [(9, vI (min (max a (-1099511627776)) 1099511627776 - min (max b (-1099511627776)) 1099511627776))]) (by rw [(i64in (x := min (max a (-1099511627776)) 1099511627776 - min (max b (-1099511627776)) 1099511627776) (by omega) (by omega))]) (fun _ h => h) ?_
 refine oC (some 10) 18 #[vI (min (max a (-1099511627776)) 1099511627776 - min (max b (-1099511627776)) 1099511627776)] (vI (min (max (min (max a (-1099511627776)) 1099511627776 - min (max b (-1099511627776)) 1099511627776) (-1099511627776)) 1099511627776)) ⟨by kernel_rfl⟩ (fun w_ hM => Clamp_calls (min (max a (-1099511627776)) 1099511627776 - min (max b (-1099511627776)) 1099511627776) w_) ?_
 refine oR [oF 6] [(4, vI (min (max (min (max a (-1099511627776)) 1099511627776 - min (max b (-1099511627776)) 1099511627776) (-1099511627776)) 1099511627776))] [4] (by kernel_rfl) ?_
 refine ops_nil ?_
 refine fin_then ?_
 refine st_ret ?_
 refine fin_ret [.tmp 4] [vI (min (max (min (max a (-1099511627776)) 1099511627776 - min (max b (-1099511627776)) 1099511627776) (-1099511627776)) 1099511627776)] rfl rfl (fun w_ hM => (.tmp rfl .nil)) (fun w_ hM => ?_)
 refine ⟨?_, hM.done⟩
 rfl
set_option maxHeartbeats 4000000 in
set_option maxRecDepth 100000 in
theorem Sum_calls (a b : Int) (w : World) : Calls Try.prog 21 #[vI a, vI b] w fun e w' => e = .returned (vI (min (max (min (max a (-1099511627776)) 1099511627776 + min (max b (-1099511627776)) 1099511627776) (-1099511627776)) 1099511627776)) ∧ Below w.heap.size w w' := by
 refine sx_calls Try.func21 rfl (n := 11) (by kernel_rfl) (l := [(0, vI a), (1, vI b)]) rfl (by rfl) (Mem.nil w) ?_
 refine st_seq ?_
 refine st_region [oF 0] (by rfl) ?_
 refine oR [oF 0] [(0, vI a), (1, vI b)] [0, 1] (by kernel_rfl) ?_
 refine ops_nil ?_
 refine fin_then ?_
 refine st_seq ?_
 refine st_region [oF 0, oF 1, oF 2, oF 3, oF 4, oF 5, oF 6] (by rfl) ?_
 refine oR [oF 0] [(5, vI a), (1, vI b)] [5, 1] (by kernel_rfl) ?_
 refine oC (some 6) 19 #[vI a] (vI (min (max a (-1099511627776)) 1099511627776)) ⟨by kernel_rfl⟩ (fun w_ hM => Limit_calls a w_) ?_
 refine oR [oF 2] [(7, vI b), (6, vI (min (max a (-1099511627776)) 1099511627776))] [7, 6] (by kernel_rfl) ?_
 refine oC (some 8) 19 #[vI b] (vI (min (max b (-1099511627776)) 1099511627776)) ⟨by kernel_rfl⟩ (fun w_ hM => Limit_calls b w_) ?_
 refine oR [oF 4] [(9, vI (IntKind.i64.wrap (min (max a (-1099511627776)) 1099511627776 + min (max b (-1099511627776)) 1099511627776)))] [9] (by kernel_rfl) ?_
 refine ops_conv (l' := [(9, vI (min (max a (-1099511627776)) 1099511627776 + min (max b (-1099511627776)) 1099511627776))]) (by rw [(i64in (x := min (max a (-1099511627776)) 1099511627776 + min (max b (-1099511627776)) 1099511627776) (by omega) (by omega))]) (fun _ h => h) ?_
 refine oC (some 10) 19 #[vI (min (max a (-1099511627776)) 1099511627776 + min (max b (-1099511627776)) 1099511627776)] (vI (min (max (min (max a (-1099511627776)) 1099511627776 + min (max b (-1099511627776)) 1099511627776) (-1099511627776)) 1099511627776)) ⟨by kernel_rfl⟩ (fun w_ hM => Limit_calls (min (max a (-1099511627776)) 1099511627776 + min (max b (-1099511627776)) 1099511627776) w_) ?_
 refine oR [oF 6] [(4, vI (min (max (min (max a (-1099511627776)) 1099511627776 + min (max b (-1099511627776)) 1099511627776) (-1099511627776)) 1099511627776))] [4] (by kernel_rfl) ?_
 refine ops_nil ?_
 refine fin_then ?_
 refine st_ret ?_
 refine fin_ret [.tmp 4] [vI (min (max (min (max a (-1099511627776)) 1099511627776 + min (max b (-1099511627776)) 1099511627776) (-1099511627776)) 1099511627776)] rfl rfl (fun w_ hM => (.tmp rfl .nil)) (fun w_ hM => ?_)
 refine ⟨?_, hM.done⟩
 rfl
set_option maxHeartbeats 4000000 in
set_option maxRecDepth 100000 in
theorem Less_calls (a b : Int) (w : World) : Calls Try.prog 23 #[vI a, vI b] w fun e w' => e = .returned (vI (min (max (min (max a (-1099511627776)) 1099511627776 - min (max b (-1099511627776)) 1099511627776) (-1099511627776)) 1099511627776)) ∧ Below w.heap.size w w' := by
 refine sx_calls Try.func23 rfl (n := 11) (by kernel_rfl) (l := [(0, vI a), (1, vI b)]) rfl (by rfl) (Mem.nil w) ?_
 refine st_seq ?_
 refine st_region [oF 0] (by rfl) ?_
 refine oR [oF 0] [(0, vI a), (1, vI b)] [0, 1] (by kernel_rfl) ?_
 refine ops_nil ?_
 refine fin_then ?_
 refine st_seq ?_
 refine st_region [oF 0, oF 1, oF 2, oF 3, oF 4, oF 5, oF 6] (by rfl) ?_
 refine oR [oF 0] [(5, vI a), (1, vI b)] [5, 1] (by kernel_rfl) ?_
 refine oC (some 6) 19 #[vI a] (vI (min (max a (-1099511627776)) 1099511627776)) ⟨by kernel_rfl⟩ (fun w_ hM => Limit_calls a w_) ?_
 refine oR [oF 2] [(7, vI b), (6, vI (min (max a (-1099511627776)) 1099511627776))] [7, 6] (by kernel_rfl) ?_
 refine oC (some 8) 19 #[vI b] (vI (min (max b (-1099511627776)) 1099511627776)) ⟨by kernel_rfl⟩ (fun w_ hM => Limit_calls b w_) ?_
 refine oR [oF 4] [(9, vI (IntKind.i64.wrap (min (max a (-1099511627776)) 1099511627776 - min (max b (-1099511627776)) 1099511627776)))] [9] (by kernel_rfl) ?_
 refine ops_conv (l' := [(9, vI (min (max a (-1099511627776)) 1099511627776 - min (max b (-1099511627776)) 1099511627776))]) (by rw [(i64in (x := min (max a (-1099511627776)) 1099511627776 - min (max b (-1099511627776)) 1099511627776) (by omega) (by omega))]) (fun _ h => h) ?_
 refine oC (some 10) 19 #[vI (min (max a (-1099511627776)) 1099511627776 - min (max b (-1099511627776)) 1099511627776)] (vI (min (max (min (max a (-1099511627776)) 1099511627776 - min (max b (-1099511627776)) 1099511627776) (-1099511627776)) 1099511627776)) ⟨by kernel_rfl⟩ (fun w_ hM => Limit_calls (min (max a (-1099511627776)) 1099511627776 - min (max b (-1099511627776)) 1099511627776) w_) ?_
 refine oR [oF 6] [(4, vI (min (max (min (max a (-1099511627776)) 1099511627776 - min (max b (-1099511627776)) 1099511627776) (-1099511627776)) 1099511627776))] [4] (by kernel_rfl) ?_
 refine ops_nil ?_
 refine fin_then ?_
 refine st_ret ?_
 refine fin_ret [.tmp 4] [vI (min (max (min (max a (-1099511627776)) 1099511627776 - min (max b (-1099511627776)) 1099511627776) (-1099511627776)) 1099511627776)] rfl rfl (fun w_ hM => (.tmp rfl .nil)) (fun w_ hM => ?_)
 refine ⟨?_, hM.done⟩
 rfl
set_option maxHeartbeats 4000000 in
set_option maxRecDepth 100000 in
theorem Mul_calls (a b : Int) (w : World) : Calls Try.prog 15 #[vI a, vI b] w fun e w' => e = .returned (vI (thruV a b 65536)) ∧ Below w.heap.size w w' := by
 refine sx_calls Try.func15 rfl (n := 8) (by kernel_rfl) (l := [(0, vI a), (1, vI b)]) rfl (by rfl) (Mem.nil w) ?_
 refine st_seq ?_
 refine st_region [oF 0] (by rfl) ?_
 refine oR [oF 0] [(0, vI a), (1, vI b)] [0, 1] (by kernel_rfl) ?_
 refine ops_nil ?_
 refine fin_then ?_
 refine st_seq ?_
 refine st_region [oF 0, oF 1, oF 2, oF 3] (by rfl) ?_
 refine oR [oF 0, oF 1] [(6, vI b), (5, vI a)] [6, 5] (by kernel_rfl) ?_
 refine oC (some 7) 25 #[vI a, vI b, vI 65536] (vI (thruV a b 65536)) ⟨by kernel_rfl⟩ (fun w_ hM => MulDiv_calls a b 65536 w_) ?_
 refine oR [oF 3] [(4, vI (thruV a b 65536))] [4] (by kernel_rfl) ?_
 refine ops_nil ?_
 refine fin_then ?_
 refine st_ret ?_
 refine fin_ret [.tmp 4] [vI (thruV a b 65536)] rfl rfl (fun w_ hM => (.tmp rfl .nil)) (fun w_ hM => ?_)
 refine ⟨?_, hM.done⟩
 rfl
set_option maxHeartbeats 4000000 in
set_option maxRecDepth 100000 in
theorem Product_calls (a b : Int) (w : World) : Calls Try.prog 24 #[vI a, vI b] w fun e w' => e = .returned (vI (thruV a b 65536)) ∧ Below w.heap.size w w' := by
 refine sx_calls Try.func24 rfl (n := 8) (by kernel_rfl) (l := [(0, vI a), (1, vI b)]) rfl (by rfl) (Mem.nil w) ?_
 refine st_seq ?_
 refine st_region [oF 0] (by rfl) ?_
 refine oR [oF 0] [(0, vI a), (1, vI b)] [0, 1] (by kernel_rfl) ?_
 refine ops_nil ?_
 refine fin_then ?_
 refine st_seq ?_
 refine st_region [oF 0, oF 1, oF 2, oF 3] (by rfl) ?_
 refine oR [oF 0, oF 1] [(6, vI b), (5, vI a)] [6, 5] (by kernel_rfl) ?_
 refine oC (some 7) 17 #[vI a, vI b, vI 65536] (vI (thruV a b 65536)) ⟨by kernel_rfl⟩ (fun w_ hM => Through_calls a b 65536 w_) ?_
 refine oR [oF 3] [(4, vI (thruV a b 65536))] [4] (by kernel_rfl) ?_
 refine ops_nil ?_
 refine fin_then ?_
 refine st_ret ?_
 refine fin_ret [.tmp 4] [vI (thruV a b 65536)] rfl rfl (fun w_ hM => (.tmp rfl .nil)) (fun w_ hM => ?_)
 refine ⟨?_, hM.done⟩
 rfl
set_option maxHeartbeats 4000000 in
set_option maxRecDepth 100000 in
theorem Div_zero (a : Int) (w : World) : Calls Try.prog 16 #[vI a, vI 0] w fun e w' => e = .returned (.tuple #[vI 0, vI 17]) ∧ Below w.heap.size w w' := by
 refine sx_calls Try.func16 rfl (n := 11) (by kernel_rfl) (l := [(0, vI a), (1, vI 0)]) rfl (by rfl) (Mem.nil w) ?_
 refine st_seq ?_
 refine st_region [oF 0, oF 1] (by rfl) ?_
 refine oR [oF 0, oF 1] [(0, vI a), (1, vI 0)] [0, 1] (by kernel_rfl) ?_
 refine ops_nil ?_
 refine fin_then ?_
 refine st_seq ?_
 refine st_seq ?_
 refine st_region [oF 0, oF 1] (by rfl) ?_
 refine oR [oF 0, oF 1] [(7, .bool true), (0, vI a), (1, vI 0)] [7, 0, 1] (by kernel_rfl) ?_
 refine ops_nil ?_
 refine fin_then ?_
 refine st_true rfl ?_
 refine st_seq ?_
 refine st_region [oF 0, oF 1] (by rfl) ?_
 refine oR [oF 0, oF 1] [(5, vI 17), (4, vI 0)] [5, 4] (by kernel_rfl) ?_
 refine ops_nil ?_
 refine fin_then ?_
 refine st_ret ?_
 refine fin_ret_then ?_
 refine fin_ret [.tmp 4, .tmp 5] [vI 0, vI 17] rfl rfl (fun w_ hM => (.tmp rfl (.tmp rfl .nil))) (fun w_ hM => ?_)
 refine ⟨?_, hM.done⟩
 rfl
set_option maxHeartbeats 4000000 in
set_option maxRecDepth 100000 in
theorem Div_some (a b : Int) (w : World) (hb : b ≠ 0) : Calls Try.prog 16 #[vI a, vI b] w fun e w' => e = .returned (.tuple #[vI (thruV a 65536 b), vI 0]) ∧ Below w.heap.size w w' := by
 refine sx_calls Try.func16 rfl (n := 11) (by kernel_rfl) (l := [(0, vI a), (1, vI b)]) rfl (by rfl) (Mem.nil w) ?_
 refine st_seq ?_
 refine st_region [oF 0, oF 1] (by rfl) ?_
 refine oR [oF 0, oF 1] [(0, vI a), (1, vI b)] [0, 1] (by kernel_rfl) ?_
 refine ops_nil ?_
 refine fin_then ?_
 refine st_seq ?_
 refine st_seq ?_
 refine st_region [oF 0, oF 1] (by rfl) ?_
 refine oR [oF 0, oF 1] [(7, .bool (b == 0)), (0, vI a), (1, vI b)] [7, 0, 1] (by kernel_rfl) ?_
 refine ops_nil ?_
 refine fin_then ?_
 refine st_conv (l' := [(7, .bool false), (0, vI a), (1, vI b)]) (by rw [(show (b == 0) = false by simp; omega)]) (fun _ h => h) ?_
 refine st_false rfl ?_
 refine st_skip ?_
 refine fin_then ?_
 refine st_seq ?_
 refine st_region [oF 0, oF 1, oF 2, oF 3, oF 4] (by rfl) ?_
 refine oR [oF 0, oF 1] [(9, vI b), (8, vI a)] [9, 8] (by kernel_rfl) ?_
 refine oC (some 10) 25 #[vI a, vI 65536, vI b] (vI (thruV a 65536 b)) ⟨by kernel_rfl⟩ (fun w_ hM => MulDiv_calls a 65536 b w_) ?_
 refine oR [oF 3, oF 4] [(5, vI 0), (4, vI (thruV a 65536 b))] [5, 4] (by kernel_rfl) ?_
 refine ops_nil ?_
 refine fin_then ?_
 refine st_ret ?_
 refine fin_ret [.tmp 4, .tmp 5] [vI (thruV a 65536 b), vI 0] rfl rfl (fun w_ hM => (.tmp rfl (.tmp rfl .nil))) (fun w_ hM => ?_)
 refine ⟨?_, hM.done⟩
 rfl
end Go.Proofs.Ytioijglogoppnaa.WFix
