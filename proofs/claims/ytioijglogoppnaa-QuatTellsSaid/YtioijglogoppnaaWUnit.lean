/- Walks of the program's making of even numbers. No condition. -/
import Derived.Test.YtioijglogoppnaaProg
import Derived.Test.YtioijglogoppnaaSxOps
import Derived.Test.YtioijglogoppnaaQuatSpec
import Derived.Test.YtioijglogoppnaaWMul
import Derived.Test.YtioijglogoppnaaWRoot
import Derived.Test.YtioijglogoppnaaWFix
namespace Go.Proofs.Ytioijglogoppnaa.WUnit
open Go Go.RowKit Go.Proofs.Ytioijglogoppnaa.Sx Go.Proofs.Ytioijglogoppnaa.Rnd Go.Proofs.Ytioijglogoppnaa.Nats Go.Proofs.Ytioijglogoppnaa.Trig Go.Proofs.Ytioijglogoppnaa.Root Go.Proofs.Ytioijglogoppnaa.Vecs Go.Proofs.Ytioijglogoppnaa.Divs Go.Proofs.Ytioijglogoppnaa.Quats Go.Proofs.Ytioijglogoppnaa.WMul Go.Proofs.Ytioijglogoppnaa.WRoot Go.Proofs.Ytioijglogoppnaa.WFix Go.Proofs.Ytioijglogoppnaa.WClamp
set_option linter.unusedVariables false
set_option linter.unusedSimpArgs false
theorem Add_v (a b : Int) (w : World) : Calls Try.prog 20 #[.int .i64 a, .int .i64 b] w fun e w' => e = .returned (.int .i64 (addV a b)) ∧ Below w.heap.size w w' := Add_calls a b w
theorem Sub_v (a b : Int) (w : World) : Calls Try.prog 22 #[.int .i64 a, .int .i64 b] w fun e w' => e = .returned (.int .i64 (subV a b)) ∧ Below w.heap.size w w' := Sub_calls a b w
theorem Mul_v (a b : Int) (w : World) : Calls Try.prog 15 #[.int .i64 a, .int .i64 b] w fun e w' => e = .returned (.int .i64 (mulV a b)) ∧ Below w.heap.size w w' := Mul_calls a b w
theorem Sum_v (a b : Int) (w : World) : Calls Try.prog 21 #[.int .i64 a, .int .i64 b] w fun e w' => e = .returned (.int .i64 (addV a b)) ∧ Below w.heap.size w w' := Sum_calls a b w
theorem Less_v (a b : Int) (w : World) : Calls Try.prog 23 #[.int .i64 a, .int .i64 b] w fun e w' => e = .returned (.int .i64 (subV a b)) ∧ Below w.heap.size w w' := Less_calls a b w
theorem Product_v (a b : Int) (w : World) : Calls Try.prog 24 #[.int .i64 a, .int .i64 b] w fun e w' => e = .returned (.int .i64 (mulV a b)) ∧ Below w.heap.size w w' := Product_calls a b w
theorem Clamp_v (a : Int) (w : World) : Calls Try.prog 18 #[.int .i64 a] w fun e w' => e = .returned (.int .i64 (clV a)) ∧ Below w.heap.size w w' := Clamp_calls a w
theorem Limit_v (a : Int) (w : World) : Calls Try.prog 19 #[.int .i64 a] w fun e w' => e = .returned (.int .i64 (clV a)) ∧ Below w.heap.size w w' := Limit_calls a w
set_option maxHeartbeats 4000000 in
set_option maxRecDepth 100000 in
theorem unit_nil (A0 : Option Addr) (c0 : Nat) (l : List Int) (w : World) (hr : RInts .i64 A0 l w) (hn : l.length ≤ 4) (h0 : farK l l.length = 0) : Calls Try.prog 103 #[.slice A0 l.length c0] w fun e w' => e = .returned (.tuple #[.slice none 0 0, .bool false]) ∧ Below w.heap.size w w' := by
 refine sx_calls Try.func103 rfl (n := 139) (by kernel_rfl) (l := [(0, .slice A0 l.length c0)]) rfl (by rfl) (Mem.nil w) ?_
 refine st_seq ?_
 refine st_region [oF 0, oF 1] (by rfl) ?_
 refine oR [oF 0, oF 1] [(0, .slice A0 l.length c0)] [0] (by kernel_rfl) ?_
 refine ops_nil ?_
 refine fin_then ?_
 refine st_seq ?_
 refine st_region [oF 0] (by rfl) ?_
 refine oR [oF 0] [(4, vI 0), (0, .slice A0 l.length c0)] [4, 0] (by kernel_rfl) ?_
 refine ops_nil ?_
 refine fin_then ?_
 refine st_seq ?_
 refine st_region [oF 0, oF 1, oF 2, oF 3] (by rfl) ?_
 refine oR [oF 0, oF 1] [(21, vI (l.length : Int)), (4, vI 0), (0, .slice A0 l.length c0)] [21, 4, 0] (by kernel_rfl) ?_
 refine ops_make (t := 91) (x := (Go.Operand.tmp 21)) (y := (Go.Operand.tmp 21)) (d := some 22) (nn := l.length) (z := 1) (bytes := 8) (xs := iv .i64 (List.replicate l.length 0)) ⟨by kernel_rfl⟩ rfl rfl (by first | rfl | omega) (by first | rfl | omega) Try.underlying91 (by kernel_rfl) (by omega) (by rfl) (made_ints _ _) (fun _ _ _ hS h' => trivial) (fun b1 => ?_)
 refine oR [oF 3] [(5, .slice (some ⟨b1, 0, none⟩) l.length l.length), (4, vI 0), (0, .slice A0 l.length c0)] [5, 4, 0] (by kernel_rfl) ?_
 refine ops_nil ?_
 refine fin_then ?_
 refine st_seq ?_
 refine st_seq ?_
 refine st_region [oF 0, oF 1, oF 2] (by rfl) ?_
 refine oR [oF 0, oF 1, oF 2] [(25, vI 0), (24, vI (l.length : Int)), (23, .slice A0 l.length c0), (5, .slice (some ⟨b1, 0, none⟩) l.length l.length), (4, vI 0)] [25, 24, 23, 5, 4] (by kernel_rfl) ?_
 refine ops_nil ?_
 refine fin_then ?_
 refine st_block ?_
 refine st_loop (σ := Nat) 0 (fun k => [(25, vI (k : Int)), (24, vI (l.length : Int)), (23, .slice A0 l.length c0), (5, .slice (some ⟨b1, 0, none⟩) l.length l.length), (4, vI (farK l k))]) (fun k => Mem w [.row (some ⟨b1, 0, none⟩) l.length l.length 3 1 (iv .i64 (fillK l k))]) (fun k => k ≤ l.length) (fun k => l.length - k) (by exact Nat.zero_le _) (look_has ⟨rfl, rfl, rfl, rfl, rfl, trivial⟩) (fun w_ hM => by exact hM) ?_
 rintro k hI
 have hIk : k ≤ l.length := hI
 refine st_seq ?_
 refine st_region [oF 0] (by rfl) ?_
 refine oR [oF 0] [(26, .bool (decide ((k : Int) < (l.length : Int)))), (25, vI (k : Int)), (24, vI (l.length : Int)), (23, .slice A0 l.length c0), (5, .slice (some ⟨b1, 0, none⟩) l.length l.length), (4, vI (farK l k))] [26, 25, 24, 23, 5, 4] (by kernel_rfl) ?_
 refine ops_nil ?_
 refine fin_then ?_
 refine st_seq ?_
 refine st_if (b := decide ((k : Int) < (l.length : Int))) rfl (fun hc2 => ?_) (fun hc2 => ?_)
 · --
  have hk : k < l.length := by have := of_decide_eq_true hc2; omega
  have hk1 : IntKind.i64.wrap ((k : Int) + 1) = ((k + 1 : Nat) : Int) := succ_i64 (by omega)
  have hfl : (fillK l k).length = l.length := setK_length _ (by omega)
  have hgs : ((fillK l k).set k (clV (l.getD k 0))).getD k 0 = clV (l.getD k 0) := getD_set_self (by omega)
  have hfb := farK_ok l k
  have hfk : max (max (farK l k) (clV (l.getD k 0))) (0 - clV (l.getD k 0)) = farK l (k + 1) := by simp only [farK]; omega
  refine st_skip ?_
  refine fin_then ?_
  refine st_seq ?_
  refine st_block ?_
  refine st_seq ?_
  refine st_region [oF 0, oF 1, oF 2, oF 3, oF 4] (by rfl) ?_
  refine oR [oF 0] [(27, vI (k : Int)), (25, vI (k : Int)), (24, vI (l.length : Int)), (23, .slice A0 l.length c0), (5, .slice (some ⟨b1, 0, none⟩) l.length l.length), (4, vI (farK l k))] [27, 25, 24, 23, 5, 4] (by kernel_rfl) ?_
  obtain ⟨ad3, hA4, hx5⟩ := hr k (by first | omega | (simp only [hfl, List.length_set, List.length_append, List.length_cons, List.length_nil, List.length_replicate] at *; omega) | (simp [hfl, List.length_set, List.length_append, List.length_cons, List.length_nil, List.length_replicate]; done))
  refine ops_val (op := (Go.Op.indexAddr 91 (Go.Operand.tmp 23) (Go.Operand.tmp 25))) (d := some 28) (v := .pointer (some (ad3.add k))) ⟨by kernel_rfl⟩ (run_index1 hA4 Try.underlying91 (by kernel_rfl) rfl rfl (m := k) (by first | rfl | omega) (by first | omega | (simp only [hfl, List.length_set, List.length_append, List.length_cons, List.length_nil, List.length_replicate] at *; omega) | (simp [hfl, List.length_set, List.length_append, List.length_cons, List.length_nil, List.length_replicate]; done))) ?_
  refine oR [] [(28, .pointer (some (ad3.add k))), (27, vI (k : Int)), (25, vI (k : Int)), (24, vI (l.length : Int)), (23, .slice A0 l.length c0), (5, .slice (some ⟨b1, 0, none⟩) l.length l.length), (4, vI (farK l k))] [28, 27, 25, 24, 23, 5, 4] (by kernel_rfl) ?_
  refine ops_mem (d := some 29) (an := [.v (vI (l.getD k 0))]) (evs := [.load (ad3.add k) (vI (l.getD k 0))]) (v := vI (l.getD k 0)) (M' := Mem w [.row (some ⟨b1, 0, none⟩) l.length l.length 3 1 (iv .i64 (fillK l k))]) ⟨by kernel_rfl⟩ (fun w_ hM hS => ⟨w_, ⟨hM.oldcell hx5, rfl⟩, hM, trivial⟩) ?_
  refine oR [oF 3, oF 4] [(7, vI (l.getD k 0)), (6, vI (k : Int)), (25, vI (k : Int)), (24, vI (l.length : Int)), (23, .slice A0 l.length c0), (5, .slice (some ⟨b1, 0, none⟩) l.length l.length), (4, vI (farK l k))] [7, 6, 25, 24, 23, 5, 4] (by kernel_rfl) ?_
  refine ops_nil ?_
  refine fin_then ?_
  refine st_seq ?_
  refine st_region [oF 0, oF 1, oF 2, oF 3, oF 4, oF 5] (by rfl) ?_
  refine oR [oF 0, oF 1, oF 2] [(32, vI (l.getD k 0)), (31, vI (k : Int)), (30, .slice (some ⟨b1, 0, none⟩) l.length l.length), (6, vI (k : Int)), (25, vI (k : Int)), (24, vI (l.length : Int)), (23, .slice A0 l.length c0), (5, .slice (some ⟨b1, 0, none⟩) l.length l.length), (4, vI (farK l k))] [32, 31, 30, 6, 25, 24, 23, 5, 4] (by kernel_rfl) ?_
  refine oC (some 33) 18 #[vI (l.getD k 0)] (vI (clV (l.getD k 0))) ⟨by kernel_rfl⟩ (fun w_ hM => Clamp_v (l.getD k 0) w_) ?_
  refine oR [] [(33, vI (clV (l.getD k 0))), (31, vI (k : Int)), (30, .slice (some ⟨b1, 0, none⟩) l.length l.length), (6, vI (k : Int)), (25, vI (k : Int)), (24, vI (l.length : Int)), (23, .slice A0 l.length c0), (5, .slice (some ⟨b1, 0, none⟩) l.length l.length), (4, vI (farK l k))] [33, 31, 30, 6, 25, 24, 23, 5, 4] (by kernel_rfl) ?_
  refine ops_val (op := (Go.Op.indexAddr 91 (Go.Operand.tmp 30) (Go.Operand.tmp 31))) (d := some 34) (v := vP b1 k) ⟨by kernel_rfl⟩ (run_indexRow Try.underlying91 (z := 1) (by kernel_rfl) rfl rfl (m := k) (by first | rfl | omega) (by first | omega | (simp only [hfl, List.length_set, List.length_append, List.length_cons, List.length_nil, List.length_replicate] at *; omega) | (simp [hfl, List.length_set, List.length_append, List.length_cons, List.length_nil, List.length_replicate]; done)) (by exact Nat.mul_one _)) ?_
  refine oR [] [(34, vP b1 k), (33, vI (clV (l.getD k 0))), (6, vI (k : Int)), (25, vI (k : Int)), (24, vI (l.length : Int)), (23, .slice A0 l.length c0), (5, .slice (some ⟨b1, 0, none⟩) l.length l.length), (4, vI (farK l k))] [34, 33, 6, 25, 24, 23, 5, 4] (by kernel_rfl) ?_
  refine ops_store (an := []) (evs := [.store ⟨b1, k, none⟩ (vI (clV (l.getD k 0)))]) (M' := Mem w [.row (some ⟨b1, 0, none⟩) l.length l.length 3 1 (iv .i64 ((fillK l k).set k (clV (l.getD k 0))))]) ⟨by kernel_rfl⟩ (fun w_ hM hS => let ⟨w', he, h'⟩ := hM.rowstore 0 rfl (k) (vI (clV (l.getD k 0))) (by rw [iv_length]; first | omega | (simp only [hfl, List.length_set, List.length_append, List.length_cons, List.length_nil, List.length_replicate] at *; omega) | (simp [hfl, List.length_set, List.length_append, List.length_cons, List.length_nil, List.length_replicate]; done)); ⟨w', he, (by rw [iv_set] at h'; exact h'), trivial⟩) ?_
  refine oR [] [(6, vI (k : Int)), (25, vI (k : Int)), (24, vI (l.length : Int)), (23, .slice A0 l.length c0), (5, .slice (some ⟨b1, 0, none⟩) l.length l.length), (4, vI (farK l k))] [6, 25, 24, 23, 5, 4] (by kernel_rfl) ?_
  refine ops_nil ?_
  refine fin_then ?_
  refine st_region_draw [oT 0, oT 1, oT 2, oT 3, oT 4, oT 5, oT 6, oT 7, oT 8, oT 9, oT 10, oT 11] (Mem w [.row (some ⟨b1, 0, none⟩) l.length l.length 3 1 (iv .i64 ((fillK l k).set k (clV (l.getD k 0))))]) (by kernel_rfl) (by kernel_rfl) (by kernel_rfl) (fun _ d _ _ _ h => by cases d <;> exact h) (M' := Mem w [.row (some ⟨b1, 0, none⟩) l.length l.length 3 1 (iv .i64 ((fillK l k).set k (clV (l.getD k 0))))]) (fun w_ hM => ⟨hM.drew, hM.drew.sub (.cons_cons _ .slnil)⟩) ?_
  refine oR [oT 0, oT 1, oT 2] [(37, vI (k : Int)), (36, .slice (some ⟨b1, 0, none⟩) l.length l.length), (35, vI (farK l k)), (6, vI (k : Int)), (25, vI (k : Int)), (24, vI (l.length : Int)), (23, .slice A0 l.length c0), (5, .slice (some ⟨b1, 0, none⟩) l.length l.length), (4, vI (farK l k))] [37, 36, 35, 6, 25, 24, 23, 5, 4] (by kernel_rfl) ?_
  refine ops_val (op := (Go.Op.indexAddr 91 (Go.Operand.tmp 36) (Go.Operand.tmp 37))) (d := some 38) (v := vP b1 k) ⟨by kernel_rfl⟩ (run_indexRow Try.underlying91 (z := 1) (by kernel_rfl) rfl rfl (m := k) (by first | rfl | omega) (by first | omega | (simp only [hfl, List.length_set, List.length_append, List.length_cons, List.length_nil, List.length_replicate] at *; omega) | (simp [hfl, List.length_set, List.length_append, List.length_cons, List.length_nil, List.length_replicate]; done)) (by exact Nat.mul_one _)) ?_
  refine oR [] [(38, vP b1 k), (35, vI (farK l k)), (6, vI (k : Int)), (25, vI (k : Int)), (24, vI (l.length : Int)), (23, .slice A0 l.length c0), (5, .slice (some ⟨b1, 0, none⟩) l.length l.length), (4, vI (farK l k))] [38, 35, 6, 25, 24, 23, 5, 4] (by kernel_rfl) ?_
  refine ops_load (d := some 39) (an := [.v (vI (((fillK l k).set k (clV (l.getD k 0))).getD k 0))]) (evs := [.load ⟨b1, k, none⟩ (vI (((fillK l k).set k (clV (l.getD k 0))).getD k 0))]) (v := vI (((fillK l k).set k (clV (l.getD k 0))).getD k 0)) ⟨by kernel_rfl⟩ (fun w_ hM => ⟨hM.rowcell 0 rfl (iv_get (by first | omega | (simp only [hfl, List.length_set, List.length_append, List.length_cons, List.length_nil, List.length_replicate] at *; omega) | (simp [hfl, List.length_set, List.length_append, List.length_cons, List.length_nil, List.length_replicate]; done))), rfl⟩) ?_
  refine oR [] [(39, vI (((fillK l k).set k (clV (l.getD k 0))).getD k 0)), (35, vI (farK l k)), (6, vI (k : Int)), (25, vI (k : Int)), (24, vI (l.length : Int)), (23, .slice A0 l.length c0), (5, .slice (some ⟨b1, 0, none⟩) l.length l.length), (4, vI (farK l k))] [39, 35, 6, 25, 24, 23, 5, 4] (by kernel_rfl) ?_
  refine ops_conv (l' := [(39, vI (clV (l.getD k 0))), (35, vI (farK l k)), (6, vI (k : Int)), (25, vI (k : Int)), (24, vI (l.length : Int)), (23, .slice A0 l.length c0), (5, .slice (some ⟨b1, 0, none⟩) l.length l.length), (4, vI (farK l k))]) (by rw [hgs]) (fun _ h => h) ?_
  refine oR [oT 5, oT 6] [(41, vI (k : Int)), (40, .slice (some ⟨b1, 0, none⟩) l.length l.length), (39, vI (clV (l.getD k 0))), (35, vI (farK l k)), (25, vI (k : Int)), (24, vI (l.length : Int)), (23, .slice A0 l.length c0), (5, .slice (some ⟨b1, 0, none⟩) l.length l.length), (4, vI (farK l k))] [41, 40, 39, 35, 25, 24, 23, 5, 4] (by kernel_rfl) ?_
  refine ops_val (op := (Go.Op.indexAddr 91 (Go.Operand.tmp 40) (Go.Operand.tmp 41))) (d := some 42) (v := vP b1 k) ⟨by kernel_rfl⟩ (run_indexRow Try.underlying91 (z := 1) (by kernel_rfl) rfl rfl (m := k) (by first | rfl | omega) (by first | omega | (simp only [hfl, List.length_set, List.length_append, List.length_cons, List.length_nil, List.length_replicate] at *; omega) | (simp [hfl, List.length_set, List.length_append, List.length_cons, List.length_nil, List.length_replicate]; done)) (by exact Nat.mul_one _)) ?_
  refine oR [] [(42, vP b1 k), (39, vI (clV (l.getD k 0))), (35, vI (farK l k)), (25, vI (k : Int)), (24, vI (l.length : Int)), (23, .slice A0 l.length c0), (5, .slice (some ⟨b1, 0, none⟩) l.length l.length), (4, vI (farK l k))] [42, 39, 35, 25, 24, 23, 5, 4] (by kernel_rfl) ?_
  refine ops_load (d := some 43) (an := [.v (vI (((fillK l k).set k (clV (l.getD k 0))).getD k 0))]) (evs := [.load ⟨b1, k, none⟩ (vI (((fillK l k).set k (clV (l.getD k 0))).getD k 0))]) (v := vI (((fillK l k).set k (clV (l.getD k 0))).getD k 0)) ⟨by kernel_rfl⟩ (fun w_ hM => ⟨hM.rowcell 0 rfl (iv_get (by first | omega | (simp only [hfl, List.length_set, List.length_append, List.length_cons, List.length_nil, List.length_replicate] at *; omega) | (simp [hfl, List.length_set, List.length_append, List.length_cons, List.length_nil, List.length_replicate]; done))), rfl⟩) ?_
  refine oR [] [(43, vI (((fillK l k).set k (clV (l.getD k 0))).getD k 0)), (39, vI (clV (l.getD k 0))), (35, vI (farK l k)), (25, vI (k : Int)), (24, vI (l.length : Int)), (23, .slice A0 l.length c0), (5, .slice (some ⟨b1, 0, none⟩) l.length l.length), (4, vI (farK l k))] [43, 39, 35, 25, 24, 23, 5, 4] (by kernel_rfl) ?_
  refine ops_conv (l' := [(43, vI (clV (l.getD k 0))), (39, vI (clV (l.getD k 0))), (35, vI (farK l k)), (25, vI (k : Int)), (24, vI (l.length : Int)), (23, .slice A0 l.length c0), (5, .slice (some ⟨b1, 0, none⟩) l.length l.length), (4, vI (farK l k))]) (by rw [hgs]) (fun _ h => h) ?_
  refine oR [oT 9] [(44, vI (IntKind.i64.wrap (0 - clV (l.getD k 0)))), (39, vI (clV (l.getD k 0))), (35, vI (farK l k)), (25, vI (k : Int)), (24, vI (l.length : Int)), (23, .slice A0 l.length c0), (5, .slice (some ⟨b1, 0, none⟩) l.length l.length), (4, vI (farK l k))] [44, 39, 35, 25, 24, 23, 5, 4] (by kernel_rfl) ?_
  refine ops_conv (l' := [(44, vI (0 - clV (l.getD k 0))), (39, vI (clV (l.getD k 0))), (35, vI (farK l k)), (25, vI (k : Int)), (24, vI (l.length : Int)), (23, .slice A0 l.length c0), (5, .slice (some ⟨b1, 0, none⟩) l.length l.length), (4, vI (farK l k))]) (by rw [(neg_cl (l.getD k 0))]) (fun _ h => h) ?_
  refine ops_val (op := (Go.Op.call { callee := (Go.Callee.builtin Go.Builtin.max), args := #[(Go.Operand.tmp 35), (Go.Operand.tmp 39), (Go.Operand.tmp 44)], argTypes := #[3, 3, 3] })) (d := some 45) (v := vI (max (max (farK l k) (clV (l.getD k 0))) (0 - clV (l.getD k 0)))) ⟨by kernel_rfl⟩ (run_max3 rfl rfl rfl) ?_
  refine oR [] [(45, vI (max (max (farK l k) (clV (l.getD k 0))) (0 - clV (l.getD k 0)))), (25, vI (k : Int)), (24, vI (l.length : Int)), (23, .slice A0 l.length c0), (5, .slice (some ⟨b1, 0, none⟩) l.length l.length), (4, vI (farK l k))] [45, 25, 24, 23, 5, 4] (by kernel_rfl) ?_
  refine ops_conv (l' := [(45, vI (farK l (k + 1))), (25, vI (k : Int)), (24, vI (l.length : Int)), (23, .slice A0 l.length c0), (5, .slice (some ⟨b1, 0, none⟩) l.length l.length), (4, vI (farK l k))]) (by rw [hfk]) (fun _ h => h) ?_
  refine oR [oT 11] [(4, vI (farK l (k + 1))), (25, vI (k : Int)), (24, vI (l.length : Int)), (23, .slice A0 l.length c0), (5, .slice (some ⟨b1, 0, none⟩) l.length l.length)] [4, 25, 24, 23, 5] (by kernel_rfl) ?_
  refine ops_nil ?_
  refine fin_block ?_
  refine fin_then ?_
  refine st_region [oF 0, oF 1] (by rfl) ?_
  refine oR [oF 0] [(46, vI (IntKind.i64.wrap ((k : Int) + 1))), (4, vI (farK l (k + 1))), (25, vI (k : Int)), (24, vI (l.length : Int)), (23, .slice A0 l.length c0), (5, .slice (some ⟨b1, 0, none⟩) l.length l.length)] [46, 4, 25, 24, 23, 5] (by kernel_rfl) ?_
  refine ops_conv (l' := [(46, vI ((k + 1 : Nat) : Int)), (4, vI (farK l (k + 1))), (25, vI (k : Int)), (24, vI (l.length : Int)), (23, .slice A0 l.length c0), (5, .slice (some ⟨b1, 0, none⟩) l.length l.length)]) (by rw [hk1]) (fun _ h => h) ?_
  refine oR [oF 1] [(25, vI ((k + 1 : Nat) : Int)), (4, vI (farK l (k + 1))), (24, vI (l.length : Int)), (23, .slice A0 l.length c0), (5, .slice (some ⟨b1, 0, none⟩) l.length l.length)] [25, 4, 24, 23, 5] (by kernel_rfl) ?_
  refine ops_nil ?_
  refine fin_round (k + 1) (by omega) (by omega) (look_has ⟨rfl, rfl, rfl, rfl, rfl, trivial⟩) (fun w_ hM => by exact hM)
 · --
  have hk : k = l.length := by have := of_decide_eq_false hc2; omega
  refine st_exit ?_
  refine fin_exit_then ?_
  refine fin_exit_then ?_
  refine fin_exit ?_
  refine fin_then ?_
  refine st_seq ?_
  refine st_seq ?_
  refine st_region [oF 0, oF 1] (by rfl) ?_
  refine oR [oF 0, oF 1] [(48, .bool (farK l k == 0)), (5, .slice (some ⟨b1, 0, none⟩) l.length l.length), (4, vI (farK l k))] [48, 5, 4] (by kernel_rfl) ?_
  refine ops_nil ?_
  refine fin_then ?_
  refine st_conv (l' := [(48, .bool true), (5, .slice (some ⟨b1, 0, none⟩) l.length l.length), (4, vI (farK l k))]) (by rw [(show (farK l k == 0) = true by rw [hk]; simp [h0])]) (fun _ h => h) ?_
  refine st_true rfl ?_
  refine st_seq ?_
  refine st_region [oF 0, oF 1] (by rfl) ?_
  refine oR [oF 0, oF 1] [(3, .bool false), (2, .slice none 0 0)] [3, 2] (by kernel_rfl) ?_
  refine ops_nil ?_
  refine fin_then ?_
  refine st_ret ?_
  refine fin_ret_then ?_
  refine fin_ret [.tmp 2, .tmp 3] [.slice none 0 0, .bool false] rfl rfl (fun w_ hM => (.tmp rfl (.tmp rfl .nil))) (fun w_ hM => ?_)
  refine ⟨?_, hM.done⟩
  rfl
theorem Mul_nn (m : Nat) (w : World) (h : m ≤ 2199023255552) : Calls Try.prog 94 #[.int .u64 ((m : Nat) : Int), .int .u64 ((m : Nat) : Int)] w fun e w' => e = .returned (.tuple #[.int .u64 (((m * m : Nat) : Int) / 18446744073709551616), .int .u64 (((m * m : Nat) : Int) % 18446744073709551616)]) ∧ Below w.heap.size w w' := by
  have h2 := Mul64_calls (m : Int) (m : Int) w (by omega) (by omega) (by omega) (by omega)
  rwa [show (m : Int) * (m : Int) = ((m * m : Nat) : Int) by simp] at h2
theorem Root_whole (S : Nat) (w : World) (h : S < 340282366920938463463374607431768211456) : Calls Try.prog 129 #[.int .u64 ((S : Int) / 18446744073709551616), .int .u64 ((S : Int) % 18446744073709551616)] w fun e w' => e = .returned (.int .u64 ((rootN S : Nat) : Int)) ∧ Below w.heap.size w w' := by
  have h2 := Root_calls ((S : Int) / 18446744073709551616) ((S : Int) % 18446744073709551616) w (by omega) (by omega) (by omega) (by omega)
  rwa [show num ((S : Int) / 18446744073709551616) ((S : Int) % 18446744073709551616) = S by unfold num; omega] at h2
theorem tdiv_small {n d : Int} (hd : 0 < d) : (Int.tdiv n d).natAbs ≤ n.natAbs := by
  rw [Int.natAbs_tdiv]; exact Nat.div_le_self _ _
set_option maxHeartbeats 4000000 in
set_option maxRecDepth 100000 in
theorem unit_some (A0 : Option Addr) (c0 : Nat) (l : List Int) (w : World) (hr : RInts .i64 A0 l w) (hn : l.length ≤ 4) (h0 : 0 < farK l l.length) : Calls Try.prog 103 #[.slice A0 l.length c0] w fun e w' => ∃ x_ : Nat × Nat, e = .returned ((match x_ with | (b, c) => .tuple #[.slice (some ⟨b, 0, none⟩) l.length c, .bool true])) ∧ Mem w (match x_ with | (b, c) => [.row (some ⟨b, 0, none⟩) l.length c 3 1 (iv .i64 (evenV l))]) w' := by
 refine sx_calls Try.func103 rfl (n := 139) (by kernel_rfl) (l := [(0, .slice A0 l.length c0)]) rfl (by rfl) (Mem.nil w) ?_
 refine st_seq ?_
 refine st_region [oF 0, oF 1] (by rfl) ?_
 refine oR [oF 0, oF 1] [(0, .slice A0 l.length c0)] [0] (by kernel_rfl) ?_
 refine ops_nil ?_
 refine fin_then ?_
 refine st_seq ?_
 refine st_region [oF 0] (by rfl) ?_
 refine oR [oF 0] [(4, vI 0), (0, .slice A0 l.length c0)] [4, 0] (by kernel_rfl) ?_
 refine ops_nil ?_
 refine fin_then ?_
 refine st_seq ?_
 refine st_region [oF 0, oF 1, oF 2, oF 3] (by rfl) ?_
 refine oR [oF 0, oF 1] [(21, vI (l.length : Int)), (4, vI 0), (0, .slice A0 l.length c0)] [21, 4, 0] (by kernel_rfl) ?_
 refine ops_make (t := 91) (x := (Go.Operand.tmp 21)) (y := (Go.Operand.tmp 21)) (d := some 22) (nn := l.length) (z := 1) (bytes := 8) (xs := iv .i64 (List.replicate l.length 0)) ⟨by kernel_rfl⟩ rfl rfl (by first | rfl | omega) (by first | rfl | omega) Try.underlying91 (by kernel_rfl) (by omega) (by rfl) (made_ints _ _) (fun _ _ _ hS h' => trivial) (fun b1 => ?_)
 refine oR [oF 3] [(5, .slice (some ⟨b1, 0, none⟩) l.length l.length), (4, vI 0), (0, .slice A0 l.length c0)] [5, 4, 0] (by kernel_rfl) ?_
 refine ops_nil ?_
 refine fin_then ?_
 refine st_seq ?_
 refine st_seq ?_
 refine st_region [oF 0, oF 1, oF 2] (by rfl) ?_
 refine oR [oF 0, oF 1, oF 2] [(25, vI 0), (24, vI (l.length : Int)), (23, .slice A0 l.length c0), (5, .slice (some ⟨b1, 0, none⟩) l.length l.length), (4, vI 0)] [25, 24, 23, 5, 4] (by kernel_rfl) ?_
 refine ops_nil ?_
 refine fin_then ?_
 refine st_block ?_
 refine st_loop (σ := Nat) 0 (fun k => [(25, vI (k : Int)), (24, vI (l.length : Int)), (23, .slice A0 l.length c0), (5, .slice (some ⟨b1, 0, none⟩) l.length l.length), (4, vI (farK l k))]) (fun k => Mem w [.row (some ⟨b1, 0, none⟩) l.length l.length 3 1 (iv .i64 (fillK l k))]) (fun k => k ≤ l.length) (fun k => l.length - k) (by exact Nat.zero_le _) (look_has ⟨rfl, rfl, rfl, rfl, rfl, trivial⟩) (fun w_ hM => by exact hM) ?_
 rintro k hI
 have hIk : k ≤ l.length := hI
 refine st_seq ?_
 refine st_region [oF 0] (by rfl) ?_
 refine oR [oF 0] [(26, .bool (decide ((k : Int) < (l.length : Int)))), (25, vI (k : Int)), (24, vI (l.length : Int)), (23, .slice A0 l.length c0), (5, .slice (some ⟨b1, 0, none⟩) l.length l.length), (4, vI (farK l k))] [26, 25, 24, 23, 5, 4] (by kernel_rfl) ?_
 refine ops_nil ?_
 refine fin_then ?_
 refine st_seq ?_
 refine st_if (b := decide ((k : Int) < (l.length : Int))) rfl (fun hc2 => ?_) (fun hc2 => ?_)
 · --
  have hk : k < l.length := by have := of_decide_eq_true hc2; omega
  have hk1 : IntKind.i64.wrap ((k : Int) + 1) = ((k + 1 : Nat) : Int) := succ_i64 (by omega)
  have hfl : (fillK l k).length = l.length := setK_length _ (by omega)
  have hgs : ((fillK l k).set k (clV (l.getD k 0))).getD k 0 = clV (l.getD k 0) := getD_set_self (by omega)
  have hfb := farK_ok l k
  have hfk : max (max (farK l k) (clV (l.getD k 0))) (0 - clV (l.getD k 0)) = farK l (k + 1) := by simp only [farK]; omega
  refine st_skip ?_
  refine fin_then ?_
  refine st_seq ?_
  refine st_block ?_
  refine st_seq ?_
  refine st_region [oF 0, oF 1, oF 2, oF 3, oF 4] (by rfl) ?_
  refine oR [oF 0] [(27, vI (k : Int)), (25, vI (k : Int)), (24, vI (l.length : Int)), (23, .slice A0 l.length c0), (5, .slice (some ⟨b1, 0, none⟩) l.length l.length), (4, vI (farK l k))] [27, 25, 24, 23, 5, 4] (by kernel_rfl) ?_
  obtain ⟨ad3, hA4, hx5⟩ := hr k (by first | omega | (simp only [hfl, List.length_set, List.length_append, List.length_cons, List.length_nil, List.length_replicate] at *; omega) | (simp [hfl, List.length_set, List.length_append, List.length_cons, List.length_nil, List.length_replicate]; done))
  refine ops_val (op := (Go.Op.indexAddr 91 (Go.Operand.tmp 23) (Go.Operand.tmp 25))) (d := some 28) (v := .pointer (some (ad3.add k))) ⟨by kernel_rfl⟩ (run_index1 hA4 Try.underlying91 (by kernel_rfl) rfl rfl (m := k) (by first | rfl | omega) (by first | omega | (simp only [hfl, List.length_set, List.length_append, List.length_cons, List.length_nil, List.length_replicate] at *; omega) | (simp [hfl, List.length_set, List.length_append, List.length_cons, List.length_nil, List.length_replicate]; done))) ?_
  refine oR [] [(28, .pointer (some (ad3.add k))), (27, vI (k : Int)), (25, vI (k : Int)), (24, vI (l.length : Int)), (23, .slice A0 l.length c0), (5, .slice (some ⟨b1, 0, none⟩) l.length l.length), (4, vI (farK l k))] [28, 27, 25, 24, 23, 5, 4] (by kernel_rfl) ?_
  refine ops_mem (d := some 29) (an := [.v (vI (l.getD k 0))]) (evs := [.load (ad3.add k) (vI (l.getD k 0))]) (v := vI (l.getD k 0)) (M' := Mem w [.row (some ⟨b1, 0, none⟩) l.length l.length 3 1 (iv .i64 (fillK l k))]) ⟨by kernel_rfl⟩ (fun w_ hM hS => ⟨w_, ⟨hM.oldcell hx5, rfl⟩, hM, trivial⟩) ?_
  refine oR [oF 3, oF 4] [(7, vI (l.getD k 0)), (6, vI (k : Int)), (25, vI (k : Int)), (24, vI (l.length : Int)), (23, .slice A0 l.length c0), (5, .slice (some ⟨b1, 0, none⟩) l.length l.length), (4, vI (farK l k))] [7, 6, 25, 24, 23, 5, 4] (by kernel_rfl) ?_
  refine ops_nil ?_
  refine fin_then ?_
  refine st_seq ?_
  refine st_region [oF 0, oF 1, oF 2, oF 3, oF 4, oF 5] (by rfl) ?_
  refine oR [oF 0, oF 1, oF 2] [(32, vI (l.getD k 0)), (31, vI (k : Int)), (30, .slice (some ⟨b1, 0, none⟩) l.length l.length), (6, vI (k : Int)), (25, vI (k : Int)), (24, vI (l.length : Int)), (23, .slice A0 l.length c0), (5, .slice (some ⟨b1, 0, none⟩) l.length l.length), (4, vI (farK l k))] [32, 31, 30, 6, 25, 24, 23, 5, 4] (by kernel_rfl) ?_
  refine oC (some 33) 18 #[vI (l.getD k 0)] (vI (clV (l.getD k 0))) ⟨by kernel_rfl⟩ (fun w_ hM => Clamp_v (l.getD k 0) w_) ?_
  refine oR [] [(33, vI (clV (l.getD k 0))), (31, vI (k : Int)), (30, .slice (some ⟨b1, 0, none⟩) l.length l.length), (6, vI (k : Int)), (25, vI (k : Int)), (24, vI (l.length : Int)), (23, .slice A0 l.length c0), (5, .slice (some ⟨b1, 0, none⟩) l.length l.length), (4, vI (farK l k))] [33, 31, 30, 6, 25, 24, 23, 5, 4] (by kernel_rfl) ?_
  refine ops_val (op := (Go.Op.indexAddr 91 (Go.Operand.tmp 30) (Go.Operand.tmp 31))) (d := some 34) (v := vP b1 k) ⟨by kernel_rfl⟩ (run_indexRow Try.underlying91 (z := 1) (by kernel_rfl) rfl rfl (m := k) (by first | rfl | omega) (by first | omega | (simp only [hfl, List.length_set, List.length_append, List.length_cons, List.length_nil, List.length_replicate] at *; omega) | (simp [hfl, List.length_set, List.length_append, List.length_cons, List.length_nil, List.length_replicate]; done)) (by exact Nat.mul_one _)) ?_
  refine oR [] [(34, vP b1 k), (33, vI (clV (l.getD k 0))), (6, vI (k : Int)), (25, vI (k : Int)), (24, vI (l.length : Int)), (23, .slice A0 l.length c0), (5, .slice (some ⟨b1, 0, none⟩) l.length l.length), (4, vI (farK l k))] [34, 33, 6, 25, 24, 23, 5, 4] (by kernel_rfl) ?_
  refine ops_store (an := []) (evs := [.store ⟨b1, k, none⟩ (vI (clV (l.getD k 0)))]) (M' := Mem w [.row (some ⟨b1, 0, none⟩) l.length l.length 3 1 (iv .i64 ((fillK l k).set k (clV (l.getD k 0))))]) ⟨by kernel_rfl⟩ (fun w_ hM hS => let ⟨w', he, h'⟩ := hM.rowstore 0 rfl (k) (vI (clV (l.getD k 0))) (by rw [iv_length]; first | omega | (simp only [hfl, List.length_set, List.length_append, List.length_cons, List.length_nil, List.length_replicate] at *; omega) | (simp [hfl, List.length_set, List.length_append, List.length_cons, List.length_nil, List.length_replicate]; done)); ⟨w', he, (by rw [iv_set] at h'; exact h'), trivial⟩) ?_
  refine oR [] [(6, vI (k : Int)), (25, vI (k : Int)), (24, vI (l.length : Int)), (23, .slice A0 l.length c0), (5, .slice (some ⟨b1, 0, none⟩) l.length l.length), (4, vI (farK l k))] [6, 25, 24, 23, 5, 4] (by kernel_rfl) ?_
  refine ops_nil ?_
  refine fin_then ?_
  refine st_region_draw [oT 0, oT 1, oT 2, oT 3, oT 4, oT 5, oT 6, oT 7, oT 8, oT 9, oT 10, oT 11] (Mem w [.row (some ⟨b1, 0, none⟩) l.length l.length 3 1 (iv .i64 ((fillK l k).set k (clV (l.getD k 0))))]) (by kernel_rfl) (by kernel_rfl) (by kernel_rfl) (fun _ d _ _ _ h => by cases d <;> exact h) (M' := Mem w [.row (some ⟨b1, 0, none⟩) l.length l.length 3 1 (iv .i64 ((fillK l k).set k (clV (l.getD k 0))))]) (fun w_ hM => ⟨hM.drew, hM.drew.sub (.cons_cons _ .slnil)⟩) ?_
  refine oR [oT 0, oT 1, oT 2] [(37, vI (k : Int)), (36, .slice (some ⟨b1, 0, none⟩) l.length l.length), (35, vI (farK l k)), (6, vI (k : Int)), (25, vI (k : Int)), (24, vI (l.length : Int)), (23, .slice A0 l.length c0), (5, .slice (some ⟨b1, 0, none⟩) l.length l.length), (4, vI (farK l k))] [37, 36, 35, 6, 25, 24, 23, 5, 4] (by kernel_rfl) ?_
  refine ops_val (op := (Go.Op.indexAddr 91 (Go.Operand.tmp 36) (Go.Operand.tmp 37))) (d := some 38) (v := vP b1 k) ⟨by kernel_rfl⟩ (run_indexRow Try.underlying91 (z := 1) (by kernel_rfl) rfl rfl (m := k) (by first | rfl | omega) (by first | omega | (simp only [hfl, List.length_set, List.length_append, List.length_cons, List.length_nil, List.length_replicate] at *; omega) | (simp [hfl, List.length_set, List.length_append, List.length_cons, List.length_nil, List.length_replicate]; done)) (by exact Nat.mul_one _)) ?_
  refine oR [] [(38, vP b1 k), (35, vI (farK l k)), (6, vI (k : Int)), (25, vI (k : Int)), (24, vI (l.length : Int)), (23, .slice A0 l.length c0), (5, .slice (some ⟨b1, 0, none⟩) l.length l.length), (4, vI (farK l k))] [38, 35, 6, 25, 24, 23, 5, 4] (by kernel_rfl) ?_
  refine ops_load (d := some 39) (an := [.v (vI (((fillK l k).set k (clV (l.getD k 0))).getD k 0))]) (evs := [.load ⟨b1, k, none⟩ (vI (((fillK l k).set k (clV (l.getD k 0))).getD k 0))]) (v := vI (((fillK l k).set k (clV (l.getD k 0))).getD k 0)) ⟨by kernel_rfl⟩ (fun w_ hM => ⟨hM.rowcell 0 rfl (iv_get (by first | omega | (simp only [hfl, List.length_set, List.length_append, List.length_cons, List.length_nil, List.length_replicate] at *; omega) | (simp [hfl, List.length_set, List.length_append, List.length_cons, List.length_nil, List.length_replicate]; done))), rfl⟩) ?_
  refine oR [] [(39, vI (((fillK l k).set k (clV (l.getD k 0))).getD k 0)), (35, vI (farK l k)), (6, vI (k : Int)), (25, vI (k : Int)), (24, vI (l.length : Int)), (23, .slice A0 l.length c0), (5, .slice (some ⟨b1, 0, none⟩) l.length l.length), (4, vI (farK l k))] [39, 35, 6, 25, 24, 23, 5, 4] (by kernel_rfl) ?_
  refine ops_conv (l' := [(39, vI (clV (l.getD k 0))), (35, vI (farK l k)), (6, vI (k : Int)), (25, vI (k : Int)), (24, vI (l.length : Int)), (23, .slice A0 l.length c0), (5, .slice (some ⟨b1, 0, none⟩) l.length l.length), (4, vI (farK l k))]) (by rw [hgs]) (fun _ h => h) ?_
  refine oR [oT 5, oT 6] [(41, vI (k : Int)), (40, .slice (some ⟨b1, 0, none⟩) l.length l.length), (39, vI (clV (l.getD k 0))), (35, vI (farK l k)), (25, vI (k : Int)), (24, vI (l.length : Int)), (23, .slice A0 l.length c0), (5, .slice (some ⟨b1, 0, none⟩) l.length l.length), (4, vI (farK l k))] [41, 40, 39, 35, 25, 24, 23, 5, 4] (by kernel_rfl) ?_
  refine ops_val (op := (Go.Op.indexAddr 91 (Go.Operand.tmp 40) (Go.Operand.tmp 41))) (d := some 42) (v := vP b1 k) ⟨by kernel_rfl⟩ (run_indexRow Try.underlying91 (z := 1) (by kernel_rfl) rfl rfl (m := k) (by first | rfl | omega) (by first | omega | (simp only [hfl, List.length_set, List.length_append, List.length_cons, List.length_nil, List.length_replicate] at *; omega) | (simp [hfl, List.length_set, List.length_append, List.length_cons, List.length_nil, List.length_replicate]; done)) (by exact Nat.mul_one _)) ?_
  refine oR [] [(42, vP b1 k), (39, vI (clV (l.getD k 0))), (35, vI (farK l k)), (25, vI (k : Int)), (24, vI (l.length : Int)), (23, .slice A0 l.length c0), (5, .slice (some ⟨b1, 0, none⟩) l.length l.length), (4, vI (farK l k))] [42, 39, 35, 25, 24, 23, 5, 4] (by kernel_rfl) ?_
  refine ops_load (d := some 43) (an := [.v (vI (((fillK l k).set k (clV (l.getD k 0))).getD k 0))]) (evs := [.load ⟨b1, k, none⟩ (vI (((fillK l k).set k (clV (l.getD k 0))).getD k 0))]) (v := vI (((fillK l k).set k (clV (l.getD k 0))).getD k 0)) ⟨by kernel_rfl⟩ (fun w_ hM => ⟨hM.rowcell 0 rfl (iv_get (by first | omega | (simp only [hfl, List.length_set, List.length_append, List.length_cons, List.length_nil, List.length_replicate] at *; omega) | (simp [hfl, List.length_set, List.length_append, List.length_cons, List.length_nil, List.length_replicate]; done))), rfl⟩) ?_
  refine oR [] [(43, vI (((fillK l k).set k (clV (l.getD k 0))).getD k 0)), (39, vI (clV (l.getD k 0))), (35, vI (farK l k)), (25, vI (k : Int)), (24, vI (l.length : Int)), (23, .slice A0 l.length c0), (5, .slice (some ⟨b1, 0, none⟩) l.length l.length), (4, vI (farK l k))] [43, 39, 35, 25, 24, 23, 5, 4] (by kernel_rfl) ?_
  refine ops_conv (l' := [(43, vI (clV (l.getD k 0))), (39, vI (clV (l.getD k 0))), (35, vI (farK l k)), (25, vI (k : Int)), (24, vI (l.length : Int)), (23, .slice A0 l.length c0), (5, .slice (some ⟨b1, 0, none⟩) l.length l.length), (4, vI (farK l k))]) (by rw [hgs]) (fun _ h => h) ?_
  refine oR [oT 9] [(44, vI (IntKind.i64.wrap (0 - clV (l.getD k 0)))), (39, vI (clV (l.getD k 0))), (35, vI (farK l k)), (25, vI (k : Int)), (24, vI (l.length : Int)), (23, .slice A0 l.length c0), (5, .slice (some ⟨b1, 0, none⟩) l.length l.length), (4, vI (farK l k))] [44, 39, 35, 25, 24, 23, 5, 4] (by kernel_rfl) ?_
  refine ops_conv (l' := [(44, vI (0 - clV (l.getD k 0))), (39, vI (clV (l.getD k 0))), (35, vI (farK l k)), (25, vI (k : Int)), (24, vI (l.length : Int)), (23, .slice A0 l.length c0), (5, .slice (some ⟨b1, 0, none⟩) l.length l.length), (4, vI (farK l k))]) (by rw [(neg_cl (l.getD k 0))]) (fun _ h => h) ?_
  refine ops_val (op := (Go.Op.call { callee := (Go.Callee.builtin Go.Builtin.max), args := #[(Go.Operand.tmp 35), (Go.Operand.tmp 39), (Go.Operand.tmp 44)], argTypes := #[3, 3, 3] })) (d := some 45) (v := vI (max (max (farK l k) (clV (l.getD k 0))) (0 - clV (l.getD k 0)))) ⟨by kernel_rfl⟩ (run_max3 rfl rfl rfl) ?_
  refine oR [] [(45, vI (max (max (farK l k) (clV (l.getD k 0))) (0 - clV (l.getD k 0)))), (25, vI (k : Int)), (24, vI (l.length : Int)), (23, .slice A0 l.length c0), (5, .slice (some ⟨b1, 0, none⟩) l.length l.length), (4, vI (farK l k))] [45, 25, 24, 23, 5, 4] (by kernel_rfl) ?_
  refine ops_conv (l' := [(45, vI (farK l (k + 1))), (25, vI (k : Int)), (24, vI (l.length : Int)), (23, .slice A0 l.length c0), (5, .slice (some ⟨b1, 0, none⟩) l.length l.length), (4, vI (farK l k))]) (by rw [hfk]) (fun _ h => h) ?_
  refine oR [oT 11] [(4, vI (farK l (k + 1))), (25, vI (k : Int)), (24, vI (l.length : Int)), (23, .slice A0 l.length c0), (5, .slice (some ⟨b1, 0, none⟩) l.length l.length)] [4, 25, 24, 23, 5] (by kernel_rfl) ?_
  refine ops_nil ?_
  refine fin_block ?_
  refine fin_then ?_
  refine st_region [oF 0, oF 1] (by rfl) ?_
  refine oR [oF 0] [(46, vI (IntKind.i64.wrap ((k : Int) + 1))), (4, vI (farK l (k + 1))), (25, vI (k : Int)), (24, vI (l.length : Int)), (23, .slice A0 l.length c0), (5, .slice (some ⟨b1, 0, none⟩) l.length l.length)] [46, 4, 25, 24, 23, 5] (by kernel_rfl) ?_
  refine ops_conv (l' := [(46, vI ((k + 1 : Nat) : Int)), (4, vI (farK l (k + 1))), (25, vI (k : Int)), (24, vI (l.length : Int)), (23, .slice A0 l.length c0), (5, .slice (some ⟨b1, 0, none⟩) l.length l.length)]) (by rw [hk1]) (fun _ h => h) ?_
  refine oR [oF 1] [(25, vI ((k + 1 : Nat) : Int)), (4, vI (farK l (k + 1))), (24, vI (l.length : Int)), (23, .slice A0 l.length c0), (5, .slice (some ⟨b1, 0, none⟩) l.length l.length)] [25, 4, 24, 23, 5] (by kernel_rfl) ?_
  refine ops_nil ?_
  refine fin_round (k + 1) (by omega) (by omega) (look_has ⟨rfl, rfl, rfl, rfl, rfl, trivial⟩) (fun w_ hM => by exact hM)
 · --
  have hk : k = l.length := by have := of_decide_eq_false hc2; omega
  refine st_exit ?_
  refine fin_exit_then ?_
  refine fin_exit_then ?_
  refine fin_exit ?_
  refine fin_then ?_
  refine st_seq ?_
  refine st_seq ?_
  refine st_region [oF 0, oF 1] (by rfl) ?_
  refine oR [oF 0, oF 1] [(48, .bool (farK l k == 0)), (5, .slice (some ⟨b1, 0, none⟩) l.length l.length), (4, vI (farK l k))] [48, 5, 4] (by kernel_rfl) ?_
  refine ops_nil ?_
  refine fin_then ?_
  refine st_conv (l' := [(48, .bool false), (5, .slice (some ⟨b1, 0, none⟩) l.length l.length), (4, vI (farK l k))]) (by rw [(show (farK l k == 0) = false by rw [hk]; simp; omega)]) (fun _ h => h) ?_
  refine st_false rfl ?_
  refine st_skip ?_
  refine fin_then ?_
  refine st_seq ?_
  refine st_block ?_
  obtain ⟨f, hf⟩ := Int.eq_ofNat_of_zero_le (farK_ok l k).1
  have hf0 : 0 < f := by rw [hk] at hf; omega
  have hf1 : f ≤ 1099511627776 := by have := (farK_ok l k).2; omega
  have hfill : fillK l k = scl l 1 := by rw [scl_one, hk]; exact fillK_all l
  refine st_conv (l' := [(48, .bool false), (5, .slice (some ⟨b1, 0, none⟩) l.length l.length), (4, vI ((f * 1 : Nat) : Int))]) (M' := Mem w [.row (some ⟨b1, 0, none⟩) l.length l.length 3 1 (iv .i64 (fillK l k))]) (by rw [hf]; simp) (fun w_ hM => hM) ?_
  refine st_loop (σ := Nat) 1 (fun s => [(5, .slice (some ⟨b1, 0, none⟩) l.length l.length), (4, vI ((f * s : Nat) : Int))]) (fun s => Mem w [.row (some ⟨b1, 0, none⟩) l.length l.length 3 1 (iv .i64 (scl l s))]) (fun s => 0 < f * s ∧ f * s ≤ 1099511627776 ∧ dbl f s = dbl f 1) (fun s => 1073741824 - f * s) (by exact ⟨show 0 < f * 1 by omega, show f * 1 ≤ 1099511627776 by omega, rfl⟩) (look_has ⟨rfl, rfl, trivial⟩) (fun w_ hM => by rw [hfill] at hM; exact hM) ?_
  rintro s hI
  obtain ⟨hs0, hs1, hdb⟩ := hI
  have hs0 : 0 < f * s := hs0
  have hs1 : f * s ≤ 1099511627776 := hs1
  have hdb : dbl f s = dbl f 1 := hdb
  refine st_seq ?_
  refine st_seq ?_
  refine st_region [oF 0, oF 1] (by rfl) ?_
  refine oR [oF 0, oF 1] [(50, .bool (decide (((f * s : Nat) : Int) < 1073741824))), (5, .slice (some ⟨b1, 0, none⟩) l.length l.length), (4, vI ((f * s : Nat) : Int))] [50, 5, 4] (by kernel_rfl) ?_
  refine ops_nil ?_
  refine fin_then ?_
  refine st_if (b := decide (((f * s : Nat) : Int) < 1073741824)) rfl (fun hc6 => ?_) (fun hc6 => ?_)
  · --
   have hlt : f * s < 1073741824 := by have := of_decide_eq_true hc6; omega
   have he2 : f * (2 * s) = 2 * (f * s) := Nat.mul_left_comm ..
   have hgo := dbl_go hs0 hlt
   have hs2 : IntKind.i64.wrap (((f * s : Nat) : Int) * 2) = ((f * (2 * s) : Nat) : Int) := by rw [i64in (by omega) (by omega), he2]; omega
   refine st_skip ?_
   refine fin_then ?_
   refine st_seq ?_
   refine st_block ?_
   refine st_seq ?_
   refine st_region [oF 0, oF 1, oF 2] (by rfl) ?_
   refine oR [oF 0, oF 1, oF 2] [(55, vI 0), (54, vI (l.length : Int)), (5, .slice (some ⟨b1, 0, none⟩) l.length l.length), (4, vI ((f * s : Nat) : Int))] [55, 54, 5, 4] (by kernel_rfl) ?_
   refine ops_nil ?_
   refine fin_then ?_
   refine st_block ?_
   refine st_loop (σ := Nat) 0 (fun j => [(55, vI (j : Int)), (54, vI (l.length : Int)), (5, .slice (some ⟨b1, 0, none⟩) l.length l.length), (4, vI ((f * s : Nat) : Int))]) (fun j => Mem w [.row (some ⟨b1, 0, none⟩) l.length l.length 3 1 (iv .i64 (mapK (fun x => x * 2) (scl l s) j))]) (fun j => j ≤ l.length) (fun j => l.length - j) (by exact Nat.zero_le _) (look_has ⟨rfl, rfl, rfl, rfl, trivial⟩) (fun w_ hM => by exact hM) ?_
   rintro j hI
   have hIj : j ≤ l.length := hI
   refine st_seq ?_
   refine st_region [oF 0] (by rfl) ?_
   refine oR [oF 0] [(56, .bool (decide ((j : Int) < (l.length : Int)))), (55, vI (j : Int)), (54, vI (l.length : Int)), (5, .slice (some ⟨b1, 0, none⟩) l.length l.length), (4, vI ((f * s : Nat) : Int))] [56, 55, 54, 5, 4] (by kernel_rfl) ?_
   refine ops_nil ?_
   refine fin_then ?_
   refine st_seq ?_
   refine st_if (b := decide ((j : Int) < (l.length : Int))) rfl (fun hc7 => ?_) (fun hc7 => ?_)
   · --
    have hj : j < l.length := by have := of_decide_eq_true hc7; omega
    have hj1 : IntKind.i64.wrap ((j : Int) + 1) = ((j + 1 : Nat) : Int) := succ_i64 (by omega)
    obtain ⟨hlm0, hgm⟩ := mapK_ok (fun x => x * 2) (scl l s) (k := j) (by rw [scl_length]; omega)
    have hlm : (mapK (fun x => x * 2) (scl l s) j).length = l.length := hlm0.trans (scl_length l s)
    have hgj := hgm j
    rw [if_neg (Nat.lt_irrefl _), scl_get] at hgj
    have hms : IntKind.i64.wrap ((mapK (fun x => x * 2) (scl l s) j).getD j 0 * 2) = (mapK (fun x => x * 2) (scl l s) j).getD j 0 * 2 := by rw [hgj]; exact twice_in (by have := farK_ge l (j := j) (k := l.length) (by omega); exact Nat.le_trans (Nat.mul_le_mul_right s (show _ ≤ f by rw [← hk, hf] at this; omega)) (by omega))
    refine st_skip ?_
    refine fin_then ?_
    refine st_seq ?_
    refine st_block ?_
    refine st_seq ?_
    refine st_region [oF 0, oF 1] (by rfl) ?_
    refine oR [oF 0, oF 1] [(8, vI (j : Int)), (55, vI (j : Int)), (54, vI (l.length : Int)), (5, .slice (some ⟨b1, 0, none⟩) l.length l.length), (4, vI ((f * s : Nat) : Int))] [8, 55, 54, 5, 4] (by kernel_rfl) ?_
    refine ops_nil ?_
    refine fin_then ?_
    refine st_region [oF 0, oF 1, oF 2, oF 3, oF 4, oF 5, oF 6] (by rfl) ?_
    refine oR [oF 0, oF 1] [(59, vI (j : Int)), (58, .slice (some ⟨b1, 0, none⟩) l.length l.length), (55, vI (j : Int)), (54, vI (l.length : Int)), (5, .slice (some ⟨b1, 0, none⟩) l.length l.length), (4, vI ((f * s : Nat) : Int))] [59, 58, 55, 54, 5, 4] (by kernel_rfl) ?_
    refine ops_val (op := (Go.Op.indexAddr 91 (Go.Operand.tmp 58) (Go.Operand.tmp 59))) (d := some 60) (v := vP b1 j) ⟨by kernel_rfl⟩ (run_indexRow Try.underlying91 (z := 1) (by kernel_rfl) rfl rfl (m := j) (by first | rfl | omega) (by first | omega | (simp only [hlm, List.length_set, List.length_append, List.length_cons, List.length_nil, List.length_replicate] at *; omega) | (simp [hlm, List.length_set, List.length_append, List.length_cons, List.length_nil, List.length_replicate]; done)) (by exact Nat.mul_one _)) ?_
    refine oR [] [(60, vP b1 j), (59, vI (j : Int)), (58, .slice (some ⟨b1, 0, none⟩) l.length l.length), (55, vI (j : Int)), (54, vI (l.length : Int)), (5, .slice (some ⟨b1, 0, none⟩) l.length l.length), (4, vI ((f * s : Nat) : Int))] [60, 59, 58, 55, 54, 5, 4] (by kernel_rfl) ?_
    refine ops_mem (d := some 61) (an := [.v (vI ((mapK (fun x => x * 2) (scl l s) j).getD j 0))]) (evs := [.load ⟨b1, j, none⟩ (vI ((mapK (fun x => x * 2) (scl l s) j).getD j 0))]) (v := vI ((mapK (fun x => x * 2) (scl l s) j).getD j 0)) (M' := Mem w [.row (some ⟨b1, 0, none⟩) l.length l.length 3 1 (iv .i64 (mapK (fun x => x * 2) (scl l s) j))]) ⟨by kernel_rfl⟩ (fun w_ hM hS => ⟨w_, ⟨hM.rowcell 0 rfl (iv_get (by first | omega | (simp only [hlm, List.length_set, List.length_append, List.length_cons, List.length_nil, List.length_replicate] at *; omega) | (simp [hlm, List.length_set, List.length_append, List.length_cons, List.length_nil, List.length_replicate]; done))), rfl⟩, hM, trivial⟩) ?_
    refine oR [oF 4] [(62, vI (IntKind.i64.wrap ((mapK (fun x => x * 2) (scl l s) j).getD j 0 * 2))), (59, vI (j : Int)), (58, .slice (some ⟨b1, 0, none⟩) l.length l.length), (55, vI (j : Int)), (54, vI (l.length : Int)), (5, .slice (some ⟨b1, 0, none⟩) l.length l.length), (4, vI ((f * s : Nat) : Int))] [62, 59, 58, 55, 54, 5, 4] (by kernel_rfl) ?_
    refine ops_conv (l' := [(62, vI ((mapK (fun x => x * 2) (scl l s) j).getD j 0 * 2)), (59, vI (j : Int)), (58, .slice (some ⟨b1, 0, none⟩) l.length l.length), (55, vI (j : Int)), (54, vI (l.length : Int)), (5, .slice (some ⟨b1, 0, none⟩) l.length l.length), (4, vI ((f * s : Nat) : Int))]) (by rw [hms]) (fun _ h => h) ?_
    refine ops_val (op := (Go.Op.indexAddr 91 (Go.Operand.tmp 58) (Go.Operand.tmp 59))) (d := some 63) (v := vP b1 j) ⟨by kernel_rfl⟩ (run_indexRow Try.underlying91 (z := 1) (by kernel_rfl) rfl rfl (m := j) (by first | rfl | omega) (by first | omega | (simp only [hlm, List.length_set, List.length_append, List.length_cons, List.length_nil, List.length_replicate] at *; omega) | (simp [hlm, List.length_set, List.length_append, List.length_cons, List.length_nil, List.length_replicate]; done)) (by exact Nat.mul_one _)) ?_
    refine oR [] [(63, vP b1 j), (62, vI ((mapK (fun x => x * 2) (scl l s) j).getD j 0 * 2)), (55, vI (j : Int)), (54, vI (l.length : Int)), (5, .slice (some ⟨b1, 0, none⟩) l.length l.length), (4, vI ((f * s : Nat) : Int))] [63, 62, 55, 54, 5, 4] (by kernel_rfl) ?_
    refine ops_store (an := []) (evs := [.store ⟨b1, j, none⟩ (vI ((mapK (fun x => x * 2) (scl l s) j).getD j 0 * 2))]) (M' := Mem w [.row (some ⟨b1, 0, none⟩) l.length l.length 3 1 (iv .i64 ((mapK (fun x => x * 2) (scl l s) j).set j ((mapK (fun x => x * 2) (scl l s) j).getD j 0 * 2)))]) ⟨by kernel_rfl⟩ (fun w_ hM hS => let ⟨w', he, h'⟩ := hM.rowstore 0 rfl (j) (vI ((mapK (fun x => x * 2) (scl l s) j).getD j 0 * 2)) (by rw [iv_length]; first | omega | (simp only [hlm, List.length_set, List.length_append, List.length_cons, List.length_nil, List.length_replicate] at *; omega) | (simp [hlm, List.length_set, List.length_append, List.length_cons, List.length_nil, List.length_replicate]; done)); ⟨w', he, (by rw [iv_set] at h'; exact h'), trivial⟩) ?_
    refine oR [] [(55, vI (j : Int)), (54, vI (l.length : Int)), (5, .slice (some ⟨b1, 0, none⟩) l.length l.length), (4, vI ((f * s : Nat) : Int))] [55, 54, 5, 4] (by kernel_rfl) ?_
    refine ops_nil ?_
    refine fin_block ?_
    refine fin_then ?_
    refine st_region [oF 0, oF 1] (by rfl) ?_
    refine oR [oF 0] [(64, vI (IntKind.i64.wrap ((j : Int) + 1))), (55, vI (j : Int)), (54, vI (l.length : Int)), (5, .slice (some ⟨b1, 0, none⟩) l.length l.length), (4, vI ((f * s : Nat) : Int))] [64, 55, 54, 5, 4] (by kernel_rfl) ?_
    refine ops_conv (l' := [(64, vI ((j + 1 : Nat) : Int)), (55, vI (j : Int)), (54, vI (l.length : Int)), (5, .slice (some ⟨b1, 0, none⟩) l.length l.length), (4, vI ((f * s : Nat) : Int))]) (by rw [hj1]) (fun _ h => h) ?_
    refine oR [oF 1] [(55, vI ((j + 1 : Nat) : Int)), (54, vI (l.length : Int)), (5, .slice (some ⟨b1, 0, none⟩) l.length l.length), (4, vI ((f * s : Nat) : Int))] [55, 54, 5, 4] (by kernel_rfl) ?_
    refine ops_nil ?_
    refine fin_round (j + 1) (by omega) (by omega) (look_has ⟨rfl, rfl, rfl, rfl, trivial⟩) (fun w_ hM => by exact hM)
   · --
    have hj : j = l.length := by have := of_decide_eq_false hc7; omega
    refine st_exit ?_
    refine fin_exit_then ?_
    refine fin_exit_then ?_
    refine fin_exit ?_
    refine fin_block ?_
    refine fin_then ?_
    refine st_region [oF 0, oF 1, oF 2] (by rfl) ?_
    refine oR [oF 0, oF 1] [(52, vI (IntKind.i64.wrap (((f * s : Nat) : Int) * 2))), (5, .slice (some ⟨b1, 0, none⟩) l.length l.length), (4, vI ((f * s : Nat) : Int))] [52, 5, 4] (by kernel_rfl) ?_
    refine ops_conv (l' := [(52, vI ((f * (2 * s) : Nat) : Int)), (5, .slice (some ⟨b1, 0, none⟩) l.length l.length), (4, vI ((f * s : Nat) : Int))]) (by rw [hs2]) (fun _ h => h) ?_
    refine oR [oF 2] [(4, vI ((f * (2 * s) : Nat) : Int)), (5, .slice (some ⟨b1, 0, none⟩) l.length l.length)] [4, 5] (by kernel_rfl) ?_
    refine ops_nil ?_
    refine fin_round (2 * s) (by exact ⟨show 0 < f * (2 * s) by omega, show f * (2 * s) ≤ 1099511627776 by omega, hgo ▸ hdb⟩) (by (show 1073741824 - f * (2 * s) < 1073741824 - f * s; omega)) (look_has ⟨rfl, rfl, trivial⟩) (fun w_ hM => by exact (by have hj2 : mapK (fun x => x * 2) (scl l s) j = scl l (2 * s) := (by have z := mapK_all (fun x => x * 2) (scl l s); rw [scl_length, ← hj, scl_two] at z; exact z); rw [hj2] at hM; exact hM))
  · --
   have hge : 1073741824 ≤ f * s := by have := of_decide_eq_false hc6; omega
   have hsc : s = scaleV l := by unfold scaleV; rw [← hk, hf, Int.toNat_natCast, ← hdb]; exact (dbl_stop hge).symm
   refine st_exit ?_
   refine fin_exit_then ?_
   refine fin_exit_then ?_
   refine fin_exit ?_
   refine fin_then ?_
   refine st_seq ?_
   refine st_region [oF 0, oF 1, oF 2] (by rfl) ?_
   refine oR [oF 0, oF 1, oF 2] [(10, vU 0), (9, vU 0), (5, .slice (some ⟨b1, 0, none⟩) l.length l.length)] [10, 9, 5] (by kernel_rfl) ?_
   refine ops_nil ?_
   refine fin_then ?_
   refine st_seq ?_
   refine st_seq ?_
   refine st_region [oF 0, oF 1, oF 2] (by rfl) ?_
   refine oR [oF 0, oF 1, oF 2] [(67, vI 0), (66, vI (l.length : Int)), (65, .slice (some ⟨b1, 0, none⟩) l.length l.length), (10, vU 0), (9, vU 0), (5, .slice (some ⟨b1, 0, none⟩) l.length l.length)] [67, 66, 65, 10, 9, 5] (by kernel_rfl) ?_
   refine ops_nil ?_
   refine fin_then ?_
   refine st_block ?_
   have hsd : scl l s = scaled l := by rw [hsc]; rfl
   obtain ⟨hso1, hso2, hso3, hso4⟩ := scaled_ok (C := l) h0 hn
   refine st_conv (l' := [(67, vI 0), (66, vI (l.length : Int)), (65, .slice (some ⟨b1, 0, none⟩) l.length l.length), (10, vU (((ssq (scaled l) 0 : Nat) : Int) % 18446744073709551616)), (9, vU (((ssq (scaled l) 0 : Nat) : Int) / 18446744073709551616)), (5, .slice (some ⟨b1, 0, none⟩) l.length l.length)]) (M' := Mem w [.row (some ⟨b1, 0, none⟩) l.length l.length 3 1 (iv .i64 (scl l s))]) (by rw [show ((ssq (scaled l) 0 : Nat) : Int) / 18446744073709551616 = 0 from Int.zero_ediv _, show ((ssq (scaled l) 0 : Nat) : Int) % 18446744073709551616 = 0 from Int.zero_emod _]) (fun w_ hM => hM) ?_
   refine st_loop (σ := Nat) 0 (fun i => [(67, vI (i : Int)), (66, vI (l.length : Int)), (65, .slice (some ⟨b1, 0, none⟩) l.length l.length), (10, vU (((ssq (scaled l) i : Nat) : Int) % 18446744073709551616)), (9, vU (((ssq (scaled l) i : Nat) : Int) / 18446744073709551616)), (5, .slice (some ⟨b1, 0, none⟩) l.length l.length)]) (fun i => Mem w [.row (some ⟨b1, 0, none⟩) l.length l.length 3 1 (iv .i64 (scaled l))]) (fun i => i ≤ l.length) (fun i => l.length - i) (by exact Nat.zero_le _) (look_has ⟨rfl, rfl, rfl, rfl, rfl, rfl, trivial⟩) (fun w_ hM => by rw [hsd] at hM; exact hM) ?_
   rintro i hI
   have hIi : i ≤ l.length := hI
   refine st_seq ?_
   refine st_region [oF 0] (by rfl) ?_
   refine oR [oF 0] [(68, .bool (decide ((i : Int) < (l.length : Int)))), (67, vI (i : Int)), (66, vI (l.length : Int)), (65, .slice (some ⟨b1, 0, none⟩) l.length l.length), (10, vU (((ssq (scaled l) i : Nat) : Int) % 18446744073709551616)), (9, vU (((ssq (scaled l) i : Nat) : Int) / 18446744073709551616)), (5, .slice (some ⟨b1, 0, none⟩) l.length l.length)] [68, 67, 66, 65, 10, 9, 5] (by kernel_rfl) ?_
   refine ops_nil ?_
   refine fin_then ?_
   refine st_seq ?_
   refine st_if (b := decide ((i : Int) < (l.length : Int))) rfl (fun hc8 => ?_) (fun hc8 => ?_)
   · --
    have hi : i < l.length := by have := of_decide_eq_true hc8; omega
    have hi1 : IntKind.i64.wrap ((i : Int) + 1) = ((i + 1 : Nat) : Int) := succ_i64 (by omega)
    have hb40 := hso1 i
    have hn41 : ((scaled l).getD i 0).natAbs ≤ 2199023255552 := by omega
    have hnab : max ((scaled l).getD i 0) (0 - ((scaled l).getD i 0)) = ((((scaled l).getD i 0).natAbs : Nat) : Int) := by omega
    have hnu : IntKind.u64.wrap ((((scaled l).getD i 0).natAbs : Nat) : Int) = ((((scaled l).getD i 0).natAbs : Nat) : Int) := w64_in (by omega) (by omega)
    have hng : IntKind.i64.wrap (0 - ((scaled l).getD i 0)) = 0 - ((scaled l).getD i 0) := i64in (by omega) (by omega)
    have hss := ssq_le (fun k => Nat.le_trans (hso1 k) (by decide)) i
    have hs1 := ssq_le (fun k => Nat.le_trans (hso1 k) (by decide)) (i + 1)
    have hnx : ssq (scaled l) (i + 1) = ssq (scaled l) i + ((scaled l).getD i 0).natAbs * ((scaled l).getD i 0).natAbs := rfl
    have hlo : (((ssq (scaled l) i : Nat) : Int) % 18446744073709551616 + ((((scaled l).getD i 0).natAbs * ((scaled l).getD i 0).natAbs : Nat) : Int) % 18446744073709551616 + 0) % 18446744073709551616 = ((ssq (scaled l) (i + 1) : Nat) : Int) % 18446744073709551616 := by rw [hnx]; omega
    have hhi : (((ssq (scaled l) i : Nat) : Int) / 18446744073709551616 + ((((scaled l).getD i 0).natAbs * ((scaled l).getD i 0).natAbs : Nat) : Int) / 18446744073709551616 + (((ssq (scaled l) i : Nat) : Int) % 18446744073709551616 + ((((scaled l).getD i 0).natAbs * ((scaled l).getD i 0).natAbs : Nat) : Int) % 18446744073709551616 + 0) / 18446744073709551616) % 18446744073709551616 = ((ssq (scaled l) (i + 1) : Nat) : Int) / 18446744073709551616 := by rw [hnx]; omega
    refine st_skip ?_
    refine fin_then ?_
    refine st_seq ?_
    refine st_block ?_
    refine st_seq ?_
    refine st_region [oF 0, oF 1, oF 2] (by rfl) ?_
    refine oR [] [(67, vI (i : Int)), (66, vI (l.length : Int)), (65, .slice (some ⟨b1, 0, none⟩) l.length l.length), (10, vU (((ssq (scaled l) i : Nat) : Int) % 18446744073709551616)), (9, vU (((ssq (scaled l) i : Nat) : Int) / 18446744073709551616)), (5, .slice (some ⟨b1, 0, none⟩) l.length l.length)] [67, 66, 65, 10, 9, 5] (by kernel_rfl) ?_
    refine ops_val (op := (Go.Op.indexAddr 91 (Go.Operand.tmp 65) (Go.Operand.tmp 67))) (d := some 69) (v := vP b1 i) ⟨by kernel_rfl⟩ (run_indexRow Try.underlying91 (z := 1) (by kernel_rfl) rfl rfl (m := i) (by first | rfl | omega) (by first | omega | (simp only [scaled_length, List.length_set, List.length_append, List.length_cons, List.length_nil, List.length_replicate] at *; omega) | (simp [scaled_length, List.length_set, List.length_append, List.length_cons, List.length_nil, List.length_replicate]; done)) (by exact Nat.mul_one _)) ?_
    refine oR [] [(69, vP b1 i), (67, vI (i : Int)), (66, vI (l.length : Int)), (65, .slice (some ⟨b1, 0, none⟩) l.length l.length), (10, vU (((ssq (scaled l) i : Nat) : Int) % 18446744073709551616)), (9, vU (((ssq (scaled l) i : Nat) : Int) / 18446744073709551616)), (5, .slice (some ⟨b1, 0, none⟩) l.length l.length)] [69, 67, 66, 65, 10, 9, 5] (by kernel_rfl) ?_
    refine ops_mem (d := some 70) (an := [.v (vI ((scaled l).getD i 0))]) (evs := [.load ⟨b1, i, none⟩ (vI ((scaled l).getD i 0))]) (v := vI ((scaled l).getD i 0)) (M' := Mem w [.row (some ⟨b1, 0, none⟩) l.length l.length 3 1 (iv .i64 (scaled l))]) ⟨by kernel_rfl⟩ (fun w_ hM hS => ⟨w_, ⟨hM.rowcell 0 rfl (iv_get (by first | omega | (simp only [scaled_length, List.length_set, List.length_append, List.length_cons, List.length_nil, List.length_replicate] at *; omega) | (simp [scaled_length, List.length_set, List.length_append, List.length_cons, List.length_nil, List.length_replicate]; done))), rfl⟩, hM, trivial⟩) ?_
    refine oR [oF 2] [(13, vI ((scaled l).getD i 0)), (67, vI (i : Int)), (66, vI (l.length : Int)), (65, .slice (some ⟨b1, 0, none⟩) l.length l.length), (10, vU (((ssq (scaled l) i : Nat) : Int) % 18446744073709551616)), (9, vU (((ssq (scaled l) i : Nat) : Int) / 18446744073709551616)), (5, .slice (some ⟨b1, 0, none⟩) l.length l.length)] [13, 67, 66, 65, 10, 9, 5] (by kernel_rfl) ?_
    refine ops_nil ?_
    refine fin_then ?_
    refine st_seq ?_
    refine st_region [oF 0, oF 1, oF 2, oF 3, oF 4, oF 5, oF 6, oF 7, oF 8, oF 9, oF 10, oF 11, oF 12, oF 13, oF 14, oF 15] (by rfl) ?_
    refine oR [oF 0, oF 1, oF 2] [(74, vI (IntKind.i64.wrap (0 - (scaled l).getD i 0))), (72, vI ((scaled l).getD i 0)), (13, vI ((scaled l).getD i 0)), (67, vI (i : Int)), (66, vI (l.length : Int)), (65, .slice (some ⟨b1, 0, none⟩) l.length l.length), (10, vU (((ssq (scaled l) i : Nat) : Int) % 18446744073709551616)), (9, vU (((ssq (scaled l) i : Nat) : Int) / 18446744073709551616)), (5, .slice (some ⟨b1, 0, none⟩) l.length l.length)] [74, 72, 13, 67, 66, 65, 10, 9, 5] (by kernel_rfl) ?_
    refine ops_conv (l' := [(74, vI (0 - ((scaled l).getD i 0))), (72, vI ((scaled l).getD i 0)), (13, vI ((scaled l).getD i 0)), (67, vI (i : Int)), (66, vI (l.length : Int)), (65, .slice (some ⟨b1, 0, none⟩) l.length l.length), (10, vU (((ssq (scaled l) i : Nat) : Int) % 18446744073709551616)), (9, vU (((ssq (scaled l) i : Nat) : Int) / 18446744073709551616)), (5, .slice (some ⟨b1, 0, none⟩) l.length l.length)]) (by rw [hng]) (fun _ h => h) ?_
    refine ops_val (op := (Go.Op.call { callee := (Go.Callee.builtin Go.Builtin.max), args := #[(Go.Operand.tmp 72), (Go.Operand.tmp 74)], argTypes := #[3, 3] })) (d := some 75) (v := vI (max ((scaled l).getD i 0) (0 - ((scaled l).getD i 0)))) ⟨by kernel_rfl⟩ (run_max rfl rfl) ?_
    refine oR [] [(75, vI (max ((scaled l).getD i 0) (0 - ((scaled l).getD i 0)))), (13, vI ((scaled l).getD i 0)), (67, vI (i : Int)), (66, vI (l.length : Int)), (65, .slice (some ⟨b1, 0, none⟩) l.length l.length), (10, vU (((ssq (scaled l) i : Nat) : Int) % 18446744073709551616)), (9, vU (((ssq (scaled l) i : Nat) : Int) / 18446744073709551616)), (5, .slice (some ⟨b1, 0, none⟩) l.length l.length)] [75, 13, 67, 66, 65, 10, 9, 5] (by kernel_rfl) ?_
    refine ops_conv (l' := [(75, vI ((((scaled l).getD i 0).natAbs : Nat) : Int)), (13, vI ((scaled l).getD i 0)), (67, vI (i : Int)), (66, vI (l.length : Int)), (65, .slice (some ⟨b1, 0, none⟩) l.length l.length), (10, vU (((ssq (scaled l) i : Nat) : Int) % 18446744073709551616)), (9, vU (((ssq (scaled l) i : Nat) : Int) / 18446744073709551616)), (5, .slice (some ⟨b1, 0, none⟩) l.length l.length)]) (by rw [hnab]) (fun _ h => h) ?_
    refine oR [oF 4] [(76, vU (IntKind.u64.wrap ((((scaled l).getD i 0).natAbs : Nat) : Int))), (13, vI ((scaled l).getD i 0)), (67, vI (i : Int)), (66, vI (l.length : Int)), (65, .slice (some ⟨b1, 0, none⟩) l.length l.length), (10, vU (((ssq (scaled l) i : Nat) : Int) % 18446744073709551616)), (9, vU (((ssq (scaled l) i : Nat) : Int) / 18446744073709551616)), (5, .slice (some ⟨b1, 0, none⟩) l.length l.length)] [76, 13, 67, 66, 65, 10, 9, 5] (by kernel_rfl) ?_
    refine ops_conv (l' := [(76, vU ((((scaled l).getD i 0).natAbs : Nat) : Int)), (13, vI ((scaled l).getD i 0)), (67, vI (i : Int)), (66, vI (l.length : Int)), (65, .slice (some ⟨b1, 0, none⟩) l.length l.length), (10, vU (((ssq (scaled l) i : Nat) : Int) % 18446744073709551616)), (9, vU (((ssq (scaled l) i : Nat) : Int) / 18446744073709551616)), (5, .slice (some ⟨b1, 0, none⟩) l.length l.length)]) (by rw [hnu]) (fun _ h => h) ?_
    refine oR [oF 5, oF 6, oF 7] [(79, vI (IntKind.i64.wrap (0 - (scaled l).getD i 0))), (77, vI ((scaled l).getD i 0)), (76, vU ((((scaled l).getD i 0).natAbs : Nat) : Int)), (67, vI (i : Int)), (66, vI (l.length : Int)), (65, .slice (some ⟨b1, 0, none⟩) l.length l.length), (10, vU (((ssq (scaled l) i : Nat) : Int) % 18446744073709551616)), (9, vU (((ssq (scaled l) i : Nat) : Int) / 18446744073709551616)), (5, .slice (some ⟨b1, 0, none⟩) l.length l.length)] [79, 77, 76, 67, 66, 65, 10, 9, 5] (by kernel_rfl) ?_
    refine ops_conv (l' := [(79, vI (0 - ((scaled l).getD i 0))), (77, vI ((scaled l).getD i 0)), (76, vU ((((scaled l).getD i 0).natAbs : Nat) : Int)), (67, vI (i : Int)), (66, vI (l.length : Int)), (65, .slice (some ⟨b1, 0, none⟩) l.length l.length), (10, vU (((ssq (scaled l) i : Nat) : Int) % 18446744073709551616)), (9, vU (((ssq (scaled l) i : Nat) : Int) / 18446744073709551616)), (5, .slice (some ⟨b1, 0, none⟩) l.length l.length)]) (by rw [hng]) (fun _ h => h) ?_
    refine ops_val (op := (Go.Op.call { callee := (Go.Callee.builtin Go.Builtin.max), args := #[(Go.Operand.tmp 77), (Go.Operand.tmp 79)], argTypes := #[3, 3] })) (d := some 80) (v := vI (max ((scaled l).getD i 0) (0 - ((scaled l).getD i 0)))) ⟨by kernel_rfl⟩ (run_max rfl rfl) ?_
    refine oR [] [(80, vI (max ((scaled l).getD i 0) (0 - ((scaled l).getD i 0)))), (76, vU ((((scaled l).getD i 0).natAbs : Nat) : Int)), (67, vI (i : Int)), (66, vI (l.length : Int)), (65, .slice (some ⟨b1, 0, none⟩) l.length l.length), (10, vU (((ssq (scaled l) i : Nat) : Int) % 18446744073709551616)), (9, vU (((ssq (scaled l) i : Nat) : Int) / 18446744073709551616)), (5, .slice (some ⟨b1, 0, none⟩) l.length l.length)] [80, 76, 67, 66, 65, 10, 9, 5] (by kernel_rfl) ?_
    refine ops_conv (l' := [(80, vI ((((scaled l).getD i 0).natAbs : Nat) : Int)), (76, vU ((((scaled l).getD i 0).natAbs : Nat) : Int)), (67, vI (i : Int)), (66, vI (l.length : Int)), (65, .slice (some ⟨b1, 0, none⟩) l.length l.length), (10, vU (((ssq (scaled l) i : Nat) : Int) % 18446744073709551616)), (9, vU (((ssq (scaled l) i : Nat) : Int) / 18446744073709551616)), (5, .slice (some ⟨b1, 0, none⟩) l.length l.length)]) (by rw [hnab]) (fun _ h => h) ?_
    refine oR [oF 9] [(81, vU (IntKind.u64.wrap ((((scaled l).getD i 0).natAbs : Nat) : Int))), (76, vU ((((scaled l).getD i 0).natAbs : Nat) : Int)), (67, vI (i : Int)), (66, vI (l.length : Int)), (65, .slice (some ⟨b1, 0, none⟩) l.length l.length), (10, vU (((ssq (scaled l) i : Nat) : Int) % 18446744073709551616)), (9, vU (((ssq (scaled l) i : Nat) : Int) / 18446744073709551616)), (5, .slice (some ⟨b1, 0, none⟩) l.length l.length)] [81, 76, 67, 66, 65, 10, 9, 5] (by kernel_rfl) ?_
    refine ops_conv (l' := [(81, vU ((((scaled l).getD i 0).natAbs : Nat) : Int)), (76, vU ((((scaled l).getD i 0).natAbs : Nat) : Int)), (67, vI (i : Int)), (66, vI (l.length : Int)), (65, .slice (some ⟨b1, 0, none⟩) l.length l.length), (10, vU (((ssq (scaled l) i : Nat) : Int) % 18446744073709551616)), (9, vU (((ssq (scaled l) i : Nat) : Int) / 18446744073709551616)), (5, .slice (some ⟨b1, 0, none⟩) l.length l.length)]) (by rw [hnu]) (fun _ h => h) ?_
    refine oC (some 82) 94 #[vU ((((scaled l).getD i 0).natAbs : Nat) : Int), vU ((((scaled l).getD i 0).natAbs : Nat) : Int)] (.tuple #[vU (((((scaled l).getD i 0).natAbs * ((scaled l).getD i 0).natAbs : Nat) : Int) / 18446744073709551616), vU (((((scaled l).getD i 0).natAbs * ((scaled l).getD i 0).natAbs : Nat) : Int) % 18446744073709551616)]) ⟨by kernel_rfl⟩ (fun w_ hM => Mul_nn (((scaled l).getD i 0).natAbs) w_ hn41) ?_
    refine oR [oF 11, oF 12, oF 13, oF 14, oF 15] [(15, vU (((((scaled l).getD i 0).natAbs * ((scaled l).getD i 0).natAbs : Nat) : Int) % 18446744073709551616)), (14, vU (((((scaled l).getD i 0).natAbs * ((scaled l).getD i 0).natAbs : Nat) : Int) / 18446744073709551616)), (67, vI (i : Int)), (66, vI (l.length : Int)), (65, .slice (some ⟨b1, 0, none⟩) l.length l.length), (10, vU (((ssq (scaled l) i : Nat) : Int) % 18446744073709551616)), (9, vU (((ssq (scaled l) i : Nat) : Int) / 18446744073709551616)), (5, .slice (some ⟨b1, 0, none⟩) l.length l.length)] [15, 14, 67, 66, 65, 10, 9, 5] (by kernel_rfl) ?_
    refine ops_nil ?_
    refine fin_then ?_
    refine st_seq ?_
    refine st_region [oF 0, oF 1, oF 2, oF 3, oF 4, oF 5, oF 6, oF 7] (by rfl) ?_
    refine oR [oF 0, oF 1] [(87, vU (((((scaled l).getD i 0).natAbs * ((scaled l).getD i 0).natAbs : Nat) : Int) % 18446744073709551616)), (86, vU (((ssq (scaled l) i : Nat) : Int) % 18446744073709551616)), (14, vU (((((scaled l).getD i 0).natAbs * ((scaled l).getD i 0).natAbs : Nat) : Int) / 18446744073709551616)), (67, vI (i : Int)), (66, vI (l.length : Int)), (65, .slice (some ⟨b1, 0, none⟩) l.length l.length), (10, vU (((ssq (scaled l) i : Nat) : Int) % 18446744073709551616)), (9, vU (((ssq (scaled l) i : Nat) : Int) / 18446744073709551616)), (5, .slice (some ⟨b1, 0, none⟩) l.length l.length)] [87, 86, 14, 67, 66, 65, 10, 9, 5] (by kernel_rfl) ?_
    refine ops_val (op := (Go.Op.call { callee := (Go.Callee.value (Go.Operand.func 128)), args := #[(Go.Operand.tmp 86), (Go.Operand.tmp 87), (Go.Operand.const (Go.Value.int Go.IntKind.u64 0))], argTypes := #[53, 53, 53] })) (d := some 88) (v := .tuple #[vU (((((ssq (scaled l) i : Nat) : Int) % 18446744073709551616) + (((((scaled l).getD i 0).natAbs * ((scaled l).getD i 0).natAbs : Nat) : Int) % 18446744073709551616) + 0) % 18446744073709551616), vU (((((ssq (scaled l) i : Nat) : Int) % 18446744073709551616) + (((((scaled l).getD i 0).natAbs * ((scaled l).getD i 0).natAbs : Nat) : Int) % 18446744073709551616) + 0) / 18446744073709551616)]) ⟨by kernel_rfl⟩ (run_Add64 rfl rfl rfl (by omega) (by omega) (by omega) (by omega)) ?_
    refine oR [] [(88, .tuple #[vU (((((ssq (scaled l) i : Nat) : Int) % 18446744073709551616) + (((((scaled l).getD i 0).natAbs * ((scaled l).getD i 0).natAbs : Nat) : Int) % 18446744073709551616) + 0) % 18446744073709551616), vU (((((ssq (scaled l) i : Nat) : Int) % 18446744073709551616) + (((((scaled l).getD i 0).natAbs * ((scaled l).getD i 0).natAbs : Nat) : Int) % 18446744073709551616) + 0) / 18446744073709551616)]), (14, vU (((((scaled l).getD i 0).natAbs * ((scaled l).getD i 0).natAbs : Nat) : Int) / 18446744073709551616)), (67, vI (i : Int)), (66, vI (l.length : Int)), (65, .slice (some ⟨b1, 0, none⟩) l.length l.length), (10, vU (((ssq (scaled l) i : Nat) : Int) % 18446744073709551616)), (9, vU (((ssq (scaled l) i : Nat) : Int) / 18446744073709551616)), (5, .slice (some ⟨b1, 0, none⟩) l.length l.length)] [88, 14, 67, 66, 65, 10, 9, 5] (by kernel_rfl) ?_
    refine ops_conv (l' := [(88, .tuple #[vU (((ssq (scaled l) (i + 1) : Nat) : Int) % 18446744073709551616), vU (((((ssq (scaled l) i : Nat) : Int) % 18446744073709551616) + (((((scaled l).getD i 0).natAbs * ((scaled l).getD i 0).natAbs : Nat) : Int) % 18446744073709551616) + 0) / 18446744073709551616)]), (14, vU (((((scaled l).getD i 0).natAbs * ((scaled l).getD i 0).natAbs : Nat) : Int) / 18446744073709551616)), (67, vI (i : Int)), (66, vI (l.length : Int)), (65, .slice (some ⟨b1, 0, none⟩) l.length l.length), (10, vU (((ssq (scaled l) i : Nat) : Int) % 18446744073709551616)), (9, vU (((ssq (scaled l) i : Nat) : Int) / 18446744073709551616)), (5, .slice (some ⟨b1, 0, none⟩) l.length l.length)]) (by rw [hlo]) (fun _ h => h) ?_
    refine oR [oF 3, oF 4, oF 5, oF 6, oF 7] [(11, vU (((((ssq (scaled l) i : Nat) : Int) % 18446744073709551616) + (((((scaled l).getD i 0).natAbs * ((scaled l).getD i 0).natAbs : Nat) : Int) % 18446744073709551616) + 0) / 18446744073709551616)), (10, vU (((ssq (scaled l) (i + 1) : Nat) : Int) % 18446744073709551616)), (14, vU (((((scaled l).getD i 0).natAbs * ((scaled l).getD i 0).natAbs : Nat) : Int) / 18446744073709551616)), (67, vI (i : Int)), (66, vI (l.length : Int)), (65, .slice (some ⟨b1, 0, none⟩) l.length l.length), (9, vU (((ssq (scaled l) i : Nat) : Int) / 18446744073709551616)), (5, .slice (some ⟨b1, 0, none⟩) l.length l.length)] [11, 10, 14, 67, 66, 65, 9, 5] (by kernel_rfl) ?_
    refine ops_nil ?_
    refine fin_then ?_
    refine st_region [oF 0, oF 1, oF 2, oF 3, oF 4, oF 5, oF 6, oF 7] (by rfl) ?_
    refine oR [oF 0, oF 1, oF 2] [(94, vU (((((ssq (scaled l) i : Nat) : Int) % 18446744073709551616) + (((((scaled l).getD i 0).natAbs * ((scaled l).getD i 0).natAbs : Nat) : Int) % 18446744073709551616) + 0) / 18446744073709551616)), (93, vU (((((scaled l).getD i 0).natAbs * ((scaled l).getD i 0).natAbs : Nat) : Int) / 18446744073709551616)), (92, vU (((ssq (scaled l) i : Nat) : Int) / 18446744073709551616)), (10, vU (((ssq (scaled l) (i + 1) : Nat) : Int) % 18446744073709551616)), (67, vI (i : Int)), (66, vI (l.length : Int)), (65, .slice (some ⟨b1, 0, none⟩) l.length l.length), (9, vU (((ssq (scaled l) i : Nat) : Int) / 18446744073709551616)), (5, .slice (some ⟨b1, 0, none⟩) l.length l.length)] [94, 93, 92, 10, 67, 66, 65, 9, 5] (by kernel_rfl) ?_
    refine ops_val (op := (Go.Op.call { callee := (Go.Callee.value (Go.Operand.func 128)), args := #[(Go.Operand.tmp 92), (Go.Operand.tmp 93), (Go.Operand.tmp 94)], argTypes := #[53, 53, 53] })) (d := some 95) (v := .tuple #[vU (((((ssq (scaled l) i : Nat) : Int) / 18446744073709551616) + (((((scaled l).getD i 0).natAbs * ((scaled l).getD i 0).natAbs : Nat) : Int) / 18446744073709551616) + (((((ssq (scaled l) i : Nat) : Int) % 18446744073709551616) + (((((scaled l).getD i 0).natAbs * ((scaled l).getD i 0).natAbs : Nat) : Int) % 18446744073709551616) + 0) / 18446744073709551616)) % 18446744073709551616), vU (((((ssq (scaled l) i : Nat) : Int) / 18446744073709551616) + (((((scaled l).getD i 0).natAbs * ((scaled l).getD i 0).natAbs : Nat) : Int) / 18446744073709551616) + (((((ssq (scaled l) i : Nat) : Int) % 18446744073709551616) + (((((scaled l).getD i 0).natAbs * ((scaled l).getD i 0).natAbs : Nat) : Int) % 18446744073709551616) + 0) / 18446744073709551616)) / 18446744073709551616)]) ⟨by kernel_rfl⟩ (run_Add64 rfl rfl rfl (by omega) (by omega) (by omega) (by omega)) ?_
    refine oR [] [(95, .tuple #[vU (((((ssq (scaled l) i : Nat) : Int) / 18446744073709551616) + (((((scaled l).getD i 0).natAbs * ((scaled l).getD i 0).natAbs : Nat) : Int) / 18446744073709551616) + (((((ssq (scaled l) i : Nat) : Int) % 18446744073709551616) + (((((scaled l).getD i 0).natAbs * ((scaled l).getD i 0).natAbs : Nat) : Int) % 18446744073709551616) + 0) / 18446744073709551616)) % 18446744073709551616), vU (((((ssq (scaled l) i : Nat) : Int) / 18446744073709551616) + (((((scaled l).getD i 0).natAbs * ((scaled l).getD i 0).natAbs : Nat) : Int) / 18446744073709551616) + (((((ssq (scaled l) i : Nat) : Int) % 18446744073709551616) + (((((scaled l).getD i 0).natAbs * ((scaled l).getD i 0).natAbs : Nat) : Int) % 18446744073709551616) + 0) / 18446744073709551616)) / 18446744073709551616)]), (10, vU (((ssq (scaled l) (i + 1) : Nat) : Int) % 18446744073709551616)), (67, vI (i : Int)), (66, vI (l.length : Int)), (65, .slice (some ⟨b1, 0, none⟩) l.length l.length), (9, vU (((ssq (scaled l) i : Nat) : Int) / 18446744073709551616)), (5, .slice (some ⟨b1, 0, none⟩) l.length l.length)] [95, 10, 67, 66, 65, 9, 5] (by kernel_rfl) ?_
    refine ops_conv (l' := [(95, .tuple #[vU (((ssq (scaled l) (i + 1) : Nat) : Int) / 18446744073709551616), vU (((((ssq (scaled l) i : Nat) : Int) / 18446744073709551616) + (((((scaled l).getD i 0).natAbs * ((scaled l).getD i 0).natAbs : Nat) : Int) / 18446744073709551616) + (((((ssq (scaled l) i : Nat) : Int) % 18446744073709551616) + (((((scaled l).getD i 0).natAbs * ((scaled l).getD i 0).natAbs : Nat) : Int) % 18446744073709551616) + 0) / 18446744073709551616)) / 18446744073709551616)]), (10, vU (((ssq (scaled l) (i + 1) : Nat) : Int) % 18446744073709551616)), (67, vI (i : Int)), (66, vI (l.length : Int)), (65, .slice (some ⟨b1, 0, none⟩) l.length l.length), (9, vU (((ssq (scaled l) i : Nat) : Int) / 18446744073709551616)), (5, .slice (some ⟨b1, 0, none⟩) l.length l.length)]) (by rw [hhi]) (fun _ h => h) ?_
    refine oR [oF 4, oF 5, oF 6, oF 7] [(9, vU (((ssq (scaled l) (i + 1) : Nat) : Int) / 18446744073709551616)), (10, vU (((ssq (scaled l) (i + 1) : Nat) : Int) % 18446744073709551616)), (67, vI (i : Int)), (66, vI (l.length : Int)), (65, .slice (some ⟨b1, 0, none⟩) l.length l.length), (5, .slice (some ⟨b1, 0, none⟩) l.length l.length)] [9, 10, 67, 66, 65, 5] (by kernel_rfl) ?_
    refine ops_nil ?_
    refine fin_block ?_
    refine fin_then ?_
    refine st_region [oF 0, oF 1] (by rfl) ?_
    refine oR [oF 0] [(98, vI (IntKind.i64.wrap ((i : Int) + 1))), (9, vU (((ssq (scaled l) (i + 1) : Nat) : Int) / 18446744073709551616)), (10, vU (((ssq (scaled l) (i + 1) : Nat) : Int) % 18446744073709551616)), (67, vI (i : Int)), (66, vI (l.length : Int)), (65, .slice (some ⟨b1, 0, none⟩) l.length l.length), (5, .slice (some ⟨b1, 0, none⟩) l.length l.length)] [98, 9, 10, 67, 66, 65, 5] (by kernel_rfl) ?_
    refine ops_conv (l' := [(98, vI ((i + 1 : Nat) : Int)), (9, vU (((ssq (scaled l) (i + 1) : Nat) : Int) / 18446744073709551616)), (10, vU (((ssq (scaled l) (i + 1) : Nat) : Int) % 18446744073709551616)), (67, vI (i : Int)), (66, vI (l.length : Int)), (65, .slice (some ⟨b1, 0, none⟩) l.length l.length), (5, .slice (some ⟨b1, 0, none⟩) l.length l.length)]) (by rw [hi1]) (fun _ h => h) ?_
    refine oR [oF 1] [(67, vI ((i + 1 : Nat) : Int)), (9, vU (((ssq (scaled l) (i + 1) : Nat) : Int) / 18446744073709551616)), (10, vU (((ssq (scaled l) (i + 1) : Nat) : Int) % 18446744073709551616)), (66, vI (l.length : Int)), (65, .slice (some ⟨b1, 0, none⟩) l.length l.length), (5, .slice (some ⟨b1, 0, none⟩) l.length l.length)] [67, 9, 10, 66, 65, 5] (by kernel_rfl) ?_
    refine ops_nil ?_
    refine fin_round (i + 1) (by omega) (by omega) (look_has ⟨rfl, rfl, rfl, rfl, rfl, rfl, trivial⟩) (fun w_ hM => by exact hM)
   · --
    have hi : i = l.length := by have := of_decide_eq_false hc8; omega
    have hss := ssq_le (fun k => Nat.le_trans (hso1 k) (by decide)) i
    have hwr : IntKind.i64.wrap ((rootN (ssq (scaled l) i) : Nat) : Int) = longV (scaled l) := by have hb := long_root (S := ssq (scaled l) i) (by omega); rw [i64in (by omega) (by omega)]; unfold longV; rw [scaled_length, hi]
    refine st_exit ?_
    refine fin_exit_then ?_
    refine fin_exit_then ?_
    refine fin_exit ?_
    refine fin_then ?_
    refine st_seq ?_
    refine st_region [oF 0, oF 1, oF 2, oF 3, oF 4] (by rfl) ?_
    refine oR [oF 0, oF 1] [(100, vU (((ssq (scaled l) i : Nat) : Int) % 18446744073709551616)), (99, vU (((ssq (scaled l) i : Nat) : Int) / 18446744073709551616)), (5, .slice (some ⟨b1, 0, none⟩) l.length l.length)] [100, 99, 5] (by kernel_rfl) ?_
    refine oC (some 101) 129 #[vU (((ssq (scaled l) i : Nat) : Int) / 18446744073709551616), vU (((ssq (scaled l) i : Nat) : Int) % 18446744073709551616)] (vU ((rootN (ssq (scaled l) i) : Nat) : Int)) ⟨by kernel_rfl⟩ (fun w_ hM => Root_whole (ssq (scaled l) i) w_ (by omega)) ?_
    refine oR [oF 3] [(102, vI (IntKind.i64.wrap ((rootN (ssq (scaled l) i) : Nat) : Int))), (5, .slice (some ⟨b1, 0, none⟩) l.length l.length)] [102, 5] (by kernel_rfl) ?_
    refine ops_conv (l' := [(102, vI (longV (scaled l))), (5, .slice (some ⟨b1, 0, none⟩) l.length l.length)]) (by rw [hwr]) (fun _ h => h) ?_
    refine oR [oF 4] [(16, vI (longV (scaled l))), (5, .slice (some ⟨b1, 0, none⟩) l.length l.length)] [16, 5] (by kernel_rfl) ?_
    refine ops_nil ?_
    refine fin_then ?_
    refine st_seq ?_
    refine st_seq ?_
    refine st_region [oF 0, oF 1, oF 2] (by rfl) ?_
    refine oR [oF 0, oF 1, oF 2] [(105, vI 0), (104, vI (l.length : Int)), (103, .slice (some ⟨b1, 0, none⟩) l.length l.length), (16, vI (longV (scaled l))), (5, .slice (some ⟨b1, 0, none⟩) l.length l.length)] [105, 104, 103, 16, 5] (by kernel_rfl) ?_
    refine ops_nil ?_
    refine fin_then ?_
    refine st_block ?_
    obtain ⟨g, hg⟩ : ∃ g, g = longV (scaled l) := ⟨_, rfl⟩
    rw [← hg] at hso2 hso3 hso4
    clear hss hwr hf hf0 hf1 hfill hs0 hs1 hdb hge
    refine st_conv (l' := [(105, vI 0), (104, vI (l.length : Int)), (103, .slice (some ⟨b1, 0, none⟩) l.length l.length), (16, vI g), (5, .slice (some ⟨b1, 0, none⟩) l.length l.length)]) (M' := Mem w [.row (some ⟨b1, 0, none⟩) l.length l.length 3 1 (iv .i64 (scaled l))]) (by rw [hg]) (fun w_ hM => hM) ?_
    refine st_loop (σ := Nat) 0 (fun m => [(105, vI (m : Int)), (104, vI (l.length : Int)), (103, .slice (some ⟨b1, 0, none⟩) l.length l.length), (16, vI g), (5, .slice (some ⟨b1, 0, none⟩) l.length l.length)]) (fun m => Mem w [.row (some ⟨b1, 0, none⟩) l.length l.length 3 1 (iv .i64 (mapK (fun x => throughV x (g)) (scaled l) m))]) (fun m => m ≤ l.length) (fun m => l.length - m) (by exact Nat.zero_le _) (look_has ⟨rfl, rfl, rfl, rfl, rfl, trivial⟩) (fun w_ hM => by exact hM) ?_
    rintro m hI
    have hIm : m ≤ l.length := hI
    refine st_seq ?_
    refine st_region [oF 0] (by rfl) ?_
    refine oR [oF 0] [(106, .bool (decide ((m : Int) < (l.length : Int)))), (105, vI (m : Int)), (104, vI (l.length : Int)), (103, .slice (some ⟨b1, 0, none⟩) l.length l.length), (16, vI g), (5, .slice (some ⟨b1, 0, none⟩) l.length l.length)] [106, 105, 104, 103, 16, 5] (by kernel_rfl) ?_
    refine ops_nil ?_
    refine fin_then ?_
    refine st_seq ?_
    refine st_if (b := decide ((m : Int) < (l.length : Int))) rfl (fun hc9 => ?_) (fun hc9 => ?_)
    · --
     have hm : m < l.length := by have := of_decide_eq_true hc9; omega
     have hm1 : IntKind.i64.wrap ((m : Int) + 1) = ((m + 1 : Nat) : Int) := succ_i64 (by omega)
     obtain ⟨hlm0, hgm⟩ := mapK_ok (fun x => throughV x (g)) (scaled l) (k := m) (by rw [scaled_length]; omega)
     have hlm : (mapK (fun x => throughV x (g)) (scaled l) m).length = l.length := hlm0.trans (scaled_length l)
     have hgj := hgm m
     rw [if_neg (Nat.lt_irrefl _)] at hgj
     have hn1 := hso1 m
     rw [← hgj] at hn1
     have htd := tdiv_small (n := 2 * (mapK (fun x => throughV x (g)) (scaled l) m).getD m 0 * 65536 + g) (d := 2 * g) (by omega)
     have hwq : IntKind.i64.wrap (Int.tdiv (2 * (mapK (fun x => throughV x (g)) (scaled l) m).getD m 0 * 65536 + g) (2 * g)) = Int.tdiv (2 * (mapK (fun x => throughV x (g)) (scaled l) m).getD m 0 * 65536 + g) (2 * g) := i64in (by omega) (by omega)
     have hwq1 : IntKind.i64.wrap (Int.tdiv (2 * (mapK (fun x => throughV x (g)) (scaled l) m).getD m 0 * 65536 + g) (2 * g) - 1) = Int.tdiv (2 * (mapK (fun x => throughV x (g)) (scaled l) m).getD m 0 * 65536 + g) (2 * g) - 1 := i64in (by omega) (by omega)
     have hgs : ((mapK (fun x => throughV x (g)) (scaled l) m).set m (Int.tdiv (2 * (mapK (fun x => throughV x (g)) (scaled l) m).getD m 0 * 65536 + g) (2 * g))).getD m 0 = Int.tdiv (2 * (mapK (fun x => throughV x (g)) (scaled l) m).getD m 0 * 65536 + g) (2 * g) := getD_set_self (by omega)
     refine st_skip ?_
     refine fin_then ?_
     refine st_seq ?_
     refine st_block ?_
     refine st_seq ?_
     refine st_region [oF 0, oF 1, oF 2, oF 3, oF 4] (by rfl) ?_
     refine oR [oF 0] [(107, vI (m : Int)), (105, vI (m : Int)), (104, vI (l.length : Int)), (103, .slice (some ⟨b1, 0, none⟩) l.length l.length), (16, vI g), (5, .slice (some ⟨b1, 0, none⟩) l.length l.length)] [107, 105, 104, 103, 16, 5] (by kernel_rfl) ?_
     refine ops_val (op := (Go.Op.indexAddr 91 (Go.Operand.tmp 103) (Go.Operand.tmp 105))) (d := some 108) (v := vP b1 m) ⟨by kernel_rfl⟩ (run_indexRow Try.underlying91 (z := 1) (by kernel_rfl) rfl rfl (m := m) (by first | rfl | omega) (by first | omega | (simp only [hlm, List.length_set, List.length_append, List.length_cons, List.length_nil, List.length_replicate] at *; omega) | (simp [hlm, List.length_set, List.length_append, List.length_cons, List.length_nil, List.length_replicate]; done)) (by exact Nat.mul_one _)) ?_
     refine oR [] [(108, vP b1 m), (107, vI (m : Int)), (105, vI (m : Int)), (104, vI (l.length : Int)), (103, .slice (some ⟨b1, 0, none⟩) l.length l.length), (16, vI g), (5, .slice (some ⟨b1, 0, none⟩) l.length l.length)] [108, 107, 105, 104, 103, 16, 5] (by kernel_rfl) ?_
     refine ops_mem (d := some 109) (an := [.v (vI ((mapK (fun x => throughV x (g)) (scaled l) m).getD m 0))]) (evs := [.load ⟨b1, m, none⟩ (vI ((mapK (fun x => throughV x (g)) (scaled l) m).getD m 0))]) (v := vI ((mapK (fun x => throughV x (g)) (scaled l) m).getD m 0)) (M' := Mem w [.row (some ⟨b1, 0, none⟩) l.length l.length 3 1 (iv .i64 (mapK (fun x => throughV x (g)) (scaled l) m))]) ⟨by kernel_rfl⟩ (fun w_ hM hS => ⟨w_, ⟨hM.rowcell 0 rfl (iv_get (by first | omega | (simp only [hlm, List.length_set, List.length_append, List.length_cons, List.length_nil, List.length_replicate] at *; omega) | (simp [hlm, List.length_set, List.length_append, List.length_cons, List.length_nil, List.length_replicate]; done))), rfl⟩, hM, trivial⟩) ?_
     refine oR [oF 3, oF 4] [(18, vI ((mapK (fun x => throughV x (g)) (scaled l) m).getD m 0)), (17, vI (m : Int)), (105, vI (m : Int)), (104, vI (l.length : Int)), (103, .slice (some ⟨b1, 0, none⟩) l.length l.length), (16, vI g), (5, .slice (some ⟨b1, 0, none⟩) l.length l.length)] [18, 17, 105, 104, 103, 16, 5] (by kernel_rfl) ?_
     refine ops_nil ?_
     refine fin_then ?_
     refine st_seq ?_
     refine st_region [oF 0, oF 1, oF 2, oF 3, oF 4, oF 5] (by rfl) ?_
     refine oR [oF 0, oF 1] [(111, vI (IntKind.i64.wrap (2 * (mapK (fun x => throughV x (g)) (scaled l) m).getD m 0))), (17, vI (m : Int)), (105, vI (m : Int)), (104, vI (l.length : Int)), (103, .slice (some ⟨b1, 0, none⟩) l.length l.length), (16, vI g), (5, .slice (some ⟨b1, 0, none⟩) l.length l.length)] [111, 17, 105, 104, 103, 16, 5] (by kernel_rfl) ?_
     refine ops_conv (l' := [(111, vI (2 * (mapK (fun x => throughV x (g)) (scaled l) m).getD m 0)), (17, vI (m : Int)), (105, vI (m : Int)), (104, vI (l.length : Int)), (103, .slice (some ⟨b1, 0, none⟩) l.length l.length), (16, vI g), (5, .slice (some ⟨b1, 0, none⟩) l.length l.length)]) (by rw [(i64in (x := 2 * (mapK (fun x => throughV x (g)) (scaled l) m).getD m 0) (by omega) (by omega))]) (fun _ h => h) ?_
     refine oR [oF 2] [(112, vI (IntKind.i64.wrap ((2 * (mapK (fun x => throughV x (g)) (scaled l) m).getD m 0) * 65536))), (17, vI (m : Int)), (105, vI (m : Int)), (104, vI (l.length : Int)), (103, .slice (some ⟨b1, 0, none⟩) l.length l.length), (16, vI g), (5, .slice (some ⟨b1, 0, none⟩) l.length l.length)] [112, 17, 105, 104, 103, 16, 5] (by kernel_rfl) ?_
     refine ops_conv (l' := [(112, vI ((2 * (mapK (fun x => throughV x (g)) (scaled l) m).getD m 0) * 65536)), (17, vI (m : Int)), (105, vI (m : Int)), (104, vI (l.length : Int)), (103, .slice (some ⟨b1, 0, none⟩) l.length l.length), (16, vI g), (5, .slice (some ⟨b1, 0, none⟩) l.length l.length)]) (by rw [(i64in (x := (2 * (mapK (fun x => throughV x (g)) (scaled l) m).getD m 0) * 65536) (by omega) (by omega))]) (fun _ h => h) ?_
     refine oR [oF 3, oF 4] [(114, vI (IntKind.i64.wrap (((2 * (mapK (fun x => throughV x (g)) (scaled l) m).getD m 0) * 65536) + g))), (17, vI (m : Int)), (105, vI (m : Int)), (104, vI (l.length : Int)), (103, .slice (some ⟨b1, 0, none⟩) l.length l.length), (16, vI g), (5, .slice (some ⟨b1, 0, none⟩) l.length l.length)] [114, 17, 105, 104, 103, 16, 5] (by kernel_rfl) ?_
     refine ops_conv (l' := [(114, vI (((2 * (mapK (fun x => throughV x (g)) (scaled l) m).getD m 0) * 65536) + g)), (17, vI (m : Int)), (105, vI (m : Int)), (104, vI (l.length : Int)), (103, .slice (some ⟨b1, 0, none⟩) l.length l.length), (16, vI g), (5, .slice (some ⟨b1, 0, none⟩) l.length l.length)]) (by rw [(i64in (x := ((2 * (mapK (fun x => throughV x (g)) (scaled l) m).getD m 0) * 65536) + g) (by omega) (by omega))]) (fun _ h => h) ?_
     refine oR [oF 5] [(19, vI (((2 * (mapK (fun x => throughV x (g)) (scaled l) m).getD m 0) * 65536) + g)), (17, vI (m : Int)), (105, vI (m : Int)), (104, vI (l.length : Int)), (103, .slice (some ⟨b1, 0, none⟩) l.length l.length), (16, vI g), (5, .slice (some ⟨b1, 0, none⟩) l.length l.length)] [19, 17, 105, 104, 103, 16, 5] (by kernel_rfl) ?_
     refine ops_nil ?_
     refine fin_then ?_
     refine st_seq ?_
     refine st_region [oF 0, oF 1, oF 2, oF 3, oF 4, oF 5, oF 6, oF 7] (by rfl) ?_
     refine oR [oF 0, oF 1, oF 2, oF 3, oF 4] [(119, vI (IntKind.i64.wrap (2 * g))), (117, vI (((2 * (mapK (fun x => throughV x (g)) (scaled l) m).getD m 0) * 65536) + g)), (116, vI (m : Int)), (115, .slice (some ⟨b1, 0, none⟩) l.length l.length), (19, vI (((2 * (mapK (fun x => throughV x (g)) (scaled l) m).getD m 0) * 65536) + g)), (17, vI (m : Int)), (105, vI (m : Int)), (104, vI (l.length : Int)), (103, .slice (some ⟨b1, 0, none⟩) l.length l.length), (16, vI g), (5, .slice (some ⟨b1, 0, none⟩) l.length l.length)] [119, 117, 116, 115, 19, 17, 105, 104, 103, 16, 5] (by kernel_rfl) ?_
     refine ops_conv (l' := [(119, vI (2 * g)), (117, vI (((2 * (mapK (fun x => throughV x (g)) (scaled l) m).getD m 0) * 65536) + g)), (116, vI (m : Int)), (115, .slice (some ⟨b1, 0, none⟩) l.length l.length), (19, vI (((2 * (mapK (fun x => throughV x (g)) (scaled l) m).getD m 0) * 65536) + g)), (17, vI (m : Int)), (105, vI (m : Int)), (104, vI (l.length : Int)), (103, .slice (some ⟨b1, 0, none⟩) l.length l.length), (16, vI g), (5, .slice (some ⟨b1, 0, none⟩) l.length l.length)]) (by rw [(i64in (x := 2 * g) (by omega) (by omega))]) (fun _ h => h) ?_
     refine ops_val (op := (Go.Op.binOp Go.BinOp.quo 3 (Go.Operand.tmp 117) (Go.Operand.tmp 119) 3)) (d := some 120) (v := vI (IntKind.i64.wrap (Int.tdiv (((2 * (mapK (fun x => throughV x (g)) (scaled l) m).getD m 0) * 65536) + g) (2 * g)))) ⟨by kernel_rfl⟩ (run_quo rfl rfl (by first | omega | (simp only [hlm, List.length_set, List.length_append, List.length_cons, List.length_nil, List.length_replicate] at *; omega) | (simp [hlm, List.length_set, List.length_append, List.length_cons, List.length_nil, List.length_replicate]; done))) ?_
     refine oR [] [(120, vI (IntKind.i64.wrap (Int.tdiv (((2 * (mapK (fun x => throughV x (g)) (scaled l) m).getD m 0) * 65536) + g) (2 * g)))), (116, vI (m : Int)), (115, .slice (some ⟨b1, 0, none⟩) l.length l.length), (19, vI (((2 * (mapK (fun x => throughV x (g)) (scaled l) m).getD m 0) * 65536) + g)), (17, vI (m : Int)), (105, vI (m : Int)), (104, vI (l.length : Int)), (103, .slice (some ⟨b1, 0, none⟩) l.length l.length), (16, vI g), (5, .slice (some ⟨b1, 0, none⟩) l.length l.length)] [120, 116, 115, 19, 17, 105, 104, 103, 16, 5] (by kernel_rfl) ?_
     refine ops_conv (l' := [(120, vI (Int.tdiv (2 * (mapK (fun x => throughV x (g)) (scaled l) m).getD m 0 * 65536 + g) (2 * g))), (116, vI (m : Int)), (115, .slice (some ⟨b1, 0, none⟩) l.length l.length), (19, vI (((2 * (mapK (fun x => throughV x (g)) (scaled l) m).getD m 0) * 65536) + g)), (17, vI (m : Int)), (105, vI (m : Int)), (104, vI (l.length : Int)), (103, .slice (some ⟨b1, 0, none⟩) l.length l.length), (16, vI g), (5, .slice (some ⟨b1, 0, none⟩) l.length l.length)]) (by rw [hwq]) (fun _ h => h) ?_
     refine ops_val (op := (Go.Op.indexAddr 91 (Go.Operand.tmp 115) (Go.Operand.tmp 116))) (d := some 121) (v := vP b1 m) ⟨by kernel_rfl⟩ (run_indexRow Try.underlying91 (z := 1) (by kernel_rfl) rfl rfl (m := m) (by first | rfl | omega) (by first | omega | (simp only [hlm, List.length_set, List.length_append, List.length_cons, List.length_nil, List.length_replicate] at *; omega) | (simp [hlm, List.length_set, List.length_append, List.length_cons, List.length_nil, List.length_replicate]; done)) (by exact Nat.mul_one _)) ?_
     refine oR [] [(121, vP b1 m), (120, vI (Int.tdiv (2 * (mapK (fun x => throughV x (g)) (scaled l) m).getD m 0 * 65536 + g) (2 * g))), (19, vI (((2 * (mapK (fun x => throughV x (g)) (scaled l) m).getD m 0) * 65536) + g)), (17, vI (m : Int)), (105, vI (m : Int)), (104, vI (l.length : Int)), (103, .slice (some ⟨b1, 0, none⟩) l.length l.length), (16, vI g), (5, .slice (some ⟨b1, 0, none⟩) l.length l.length)] [121, 120, 19, 17, 105, 104, 103, 16, 5] (by kernel_rfl) ?_
     refine ops_store (an := []) (evs := [.store ⟨b1, m, none⟩ (vI (Int.tdiv (2 * (mapK (fun x => throughV x (g)) (scaled l) m).getD m 0 * 65536 + g) (2 * g)))]) (M' := Mem w [.row (some ⟨b1, 0, none⟩) l.length l.length 3 1 (iv .i64 ((mapK (fun x => throughV x (g)) (scaled l) m).set m (Int.tdiv (2 * (mapK (fun x => throughV x (g)) (scaled l) m).getD m 0 * 65536 + g) (2 * g))))]) ⟨by kernel_rfl⟩ (fun w_ hM hS => let ⟨w', he, h'⟩ := hM.rowstore 0 rfl (m) (vI (Int.tdiv (2 * (mapK (fun x => throughV x (g)) (scaled l) m).getD m 0 * 65536 + g) (2 * g))) (by rw [iv_length]; first | omega | (simp only [hlm, List.length_set, List.length_append, List.length_cons, List.length_nil, List.length_replicate] at *; omega) | (simp [hlm, List.length_set, List.length_append, List.length_cons, List.length_nil, List.length_replicate]; done)); ⟨w', he, (by rw [iv_set] at h'; exact h'), trivial⟩) ?_
     refine oR [] [(19, vI (((2 * (mapK (fun x => throughV x (g)) (scaled l) m).getD m 0) * 65536) + g)), (17, vI (m : Int)), (105, vI (m : Int)), (104, vI (l.length : Int)), (103, .slice (some ⟨b1, 0, none⟩) l.length l.length), (16, vI g), (5, .slice (some ⟨b1, 0, none⟩) l.length l.length)] [19, 17, 105, 104, 103, 16, 5] (by kernel_rfl) ?_
     refine ops_nil ?_
     refine fin_then ?_
     refine st_seq ?_
     refine st_region [oF 0, oF 1, oF 2, oF 3, oF 4, oF 5, oF 6, oF 7, oF 8] (by rfl) ?_
     refine oR [oF 0, oF 1, oF 2] [(124, .bool (decide ((((2 * (mapK (fun x => throughV x (g)) (scaled l) m).getD m 0) * 65536) + g) < 0))), (19, vI (((2 * (mapK (fun x => throughV x (g)) (scaled l) m).getD m 0) * 65536) + g)), (17, vI (m : Int)), (105, vI (m : Int)), (104, vI (l.length : Int)), (103, .slice (some ⟨b1, 0, none⟩) l.length l.length), (16, vI g), (5, .slice (some ⟨b1, 0, none⟩) l.length l.length)] [124, 19, 17, 105, 104, 103, 16, 5] (by kernel_rfl) ?_
     refine ops_bool (t := decide ((((2 * (mapK (fun x => throughV x (g)) (scaled l) m).getD m 0) * 65536) + g) < 0)) (l1 := [(124, .bool true), (19, vI (((2 * (mapK (fun x => throughV x (g)) (scaled l) m).getD m 0) * 65536) + g)), (17, vI (m : Int)), (105, vI (m : Int)), (104, vI (l.length : Int)), (103, .slice (some ⟨b1, 0, none⟩) l.length l.length), (16, vI g), (5, .slice (some ⟨b1, 0, none⟩) l.length l.length)]) (l2 := [(124, .bool false), (19, vI (((2 * (mapK (fun x => throughV x (g)) (scaled l) m).getD m 0) * 65536) + g)), (17, vI (m : Int)), (105, vI (m : Int)), (104, vI (l.length : Int)), (103, .slice (some ⟨b1, 0, none⟩) l.length l.length), (16, vI g), (5, .slice (some ⟨b1, 0, none⟩) l.length l.length)]) (fun h => by rw [h]) (fun h => by rw [h]) (fun hc10 => ?_) (fun hc10 => ?_)
     · --decide ((((2 * (mapK (fun x => throughV x (g)) (scaled l) m)
      refine oR [oF 3, oF 4, oF 5] [(127, vI (IntKind.i64.wrap (2 * g))), (125, vI (((2 * (mapK (fun x => throughV x (g)) (scaled l) m).getD m 0) * 65536) + g)), (124, .bool true), (17, vI (m : Int)), (105, vI (m : Int)), (104, vI (l.length : Int)), (103, .slice (some ⟨b1, 0, none⟩) l.length l.length), (16, vI g), (5, .slice (some ⟨b1, 0, none⟩) l.length l.length)] [127, 125, 124, 17, 105, 104, 103, 16, 5] (by kernel_rfl) ?_
      refine ops_conv (l' := [(127, vI (2 * g)), (125, vI (((2 * (mapK (fun x => throughV x (g)) (scaled l) m).getD m 0) * 65536) + g)), (124, .bool true), (17, vI (m : Int)), (105, vI (m : Int)), (104, vI (l.length : Int)), (103, .slice (some ⟨b1, 0, none⟩) l.length l.length), (16, vI g), (5, .slice (some ⟨b1, 0, none⟩) l.length l.length)]) (by rw [(i64in (x := 2 * g) (by omega) (by omega))]) (fun _ h => h) ?_
      refine ops_val (op := (Go.Op.binOp Go.BinOp.rem 3 (Go.Operand.tmp 125) (Go.Operand.tmp 127) 3)) (d := some 128) (v := vI (Int.tmod (((2 * (mapK (fun x => throughV x (g)) (scaled l) m).getD m 0) * 65536) + g) (2 * g))) ⟨by kernel_rfl⟩ (run_rem rfl rfl (by first | omega | (simp only [hlm, List.length_set, List.length_append, List.length_cons, List.length_nil, List.length_replicate] at *; omega) | (simp [hlm, List.length_set, List.length_append, List.length_cons, List.length_nil, List.length_replicate]; done))) ?_
      refine oR [oF 7, oF 8] [(130, .bool (!(Int.tmod (((2 * (mapK (fun x => throughV x (g)) (scaled l) m).getD m 0) * 65536) + g) (2 * g) == 0))), (17, vI (m : Int)), (105, vI (m : Int)), (104, vI (l.length : Int)), (103, .slice (some ⟨b1, 0, none⟩) l.length l.length), (16, vI g), (5, .slice (some ⟨b1, 0, none⟩) l.length l.length)] [130, 17, 105, 104, 103, 16, 5] (by kernel_rfl) ?_
      refine ops_nil ?_
      refine fin_then ?_
      refine st_if (b := !(Int.tmod (((2 * (mapK (fun x => throughV x (g)) (scaled l) m).getD m 0) * 65536) + g) (2 * g) == 0)) rfl (fun hc11 => ?_) (fun hc11 => ?_)
      · --
       refine st_region [oF 0, oF 1, oF 2, oF 3, oF 4, oF 5, oF 6] (by rfl) ?_
       refine oR [oF 0, oF 1] [(132, vI (m : Int)), (131, .slice (some ⟨b1, 0, none⟩) l.length l.length), (105, vI (m : Int)), (104, vI (l.length : Int)), (103, .slice (some ⟨b1, 0, none⟩) l.length l.length), (16, vI g), (5, .slice (some ⟨b1, 0, none⟩) l.length l.length)] [132, 131, 105, 104, 103, 16, 5] (by kernel_rfl) ?_
       refine ops_val (op := (Go.Op.indexAddr 91 (Go.Operand.tmp 131) (Go.Operand.tmp 132))) (d := some 133) (v := vP b1 m) ⟨by kernel_rfl⟩ (run_indexRow Try.underlying91 (z := 1) (by kernel_rfl) rfl rfl (m := m) (by first | rfl | omega) (by first | omega | (simp only [hlm, List.length_set, List.length_append, List.length_cons, List.length_nil, List.length_replicate] at *; omega) | (simp [hlm, List.length_set, List.length_append, List.length_cons, List.length_nil, List.length_replicate]; done)) (by exact Nat.mul_one _)) ?_
       refine oR [] [(133, vP b1 m), (132, vI (m : Int)), (131, .slice (some ⟨b1, 0, none⟩) l.length l.length), (105, vI (m : Int)), (104, vI (l.length : Int)), (103, .slice (some ⟨b1, 0, none⟩) l.length l.length), (16, vI g), (5, .slice (some ⟨b1, 0, none⟩) l.length l.length)] [133, 132, 131, 105, 104, 103, 16, 5] (by kernel_rfl) ?_
       refine ops_mem (d := some 134) (an := [.v (vI (((mapK (fun x => throughV x (g)) (scaled l) m).set m (Int.tdiv (2 * (mapK (fun x => throughV x (g)) (scaled l) m).getD m 0 * 65536 + g) (2 * g))).getD m 0))]) (evs := [.load ⟨b1, m, none⟩ (vI (((mapK (fun x => throughV x (g)) (scaled l) m).set m (Int.tdiv (2 * (mapK (fun x => throughV x (g)) (scaled l) m).getD m 0 * 65536 + g) (2 * g))).getD m 0))]) (v := vI (((mapK (fun x => throughV x (g)) (scaled l) m).set m (Int.tdiv (2 * (mapK (fun x => throughV x (g)) (scaled l) m).getD m 0 * 65536 + g) (2 * g))).getD m 0)) (M' := Mem w [.row (some ⟨b1, 0, none⟩) l.length l.length 3 1 (iv .i64 ((mapK (fun x => throughV x (g)) (scaled l) m).set m (Int.tdiv (2 * (mapK (fun x => throughV x (g)) (scaled l) m).getD m 0 * 65536 + g) (2 * g))))]) ⟨by kernel_rfl⟩ (fun w_ hM hS => ⟨w_, ⟨hM.rowcell 0 rfl (iv_get (by first | omega | (simp only [hlm, List.length_set, List.length_append, List.length_cons, List.length_nil, List.length_replicate] at *; omega) | (simp [hlm, List.length_set, List.length_append, List.length_cons, List.length_nil, List.length_replicate]; done))), rfl⟩, hM, trivial⟩) ?_
       refine oR [] [(134, vI (((mapK (fun x => throughV x (g)) (scaled l) m).set m (Int.tdiv (2 * (mapK (fun x => throughV x (g)) (scaled l) m).getD m 0 * 65536 + g) (2 * g))).getD m 0)), (132, vI (m : Int)), (131, .slice (some ⟨b1, 0, none⟩) l.length l.length), (105, vI (m : Int)), (104, vI (l.length : Int)), (103, .slice (some ⟨b1, 0, none⟩) l.length l.length), (16, vI g), (5, .slice (some ⟨b1, 0, none⟩) l.length l.length)] [134, 132, 131, 105, 104, 103, 16, 5] (by kernel_rfl) ?_
       refine ops_conv (l' := [(134, vI (Int.tdiv (2 * (mapK (fun x => throughV x (g)) (scaled l) m).getD m 0 * 65536 + g) (2 * g))), (132, vI (m : Int)), (131, .slice (some ⟨b1, 0, none⟩) l.length l.length), (105, vI (m : Int)), (104, vI (l.length : Int)), (103, .slice (some ⟨b1, 0, none⟩) l.length l.length), (16, vI g), (5, .slice (some ⟨b1, 0, none⟩) l.length l.length)]) (by rw [hgs]) (fun _ h => h) ?_
       refine oR [oF 4] [(135, vI (IntKind.i64.wrap (Int.tdiv (2 * (mapK (fun x => throughV x (g)) (scaled l) m).getD m 0 * 65536 + g) (2 * g) - 1))), (132, vI (m : Int)), (131, .slice (some ⟨b1, 0, none⟩) l.length l.length), (105, vI (m : Int)), (104, vI (l.length : Int)), (103, .slice (some ⟨b1, 0, none⟩) l.length l.length), (16, vI g), (5, .slice (some ⟨b1, 0, none⟩) l.length l.length)] [135, 132, 131, 105, 104, 103, 16, 5] (by kernel_rfl) ?_
       refine ops_conv (l' := [(135, vI (Int.tdiv (2 * (mapK (fun x => throughV x (g)) (scaled l) m).getD m 0 * 65536 + g) (2 * g) - 1)), (132, vI (m : Int)), (131, .slice (some ⟨b1, 0, none⟩) l.length l.length), (105, vI (m : Int)), (104, vI (l.length : Int)), (103, .slice (some ⟨b1, 0, none⟩) l.length l.length), (16, vI g), (5, .slice (some ⟨b1, 0, none⟩) l.length l.length)]) (by rw [hwq1]) (fun _ h => h) ?_
       refine ops_val (op := (Go.Op.indexAddr 91 (Go.Operand.tmp 131) (Go.Operand.tmp 132))) (d := some 136) (v := vP b1 m) ⟨by kernel_rfl⟩ (run_indexRow Try.underlying91 (z := 1) (by kernel_rfl) rfl rfl (m := m) (by first | rfl | omega) (by first | omega | (simp only [hlm, List.length_set, List.length_append, List.length_cons, List.length_nil, List.length_replicate] at *; omega) | (simp [hlm, List.length_set, List.length_append, List.length_cons, List.length_nil, List.length_replicate]; done)) (by exact Nat.mul_one _)) ?_
       refine oR [] [(136, vP b1 m), (135, vI (Int.tdiv (2 * (mapK (fun x => throughV x (g)) (scaled l) m).getD m 0 * 65536 + g) (2 * g) - 1)), (105, vI (m : Int)), (104, vI (l.length : Int)), (103, .slice (some ⟨b1, 0, none⟩) l.length l.length), (16, vI g), (5, .slice (some ⟨b1, 0, none⟩) l.length l.length)] [136, 135, 105, 104, 103, 16, 5] (by kernel_rfl) ?_
       refine ops_store (an := []) (evs := [.store ⟨b1, m, none⟩ (vI (Int.tdiv (2 * (mapK (fun x => throughV x (g)) (scaled l) m).getD m 0 * 65536 + g) (2 * g) - 1))]) (M' := Mem w [.row (some ⟨b1, 0, none⟩) l.length l.length 3 1 (iv .i64 (((mapK (fun x => throughV x (g)) (scaled l) m).set m (Int.tdiv (2 * (mapK (fun x => throughV x (g)) (scaled l) m).getD m 0 * 65536 + g) (2 * g))).set m (Int.tdiv (2 * (mapK (fun x => throughV x (g)) (scaled l) m).getD m 0 * 65536 + g) (2 * g) - 1)))]) ⟨by kernel_rfl⟩ (fun w_ hM hS => let ⟨w', he, h'⟩ := hM.rowstore 0 rfl (m) (vI (Int.tdiv (2 * (mapK (fun x => throughV x (g)) (scaled l) m).getD m 0 * 65536 + g) (2 * g) - 1)) (by rw [iv_length]; first | omega | (simp only [hlm, List.length_set, List.length_append, List.length_cons, List.length_nil, List.length_replicate] at *; omega) | (simp [hlm, List.length_set, List.length_append, List.length_cons, List.length_nil, List.length_replicate]; done)); ⟨w', he, (by rw [iv_set] at h'; exact h'), trivial⟩) ?_
       refine oR [] [(105, vI (m : Int)), (104, vI (l.length : Int)), (103, .slice (some ⟨b1, 0, none⟩) l.length l.length), (16, vI g), (5, .slice (some ⟨b1, 0, none⟩) l.length l.length)] [105, 104, 103, 16, 5] (by kernel_rfl) ?_
       refine ops_nil ?_
       refine fin_block ?_
       refine fin_then ?_
       refine st_region [oF 0, oF 1] (by rfl) ?_
       refine oR [oF 0] [(137, vI (IntKind.i64.wrap ((m : Int) + 1))), (105, vI (m : Int)), (104, vI (l.length : Int)), (103, .slice (some ⟨b1, 0, none⟩) l.length l.length), (16, vI g), (5, .slice (some ⟨b1, 0, none⟩) l.length l.length)] [137, 105, 104, 103, 16, 5] (by kernel_rfl) ?_
       refine ops_conv (l' := [(137, vI ((m + 1 : Nat) : Int)), (105, vI (m : Int)), (104, vI (l.length : Int)), (103, .slice (some ⟨b1, 0, none⟩) l.length l.length), (16, vI g), (5, .slice (some ⟨b1, 0, none⟩) l.length l.length)]) (by rw [hm1]) (fun _ h => h) ?_
       refine oR [oF 1] [(105, vI ((m + 1 : Nat) : Int)), (104, vI (l.length : Int)), (103, .slice (some ⟨b1, 0, none⟩) l.length l.length), (16, vI g), (5, .slice (some ⟨b1, 0, none⟩) l.length l.length)] [105, 104, 103, 16, 5] (by kernel_rfl) ?_
       refine ops_nil ?_
       refine fin_round (m + 1) (by omega) (by omega) (look_has ⟨rfl, rfl, rfl, rfl, rfl, trivial⟩) (fun w_ hM => by exact (by have hz := through_walk (n := 2 * (mapK (fun x => throughV x (g)) (scaled l) m).getD m 0 * 65536 + g) hso2; rw [if_pos ⟨of_decide_eq_true hc10, (by simpa using hc11)⟩] at hz; have e : mapK (fun x => throughV x (g)) (scaled l) (m + 1) = ((mapK (fun x => throughV x (g)) (scaled l) m).set m (Int.tdiv (2 * (mapK (fun x => throughV x (g)) (scaled l) m).getD m 0 * 65536 + g) (2 * g))).set m (Int.tdiv (2 * (mapK (fun x => throughV x (g)) (scaled l) m).getD m 0 * 65536 + g) (2 * g) - 1) := (by rw [List.set_set, hz] <;> rfl); rw [← e] at hM; exact hM))
      · --
       refine st_skip ?_
       refine fin_block ?_
       refine fin_then ?_
       refine st_region [oF 0, oF 1] (by rfl) ?_
       refine oR [oF 0] [(137, vI (IntKind.i64.wrap ((m : Int) + 1))), (105, vI (m : Int)), (104, vI (l.length : Int)), (103, .slice (some ⟨b1, 0, none⟩) l.length l.length), (16, vI g), (5, .slice (some ⟨b1, 0, none⟩) l.length l.length)] [137, 105, 104, 103, 16, 5] (by kernel_rfl) ?_
       refine ops_conv (l' := [(137, vI ((m + 1 : Nat) : Int)), (105, vI (m : Int)), (104, vI (l.length : Int)), (103, .slice (some ⟨b1, 0, none⟩) l.length l.length), (16, vI g), (5, .slice (some ⟨b1, 0, none⟩) l.length l.length)]) (by rw [hm1]) (fun _ h => h) ?_
       refine oR [oF 1] [(105, vI ((m + 1 : Nat) : Int)), (104, vI (l.length : Int)), (103, .slice (some ⟨b1, 0, none⟩) l.length l.length), (16, vI g), (5, .slice (some ⟨b1, 0, none⟩) l.length l.length)] [105, 104, 103, 16, 5] (by kernel_rfl) ?_
       refine ops_nil ?_
       refine fin_round (m + 1) (by omega) (by omega) (look_has ⟨rfl, rfl, rfl, rfl, rfl, trivial⟩) (fun w_ hM => by exact (by have hz := through_walk (n := 2 * (mapK (fun x => throughV x (g)) (scaled l) m).getD m 0 * 65536 + g) hso2; rw [if_neg (fun h => h.2 (by simpa using hc11))] at hz; have e : mapK (fun x => throughV x (g)) (scaled l) (m + 1) = (mapK (fun x => throughV x (g)) (scaled l) m).set m (Int.tdiv (2 * (mapK (fun x => throughV x (g)) (scaled l) m).getD m 0 * 65536 + g) (2 * g)) := (by rw [hz] <;> rfl); rw [← e] at hM; exact hM))
     · --decide ((((2 * (mapK (fun x => throughV x (g)) (scaled l) m)
      refine oR [oF 3, oF 4, oF 5, oF 6, oF 7, oF 8] [(130, .bool false), (17, vI (m : Int)), (105, vI (m : Int)), (104, vI (l.length : Int)), (103, .slice (some ⟨b1, 0, none⟩) l.length l.length), (16, vI g), (5, .slice (some ⟨b1, 0, none⟩) l.length l.length)] [130, 17, 105, 104, 103, 16, 5] (by kernel_rfl) ?_
      refine ops_nil ?_
      refine fin_then ?_
      refine st_false rfl ?_
      refine st_skip ?_
      refine fin_block ?_
      refine fin_then ?_
      refine st_region [oF 0, oF 1] (by rfl) ?_
      refine oR [oF 0] [(137, vI (IntKind.i64.wrap ((m : Int) + 1))), (105, vI (m : Int)), (104, vI (l.length : Int)), (103, .slice (some ⟨b1, 0, none⟩) l.length l.length), (16, vI g), (5, .slice (some ⟨b1, 0, none⟩) l.length l.length)] [137, 105, 104, 103, 16, 5] (by kernel_rfl) ?_
      refine ops_conv (l' := [(137, vI ((m + 1 : Nat) : Int)), (105, vI (m : Int)), (104, vI (l.length : Int)), (103, .slice (some ⟨b1, 0, none⟩) l.length l.length), (16, vI g), (5, .slice (some ⟨b1, 0, none⟩) l.length l.length)]) (by rw [hm1]) (fun _ h => h) ?_
      refine oR [oF 1] [(105, vI ((m + 1 : Nat) : Int)), (104, vI (l.length : Int)), (103, .slice (some ⟨b1, 0, none⟩) l.length l.length), (16, vI g), (5, .slice (some ⟨b1, 0, none⟩) l.length l.length)] [105, 104, 103, 16, 5] (by kernel_rfl) ?_
      refine ops_nil ?_
      refine fin_round (m + 1) (by omega) (by omega) (look_has ⟨rfl, rfl, rfl, rfl, rfl, trivial⟩) (fun w_ hM => by exact (by have hz := through_walk (n := 2 * (mapK (fun x => throughV x (g)) (scaled l) m).getD m 0 * 65536 + g) hso2; rw [if_neg (fun h => of_decide_eq_false hc10 h.1)] at hz; have e : mapK (fun x => throughV x (g)) (scaled l) (m + 1) = (mapK (fun x => throughV x (g)) (scaled l) m).set m (Int.tdiv (2 * (mapK (fun x => throughV x (g)) (scaled l) m).getD m 0 * 65536 + g) (2 * g)) := (by rw [hz] <;> rfl); rw [← e] at hM; exact hM))
    · --
     have hm : m = l.length := by have := of_decide_eq_false hc9; omega
     refine st_exit ?_
     refine fin_exit_then ?_
     refine fin_exit_then ?_
     refine fin_exit ?_
     refine fin_then ?_
     refine st_seq ?_
     refine st_region [oF 0, oF 1, oF 2] (by rfl) ?_
     refine oR [oF 0, oF 1, oF 2] [(3, .bool true), (2, .slice (some ⟨b1, 0, none⟩) l.length l.length)] [3, 2] (by kernel_rfl) ?_
     refine ops_nil ?_
     refine fin_then ?_
     refine st_ret ?_
     refine fin_ret [.tmp 2, .tmp 3] [.slice (some ⟨b1, 0, none⟩) l.length l.length, .bool true] rfl rfl (fun w_ hM => (.tmp rfl (.tmp rfl .nil))) (fun w_ hM => ?_)
     have hev : mapK (fun x => throughV x (g)) (scaled l) m = evenV l := by have z := mapK_all (fun x => throughV x (g)) (scaled l); rw [scaled_length, ← hm] at z; rw [z, hg]; rfl
     rw [hev] at hM
     exact ⟨(b1, l.length), rfl, hM.reorder [0] (by decide) rfl⟩
end Go.Proofs.Ytioijglogoppnaa.WUnit
