/- Walks of the reference's Even. No condition. -/
import Derived.Test.YtioijglogoppnaaProg
import Derived.Test.YtioijglogoppnaaSxOps
import Derived.Test.YtioijglogoppnaaVecSpec
import Derived.Test.YtioijglogoppnaaWLong
import Derived.Test.YtioijglogoppnaaWClamp
namespace Go.Proofs.Ytioijglogoppnaa.WEven
open Go Go.RowKit Go.Proofs.Ytioijglogoppnaa.Sx Go.Proofs.Ytioijglogoppnaa.Rnd Go.Proofs.Ytioijglogoppnaa.Nats Go.Proofs.Ytioijglogoppnaa.Trig Go.Proofs.Ytioijglogoppnaa.Root Go.Proofs.Ytioijglogoppnaa.Vecs Go.Proofs.Ytioijglogoppnaa.WLong Go.Proofs.Ytioijglogoppnaa.WClamp
set_option linter.unusedVariables false
set_option linter.unusedSimpArgs false
theorem take_map_succ {l : List Int} {k : Nat} (h : k < l.length) : (l.take (k + 1)).map clV = (l.take k).map clV ++ [min (max (l.getD k 0) (-1099511627776)) 1099511627776] := by
  rw [List.take_succ_eq_append_getElem h, List.map_append]
  simp [clV, List.getD, h]
theorem mul_small {x : Int} {s : Nat} (h : x.natAbs * s ≤ 1099511627776) : IntKind.i64.wrap (x * (s : Int)) = x * (s : Int) := by
  have := abs_mul x s
  exact i64in (by omega) (by omega)
set_option maxHeartbeats 4000000 in
set_option maxRecDepth 100000 in
theorem Even_nil (A0 : Option Addr) (c0 n : Nat) (l : List Int) (w : World) (hr : RInts .i64 A0 l w) (hl : l.length = n) (hn : n ≤ 4) (h0 : farK l n = 0) : Calls Try.prog 104 #[.slice A0 n c0] w fun e w' => e = .returned (.slice none 0 0) ∧ Below w.heap.size w w' := by
 refine sx_calls Try.func104 rfl (n := 87) (by kernel_rfl) (l := [(0, .slice A0 n c0)]) rfl (by rfl) (Mem.nil w) ?_
 refine st_seq ?_
 refine st_region [oF 0] (by rfl) ?_
 refine oR [oF 0] [(0, .slice A0 n c0)] [0] (by kernel_rfl) ?_
 refine ops_nil ?_
 refine fin_then ?_
 refine st_seq ?_
 refine st_region [oF 0] (by rfl) ?_
 refine oR [oF 0] [(3, vI 0), (0, .slice A0 n c0)] [3, 0] (by kernel_rfl) ?_
 refine ops_nil ?_
 refine fin_then ?_
 refine st_seq ?_
 refine st_region [oF 0] (by rfl) ?_
 refine oR [oF 0] [(4, .slice none 0 0), (3, vI 0), (0, .slice A0 n c0)] [4, 3, 0] (by kernel_rfl) ?_
 refine ops_nil ?_
 refine fin_then ?_
 refine st_seq ?_
 refine st_seq ?_
 refine st_region [oF 0, oF 1, oF 2] (by rfl) ?_
 refine oR [oF 0, oF 1, oF 2] [(15, vI 0), (14, vI (n : Int)), (13, .slice A0 n c0), (4, .slice none 0 0), (3, vI 0)] [15, 14, 13, 4, 3] (by kernel_rfl) ?_
 refine ops_nil ?_
 refine fin_then ?_
 refine st_block ?_
 refine st_conv (l' := [(15, vI 0), (14, vI (n : Int)), (13, .slice A0 n c0), (4, .slice none 0 0), (3, vI 0)]) (M' := Mem w [.row none 0 0 3 1 (iv .i64 [])]) rfl (fun w_ h => h.rowNil 3 1) ?_
 refine st_loop (σ := Nat × Option Addr × Nat) (0, none, 0) (fun x_ => match x_ with | (k, A, c) => [(15, vI (k : Int)), (14, vI (n : Int)), (13, .slice A0 n c0), (4, .slice A k c), (3, vI (farK l k))]) (fun x_ => match x_ with | (k, A, c) => Mem w [.row A k c 3 1 (iv .i64 ((l.take k).map clV))]) (fun x_ => match x_ with | (k, A, c) => k ≤ n ∧ True) (fun x_ => match x_ with | (k, A, c) => n - k) (by exact ⟨Nat.zero_le _, trivial⟩) (look_has ⟨rfl, rfl, rfl, rfl, rfl, trivial⟩) (fun w_ hM => by exact hM) ?_
 rintro ⟨k, A, c⟩ hI
 have hIk : k ≤ n := hI.1
 have hJk : True := hI.2
 refine st_seq ?_
 refine st_region [oF 0] (by rfl) ?_
 refine oR [oF 0] [(16, .bool (decide ((k : Int) < (n : Int)))), (15, vI (k : Int)), (14, vI (n : Int)), (13, .slice A0 n c0), (4, .slice A k c), (3, vI (farK l k))] [16, 15, 14, 13, 4, 3] (by kernel_rfl) ?_
 refine ops_nil ?_
 refine fin_then ?_
 refine st_seq ?_
 refine st_if (b := decide ((k : Int) < (n : Int))) rfl (fun hc1 => ?_) (fun hc1 => ?_)
 · --
  have hk : k < n := by have := of_decide_eq_true hc1; omega
  have hk1 : IntKind.i64.wrap ((k : Int) + 1) = ((k + 1 : Nat) : Int) := succ_i64 (by omega)
  have hfb := farK_ok l k
  have hfk : max (max (farK l k) (min (max (l.getD k 0) (-1099511627776)) 1099511627776)) (0 - (min (max (l.getD k 0) (-1099511627776)) 1099511627776)) = farK l (k + 1) := by simp only [farK, clV]; omega
  have htk : (l.take (k + 1)).map clV = (l.take k).map clV ++ [min (max (l.getD k 0) (-1099511627776)) 1099511627776] := take_map_succ (by omega)
  refine st_skip ?_
  refine fin_then ?_
  refine st_seq ?_
  refine st_block ?_
  refine st_seq ?_
  refine st_region [oF 0, oF 1, oF 2] (by rfl) ?_
  refine oR [] [(15, vI (k : Int)), (14, vI (n : Int)), (13, .slice A0 n c0), (4, .slice A k c), (3, vI (farK l k))] [15, 14, 13, 4, 3] (by kernel_rfl) ?_
  obtain ⟨ad2, hA3, hx4⟩ := hr k (by omega)
  refine ops_val (op := (Go.Op.indexAddr 91 (Go.Operand.tmp 13) (Go.Operand.tmp 15))) (d := some 17) (v := .pointer (some (ad2.add k))) ⟨by kernel_rfl⟩ (run_index1 hA3 Try.underlying91 (by kernel_rfl) rfl rfl (m := k) (by first | rfl | omega) (by omega)) ?_
  refine oR [] [(17, .pointer (some (ad2.add k))), (15, vI (k : Int)), (14, vI (n : Int)), (13, .slice A0 n c0), (4, .slice A k c), (3, vI (farK l k))] [17, 15, 14, 13, 4, 3] (by kernel_rfl) ?_
  refine ops_mem (d := some 18) (an := [.v (vI (l.getD k 0))]) (evs := [.load (ad2.add k) (vI (l.getD k 0))]) (v := vI (l.getD k 0)) (M' := Mem w [.row A k c 3 1 (iv .i64 ((l.take k).map clV))]) ⟨by kernel_rfl⟩ (fun w_ hM hS => ⟨w_, ⟨hM.oldcell hx4, rfl⟩, hM, trivial⟩) ?_
  refine oR [oF 2] [(6, vI (l.getD k 0)), (15, vI (k : Int)), (14, vI (n : Int)), (13, .slice A0 n c0), (4, .slice A k c), (3, vI (farK l k))] [6, 15, 14, 13, 4, 3] (by kernel_rfl) ?_
  refine ops_nil ?_
  refine fin_then ?_
  refine st_seq ?_
  refine st_region [oF 0, oF 1, oF 2, oF 3, oF 4, oF 5] (by rfl) ?_
  refine oR [oF 0, oF 1] [(20, vI (l.getD k 0)), (19, .slice A k c), (6, vI (l.getD k 0)), (15, vI (k : Int)), (14, vI (n : Int)), (13, .slice A0 n c0), (4, .slice A k c), (3, vI (farK l k))] [20, 19, 6, 15, 14, 13, 4, 3] (by kernel_rfl) ?_
  refine oC (some 21) 19 #[vI (l.getD k 0)] (vI (min (max (l.getD k 0) (-1099511627776)) 1099511627776)) ⟨by kernel_rfl⟩ (fun w_ hM => Limit_calls (l.getD k 0) w_) ?_
  refine oR [] [(21, vI (min (max (l.getD k 0) (-1099511627776)) 1099511627776)), (19, .slice A k c), (6, vI (l.getD k 0)), (15, vI (k : Int)), (14, vI (n : Int)), (13, .slice A0 n c0), (4, .slice A k c), (3, vI (farK l k))] [21, 19, 6, 15, 14, 13, 4, 3] (by kernel_rfl) ?_
  refine ops_new (d := some 22) (o := .cells #[vI (min (max (l.getD k 0) (-1099511627776)) 1099511627776)] 3) (v := fun b5 => .slice (some ⟨b5, 0, none⟩) 1 1) (M' := fun b5 => Mem w [.blk b5 [vI (min (max (l.getD k 0) (-1099511627776)) 1099511627776)] 3, .row A k c 3 1 (iv .i64 ((l.take k).map clV))]) (fun b5 => ⟨by kernel_rfl⟩) (fun w_ hM hS => ⟨hM.blk [vI (min (max (l.getD k 0) (-1099511627776)) 1099511627776)] 3, trivial⟩) (fun b5 => ?_)
  refine oR [] [(22, .slice (some ⟨b5, 0, none⟩) 1 1), (19, .slice A k c), (6, vI (l.getD k 0)), (15, vI (k : Int)), (14, vI (n : Int)), (13, .slice A0 n c0), (4, .slice A k c), (3, vI (farK l k))] [22, 19, 6, 15, 14, 13, 4, 3] (by kernel_rfl) ?_
  refine ops_append (x := (Go.Operand.tmp 19)) (y := (Go.Operand.tmp 22)) (t := 91) (e := 3) (d := some 23) (n' := (k + 1)) (z := 1) (m := 1) (bytes := 8) (xs' := (iv .i64 (((l.take k).map clV) ++ [min (max (l.getD k 0) (-1099511627776)) 1099511627776]))) (news := ([vI (min (max (l.getD k 0) (-1099511627776)) 1099511627776)])) (zv := vI 0) 1 ⟨by kernel_rfl⟩ rfl rfl Try.underlying91 (by kernel_rfl) (by rfl) rfl (fun w_ hM => hM.src 0 rfl _ _) (rfl) (by simp [Value.oneCell']) (by omega) (by first | rfl | omega) ((by simp [iv])) (fun _ _ _ _ hS h' => trivial) ?_
  rintro ⟨A6, c7⟩
  refine ops_conv (l' := [(23, .slice A6 (k + 1) c7), (22, .slice (some ⟨b5, 0, none⟩) 1 1), (19, .slice A k c), (6, vI (l.getD k 0)), (15, vI (k : Int)), (14, vI (n : Int)), (13, .slice A0 n c0), (4, .slice A k c), (3, vI (farK l k))]) (M' := Mem w [.blk b5 [vI (min (max (l.getD k 0) (-1099511627776)) 1099511627776)] 3, .row A6 (k + 1) c7 3 1 (iv .i64 (((l.take k).map clV) ++ [min (max (l.getD k 0) (-1099511627776)) 1099511627776]))]) rfl (fun _ h => h) ?_
  refine oR [oF 5] [(4, .slice A6 (k + 1) c7), (6, vI (l.getD k 0)), (15, vI (k : Int)), (14, vI (n : Int)), (13, .slice A0 n c0), (3, vI (farK l k))] [4, 6, 15, 14, 13, 3] (by kernel_rfl) ?_
  refine ops_nil ?_
  refine fin_then ?_
  refine st_region [oF 0, oF 1, oF 2, oF 3, oF 4, oF 5, oF 6, oF 7] (by rfl) ?_
  refine oR [oF 0, oF 1] [(25, vI (l.getD k 0)), (24, vI (farK l k)), (4, .slice A6 (k + 1) c7), (6, vI (l.getD k 0)), (15, vI (k : Int)), (14, vI (n : Int)), (13, .slice A0 n c0), (3, vI (farK l k))] [25, 24, 4, 6, 15, 14, 13, 3] (by kernel_rfl) ?_
  refine oC (some 26) 19 #[vI (l.getD k 0)] (vI (min (max (l.getD k 0) (-1099511627776)) 1099511627776)) ⟨by kernel_rfl⟩ (fun w_ hM => Limit_calls (l.getD k 0) w_) ?_
  refine oR [oF 3] [(27, vI (l.getD k 0)), (26, vI (min (max (l.getD k 0) (-1099511627776)) 1099511627776)), (24, vI (farK l k)), (4, .slice A6 (k + 1) c7), (15, vI (k : Int)), (14, vI (n : Int)), (13, .slice A0 n c0), (3, vI (farK l k))] [27, 26, 24, 4, 15, 14, 13, 3] (by kernel_rfl) ?_
  refine oC (some 28) 19 #[vI (l.getD k 0)] (vI (min (max (l.getD k 0) (-1099511627776)) 1099511627776)) ⟨by kernel_rfl⟩ (fun w_ hM => Limit_calls (l.getD k 0) w_) ?_
  refine oR [oF 5] [(29, vI (IntKind.i64.wrap (0 - min (max (l.getD k 0) (-1099511627776)) 1099511627776))), (26, vI (min (max (l.getD k 0) (-1099511627776)) 1099511627776)), (24, vI (farK l k)), (4, .slice A6 (k + 1) c7), (15, vI (k : Int)), (14, vI (n : Int)), (13, .slice A0 n c0), (3, vI (farK l k))] [29, 26, 24, 4, 15, 14, 13, 3] (by kernel_rfl) ?_
  refine ops_conv (l' := [(29, vI (0 - min (max (l.getD k 0) (-1099511627776)) 1099511627776)), (26, vI (min (max (l.getD k 0) (-1099511627776)) 1099511627776)), (24, vI (farK l k)), (4, .slice A6 (k + 1) c7), (15, vI (k : Int)), (14, vI (n : Int)), (13, .slice A0 n c0), (3, vI (farK l k))]) (by rw [(i64in (x := 0 - min (max (l.getD k 0) (-1099511627776)) 1099511627776) (by omega) (by omega))]) (fun _ h => h) ?_
  refine ops_val (op := (Go.Op.call { callee := (Go.Callee.builtin Go.Builtin.max), args := #[(Go.Operand.tmp 24), (Go.Operand.tmp 26), (Go.Operand.tmp 29)], argTypes := #[3, 3, 3] })) (d := some 30) (v := vI (max (max (farK l k) (min (max (l.getD k 0) (-1099511627776)) 1099511627776)) (0 - min (max (l.getD k 0) (-1099511627776)) 1099511627776))) ⟨by kernel_rfl⟩ (run_max3 rfl rfl rfl) ?_
  refine oR [] [(30, vI (max (max (farK l k) (min (max (l.getD k 0) (-1099511627776)) 1099511627776)) (0 - min (max (l.getD k 0) (-1099511627776)) 1099511627776))), (4, .slice A6 (k + 1) c7), (15, vI (k : Int)), (14, vI (n : Int)), (13, .slice A0 n c0), (3, vI (farK l k))] [30, 4, 15, 14, 13, 3] (by kernel_rfl) ?_
  refine ops_conv (l' := [(30, vI (farK l (k + 1))), (4, .slice A6 (k + 1) c7), (15, vI (k : Int)), (14, vI (n : Int)), (13, .slice A0 n c0), (3, vI (farK l k))]) (by rw [hfk]) (fun _ h => h) ?_
  refine oR [oF 7] [(3, vI (farK l (k + 1))), (4, .slice A6 (k + 1) c7), (15, vI (k : Int)), (14, vI (n : Int)), (13, .slice A0 n c0)] [3, 4, 15, 14, 13] (by kernel_rfl) ?_
  refine ops_nil ?_
  refine fin_block ?_
  refine fin_then ?_
  refine st_region [oF 0, oF 1] (by rfl) ?_
  refine oR [oF 0] [(31, vI (IntKind.i64.wrap ((k : Int) + 1))), (3, vI (farK l (k + 1))), (4, .slice A6 (k + 1) c7), (15, vI (k : Int)), (14, vI (n : Int)), (13, .slice A0 n c0)] [31, 3, 4, 15, 14, 13] (by kernel_rfl) ?_
  refine ops_conv (l' := [(31, vI ((k + 1 : Nat) : Int)), (3, vI (farK l (k + 1))), (4, .slice A6 (k + 1) c7), (15, vI (k : Int)), (14, vI (n : Int)), (13, .slice A0 n c0)]) (by rw [hk1]) (fun _ h => h) ?_
  refine oR [oF 1] [(15, vI ((k + 1 : Nat) : Int)), (3, vI (farK l (k + 1))), (4, .slice A6 (k + 1) c7), (14, vI (n : Int)), (13, .slice A0 n c0)] [15, 3, 4, 14, 13] (by kernel_rfl) ?_
  refine ops_nil ?_
  refine fin_round (k + 1, A6, c7) (by exact ⟨by omega, trivial⟩) (by first | omega | (dsimp only; omega)) (look_has ⟨rfl, rfl, rfl, rfl, rfl, trivial⟩) (fun w_ hM => by exact (by have hM := hM.reorder (cs' := [.row A6 (k + 1) c7 3 1 (iv .i64 (((l.take k).map clV) ++ [min (max (l.getD k 0) (-1099511627776)) 1099511627776]))]) [1] (by decide) rfl; rw [← htk] at hM; exact hM))
 · --
  have hk : k = n := by have := of_decide_eq_false hc1; omega
  refine st_exit ?_
  refine fin_exit_then ?_
  refine fin_exit_then ?_
  refine fin_exit ?_
  refine fin_then ?_
  refine st_seq ?_
  refine st_seq ?_
  refine st_region [oF 0, oF 1] (by rfl) ?_
  refine oR [oF 0, oF 1] [(33, .bool (farK l k == 0)), (4, .slice A k c), (3, vI (farK l k))] [33, 4, 3] (by kernel_rfl) ?_
  refine ops_nil ?_
  refine fin_then ?_
  refine st_conv (l' := [(33, .bool true), (4, .slice A k c), (3, vI (farK l k))]) (by rw [(show (farK l k == 0) = true by rw [hk]; simp [h0])]) (fun _ h => h) ?_
  refine st_true rfl ?_
  refine st_seq ?_
  refine st_region [oF 0] (by rfl) ?_
  refine oR [oF 0] [(2, .slice none 0 0)] [2] (by kernel_rfl) ?_
  refine ops_nil ?_
  refine fin_then ?_
  refine st_ret ?_
  refine fin_ret_then ?_
  refine fin_ret [.tmp 2] [.slice none 0 0] rfl rfl (fun w_ hM => (.tmp rfl .nil)) (fun w_ hM => ?_)
  refine ⟨?_, hM.done⟩
  rfl
theorem tmod_two (x : Int) {d : Int} (h : 0 < d) : -d < Int.tmod x d ∧ Int.tmod x d < d := by
  have a2 := Int.tmod_lt_of_pos x h
  have := Int.tmod_lt_of_pos (-x) h
  rw [Int.neg_tmod] at this; omega
set_option maxHeartbeats 4000000 in
set_option maxRecDepth 100000 in
theorem Even_some (A0 : Option Addr) (c0 n : Nat) (l : List Int) (w : World) (hr : RInts .i64 A0 l w) (hl : l.length = n) (hn : n ≤ 4) (h0 : 0 < farK l n) : Calls Try.prog 104 #[.slice A0 n c0] w fun e w' => ∃ x_ : Nat × Nat, e = .returned ((match x_ with | (b, c) => .slice (some ⟨b, 0, none⟩) n c)) ∧ Mem w (match x_ with | (b, c) => [.row (some ⟨b, 0, none⟩) n c 3 1 (iv .i64 (evenV l))]) w' := by
 refine sx_calls Try.func104 rfl (n := 87) (by kernel_rfl) (l := [(0, .slice A0 n c0)]) rfl (by rfl) (Mem.nil w) ?_
 refine st_seq ?_
 refine st_region [oF 0] (by rfl) ?_
 refine oR [oF 0] [(0, .slice A0 n c0)] [0] (by kernel_rfl) ?_
 refine ops_nil ?_
 refine fin_then ?_
 refine st_seq ?_
 refine st_region [oF 0] (by rfl) ?_
 refine oR [oF 0] [(3, vI 0), (0, .slice A0 n c0)] [3, 0] (by kernel_rfl) ?_
 refine ops_nil ?_
 refine fin_then ?_
 refine st_seq ?_
 refine st_region [oF 0] (by rfl) ?_
 refine oR [oF 0] [(4, .slice none 0 0), (3, vI 0), (0, .slice A0 n c0)] [4, 3, 0] (by kernel_rfl) ?_
 refine ops_nil ?_
 refine fin_then ?_
 refine st_seq ?_
 refine st_seq ?_
 refine st_region [oF 0, oF 1, oF 2] (by rfl) ?_
 refine oR [oF 0, oF 1, oF 2] [(15, vI 0), (14, vI (n : Int)), (13, .slice A0 n c0), (4, .slice none 0 0), (3, vI 0)] [15, 14, 13, 4, 3] (by kernel_rfl) ?_
 refine ops_nil ?_
 refine fin_then ?_
 refine st_block ?_
 refine st_conv (l' := [(15, vI 0), (14, vI (n : Int)), (13, .slice A0 n c0), (4, .slice none 0 0), (3, vI 0)]) (M' := Mem w [.row none 0 0 3 1 (iv .i64 [])]) rfl (fun w_ h => h.rowNil 3 1) ?_
 refine st_loop (σ := Nat × Option Addr × Nat) (0, none, 0) (fun x_ => match x_ with | (k, A, c) => [(15, vI (k : Int)), (14, vI (n : Int)), (13, .slice A0 n c0), (4, .slice A k c), (3, vI (farK l k))]) (fun x_ => match x_ with | (k, A, c) => Mem w [.row A k c 3 1 (iv .i64 ((l.take k).map clV))]) (fun x_ => match x_ with | (k, A, c) => k ≤ n ∧ True) (fun x_ => match x_ with | (k, A, c) => n - k) (by exact ⟨Nat.zero_le _, trivial⟩) (look_has ⟨rfl, rfl, rfl, rfl, rfl, trivial⟩) (fun w_ hM => by exact hM) ?_
 rintro ⟨k, A, c⟩ hI
 have hIk : k ≤ n := hI.1
 have hJk : True := hI.2
 refine st_seq ?_
 refine st_region [oF 0] (by rfl) ?_
 refine oR [oF 0] [(16, .bool (decide ((k : Int) < (n : Int)))), (15, vI (k : Int)), (14, vI (n : Int)), (13, .slice A0 n c0), (4, .slice A k c), (3, vI (farK l k))] [16, 15, 14, 13, 4, 3] (by kernel_rfl) ?_
 refine ops_nil ?_
 refine fin_then ?_
 refine st_seq ?_
 refine st_if (b := decide ((k : Int) < (n : Int))) rfl (fun hc1 => ?_) (fun hc1 => ?_)
 · --
  have hk : k < n := by have := of_decide_eq_true hc1; omega
  have hk1 : IntKind.i64.wrap ((k : Int) + 1) = ((k + 1 : Nat) : Int) := succ_i64 (by omega)
  have hfb := farK_ok l k
  have hfk : max (max (farK l k) (min (max (l.getD k 0) (-1099511627776)) 1099511627776)) (0 - (min (max (l.getD k 0) (-1099511627776)) 1099511627776)) = farK l (k + 1) := by simp only [farK, clV]; omega
  have htk : (l.take (k + 1)).map clV = (l.take k).map clV ++ [min (max (l.getD k 0) (-1099511627776)) 1099511627776] := take_map_succ (by omega)
  refine st_skip ?_
  refine fin_then ?_
  refine st_seq ?_
  refine st_block ?_
  refine st_seq ?_
  refine st_region [oF 0, oF 1, oF 2] (by rfl) ?_
  refine oR [] [(15, vI (k : Int)), (14, vI (n : Int)), (13, .slice A0 n c0), (4, .slice A k c), (3, vI (farK l k))] [15, 14, 13, 4, 3] (by kernel_rfl) ?_
  obtain ⟨ad2, hA3, hx4⟩ := hr k (by omega)
  refine ops_val (op := (Go.Op.indexAddr 91 (Go.Operand.tmp 13) (Go.Operand.tmp 15))) (d := some 17) (v := .pointer (some (ad2.add k))) ⟨by kernel_rfl⟩ (run_index1 hA3 Try.underlying91 (by kernel_rfl) rfl rfl (m := k) (by first | rfl | omega) (by omega)) ?_
  refine oR [] [(17, .pointer (some (ad2.add k))), (15, vI (k : Int)), (14, vI (n : Int)), (13, .slice A0 n c0), (4, .slice A k c), (3, vI (farK l k))] [17, 15, 14, 13, 4, 3] (by kernel_rfl) ?_
  refine ops_mem (d := some 18) (an := [.v (vI (l.getD k 0))]) (evs := [.load (ad2.add k) (vI (l.getD k 0))]) (v := vI (l.getD k 0)) (M' := Mem w [.row A k c 3 1 (iv .i64 ((l.take k).map clV))]) ⟨by kernel_rfl⟩ (fun w_ hM hS => ⟨w_, ⟨hM.oldcell hx4, rfl⟩, hM, trivial⟩) ?_
  refine oR [oF 2] [(6, vI (l.getD k 0)), (15, vI (k : Int)), (14, vI (n : Int)), (13, .slice A0 n c0), (4, .slice A k c), (3, vI (farK l k))] [6, 15, 14, 13, 4, 3] (by kernel_rfl) ?_
  refine ops_nil ?_
  refine fin_then ?_
  refine st_seq ?_
  refine st_region [oF 0, oF 1, oF 2, oF 3, oF 4, oF 5] (by rfl) ?_
  refine oR [oF 0, oF 1] [(20, vI (l.getD k 0)), (19, .slice A k c), (6, vI (l.getD k 0)), (15, vI (k : Int)), (14, vI (n : Int)), (13, .slice A0 n c0), (4, .slice A k c), (3, vI (farK l k))] [20, 19, 6, 15, 14, 13, 4, 3] (by kernel_rfl) ?_
  refine oC (some 21) 19 #[vI (l.getD k 0)] (vI (min (max (l.getD k 0) (-1099511627776)) 1099511627776)) ⟨by kernel_rfl⟩ (fun w_ hM => Limit_calls (l.getD k 0) w_) ?_
  refine oR [] [(21, vI (min (max (l.getD k 0) (-1099511627776)) 1099511627776)), (19, .slice A k c), (6, vI (l.getD k 0)), (15, vI (k : Int)), (14, vI (n : Int)), (13, .slice A0 n c0), (4, .slice A k c), (3, vI (farK l k))] [21, 19, 6, 15, 14, 13, 4, 3] (by kernel_rfl) ?_
  refine ops_new (d := some 22) (o := .cells #[vI (min (max (l.getD k 0) (-1099511627776)) 1099511627776)] 3) (v := fun b5 => .slice (some ⟨b5, 0, none⟩) 1 1) (M' := fun b5 => Mem w [.blk b5 [vI (min (max (l.getD k 0) (-1099511627776)) 1099511627776)] 3, .row A k c 3 1 (iv .i64 ((l.take k).map clV))]) (fun b5 => ⟨by kernel_rfl⟩) (fun w_ hM hS => ⟨hM.blk [vI (min (max (l.getD k 0) (-1099511627776)) 1099511627776)] 3, trivial⟩) (fun b5 => ?_)
  refine oR [] [(22, .slice (some ⟨b5, 0, none⟩) 1 1), (19, .slice A k c), (6, vI (l.getD k 0)), (15, vI (k : Int)), (14, vI (n : Int)), (13, .slice A0 n c0), (4, .slice A k c), (3, vI (farK l k))] [22, 19, 6, 15, 14, 13, 4, 3] (by kernel_rfl) ?_
  refine ops_append (x := (Go.Operand.tmp 19)) (y := (Go.Operand.tmp 22)) (t := 91) (e := 3) (d := some 23) (n' := (k + 1)) (z := 1) (m := 1) (bytes := 8) (xs' := (iv .i64 (((l.take k).map clV) ++ [min (max (l.getD k 0) (-1099511627776)) 1099511627776]))) (news := ([vI (min (max (l.getD k 0) (-1099511627776)) 1099511627776)])) (zv := vI 0) 1 ⟨by kernel_rfl⟩ rfl rfl Try.underlying91 (by kernel_rfl) (by rfl) rfl (fun w_ hM => hM.src 0 rfl _ _) (rfl) (by simp [Value.oneCell']) (by omega) (by first | rfl | omega) ((by simp [iv])) (fun _ _ _ _ hS h' => trivial) ?_
  rintro ⟨A6, c7⟩
  refine ops_conv (l' := [(23, .slice A6 (k + 1) c7), (22, .slice (some ⟨b5, 0, none⟩) 1 1), (19, .slice A k c), (6, vI (l.getD k 0)), (15, vI (k : Int)), (14, vI (n : Int)), (13, .slice A0 n c0), (4, .slice A k c), (3, vI (farK l k))]) (M' := Mem w [.blk b5 [vI (min (max (l.getD k 0) (-1099511627776)) 1099511627776)] 3, .row A6 (k + 1) c7 3 1 (iv .i64 (((l.take k).map clV) ++ [min (max (l.getD k 0) (-1099511627776)) 1099511627776]))]) rfl (fun _ h => h) ?_
  refine oR [oF 5] [(4, .slice A6 (k + 1) c7), (6, vI (l.getD k 0)), (15, vI (k : Int)), (14, vI (n : Int)), (13, .slice A0 n c0), (3, vI (farK l k))] [4, 6, 15, 14, 13, 3] (by kernel_rfl) ?_
  refine ops_nil ?_
  refine fin_then ?_
  refine st_region [oF 0, oF 1, oF 2, oF 3, oF 4, oF 5, oF 6, oF 7] (by rfl) ?_
  refine oR [oF 0, oF 1] [(25, vI (l.getD k 0)), (24, vI (farK l k)), (4, .slice A6 (k + 1) c7), (6, vI (l.getD k 0)), (15, vI (k : Int)), (14, vI (n : Int)), (13, .slice A0 n c0), (3, vI (farK l k))] [25, 24, 4, 6, 15, 14, 13, 3] (by kernel_rfl) ?_
  refine oC (some 26) 19 #[vI (l.getD k 0)] (vI (min (max (l.getD k 0) (-1099511627776)) 1099511627776)) ⟨by kernel_rfl⟩ (fun w_ hM => Limit_calls (l.getD k 0) w_) ?_
  refine oR [oF 3] [(27, vI (l.getD k 0)), (26, vI (min (max (l.getD k 0) (-1099511627776)) 1099511627776)), (24, vI (farK l k)), (4, .slice A6 (k + 1) c7), (15, vI (k : Int)), (14, vI (n : Int)), (13, .slice A0 n c0), (3, vI (farK l k))] [27, 26, 24, 4, 15, 14, 13, 3] (by kernel_rfl) ?_
  refine oC (some 28) 19 #[vI (l.getD k 0)] (vI (min (max (l.getD k 0) (-1099511627776)) 1099511627776)) ⟨by kernel_rfl⟩ (fun w_ hM => Limit_calls (l.getD k 0) w_) ?_
  refine oR [oF 5] [(29, vI (IntKind.i64.wrap (0 - min (max (l.getD k 0) (-1099511627776)) 1099511627776))), (26, vI (min (max (l.getD k 0) (-1099511627776)) 1099511627776)), (24, vI (farK l k)), (4, .slice A6 (k + 1) c7), (15, vI (k : Int)), (14, vI (n : Int)), (13, .slice A0 n c0), (3, vI (farK l k))] [29, 26, 24, 4, 15, 14, 13, 3] (by kernel_rfl) ?_
  refine ops_conv (l' := [(29, vI (0 - min (max (l.getD k 0) (-1099511627776)) 1099511627776)), (26, vI (min (max (l.getD k 0) (-1099511627776)) 1099511627776)), (24, vI (farK l k)), (4, .slice A6 (k + 1) c7), (15, vI (k : Int)), (14, vI (n : Int)), (13, .slice A0 n c0), (3, vI (farK l k))]) (by rw [(i64in (x := 0 - min (max (l.getD k 0) (-1099511627776)) 1099511627776) (by omega) (by omega))]) (fun _ h => h) ?_
  refine ops_val (op := (Go.Op.call { callee := (Go.Callee.builtin Go.Builtin.max), args := #[(Go.Operand.tmp 24), (Go.Operand.tmp 26), (Go.Operand.tmp 29)], argTypes := #[3, 3, 3] })) (d := some 30) (v := vI (max (max (farK l k) (min (max (l.getD k 0) (-1099511627776)) 1099511627776)) (0 - min (max (l.getD k 0) (-1099511627776)) 1099511627776))) ⟨by kernel_rfl⟩ (run_max3 rfl rfl rfl) ?_
  refine oR [] [(30, vI (max (max (farK l k) (min (max (l.getD k 0) (-1099511627776)) 1099511627776)) (0 - min (max (l.getD k 0) (-1099511627776)) 1099511627776))), (4, .slice A6 (k + 1) c7), (15, vI (k : Int)), (14, vI (n : Int)), (13, .slice A0 n c0), (3, vI (farK l k))] [30, 4, 15, 14, 13, 3] (by kernel_rfl) ?_
  refine ops_conv (l' := [(30, vI (farK l (k + 1))), (4, .slice A6 (k + 1) c7), (15, vI (k : Int)), (14, vI (n : Int)), (13, .slice A0 n c0), (3, vI (farK l k))]) (by rw [hfk]) (fun _ h => h) ?_
  refine oR [oF 7] [(3, vI (farK l (k + 1))), (4, .slice A6 (k + 1) c7), (15, vI (k : Int)), (14, vI (n : Int)), (13, .slice A0 n c0)] [3, 4, 15, 14, 13] (by kernel_rfl) ?_
  refine ops_nil ?_
  refine fin_block ?_
  refine fin_then ?_
  refine st_region [oF 0, oF 1] (by rfl) ?_
  refine oR [oF 0] [(31, vI (IntKind.i64.wrap ((k : Int) + 1))), (3, vI (farK l (k + 1))), (4, .slice A6 (k + 1) c7), (15, vI (k : Int)), (14, vI (n : Int)), (13, .slice A0 n c0)] [31, 3, 4, 15, 14, 13] (by kernel_rfl) ?_
  refine ops_conv (l' := [(31, vI ((k + 1 : Nat) : Int)), (3, vI (farK l (k + 1))), (4, .slice A6 (k + 1) c7), (15, vI (k : Int)), (14, vI (n : Int)), (13, .slice A0 n c0)]) (by rw [hk1]) (fun _ h => h) ?_
  refine oR [oF 1] [(15, vI ((k + 1 : Nat) : Int)), (3, vI (farK l (k + 1))), (4, .slice A6 (k + 1) c7), (14, vI (n : Int)), (13, .slice A0 n c0)] [15, 3, 4, 14, 13] (by kernel_rfl) ?_
  refine ops_nil ?_
  refine fin_round (k + 1, A6, c7) (by exact ⟨by omega, trivial⟩) (by first | omega | (dsimp only; omega)) (look_has ⟨rfl, rfl, rfl, rfl, rfl, trivial⟩) (fun w_ hM => by exact (by have hM := hM.reorder (cs' := [.row A6 (k + 1) c7 3 1 (iv .i64 (((l.take k).map clV) ++ [min (max (l.getD k 0) (-1099511627776)) 1099511627776]))]) [1] (by decide) rfl; rw [← htk] at hM; exact hM))
 · --
  have hk : k = n := by have := of_decide_eq_false hc1; omega
  refine st_exit ?_
  refine fin_exit_then ?_
  refine fin_exit_then ?_
  refine fin_exit ?_
  refine fin_then ?_
  refine st_seq ?_
  refine st_seq ?_
  refine st_region [oF 0, oF 1] (by rfl) ?_
  refine oR [oF 0, oF 1] [(33, .bool (farK l k == 0)), (4, .slice A k c), (3, vI (farK l k))] [33, 4, 3] (by kernel_rfl) ?_
  refine ops_nil ?_
  refine fin_then ?_
  refine st_conv (l' := [(33, .bool false), (4, .slice A k c), (3, vI (farK l k))]) (by rw [(show (farK l k == 0) = false by rw [hk]; simp; omega)]) (fun _ h => h) ?_
  refine st_false rfl ?_
  refine st_skip ?_
  refine fin_then ?_
  refine st_seq ?_
  refine st_region [oF 0] (by rfl) ?_
  refine oR [oF 0] [(7, vI 1), (4, .slice A k c), (3, vI (farK l k))] [7, 4, 3] (by kernel_rfl) ?_
  refine ops_nil ?_
  refine fin_then ?_
  refine st_seq ?_
  refine st_block ?_
  obtain ⟨f, hf⟩ := Int.eq_ofNat_of_zero_le (farK_ok l k).1
  have hf0 : 0 < f := by rw [hk] at hf; omega
  have hf1 : f ≤ 1099511627776 := by have := (farK_ok l k).2; omega
  refine st_conv (l' := [(7, vI 1), (4, .slice A k c), (3, vI (f : Int))]) (M' := Mem w [.row A k c 3 1 (iv .i64 ((l.take k).map clV))]) (by rw [hf]) (fun w_ hM => hM) ?_
  refine st_loop (σ := Nat) 1 (fun s => [(7, vI (s : Int)), (4, .slice A k c), (3, vI (f : Int))]) (fun s => Mem w [.row A k c 3 1 (iv .i64 ((l.take k).map clV))]) (fun s => 0 < f * s ∧ f * s ≤ 1099511627776 ∧ dbl f s = dbl f 1) (fun s => 1073741824 - f * s) (by exact ⟨show 0 < f * 1 by omega, show f * 1 ≤ 1099511627776 by omega, rfl⟩) (look_has ⟨rfl, rfl, rfl, trivial⟩) (fun w_ hM => by exact hM) ?_
  rintro s hI
  obtain ⟨hs0, hs1, hdb⟩ := hI
  have hs0 : 0 < f * s := hs0
  have hs1 : f * s ≤ 1099511627776 := hs1
  have hdb : dbl f s = dbl f 1 := hdb
  have hss : s ≤ f * s := Nat.le_mul_of_pos_left s hf0
  have hs2 : IntKind.i64.wrap ((s : Int) * 2) = ((2 * s : Nat) : Int) := by rw [i64w]; omega
  have hfs : (f : Int) * (s : Int) = ((f * s : Nat) : Int) := by simp
  refine st_seq ?_
  refine st_seq ?_
  refine st_region [oF 0, oF 1, oF 2, oF 3] (by rfl) ?_
  refine oR [oF 0, oF 1, oF 2] [(36, vI (IntKind.i64.wrap ((f : Int) * (s : Int)))), (7, vI (s : Int)), (4, .slice A k c), (3, vI (f : Int))] [36, 7, 4, 3] (by kernel_rfl) ?_
  refine ops_conv (l' := [(36, vI ((f : Int) * (s : Int))), (7, vI (s : Int)), (4, .slice A k c), (3, vI (f : Int))]) (by rw [(i64in (x := (f : Int) * (s : Int)) (by omega) (by omega))]) (fun _ h => h) ?_
  refine oR [oF 3] [(37, .bool (decide (((f : Int) * (s : Int)) < 1073741824))), (7, vI (s : Int)), (4, .slice A k c), (3, vI (f : Int))] [37, 7, 4, 3] (by kernel_rfl) ?_
  refine ops_nil ?_
  refine fin_then ?_
  refine st_if (b := decide (((f : Int) * (s : Int)) < 1073741824)) rfl (fun hc8 => ?_) (fun hc8 => ?_)
  · --
   have hlt : f * s < 1073741824 := by have := of_decide_eq_true hc8; omega
   have he2 : f * (2 * s) = 2 * (f * s) := Nat.mul_left_comm ..
   have hgo := dbl_go hs0 hlt
   refine st_skip ?_
   refine fin_then ?_
   refine st_block ?_
   refine st_region [oF 0, oF 1, oF 2] (by rfl) ?_
   refine oR [oF 0, oF 1] [(39, vI (IntKind.i64.wrap ((s : Int) * 2))), (7, vI (s : Int)), (4, .slice A k c), (3, vI (f : Int))] [39, 7, 4, 3] (by kernel_rfl) ?_
   refine ops_conv (l' := [(39, vI ((2 * s : Nat) : Int)), (7, vI (s : Int)), (4, .slice A k c), (3, vI (f : Int))]) (by rw [hs2]) (fun _ h => h) ?_
   refine oR [oF 2] [(7, vI ((2 * s : Nat) : Int)), (4, .slice A k c), (3, vI (f : Int))] [7, 4, 3] (by kernel_rfl) ?_
   refine ops_nil ?_
   refine fin_block ?_
   refine fin_round (2 * s) (by exact ⟨show 0 < f * (2 * s) by omega, show f * (2 * s) ≤ 1099511627776 by omega, hgo ▸ hdb⟩) (by (show 1073741824 - f * (2 * s) < 1073741824 - f * s; omega)) (look_has ⟨rfl, rfl, rfl, trivial⟩) (fun w_ hM => by exact hM)
  · --
   have hge : 1073741824 ≤ f * s := by have := of_decide_eq_false hc8; omega
   have hsc : s = scaleV l := by unfold scaleV; rw [hl, ← hk, hf, Int.toNat_natCast, ← hdb]; exact (dbl_stop hge).symm
   refine st_exit ?_
   refine fin_exit_then ?_
   refine fin_exit_then ?_
   refine fin_exit ?_
   refine fin_then ?_
   refine st_seq ?_
   refine st_seq ?_
   refine st_region [oF 0, oF 1, oF 2] (by rfl) ?_
   refine oR [oF 0, oF 1, oF 2] [(42, vI 0), (41, vI (k : Int)), (7, vI (s : Int)), (4, .slice A k c)] [42, 41, 7, 4] (by kernel_rfl) ?_
   refine ops_nil ?_
   refine fin_then ?_
   refine st_block ?_
   have hC : (l.take k).map clV = l.map clV := by rw [List.take_of_length_le (by omega)]
   have hCl : ((l.take k).map clV).length = k := by rw [hC, List.length_map]; omega
   refine st_loop (σ := Nat) 0 (fun j => [(42, vI (j : Int)), (41, vI (k : Int)), (7, vI (s : Int)), (4, .slice A k c)]) (fun j => Mem w [.row A k c 3 1 (iv .i64 (mapK (fun x => x * (s : Int)) ((l.take k).map clV) j))]) (fun j => j ≤ k) (fun j => k - j) (by exact Nat.zero_le _) (look_has ⟨rfl, rfl, rfl, rfl, trivial⟩) (fun w_ hM => by exact hM) ?_
   rintro j hI
   have hIj : j ≤ k := hI
   refine st_seq ?_
   refine st_region [oF 0] (by rfl) ?_
   refine oR [oF 0] [(43, .bool (decide ((j : Int) < (k : Int)))), (42, vI (j : Int)), (41, vI (k : Int)), (7, vI (s : Int)), (4, .slice A k c)] [43, 42, 41, 7, 4] (by kernel_rfl) ?_
   refine ops_nil ?_
   refine fin_then ?_
   refine st_seq ?_
   refine st_if (b := decide ((j : Int) < (k : Int))) rfl (fun hc9 => ?_) (fun hc9 => ?_)
   · --
    have hj : j < k := by have := of_decide_eq_true hc9; omega
    have hj1 : IntKind.i64.wrap ((j : Int) + 1) = ((j + 1 : Nat) : Int) := succ_i64 (by omega)
    obtain ⟨hlm0, hgm⟩ := mapK_ok (fun x => x * (s : Int)) ((l.take k).map clV) (k := j) (by omega)
    have hlm : (mapK (fun x => x * (s : Int)) ((l.take k).map clV) j).length = k := hlm0.trans hCl
    have hgj := hgm j
    rw [if_neg (Nat.lt_irrefl _), hC, getD_map0 (by decide)] at hgj
    have hms : IntKind.i64.wrap ((mapK (fun x => x * (s : Int)) ((l.take k).map clV) j).getD j 0 * (s : Int)) = (mapK (fun x => x * (s : Int)) ((l.take k).map clV) j).getD j 0 * (s : Int) := mul_small (by rw [hC, hgj]; have := farK_ge l (j := j) (k := k) (by omega); exact Nat.le_trans (Nat.mul_le_mul_right s (show _ ≤ f by omega)) hs1)
    refine st_skip ?_
    refine fin_then ?_
    refine st_seq ?_
    refine st_block ?_
    refine st_seq ?_
    refine st_region [oF 0, oF 1] (by rfl) ?_
    refine oR [oF 0, oF 1] [(8, vI (j : Int)), (42, vI (j : Int)), (41, vI (k : Int)), (7, vI (s : Int)), (4, .slice A k c)] [8, 42, 41, 7, 4] (by kernel_rfl) ?_
    refine ops_nil ?_
    refine fin_then ?_
    refine st_region [oF 0, oF 1, oF 2, oF 3, oF 4, oF 5, oF 6, oF 7] (by rfl) ?_
    refine oR [oF 0, oF 1] [(46, vI (j : Int)), (45, .slice A k c), (42, vI (j : Int)), (41, vI (k : Int)), (7, vI (s : Int)), (4, .slice A k c)] [46, 45, 42, 41, 7, 4] (by kernel_rfl) ?_
    refine ops_fact (fun w_ hM => hM.rowSome 0 rfl (Nat.lt_of_le_of_lt (Nat.zero_le (j)) (by first | omega | (simp only [hlm, List.length_set, List.length_append, List.length_cons, List.length_nil, List.length_replicate] at *; omega) | (simp [hlm, List.length_set, List.length_append, List.length_cons, List.length_nil, List.length_replicate]; done)))) ?_
    rintro ⟨b10, rfl⟩
    refine ops_val (op := (Go.Op.indexAddr 91 (Go.Operand.tmp 45) (Go.Operand.tmp 46))) (d := some 47) (v := vP b10 j) ⟨by kernel_rfl⟩ (run_indexRow Try.underlying91 (z := 1) (by kernel_rfl) rfl rfl (m := j) (by first | rfl | omega) (by first | omega | (simp only [hlm, List.length_set, List.length_append, List.length_cons, List.length_nil, List.length_replicate] at *; omega) | (simp [hlm, List.length_set, List.length_append, List.length_cons, List.length_nil, List.length_replicate]; done)) (by exact Nat.mul_one _)) ?_
    refine oR [] [(47, vP b10 j), (46, vI (j : Int)), (45, .slice (some ⟨b10, 0, none⟩) k c), (42, vI (j : Int)), (41, vI (k : Int)), (7, vI (s : Int)), (4, .slice (some ⟨b10, 0, none⟩) k c)] [47, 46, 45, 42, 41, 7, 4] (by kernel_rfl) ?_
    refine ops_mem (d := some 48) (an := [.v (vI ((mapK (fun x => x * (s : Int)) ((l.take k).map clV) j).getD j 0))]) (evs := [.load ⟨b10, j, none⟩ (vI ((mapK (fun x => x * (s : Int)) ((l.take k).map clV) j).getD j 0))]) (v := vI ((mapK (fun x => x * (s : Int)) ((l.take k).map clV) j).getD j 0)) (M' := Mem w [.row (some ⟨b10, 0, none⟩) k c 3 1 (iv .i64 (mapK (fun x => x * (s : Int)) ((l.take k).map clV) j))]) ⟨by kernel_rfl⟩ (fun w_ hM hS => ⟨w_, ⟨hM.rowcell 0 rfl (iv_get (by first | omega | (simp only [hlm, List.length_set, List.length_append, List.length_cons, List.length_nil, List.length_replicate] at *; omega) | (simp [hlm, List.length_set, List.length_append, List.length_cons, List.length_nil, List.length_replicate]; done))), rfl⟩, hM, trivial⟩) ?_
    refine oR [oF 4, oF 5] [(50, vI (IntKind.i64.wrap ((mapK (fun x => x * (s : Int)) ((l.take k).map clV) j).getD j 0 * (s : Int)))), (46, vI (j : Int)), (45, .slice (some ⟨b10, 0, none⟩) k c), (42, vI (j : Int)), (41, vI (k : Int)), (7, vI (s : Int)), (4, .slice (some ⟨b10, 0, none⟩) k c)] [50, 46, 45, 42, 41, 7, 4] (by kernel_rfl) ?_
    refine ops_conv (l' := [(50, vI ((mapK (fun x => x * (s : Int)) ((l.take k).map clV) j).getD j 0 * (s : Int))), (46, vI (j : Int)), (45, .slice (some ⟨b10, 0, none⟩) k c), (42, vI (j : Int)), (41, vI (k : Int)), (7, vI (s : Int)), (4, .slice (some ⟨b10, 0, none⟩) k c)]) (by rw [hms]) (fun _ h => h) ?_
    refine ops_val (op := (Go.Op.indexAddr 91 (Go.Operand.tmp 45) (Go.Operand.tmp 46))) (d := some 51) (v := vP b10 j) ⟨by kernel_rfl⟩ (run_indexRow Try.underlying91 (z := 1) (by kernel_rfl) rfl rfl (m := j) (by first | rfl | omega) (by first | omega | (simp only [hlm, List.length_set, List.length_append, List.length_cons, List.length_nil, List.length_replicate] at *; omega) | (simp [hlm, List.length_set, List.length_append, List.length_cons, List.length_nil, List.length_replicate]; done)) (by exact Nat.mul_one _)) ?_
    refine oR [] [(51, vP b10 j), (50, vI ((mapK (fun x => x * (s : Int)) ((l.take k).map clV) j).getD j 0 * (s : Int))), (42, vI (j : Int)), (41, vI (k : Int)), (7, vI (s : Int)), (4, .slice (some ⟨b10, 0, none⟩) k c)] [51, 50, 42, 41, 7, 4] (by kernel_rfl) ?_
    refine ops_store (an := []) (evs := [.store ⟨b10, j, none⟩ (vI ((mapK (fun x => x * (s : Int)) ((l.take k).map clV) j).getD j 0 * (s : Int)))]) (M' := Mem w [.row (some ⟨b10, 0, none⟩) k c 3 1 (iv .i64 ((mapK (fun x => x * (s : Int)) ((l.take k).map clV) j).set j ((mapK (fun x => x * (s : Int)) ((l.take k).map clV) j).getD j 0 * (s : Int))))]) ⟨by kernel_rfl⟩ (fun w_ hM hS => let ⟨w', he, h'⟩ := hM.rowstore 0 rfl (j) (vI ((mapK (fun x => x * (s : Int)) ((l.take k).map clV) j).getD j 0 * (s : Int))) (by rw [iv_length]; first | omega | (simp only [hlm, List.length_set, List.length_append, List.length_cons, List.length_nil, List.length_replicate] at *; omega) | (simp [hlm, List.length_set, List.length_append, List.length_cons, List.length_nil, List.length_replicate]; done)); ⟨w', he, (by rw [iv_set] at h'; exact h'), trivial⟩) ?_
    refine oR [] [(42, vI (j : Int)), (41, vI (k : Int)), (7, vI (s : Int)), (4, .slice (some ⟨b10, 0, none⟩) k c)] [42, 41, 7, 4] (by kernel_rfl) ?_
    refine ops_nil ?_
    refine fin_block ?_
    refine fin_then ?_
    refine st_region [oF 0, oF 1] (by rfl) ?_
    refine oR [oF 0] [(52, vI (IntKind.i64.wrap ((j : Int) + 1))), (42, vI (j : Int)), (41, vI (k : Int)), (7, vI (s : Int)), (4, .slice (some ⟨b10, 0, none⟩) k c)] [52, 42, 41, 7, 4] (by kernel_rfl) ?_
    refine ops_conv (l' := [(52, vI ((j + 1 : Nat) : Int)), (42, vI (j : Int)), (41, vI (k : Int)), (7, vI (s : Int)), (4, .slice (some ⟨b10, 0, none⟩) k c)]) (by rw [hj1]) (fun _ h => h) ?_
    refine oR [oF 1] [(42, vI ((j + 1 : Nat) : Int)), (41, vI (k : Int)), (7, vI (s : Int)), (4, .slice (some ⟨b10, 0, none⟩) k c)] [42, 41, 7, 4] (by kernel_rfl) ?_
    refine ops_nil ?_
    refine fin_round (j + 1) (by omega) (by omega) (look_has ⟨rfl, rfl, rfl, rfl, trivial⟩) (fun w_ hM => by exact hM)
   · --
    have hj : j = k := by have := of_decide_eq_false hc9; omega
    refine st_exit ?_
    refine fin_exit_then ?_
    refine fin_exit_then ?_
    refine fin_exit ?_
    refine fin_then ?_
    refine st_seq ?_
    refine st_region [oF 0, oF 1, oF 2] (by rfl) ?_
    refine oR [oF 0] [(53, .slice A k c), (4, .slice A k c)] [53, 4] (by kernel_rfl) ?_
    have hsd : mapK (fun x => x * (s : Int)) ((l.take k).map clV) j = scaled l := by have z := mapK_all (fun x => x * (s : Int)) ((l.take k).map clV); rw [hCl] at z; rw [hj, z]; unfold scaled; rw [hC, ← hsc]
    refine ops_conv (l' := [(53, .slice A k c), (4, .slice A k c)]) (M' := Mem w [.row A k c 3 1 (iv .i64 (scaled l))]) rfl (fun w_ hM => by rw [hsd] at hM; exact hM) ?_
    obtain ⟨hso1, hso2, hso3, hso4⟩ := scaled_ok (C := l) (by rw [hl]; exact h0) (by omega)
    refine oC (some 54) 130 #[.slice A k c] (vI (longV (scaled l))) ⟨by kernel_rfl⟩ (fun w_ hM => Long_calls A c k (scaled l) w_ (hM.rints 0 rfl) (by rw [scaled_length]; omega) (fun k => Nat.le_trans (hso1 k) (by decide)) (by omega)) ?_
    refine oR [oF 2] [(9, vI (longV (scaled l))), (4, .slice A k c)] [9, 4] (by kernel_rfl) ?_
    refine ops_nil ?_
    refine fin_then ?_
    refine st_seq ?_
    refine st_seq ?_
    refine st_region [oF 0, oF 1, oF 2] (by rfl) ?_
    refine oR [oF 0, oF 1, oF 2] [(57, vI 0), (56, vI (k : Int)), (55, .slice A k c), (9, vI (longV (scaled l))), (4, .slice A k c)] [57, 56, 55, 9, 4] (by kernel_rfl) ?_
    refine ops_nil ?_
    refine fin_then ?_
    refine st_block ?_
    refine st_loop (σ := Nat) 0 (fun i => [(57, vI (i : Int)), (56, vI (k : Int)), (55, .slice A k c), (9, vI (longV (scaled l))), (4, .slice A k c)]) (fun i => Mem w [.row A k c 3 1 (iv .i64 (mapK (fun x => throughV x (longV (scaled l))) (scaled l) i))]) (fun i => i ≤ k) (fun i => k - i) (by exact Nat.zero_le _) (look_has ⟨rfl, rfl, rfl, rfl, rfl, trivial⟩) (fun w_ hM => by exact hM) ?_
    rintro i hI
    have hIi : i ≤ k := hI
    refine st_seq ?_
    refine st_region [oF 0] (by rfl) ?_
    refine oR [oF 0] [(58, .bool (decide ((i : Int) < (k : Int)))), (57, vI (i : Int)), (56, vI (k : Int)), (55, .slice A k c), (9, vI (longV (scaled l))), (4, .slice A k c)] [58, 57, 56, 55, 9, 4] (by kernel_rfl) ?_
    refine ops_nil ?_
    refine fin_then ?_
    refine st_seq ?_
    refine st_if (b := decide ((i : Int) < (k : Int))) rfl (fun hc11 => ?_) (fun hc11 => ?_)
    · --
     have hi : i < k := by have := of_decide_eq_true hc11; omega
     have hi1 : IntKind.i64.wrap ((i : Int) + 1) = ((i + 1 : Nat) : Int) := succ_i64 (by omega)
     obtain ⟨hlm0, hgm⟩ := mapK_ok (fun x => throughV x (longV (scaled l))) (scaled l) (k := i) (by rw [scaled_length]; omega)
     have hlm : (mapK (fun x => throughV x (longV (scaled l))) (scaled l) i).length = k := by rw [hlm0, scaled_length]; omega
     have hgj := hgm i
     rw [if_neg (Nat.lt_irrefl _)] at hgj
     have hn1 := hso1 i
     have hn2 := hso4 i (by omega)
     rw [← hgj] at hn1 hn2
     have ht1 := tmod_two (2 * (mapK (fun x => throughV x (longV (scaled l))) (scaled l) i).getD i 0 * 65536 + longV (scaled l)) (show 0 < 2 * longV (scaled l) by omega)
     have ht2 := tmod_two (Int.tmod (2 * (mapK (fun x => throughV x (longV (scaled l))) (scaled l) i).getD i 0 * 65536 + longV (scaled l)) (2 * longV (scaled l)) + 2 * longV (scaled l)) (show 0 < 2 * longV (scaled l) by omega)
     have htr := through_range (x := (mapK (fun x => throughV x (longV (scaled l))) (scaled l) i).getD i 0) hso2 (by omega) (by omega)
     have htv : IntKind.i64.wrap (Int.tdiv (2 * (mapK (fun x => throughV x (longV (scaled l))) (scaled l) i).getD i 0 * 65536 + longV (scaled l) - Int.tmod (Int.tmod (2 * (mapK (fun x => throughV x (longV (scaled l))) (scaled l) i).getD i 0 * 65536 + longV (scaled l)) (2 * longV (scaled l)) + 2 * longV (scaled l)) (2 * longV (scaled l))) (2 * longV (scaled l))) = throughV ((mapK (fun x => throughV x (longV (scaled l))) (scaled l) i).getD i 0) (longV (scaled l)) := by rw [through_ref (x := 2 * (mapK (fun x => throughV x (longV (scaled l))) (scaled l) i).getD i 0 * 65536 + longV (scaled l)) hso2]; exact i64in (x := throughV ((mapK (fun x => throughV x (longV (scaled l))) (scaled l) i).getD i 0) (longV (scaled l))) (by omega) (by omega)
     refine st_skip ?_
     refine fin_then ?_
     refine st_seq ?_
     refine st_block ?_
     refine st_seq ?_
     refine st_region [oF 0, oF 1, oF 2, oF 3, oF 4] (by rfl) ?_
     refine oR [oF 0] [(59, vI (i : Int)), (57, vI (i : Int)), (56, vI (k : Int)), (55, .slice A k c), (9, vI (longV (scaled l))), (4, .slice A k c)] [59, 57, 56, 55, 9, 4] (by kernel_rfl) ?_
     refine ops_fact (fun w_ hM => hM.rowSome 0 rfl (Nat.lt_of_le_of_lt (Nat.zero_le (i)) (by first | omega | (simp only [hlm, List.length_set, List.length_append, List.length_cons, List.length_nil, List.length_replicate] at *; omega) | (simp [hlm, List.length_set, List.length_append, List.length_cons, List.length_nil, List.length_replicate]; done)))) ?_
     rintro ⟨b12, rfl⟩
     refine ops_val (op := (Go.Op.indexAddr 91 (Go.Operand.tmp 55) (Go.Operand.tmp 57))) (d := some 60) (v := vP b12 i) ⟨by kernel_rfl⟩ (run_indexRow Try.underlying91 (z := 1) (by kernel_rfl) rfl rfl (m := i) (by first | rfl | omega) (by first | omega | (simp only [hlm, List.length_set, List.length_append, List.length_cons, List.length_nil, List.length_replicate] at *; omega) | (simp [hlm, List.length_set, List.length_append, List.length_cons, List.length_nil, List.length_replicate]; done)) (by exact Nat.mul_one _)) ?_
     refine oR [] [(60, vP b12 i), (59, vI (i : Int)), (57, vI (i : Int)), (56, vI (k : Int)), (55, .slice (some ⟨b12, 0, none⟩) k c), (9, vI (longV (scaled l))), (4, .slice (some ⟨b12, 0, none⟩) k c)] [60, 59, 57, 56, 55, 9, 4] (by kernel_rfl) ?_
     refine ops_mem (d := some 61) (an := [.v (vI ((mapK (fun x => throughV x (longV (scaled l))) (scaled l) i).getD i 0))]) (evs := [.load ⟨b12, i, none⟩ (vI ((mapK (fun x => throughV x (longV (scaled l))) (scaled l) i).getD i 0))]) (v := vI ((mapK (fun x => throughV x (longV (scaled l))) (scaled l) i).getD i 0)) (M' := Mem w [.row (some ⟨b12, 0, none⟩) k c 3 1 (iv .i64 (mapK (fun x => throughV x (longV (scaled l))) (scaled l) i))]) ⟨by kernel_rfl⟩ (fun w_ hM hS => ⟨w_, ⟨hM.rowcell 0 rfl (iv_get (by first | omega | (simp only [hlm, List.length_set, List.length_append, List.length_cons, List.length_nil, List.length_replicate] at *; omega) | (simp [hlm, List.length_set, List.length_append, List.length_cons, List.length_nil, List.length_replicate]; done))), rfl⟩, hM, trivial⟩) ?_
     refine oR [oF 3, oF 4] [(11, vI ((mapK (fun x => throughV x (longV (scaled l))) (scaled l) i).getD i 0)), (10, vI (i : Int)), (57, vI (i : Int)), (56, vI (k : Int)), (55, .slice (some ⟨b12, 0, none⟩) k c), (9, vI (longV (scaled l))), (4, .slice (some ⟨b12, 0, none⟩) k c)] [11, 10, 57, 56, 55, 9, 4] (by kernel_rfl) ?_
     refine ops_nil ?_
     refine fin_then ?_
     refine st_seq ?_
     refine st_region [oF 0, oF 1, oF 2, oF 3, oF 4, oF 5] (by rfl) ?_
     refine oR [oF 0, oF 1] [(63, vI (IntKind.i64.wrap (2 * (mapK (fun x => throughV x (longV (scaled l))) (scaled l) i).getD i 0))), (10, vI (i : Int)), (57, vI (i : Int)), (56, vI (k : Int)), (55, .slice (some ⟨b12, 0, none⟩) k c), (9, vI (longV (scaled l))), (4, .slice (some ⟨b12, 0, none⟩) k c)] [63, 10, 57, 56, 55, 9, 4] (by kernel_rfl) ?_
     refine ops_conv (l' := [(63, vI (2 * (mapK (fun x => throughV x (longV (scaled l))) (scaled l) i).getD i 0)), (10, vI (i : Int)), (57, vI (i : Int)), (56, vI (k : Int)), (55, .slice (some ⟨b12, 0, none⟩) k c), (9, vI (longV (scaled l))), (4, .slice (some ⟨b12, 0, none⟩) k c)]) (by rw [(i64in (x := 2 * (mapK (fun x => throughV x (longV (scaled l))) (scaled l) i).getD i 0) (by omega) (by omega))]) (fun _ h => h) ?_
     refine oR [oF 2] [(64, vI (IntKind.i64.wrap ((2 * (mapK (fun x => throughV x (longV (scaled l))) (scaled l) i).getD i 0) * 65536))), (10, vI (i : Int)), (57, vI (i : Int)), (56, vI (k : Int)), (55, .slice (some ⟨b12, 0, none⟩) k c), (9, vI (longV (scaled l))), (4, .slice (some ⟨b12, 0, none⟩) k c)] [64, 10, 57, 56, 55, 9, 4] (by kernel_rfl) ?_
     refine ops_conv (l' := [(64, vI ((2 * (mapK (fun x => throughV x (longV (scaled l))) (scaled l) i).getD i 0) * 65536)), (10, vI (i : Int)), (57, vI (i : Int)), (56, vI (k : Int)), (55, .slice (some ⟨b12, 0, none⟩) k c), (9, vI (longV (scaled l))), (4, .slice (some ⟨b12, 0, none⟩) k c)]) (by rw [(i64in (x := (2 * (mapK (fun x => throughV x (longV (scaled l))) (scaled l) i).getD i 0) * 65536) (by omega) (by omega))]) (fun _ h => h) ?_
     refine oR [oF 3, oF 4] [(66, vI (IntKind.i64.wrap (((2 * (mapK (fun x => throughV x (longV (scaled l))) (scaled l) i).getD i 0) * 65536) + longV (scaled l)))), (10, vI (i : Int)), (57, vI (i : Int)), (56, vI (k : Int)), (55, .slice (some ⟨b12, 0, none⟩) k c), (9, vI (longV (scaled l))), (4, .slice (some ⟨b12, 0, none⟩) k c)] [66, 10, 57, 56, 55, 9, 4] (by kernel_rfl) ?_
     refine ops_conv (l' := [(66, vI (((2 * (mapK (fun x => throughV x (longV (scaled l))) (scaled l) i).getD i 0) * 65536) + longV (scaled l))), (10, vI (i : Int)), (57, vI (i : Int)), (56, vI (k : Int)), (55, .slice (some ⟨b12, 0, none⟩) k c), (9, vI (longV (scaled l))), (4, .slice (some ⟨b12, 0, none⟩) k c)]) (by rw [(i64in (x := ((2 * (mapK (fun x => throughV x (longV (scaled l))) (scaled l) i).getD i 0) * 65536) + longV (scaled l)) (by omega) (by omega))]) (fun _ h => h) ?_
     refine oR [oF 5] [(12, vI (((2 * (mapK (fun x => throughV x (longV (scaled l))) (scaled l) i).getD i 0) * 65536) + longV (scaled l))), (10, vI (i : Int)), (57, vI (i : Int)), (56, vI (k : Int)), (55, .slice (some ⟨b12, 0, none⟩) k c), (9, vI (longV (scaled l))), (4, .slice (some ⟨b12, 0, none⟩) k c)] [12, 10, 57, 56, 55, 9, 4] (by kernel_rfl) ?_
     refine ops_nil ?_
     refine fin_then ?_
     refine st_region [oF 0, oF 1, oF 2, oF 3, oF 4, oF 5, oF 6, oF 7, oF 8, oF 9, oF 10, oF 11, oF 12, oF 13, oF 14, oF 15, oF 16, oF 17, oF 18] (by rfl) ?_
     refine oR [oF 0, oF 1, oF 2, oF 3, oF 4, oF 5] [(72, vI (IntKind.i64.wrap (2 * longV (scaled l)))), (70, vI (((2 * (mapK (fun x => throughV x (longV (scaled l))) (scaled l) i).getD i 0) * 65536) + longV (scaled l))), (69, vI (((2 * (mapK (fun x => throughV x (longV (scaled l))) (scaled l) i).getD i 0) * 65536) + longV (scaled l))), (68, vI (i : Int)), (67, .slice (some ⟨b12, 0, none⟩) k c), (57, vI (i : Int)), (56, vI (k : Int)), (55, .slice (some ⟨b12, 0, none⟩) k c), (9, vI (longV (scaled l))), (4, .slice (some ⟨b12, 0, none⟩) k c)] [72, 70, 69, 68, 67, 57, 56, 55, 9, 4] (by kernel_rfl) ?_
     refine ops_conv (l' := [(72, vI (2 * longV (scaled l))), (70, vI (((2 * (mapK (fun x => throughV x (longV (scaled l))) (scaled l) i).getD i 0) * 65536) + longV (scaled l))), (69, vI (((2 * (mapK (fun x => throughV x (longV (scaled l))) (scaled l) i).getD i 0) * 65536) + longV (scaled l))), (68, vI (i : Int)), (67, .slice (some ⟨b12, 0, none⟩) k c), (57, vI (i : Int)), (56, vI (k : Int)), (55, .slice (some ⟨b12, 0, none⟩) k c), (9, vI (longV (scaled l))), (4, .slice (some ⟨b12, 0, none⟩) k c)]) (by rw [(i64in (x := 2 * longV (scaled l)) (by omega) (by omega))]) (fun _ h => h) ?_
     refine ops_val (op := (Go.Op.binOp Go.BinOp.rem 3 (Go.Operand.tmp 70) (Go.Operand.tmp 72) 3)) (d := some 73) (v := vI (Int.tmod (((2 * (mapK (fun x => throughV x (longV (scaled l))) (scaled l) i).getD i 0) * 65536) + longV (scaled l)) (2 * longV (scaled l)))) ⟨by kernel_rfl⟩ (run_rem rfl rfl (by first | omega | (simp only [hlm, List.length_set, List.length_append, List.length_cons, List.length_nil, List.length_replicate] at *; omega) | (simp [hlm, List.length_set, List.length_append, List.length_cons, List.length_nil, List.length_replicate]; done))) ?_
     refine oR [oF 7, oF 8] [(75, vI (IntKind.i64.wrap (2 * longV (scaled l)))), (73, vI (Int.tmod (((2 * (mapK (fun x => throughV x (longV (scaled l))) (scaled l) i).getD i 0) * 65536) + longV (scaled l)) (2 * longV (scaled l)))), (69, vI (((2 * (mapK (fun x => throughV x (longV (scaled l))) (scaled l) i).getD i 0) * 65536) + longV (scaled l))), (68, vI (i : Int)), (67, .slice (some ⟨b12, 0, none⟩) k c), (57, vI (i : Int)), (56, vI (k : Int)), (55, .slice (some ⟨b12, 0, none⟩) k c), (9, vI (longV (scaled l))), (4, .slice (some ⟨b12, 0, none⟩) k c)] [75, 73, 69, 68, 67, 57, 56, 55, 9, 4] (by kernel_rfl) ?_
     refine ops_conv (l' := [(75, vI (2 * longV (scaled l))), (73, vI (Int.tmod (((2 * (mapK (fun x => throughV x (longV (scaled l))) (scaled l) i).getD i 0) * 65536) + longV (scaled l)) (2 * longV (scaled l)))), (69, vI (((2 * (mapK (fun x => throughV x (longV (scaled l))) (scaled l) i).getD i 0) * 65536) + longV (scaled l))), (68, vI (i : Int)), (67, .slice (some ⟨b12, 0, none⟩) k c), (57, vI (i : Int)), (56, vI (k : Int)), (55, .slice (some ⟨b12, 0, none⟩) k c), (9, vI (longV (scaled l))), (4, .slice (some ⟨b12, 0, none⟩) k c)]) (by rw [(i64in (x := 2 * longV (scaled l)) (by omega) (by omega))]) (fun _ h => h) ?_
     refine oR [oF 9] [(76, vI (IntKind.i64.wrap (Int.tmod (((2 * (mapK (fun x => throughV x (longV (scaled l))) (scaled l) i).getD i 0) * 65536) + longV (scaled l)) (2 * longV (scaled l)) + (2 * longV (scaled l))))), (69, vI (((2 * (mapK (fun x => throughV x (longV (scaled l))) (scaled l) i).getD i 0) * 65536) + longV (scaled l))), (68, vI (i : Int)), (67, .slice (some ⟨b12, 0, none⟩) k c), (57, vI (i : Int)), (56, vI (k : Int)), (55, .slice (some ⟨b12, 0, none⟩) k c), (9, vI (longV (scaled l))), (4, .slice (some ⟨b12, 0, none⟩) k c)] [76, 69, 68, 67, 57, 56, 55, 9, 4] (by kernel_rfl) ?_
     refine ops_conv (l' := [(76, vI (Int.tmod (((2 * (mapK (fun x => throughV x (longV (scaled l))) (scaled l) i).getD i 0) * 65536) + longV (scaled l)) (2 * longV (scaled l)) + (2 * longV (scaled l)))), (69, vI (((2 * (mapK (fun x => throughV x (longV (scaled l))) (scaled l) i).getD i 0) * 65536) + longV (scaled l))), (68, vI (i : Int)), (67, .slice (some ⟨b12, 0, none⟩) k c), (57, vI (i : Int)), (56, vI (k : Int)), (55, .slice (some ⟨b12, 0, none⟩) k c), (9, vI (longV (scaled l))), (4, .slice (some ⟨b12, 0, none⟩) k c)]) (by rw [(i64in (x := Int.tmod (((2 * (mapK (fun x => throughV x (longV (scaled l))) (scaled l) i).getD i 0) * 65536) + longV (scaled l)) (2 * longV (scaled l)) + (2 * longV (scaled l))) (by omega) (by omega))]) (fun _ h => h) ?_
     refine oR [oF 10, oF 11] [(78, vI (IntKind.i64.wrap (2 * longV (scaled l)))), (76, vI (Int.tmod (((2 * (mapK (fun x => throughV x (longV (scaled l))) (scaled l) i).getD i 0) * 65536) + longV (scaled l)) (2 * longV (scaled l)) + (2 * longV (scaled l)))), (69, vI (((2 * (mapK (fun x => throughV x (longV (scaled l))) (scaled l) i).getD i 0) * 65536) + longV (scaled l))), (68, vI (i : Int)), (67, .slice (some ⟨b12, 0, none⟩) k c), (57, vI (i : Int)), (56, vI (k : Int)), (55, .slice (some ⟨b12, 0, none⟩) k c), (9, vI (longV (scaled l))), (4, .slice (some ⟨b12, 0, none⟩) k c)] [78, 76, 69, 68, 67, 57, 56, 55, 9, 4] (by kernel_rfl) ?_
     refine ops_conv (l' := [(78, vI (2 * longV (scaled l))), (76, vI (Int.tmod (((2 * (mapK (fun x => throughV x (longV (scaled l))) (scaled l) i).getD i 0) * 65536) + longV (scaled l)) (2 * longV (scaled l)) + (2 * longV (scaled l)))), (69, vI (((2 * (mapK (fun x => throughV x (longV (scaled l))) (scaled l) i).getD i 0) * 65536) + longV (scaled l))), (68, vI (i : Int)), (67, .slice (some ⟨b12, 0, none⟩) k c), (57, vI (i : Int)), (56, vI (k : Int)), (55, .slice (some ⟨b12, 0, none⟩) k c), (9, vI (longV (scaled l))), (4, .slice (some ⟨b12, 0, none⟩) k c)]) (by rw [(i64in (x := 2 * longV (scaled l)) (by omega) (by omega))]) (fun _ h => h) ?_
     refine ops_val (op := (Go.Op.binOp Go.BinOp.rem 3 (Go.Operand.tmp 76) (Go.Operand.tmp 78) 3)) (d := some 79) (v := vI (Int.tmod (Int.tmod (((2 * (mapK (fun x => throughV x (longV (scaled l))) (scaled l) i).getD i 0) * 65536) + longV (scaled l)) (2 * longV (scaled l)) + (2 * longV (scaled l))) (2 * longV (scaled l)))) ⟨by kernel_rfl⟩ (run_rem rfl rfl (by first | omega | (simp only [hlm, List.length_set, List.length_append, List.length_cons, List.length_nil, List.length_replicate] at *; omega) | (simp [hlm, List.length_set, List.length_append, List.length_cons, List.length_nil, List.length_replicate]; done))) ?_
     refine oR [oF 13] [(80, vI (IntKind.i64.wrap ((((2 * (mapK (fun x => throughV x (longV (scaled l))) (scaled l) i).getD i 0) * 65536) + longV (scaled l)) - Int.tmod (Int.tmod (((2 * (mapK (fun x => throughV x (longV (scaled l))) (scaled l) i).getD i 0) * 65536) + longV (scaled l)) (2 * longV (scaled l)) + (2 * longV (scaled l))) (2 * longV (scaled l))))), (68, vI (i : Int)), (67, .slice (some ⟨b12, 0, none⟩) k c), (57, vI (i : Int)), (56, vI (k : Int)), (55, .slice (some ⟨b12, 0, none⟩) k c), (9, vI (longV (scaled l))), (4, .slice (some ⟨b12, 0, none⟩) k c)] [80, 68, 67, 57, 56, 55, 9, 4] (by kernel_rfl) ?_
     refine ops_conv (l' := [(80, vI ((((2 * (mapK (fun x => throughV x (longV (scaled l))) (scaled l) i).getD i 0) * 65536) + longV (scaled l)) - Int.tmod (Int.tmod (((2 * (mapK (fun x => throughV x (longV (scaled l))) (scaled l) i).getD i 0) * 65536) + longV (scaled l)) (2 * longV (scaled l)) + (2 * longV (scaled l))) (2 * longV (scaled l)))), (68, vI (i : Int)), (67, .slice (some ⟨b12, 0, none⟩) k c), (57, vI (i : Int)), (56, vI (k : Int)), (55, .slice (some ⟨b12, 0, none⟩) k c), (9, vI (longV (scaled l))), (4, .slice (some ⟨b12, 0, none⟩) k c)]) (by rw [(i64in (x := (((2 * (mapK (fun x => throughV x (longV (scaled l))) (scaled l) i).getD i 0) * 65536) + longV (scaled l)) - Int.tmod (Int.tmod (((2 * (mapK (fun x => throughV x (longV (scaled l))) (scaled l) i).getD i 0) * 65536) + longV (scaled l)) (2 * longV (scaled l)) + (2 * longV (scaled l))) (2 * longV (scaled l))) (by omega) (by omega))]) (fun _ h => h) ?_
     refine oR [oF 14, oF 15] [(82, vI (IntKind.i64.wrap (2 * longV (scaled l)))), (80, vI ((((2 * (mapK (fun x => throughV x (longV (scaled l))) (scaled l) i).getD i 0) * 65536) + longV (scaled l)) - Int.tmod (Int.tmod (((2 * (mapK (fun x => throughV x (longV (scaled l))) (scaled l) i).getD i 0) * 65536) + longV (scaled l)) (2 * longV (scaled l)) + (2 * longV (scaled l))) (2 * longV (scaled l)))), (68, vI (i : Int)), (67, .slice (some ⟨b12, 0, none⟩) k c), (57, vI (i : Int)), (56, vI (k : Int)), (55, .slice (some ⟨b12, 0, none⟩) k c), (9, vI (longV (scaled l))), (4, .slice (some ⟨b12, 0, none⟩) k c)] [82, 80, 68, 67, 57, 56, 55, 9, 4] (by kernel_rfl) ?_
     refine ops_conv (l' := [(82, vI (2 * longV (scaled l))), (80, vI ((((2 * (mapK (fun x => throughV x (longV (scaled l))) (scaled l) i).getD i 0) * 65536) + longV (scaled l)) - Int.tmod (Int.tmod (((2 * (mapK (fun x => throughV x (longV (scaled l))) (scaled l) i).getD i 0) * 65536) + longV (scaled l)) (2 * longV (scaled l)) + (2 * longV (scaled l))) (2 * longV (scaled l)))), (68, vI (i : Int)), (67, .slice (some ⟨b12, 0, none⟩) k c), (57, vI (i : Int)), (56, vI (k : Int)), (55, .slice (some ⟨b12, 0, none⟩) k c), (9, vI (longV (scaled l))), (4, .slice (some ⟨b12, 0, none⟩) k c)]) (by rw [(i64in (x := 2 * longV (scaled l)) (by omega) (by omega))]) (fun _ h => h) ?_
     refine ops_val (op := (Go.Op.binOp Go.BinOp.quo 3 (Go.Operand.tmp 80) (Go.Operand.tmp 82) 3)) (d := some 83) (v := vI (IntKind.i64.wrap (Int.tdiv ((((2 * (mapK (fun x => throughV x (longV (scaled l))) (scaled l) i).getD i 0) * 65536) + longV (scaled l)) - Int.tmod (Int.tmod (((2 * (mapK (fun x => throughV x (longV (scaled l))) (scaled l) i).getD i 0) * 65536) + longV (scaled l)) (2 * longV (scaled l)) + (2 * longV (scaled l))) (2 * longV (scaled l))) (2 * longV (scaled l))))) ⟨by kernel_rfl⟩ (run_quo rfl rfl (by first | omega | (simp only [hlm, List.length_set, List.length_append, List.length_cons, List.length_nil, List.length_replicate] at *; omega) | (simp [hlm, List.length_set, List.length_append, List.length_cons, List.length_nil, List.length_replicate]; done))) ?_
     refine oR [] [(83, vI (IntKind.i64.wrap (Int.tdiv ((((2 * (mapK (fun x => throughV x (longV (scaled l))) (scaled l) i).getD i 0) * 65536) + longV (scaled l)) - Int.tmod (Int.tmod (((2 * (mapK (fun x => throughV x (longV (scaled l))) (scaled l) i).getD i 0) * 65536) + longV (scaled l)) (2 * longV (scaled l)) + (2 * longV (scaled l))) (2 * longV (scaled l))) (2 * longV (scaled l))))), (68, vI (i : Int)), (67, .slice (some ⟨b12, 0, none⟩) k c), (57, vI (i : Int)), (56, vI (k : Int)), (55, .slice (some ⟨b12, 0, none⟩) k c), (9, vI (longV (scaled l))), (4, .slice (some ⟨b12, 0, none⟩) k c)] [83, 68, 67, 57, 56, 55, 9, 4] (by kernel_rfl) ?_
     refine ops_conv (l' := [(83, vI (throughV ((mapK (fun x => throughV x (longV (scaled l))) (scaled l) i).getD i 0) (longV (scaled l)))), (68, vI (i : Int)), (67, .slice (some ⟨b12, 0, none⟩) k c), (57, vI (i : Int)), (56, vI (k : Int)), (55, .slice (some ⟨b12, 0, none⟩) k c), (9, vI (longV (scaled l))), (4, .slice (some ⟨b12, 0, none⟩) k c)]) (by rw [htv]) (fun _ h => h) ?_
     refine ops_val (op := (Go.Op.indexAddr 91 (Go.Operand.tmp 67) (Go.Operand.tmp 68))) (d := some 84) (v := vP b12 i) ⟨by kernel_rfl⟩ (run_indexRow Try.underlying91 (z := 1) (by kernel_rfl) rfl rfl (m := i) (by first | rfl | omega) (by first | omega | (simp only [hlm, List.length_set, List.length_append, List.length_cons, List.length_nil, List.length_replicate] at *; omega) | (simp [hlm, List.length_set, List.length_append, List.length_cons, List.length_nil, List.length_replicate]; done)) (by exact Nat.mul_one _)) ?_
     refine oR [] [(84, vP b12 i), (83, vI (throughV ((mapK (fun x => throughV x (longV (scaled l))) (scaled l) i).getD i 0) (longV (scaled l)))), (57, vI (i : Int)), (56, vI (k : Int)), (55, .slice (some ⟨b12, 0, none⟩) k c), (9, vI (longV (scaled l))), (4, .slice (some ⟨b12, 0, none⟩) k c)] [84, 83, 57, 56, 55, 9, 4] (by kernel_rfl) ?_
     refine ops_store (an := []) (evs := [.store ⟨b12, i, none⟩ (vI (throughV ((mapK (fun x => throughV x (longV (scaled l))) (scaled l) i).getD i 0) (longV (scaled l))))]) (M' := Mem w [.row (some ⟨b12, 0, none⟩) k c 3 1 (iv .i64 ((mapK (fun x => throughV x (longV (scaled l))) (scaled l) i).set i (throughV ((mapK (fun x => throughV x (longV (scaled l))) (scaled l) i).getD i 0) (longV (scaled l)))))]) ⟨by kernel_rfl⟩ (fun w_ hM hS => let ⟨w', he, h'⟩ := hM.rowstore 0 rfl (i) (vI (throughV ((mapK (fun x => throughV x (longV (scaled l))) (scaled l) i).getD i 0) (longV (scaled l)))) (by rw [iv_length]; first | omega | (simp only [hlm, List.length_set, List.length_append, List.length_cons, List.length_nil, List.length_replicate] at *; omega) | (simp [hlm, List.length_set, List.length_append, List.length_cons, List.length_nil, List.length_replicate]; done)); ⟨w', he, (by rw [iv_set] at h'; exact h'), trivial⟩) ?_
     refine oR [] [(57, vI (i : Int)), (56, vI (k : Int)), (55, .slice (some ⟨b12, 0, none⟩) k c), (9, vI (longV (scaled l))), (4, .slice (some ⟨b12, 0, none⟩) k c)] [57, 56, 55, 9, 4] (by kernel_rfl) ?_
     refine ops_nil ?_
     refine fin_block ?_
     refine fin_then ?_
     refine st_region [oF 0, oF 1] (by rfl) ?_
     refine oR [oF 0] [(85, vI (IntKind.i64.wrap ((i : Int) + 1))), (57, vI (i : Int)), (56, vI (k : Int)), (55, .slice (some ⟨b12, 0, none⟩) k c), (9, vI (longV (scaled l))), (4, .slice (some ⟨b12, 0, none⟩) k c)] [85, 57, 56, 55, 9, 4] (by kernel_rfl) ?_
     refine ops_conv (l' := [(85, vI ((i + 1 : Nat) : Int)), (57, vI (i : Int)), (56, vI (k : Int)), (55, .slice (some ⟨b12, 0, none⟩) k c), (9, vI (longV (scaled l))), (4, .slice (some ⟨b12, 0, none⟩) k c)]) (by rw [hi1]) (fun _ h => h) ?_
     refine oR [oF 1] [(57, vI ((i + 1 : Nat) : Int)), (56, vI (k : Int)), (55, .slice (some ⟨b12, 0, none⟩) k c), (9, vI (longV (scaled l))), (4, .slice (some ⟨b12, 0, none⟩) k c)] [57, 56, 55, 9, 4] (by kernel_rfl) ?_
     refine ops_nil ?_
     refine fin_round (i + 1) (by omega) (by omega) (look_has ⟨rfl, rfl, rfl, rfl, rfl, trivial⟩) (fun w_ hM => by exact hM)
    · --
     have hi : i = k := by have := of_decide_eq_false hc11; omega
     refine st_exit ?_
     refine fin_exit_then ?_
     refine fin_exit_then ?_
     refine fin_exit ?_
     refine fin_then ?_
     refine st_seq ?_
     refine st_region [oF 0, oF 1] (by rfl) ?_
     refine oR [oF 0, oF 1] [(2, .slice A k c)] [2] (by kernel_rfl) ?_
     refine ops_nil ?_
     refine fin_then ?_
     refine st_ret ?_
     refine fin_ret [.tmp 2] [.slice A k c] rfl rfl (fun w_ hM => (.tmp rfl .nil)) (fun w_ hM => ?_)
     have hev : mapK (fun x => throughV x (longV (scaled l))) (scaled l) i = evenV l := by have z := mapK_all (fun x => throughV x (longV (scaled l))) (scaled l); rw [scaled_length, hl] at z; rw [hi, hk]; exact z
     obtain ⟨b, hA⟩ := hM.rowSome 0 rfl (show 0 < k by rw [hk]; apply Nat.pos_of_ne_zero; intro e; rw [e] at h0; simp [farK] at h0)
     have hM : Mem w [.row A k c 3 1 (iv .i64 (mapK (fun x => throughV x (longV (scaled l))) (scaled l) i))] w_ := hM.reorder [0] (by decide) rfl
     rw [hA, hev, hk] at hM
     exact ⟨(b, c), by rw [hA, hk]; rfl, hM⟩
end Go.Proofs.Ytioijglogoppnaa.WEven
