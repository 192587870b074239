/- The Go functions come to what the plain functions tell. No condition. -/
import Derived.Test.YtnognpmkhkkkeaaProg
import Derived.Test.YtnognpmkhkkkeaaFnX
namespace Go.Proofs.Ytnognpmkhkkkeaa.X
open Go Go.RowKit Go.Proofs.Ytnognpmkhkkkeaa.Sx
set_option linter.unusedVariables false
set_option maxHeartbeats 4000000 in
set_option maxRecDepth 100000 in
theorem queue_Queue_int_before_ok (w0 w : World) (cs : List Chunk) (F : Nat → Prop) (W : World) (b_q : Nat) (A_q_0 : Option Addr) (c_q_0 : Nat) (q_0 : List queue_item_int) (y_q_0 : List Value) (q_1 : Int) (i : Int) (k : Int) (hM0 : Mem w0 (.blk b_q [.slice A_q_0 q_0.length c_q_0, vI q_1] 98 :: orow A_q_0 q_0.length c_q_0 105 3 y_q_0 :: Fz F W :: cs) w) (h_q_0 : RepL R_queue_item_int F W q_0 y_q_0) (t9001 : Bool) (hp : queue_Queue_int_before q_0 q_1 i k = some t9001) : Calls Try.prog 77 #[vP b_q 0, vI i, vI k] w fun e w' => ∃ (y9002 : List Value), ((RepL R_queue_item_int F W q_0 y9002)) ∧ e = .returned (.bool t9001) ∧ Mem w0 (.blk b_q [.slice A_q_0 q_0.length c_q_0, vI q_1] 98 :: orow A_q_0 q_0.length c_q_0 105 3 y9002 :: Fz F W :: cs) w' := by
 unfold queue_Queue_int_before at hp
 refine sx_calls Try.func77 rfl (n := 38) (by kernel_rfl) (l := [(0, vP b_q 0), (1, vI i), (2, vI k)]) rfl (by rfl) hM0 ?_
 refine st_seq ?_
 refine st_region [oF 0] (by rfl) ?_
 refine oR [oF 0] [(0, vP b_q 0), (1, vI i), (2, vI k)] [0, 1, 2] (by kernel_rfl) ?_
 refine ops_nil ?_
 refine fin_then ?_
 refine st_join1 (σ := Nat × Int × Int × Int × Nat × Int × Int × Int) (L := fun x_ => match x_ with | (b1, i2, i3, i4, b5, i6, i7, i8) => [(7, vP b1 0), (8, vP b5 0)]) (N := fun x_ => match x_ with | (b1, i2, i3, i4, b5, i6, i7, i8) => Mem w0 (.blk b1 [vI i2, vI i3, vI i4] 105 :: .blk b5 [vI i6, vI i7, vI i8] 105 :: .blk b_q [.slice A_q_0 q_0.length c_q_0, vI q_1] 98 :: orow A_q_0 q_0.length c_q_0 105 3 y_q_0 :: Fz F W :: cs)) (I := fun x_ => match x_ with | (b1, i2, i3, i4, b5, i6, i7, i8) => (queue_Queue_int_before_j1 i2 i3 i4 i6 i7 i8 = some t9001)) ?_ ?_
 · --
  rintro ⟨b1, i2, i3, i4, b5, i6, i7, i8⟩ hp
  refine st_conv (l' := [(7, vP b1 0), (8, vP b5 0)]) (M' := Mem w0 (.blk b1 [vI i2, vI i3, vI i4] 105 :: .blk b5 [vI i6, vI i7, vI i8] 105 :: .blk b_q [.slice A_q_0 q_0.length c_q_0, vI q_1] 98 :: orow A_q_0 q_0.length c_q_0 105 3 y_q_0 :: Fz F W :: cs)) rfl (fun _ h => h) ?_
  unfold queue_Queue_int_before_j1 at hp
  refine st_seq ?_
  refine st_seq ?_
  refine st_region [oF 0, oF 1, oF 2, oF 3, oF 4] (by rfl) ?_
  refine oR [oF 0] [(23, vP b1 1), (7, vP b1 0), (8, vP b5 0)] [23, 7, 8] (by kernel_rfl) ?_
  refine ops_mem (d := some 24) (an := [.v (vI i3)]) (evs := [.load ⟨b1, 1, none⟩ (vI i3)]) (v := vI i3) (M' := Mem w0 (.blk b1 [vI i2, vI i3, vI i4] 105 :: .blk b5 [vI i6, vI i7, vI i8] 105 :: .blk b_q [.slice A_q_0 q_0.length c_q_0, vI q_1] 98 :: orow A_q_0 q_0.length c_q_0 105 3 y_q_0 :: Fz F W :: cs)) ⟨by kernel_rfl⟩ (fun w_ hM hS => ⟨w_, ⟨hM.cell 0 rfl rfl, rfl⟩, hM, trivial⟩) ?_
  refine oR [oF 2] [(25, vP b5 1), (24, vI i3), (7, vP b1 0), (8, vP b5 0)] [25, 24, 7, 8] (by kernel_rfl) ?_
  refine ops_mem (d := some 26) (an := [.v (vI i7)]) (evs := [.load ⟨b5, 1, none⟩ (vI i7)]) (v := vI i7) (M' := Mem w0 (.blk b1 [vI i2, vI i3, vI i4] 105 :: .blk b5 [vI i6, vI i7, vI i8] 105 :: .blk b_q [.slice A_q_0 q_0.length c_q_0, vI q_1] 98 :: orow A_q_0 q_0.length c_q_0 105 3 y_q_0 :: Fz F W :: cs)) ⟨by kernel_rfl⟩ (fun w_ hM hS => ⟨w_, ⟨hM.cell 1 rfl rfl, rfl⟩, hM, trivial⟩) ?_
  refine oR [oF 4] [(27, .bool (!(i3 == i7))), (7, vP b1 0), (8, vP b5 0)] [27, 7, 8] (by kernel_rfl) ?_
  refine ops_nil ?_
  refine fin_then ?_
  refine st_if (b := !(i3 == i7)) rfl (fun hc9 => ?_) (fun hc9 => ?_)
  · --
   have hp := cnd_t hc9 hp
   refine st_seq ?_
   refine st_region [oF 0, oF 1, oF 2, oF 3, oF 4, oF 5] (by rfl) ?_
   refine oR [oF 0] [(28, vP b1 1), (8, vP b5 0)] [28, 8] (by kernel_rfl) ?_
   refine ops_mem (d := some 29) (an := [.v (vI i3)]) (evs := [.load ⟨b1, 1, none⟩ (vI i3)]) (v := vI i3) (M' := Mem w0 (.blk b1 [vI i2, vI i3, vI i4] 105 :: .blk b5 [vI i6, vI i7, vI i8] 105 :: .blk b_q [.slice A_q_0 q_0.length c_q_0, vI q_1] 98 :: orow A_q_0 q_0.length c_q_0 105 3 y_q_0 :: Fz F W :: cs)) ⟨by kernel_rfl⟩ (fun w_ hM hS => ⟨w_, ⟨hM.cell 0 rfl rfl, rfl⟩, hM, trivial⟩) ?_
   refine oR [oF 2] [(30, vP b5 1), (29, vI i3)] [30, 29] (by kernel_rfl) ?_
   refine ops_mem (d := some 31) (an := [.v (vI i7)]) (evs := [.load ⟨b5, 1, none⟩ (vI i7)]) (v := vI i7) (M' := Mem w0 (.blk b1 [vI i2, vI i3, vI i4] 105 :: .blk b5 [vI i6, vI i7, vI i8] 105 :: .blk b_q [.slice A_q_0 q_0.length c_q_0, vI q_1] 98 :: orow A_q_0 q_0.length c_q_0 105 3 y_q_0 :: Fz F W :: cs)) ⟨by kernel_rfl⟩ (fun w_ hM hS => ⟨w_, ⟨hM.cell 1 rfl rfl, rfl⟩, hM, trivial⟩) ?_
   refine oR [oF 4, oF 5] [(6, .bool (decide (i3 < i7)))] [6] (by kernel_rfl) ?_
   refine ops_nil ?_
   refine fin_then ?_
   refine st_ret ?_
   refine fin_ret_then ?_
   have hq_ := Option.some.inj hp
   have hr0_ := hq_
   subst hr0_
   refine fin_ret [.tmp 6] [.bool (decide (i3 < i7))] rfl rfl (fun w_ hM => (.tmp rfl .nil)) (fun w_ hM => ?_)
   exact ⟨y_q_0, h_q_0, rfl, hM.pick 5 [2, 3, 4] (by kernel_rfl) (by decide) rfl⟩
  · --
   have hp := cnd_f hc9 hp
   refine st_skip ?_
   refine fin_then ?_
   refine st_seq ?_
   refine st_region [oF 0, oF 1, oF 2, oF 3, oF 4, oF 5] (by rfl) ?_
   refine oR [oF 0] [(33, vP b1 2), (8, vP b5 0)] [33, 8] (by kernel_rfl) ?_
   refine ops_mem (d := some 34) (an := [.v (vI i4)]) (evs := [.load ⟨b1, 2, none⟩ (vI i4)]) (v := vI i4) (M' := Mem w0 (.blk b1 [vI i2, vI i3, vI i4] 105 :: .blk b5 [vI i6, vI i7, vI i8] 105 :: .blk b_q [.slice A_q_0 q_0.length c_q_0, vI q_1] 98 :: orow A_q_0 q_0.length c_q_0 105 3 y_q_0 :: Fz F W :: cs)) ⟨by kernel_rfl⟩ (fun w_ hM hS => ⟨w_, ⟨hM.cell 0 rfl rfl, rfl⟩, hM, trivial⟩) ?_
   refine oR [oF 2] [(35, vP b5 2), (34, vI i4)] [35, 34] (by kernel_rfl) ?_
   refine ops_mem (d := some 36) (an := [.v (vI i8)]) (evs := [.load ⟨b5, 2, none⟩ (vI i8)]) (v := vI i8) (M' := Mem w0 (.blk b1 [vI i2, vI i3, vI i4] 105 :: .blk b5 [vI i6, vI i7, vI i8] 105 :: .blk b_q [.slice A_q_0 q_0.length c_q_0, vI q_1] 98 :: orow A_q_0 q_0.length c_q_0 105 3 y_q_0 :: Fz F W :: cs)) ⟨by kernel_rfl⟩ (fun w_ hM hS => ⟨w_, ⟨hM.cell 1 rfl rfl, rfl⟩, hM, trivial⟩) ?_
   refine oR [oF 4, oF 5] [(6, .bool (decide (i4 < i8)))] [6] (by kernel_rfl) ?_
   refine ops_nil ?_
   refine fin_then ?_
   refine st_ret ?_
   have hq_ := Option.some.inj hp
   have hr0_ := hq_
   subst hr0_
   refine fin_ret [.tmp 6] [.bool (decide (i4 < i8))] rfl rfl (fun w_ hM => (.tmp rfl .nil)) (fun w_ hM => ?_)
   exact ⟨y_q_0, h_q_0, rfl, hM.pick 5 [2, 3, 4] (by kernel_rfl) (by decide) rfl⟩
 · --
  intro HJ1
  refine st_seq ?_
  obtain ⟨x10, hv11, hp⟩ := obind hp
  obtain ⟨x20, hv21, hp⟩ := obind hp
  refine st_region_tree (.node [oT 0, oT 1, oT 2, oT 3, oT 4, oT 5, oT 6, oT 7, oT 8, oT 9, oT 10, oT 11, oT 12, oT 13] (.leaf [oF 14, oF 15, oF 16, oF 17]) (.leaf [oF 15, oF 14, oF 16, oF 17])) (Mem w0 (.blk b_q [.slice A_q_0 q_0.length c_q_0, vI q_1] 98 :: orow A_q_0 q_0.length c_q_0 105 3 y_q_0 :: Fz F W :: cs)) (by kernel_rfl) (by kernel_rfl) (by kernel_rfl) (fun _ d _ _ _ h => by cases d <;> exact h) (M' := Mem w0 (.blk b_q [.slice A_q_0 q_0.length c_q_0, vI q_1] 98 :: orow A_q_0 q_0.length c_q_0 105 3 y_q_0 :: Fz F W :: cs)) (fun w_ hM => ⟨hM.drew, hM.drew.sub (.cons_cons _ (.cons_cons _ (.cons_cons _ (.refl _))))⟩) ?_
  refine tree_node ?_
  refine oR [oT 0, oT 1, oT 2] [(11, vP b_q 0), (0, vP b_q 0), (1, vI i), (2, vI k)] [11, 0, 1, 2] (by kernel_rfl) ?_
  refine ops_load (d := some 12) (an := [.v (.slice A_q_0 q_0.length c_q_0)]) (evs := [.load ⟨b_q, 0, none⟩ (.slice A_q_0 q_0.length c_q_0)]) (v := .slice A_q_0 q_0.length c_q_0) ⟨by kernel_rfl⟩ (fun w_ hM => ⟨hM.cell 0 rfl rfl, rfl⟩) ?_
  refine oR [oT 4] [(13, vI i), (12, .slice A_q_0 q_0.length c_q_0), (0, vP b_q 0), (2, vI k)] [13, 12, 0, 2] (by kernel_rfl) ?_
  obtain ⟨m22, hm23, hx24⟩ := idx_some hv11
  have hl27 := (List.getElem?_eq_some_iff.1 hx24).1
  refine ops_fact (fun w_ hM => hM.orowSome 1 rfl (Nat.lt_of_le_of_lt (Nat.zero_le _) hl27)) ?_
  rintro ⟨g28, rfl, -⟩
  obtain ⟨vs25, hr26, hq29⟩ := h_q_0.at_ m22 x10 hx24
  obtain rfl := dec_queue_item_int hr26
  refine ops_val (op := (Go.Op.indexAddr 96 (Go.Operand.tmp 12) (Go.Operand.tmp 13))) (d := some 14) (v := vP g28 (m22 * 3)) ⟨by kernel_rfl⟩ (run_indexRow Try.underlying96 (z := 3) (by kernel_rfl) rfl rfl hm23 hl27 rfl) ?_
  refine oR [] [(14, vP g28 (m22 * 3)), (0, vP b_q 0), (2, vI k)] [14, 0, 2] (by kernel_rfl) ?_
  refine ops_load (d := some 15) (an := [.v (vI x10.v), .v (vI x10.rank), .v (vI x10.came)]) (evs := [.load ⟨g28, m22 * 3, none⟩ (vI x10.v), .load ⟨g28, m22 * 3 + 1, none⟩ (vI x10.rank), .load ⟨g28, m22 * 3 + 2, none⟩ (vI x10.came)]) (v := .agg #[vI x10.v, vI x10.rank, vI x10.came]) ⟨by kernel_rfl⟩ (fun w_ hM => ⟨hM.ocell 1 rfl (hq29 0 _ rfl), hM.ocell 1 rfl (hq29 1 _ rfl), hM.ocell 1 rfl (hq29 2 _ rfl), rfl⟩) ?_
  refine oR [oT 7, oT 8, oT 9] [(18, vP b_q 0), (15, .agg #[vI x10.v, vI x10.rank, vI x10.came]), (2, vI k)] [18, 15, 2] (by kernel_rfl) ?_
  refine ops_load (d := some 19) (an := [.v (.slice (some ⟨g28, 0, none⟩) q_0.length c_q_0)]) (evs := [.load ⟨b_q, 0, none⟩ (.slice (some ⟨g28, 0, none⟩) q_0.length c_q_0)]) (v := .slice (some ⟨g28, 0, none⟩) q_0.length c_q_0) ⟨by kernel_rfl⟩ (fun w_ hM => ⟨hM.cell 0 rfl rfl, rfl⟩) ?_
  refine oR [oT 11] [(20, vI k), (19, .slice (some ⟨g28, 0, none⟩) q_0.length c_q_0), (15, .agg #[vI x10.v, vI x10.rank, vI x10.came])] [20, 19, 15] (by kernel_rfl) ?_
  obtain ⟨m30, hm31, hx32⟩ := idx_some hv21
  have hl35 := (List.getElem?_eq_some_iff.1 hx32).1
  obtain ⟨vs33, hr34, hq36⟩ := h_q_0.at_ m30 x20 hx32
  obtain rfl := dec_queue_item_int hr34
  refine ops_val (op := (Go.Op.indexAddr 96 (Go.Operand.tmp 19) (Go.Operand.tmp 20))) (d := some 21) (v := vP g28 (m30 * 3)) ⟨by kernel_rfl⟩ (run_indexRow Try.underlying96 (z := 3) (by kernel_rfl) rfl rfl hm31 hl35 rfl) ?_
  refine oR [] [(21, vP g28 (m30 * 3)), (15, .agg #[vI x10.v, vI x10.rank, vI x10.came])] [21, 15] (by kernel_rfl) ?_
  refine ops_load (d := some 22) (an := [.v (vI x20.v), .v (vI x20.rank), .v (vI x20.came)]) (evs := [.load ⟨g28, m30 * 3, none⟩ (vI x20.v), .load ⟨g28, m30 * 3 + 1, none⟩ (vI x20.rank), .load ⟨g28, m30 * 3 + 2, none⟩ (vI x20.came)]) (v := .agg #[vI x20.v, vI x20.rank, vI x20.came]) ⟨by kernel_rfl⟩ (fun w_ hM => ⟨hM.ocell 1 rfl (hq36 0 _ rfl), hM.ocell 1 rfl (hq36 1 _ rfl), hM.ocell 1 rfl (hq36 2 _ rfl), rfl⟩) ?_
  refine oR [] [(22, .agg #[vI x20.v, vI x20.rank, vI x20.came]), (15, .agg #[vI x10.v, vI x10.rank, vI x10.came])] [22, 15] (by kernel_rfl) ?_
  refine ops_nil ?_
  refine tree_both ?_ ?_
  · --
   refine tree_leaf ?_
   refine ops_new (d := some 7) (o := .cells #[vI 0, vI 0, vI 0] 105) (v := fun b37 => vP b37 0) (M' := fun b37 => Mem w0 (.blk b37 [vI 0, vI 0, vI 0] 105 :: .blk b_q [.slice (some ⟨g28, 0, none⟩) q_0.length c_q_0, vI q_1] 98 :: orow (some ⟨g28, 0, none⟩) q_0.length c_q_0 105 3 y_q_0 :: Fz F W :: cs)) (fun b37 => ⟨by kernel_rfl⟩) (fun w_ hM hS => ⟨hM.blk [vI 0, vI 0, vI 0] 105, hS.alloc _⟩) (fun b37 => ?_)
   refine ops_new (d := some 8) (o := .cells #[vI 0, vI 0, vI 0] 105) (v := fun b38 => vP b38 0) (M' := fun b38 => Mem w0 (.blk b38 [vI 0, vI 0, vI 0] 105 :: .blk b37 [vI 0, vI 0, vI 0] 105 :: .blk b_q [.slice (some ⟨g28, 0, none⟩) q_0.length c_q_0, vI q_1] 98 :: orow (some ⟨g28, 0, none⟩) q_0.length c_q_0 105 3 y_q_0 :: Fz F W :: cs)) (fun b38 => ⟨by kernel_rfl⟩) (fun w_ hM hS => ⟨hM.blk [vI 0, vI 0, vI 0] 105, hS.alloc _⟩) (fun b38 => ?_)
   refine ops_store (an := []) (evs := [.store ⟨b37, 0, none⟩ (vI x10.v), .store ⟨b37, 1, none⟩ (vI x10.rank), .store ⟨b37, 2, none⟩ (vI x10.came)]) (M' := Mem w0 (.blk b38 [vI 0, vI 0, vI 0] 105 :: .blk b37 [vI x10.v, vI x10.rank, vI x10.came] 105 :: .blk b_q [.slice (some ⟨g28, 0, none⟩) q_0.length c_q_0, vI q_1] 98 :: orow (some ⟨g28, 0, none⟩) q_0.length c_q_0 105 3 y_q_0 :: Fz F W :: cs)) ⟨by kernel_rfl⟩ (fun w_ hM hS => let ⟨w', he, h'⟩ := hM.evs_stores [vI x10.v, vI x10.rank, vI x10.came] 1 rfl 0 (Nat.le_of_ble_eq_true rfl); ⟨w', he, h', (by exact h'.sub (.cons _ (.cons _ (.cons_cons _ (.cons_cons _ (.cons_cons _ (.refl _)))))))⟩) ?_
   refine oR [] [(8, vP b38 0), (7, vP b37 0), (22, .agg #[vI x20.v, vI x20.rank, vI x20.came])] [8, 7, 22] (by kernel_rfl) ?_
   refine ops_store (an := []) (evs := [.store ⟨b38, 0, none⟩ (vI x20.v), .store ⟨b38, 1, none⟩ (vI x20.rank), .store ⟨b38, 2, none⟩ (vI x20.came)]) (M' := Mem w0 (.blk b38 [vI x20.v, vI x20.rank, vI x20.came] 105 :: .blk b37 [vI x10.v, vI x10.rank, vI x10.came] 105 :: .blk b_q [.slice (some ⟨g28, 0, none⟩) q_0.length c_q_0, vI q_1] 98 :: orow (some ⟨g28, 0, none⟩) q_0.length c_q_0 105 3 y_q_0 :: Fz F W :: cs)) ⟨by kernel_rfl⟩ (fun w_ hM hS => let ⟨w', he, h'⟩ := hM.evs_stores [vI x20.v, vI x20.rank, vI x20.came] 0 rfl 0 (Nat.le_of_ble_eq_true rfl); ⟨w', he, h', (by exact h'.sub (.cons _ (.cons _ (.cons_cons _ (.cons_cons _ (.cons_cons _ (.refl _)))))))⟩) ?_
   refine oR [] [(8, vP b38 0), (7, vP b37 0)] [8, 7] (by kernel_rfl) ?_
   refine ops_nil ?_
   exact fin_join HJ1 (b37, x10.v, x10.rank, x10.came, b38, x20.v, x20.rank, x20.came) hp (look_has ⟨rfl, rfl, trivial⟩) (fun w_ hM => hM.pick 5 [1, 0, 2, 3, 4] (by kernel_rfl) (by decide) rfl)
  · --
   refine tree_leaf ?_
   refine ops_new (d := some 8) (o := .cells #[vI 0, vI 0, vI 0] 105) (v := fun b39 => vP b39 0) (M' := fun b39 => Mem w0 (.blk b39 [vI 0, vI 0, vI 0] 105 :: .blk b_q [.slice (some ⟨g28, 0, none⟩) q_0.length c_q_0, vI q_1] 98 :: orow (some ⟨g28, 0, none⟩) q_0.length c_q_0 105 3 y_q_0 :: Fz F W :: cs)) (fun b39 => ⟨by kernel_rfl⟩) (fun w_ hM hS => ⟨hM.blk [vI 0, vI 0, vI 0] 105, hS.alloc _⟩) (fun b39 => ?_)
   refine ops_new (d := some 7) (o := .cells #[vI 0, vI 0, vI 0] 105) (v := fun b40 => vP b40 0) (M' := fun b40 => Mem w0 (.blk b40 [vI 0, vI 0, vI 0] 105 :: .blk b39 [vI 0, vI 0, vI 0] 105 :: .blk b_q [.slice (some ⟨g28, 0, none⟩) q_0.length c_q_0, vI q_1] 98 :: orow (some ⟨g28, 0, none⟩) q_0.length c_q_0 105 3 y_q_0 :: Fz F W :: cs)) (fun b40 => ⟨by kernel_rfl⟩) (fun w_ hM hS => ⟨hM.blk [vI 0, vI 0, vI 0] 105, hS.alloc _⟩) (fun b40 => ?_)
   refine ops_store (an := []) (evs := [.store ⟨b40, 0, none⟩ (vI x10.v), .store ⟨b40, 1, none⟩ (vI x10.rank), .store ⟨b40, 2, none⟩ (vI x10.came)]) (M' := Mem w0 (.blk b40 [vI x10.v, vI x10.rank, vI x10.came] 105 :: .blk b39 [vI 0, vI 0, vI 0] 105 :: .blk b_q [.slice (some ⟨g28, 0, none⟩) q_0.length c_q_0, vI q_1] 98 :: orow (some ⟨g28, 0, none⟩) q_0.length c_q_0 105 3 y_q_0 :: Fz F W :: cs)) ⟨by kernel_rfl⟩ (fun w_ hM hS => let ⟨w', he, h'⟩ := hM.evs_stores [vI x10.v, vI x10.rank, vI x10.came] 0 rfl 0 (Nat.le_of_ble_eq_true rfl); ⟨w', he, h', (by exact h'.sub (.cons _ (.cons _ (.cons_cons _ (.cons_cons _ (.cons_cons _ (.refl _)))))))⟩) ?_
   refine oR [] [(7, vP b40 0), (8, vP b39 0), (22, .agg #[vI x20.v, vI x20.rank, vI x20.came])] [7, 8, 22] (by kernel_rfl) ?_
   refine ops_store (an := []) (evs := [.store ⟨b39, 0, none⟩ (vI x20.v), .store ⟨b39, 1, none⟩ (vI x20.rank), .store ⟨b39, 2, none⟩ (vI x20.came)]) (M' := Mem w0 (.blk b40 [vI x10.v, vI x10.rank, vI x10.came] 105 :: .blk b39 [vI x20.v, vI x20.rank, vI x20.came] 105 :: .blk b_q [.slice (some ⟨g28, 0, none⟩) q_0.length c_q_0, vI q_1] 98 :: orow (some ⟨g28, 0, none⟩) q_0.length c_q_0 105 3 y_q_0 :: Fz F W :: cs)) ⟨by kernel_rfl⟩ (fun w_ hM hS => let ⟨w', he, h'⟩ := hM.evs_stores [vI x20.v, vI x20.rank, vI x20.came] 1 rfl 0 (Nat.le_of_ble_eq_true rfl); ⟨w', he, h', (by exact h'.sub (.cons _ (.cons _ (.cons_cons _ (.cons_cons _ (.cons_cons _ (.refl _)))))))⟩) ?_
   refine oR [] [(7, vP b40 0), (8, vP b39 0)] [7, 8] (by kernel_rfl) ?_
   refine ops_nil ?_
   exact fin_join HJ1 (b40, x10.v, x10.rank, x10.came, b39, x20.v, x20.rank, x20.came) hp (look_has ⟨rfl, rfl, trivial⟩) (fun w_ hM => hM)
set_option maxHeartbeats 4000000 in
set_option maxRecDepth 100000 in
theorem queue_Queue_int_Put_ok (w0 w : World) (cs : List Chunk) (F : Nat → Prop) (W : World) (b_q : Nat) (A_q_0 : Option Addr) (c_q_0 : Nat) (q_0 : List queue_item_int) (y_q_0 : List Value) (q_1 : Int) (v : Int) (rank : Int) (hM0 : Mem w0 (.blk b_q [.slice A_q_0 q_0.length c_q_0, vI q_1] 98 :: orow A_q_0 q_0.length c_q_0 105 3 y_q_0 :: Fz F W :: cs) w) (h_q_0 : RepL R_queue_item_int F W q_0 y_q_0) (i9001 : Int) (l9004 : List queue_item_int) (i9007 : Int) (hp : queue_Queue_int_Put q_0 q_1 v rank = some (i9001, l9004, i9007)) : Calls Try.prog 71 #[vP b_q 0, vI v, vI rank] w fun e w' => ∃ (A9002 : Option Addr), ∃ (c9003 : Nat), ∃ (y9005 : List Value), ((RepL R_queue_item_int F W l9004 y9005)) ∧ e = .returned (vI i9001) ∧ Mem w0 (.blk b_q [.slice A9002 l9004.length c9003, vI i9007] 98 :: orow A9002 l9004.length c9003 105 3 y9005 :: Fz F W :: cs) w' := by
 unfold queue_Queue_int_Put at hp
 refine sx_calls Try.func71 rfl (n := 86) (by kernel_rfl) (l := [(0, vP b_q 0), (1, vI v), (2, vI rank)]) rfl (by rfl) hM0 ?_
 refine st_seq ?_
 refine st_region [oF 0] (by rfl) ?_
 refine oR [oF 0] [(0, vP b_q 0), (1, vI v), (2, vI rank)] [0, 1, 2] (by kernel_rfl) ?_
 refine ops_nil ?_
 refine fin_then ?_
 refine st_seq ?_
 refine st_seq ?_
 refine st_region [oF 0, oF 1, oF 2, oF 3, oF 4, oF 5] (by rfl) ?_
 refine oR [oF 0, oF 1, oF 2] [(10, vP b_q 0), (0, vP b_q 0), (1, vI v), (2, vI rank)] [10, 0, 1, 2] (by kernel_rfl) ?_
 refine ops_mem (d := some 11) (an := [.v (.slice A_q_0 q_0.length c_q_0)]) (evs := [.load ⟨b_q, 0, none⟩ (.slice A_q_0 q_0.length c_q_0)]) (v := .slice A_q_0 q_0.length c_q_0) (M' := Mem w0 (.blk b_q [.slice A_q_0 q_0.length c_q_0, vI q_1] 98 :: orow A_q_0 q_0.length c_q_0 105 3 y_q_0 :: Fz F W :: cs)) ⟨by kernel_rfl⟩ (fun w_ hM hS => ⟨w_, ⟨hM.cell 0 rfl rfl, rfl⟩, hM, trivial⟩) ?_
 refine oR [oF 4, oF 5] [(13, .bool (decide (4096 ≤ (q_0.length : Int)))), (0, vP b_q 0), (1, vI v), (2, vI rank)] [13, 0, 1, 2] (by kernel_rfl) ?_
 refine ops_nil ?_
 refine fin_then ?_
 refine st_if (b := decide (4096 ≤ (q_0.length : Int))) rfl (fun hc1 => ?_) (fun hc1 => ?_)
 · --
  have hp := cnd_t hc1 hp
  refine st_seq ?_
  refine st_region [oF 0] (by rfl) ?_
  refine oR [oF 0] [(6, vI 6)] [6] (by kernel_rfl) ?_
  refine ops_nil ?_
  refine fin_then ?_
  refine st_ret ?_
  refine fin_ret_then ?_
  have hq_ := Option.some.inj hp
  obtain ⟨hr0_, hq_⟩ := Prod.mk.inj hq_
  obtain ⟨hr1_, hq_⟩ := Prod.mk.inj hq_
  have hr2_ := hq_
  subst hr0_
  subst hr1_
  subst hr2_
  refine fin_ret [.tmp 6] [vI 6] rfl rfl (fun w_ hM => (.tmp rfl .nil)) (fun w_ hM => ?_)
  exact ⟨A_q_0, c_q_0, y_q_0, h_q_0, rfl, hM⟩
 · --
  have hp := cnd_f hc1 hp
  refine st_skip ?_
  refine fin_then ?_
  refine st_join1 (σ := (Option Addr) × Nat × (List queue_item_int) × (List Value)) (L := fun x_ => match x_ with | (A2, c3, l4, y5) => [(0, vP b_q 0)]) (N := fun x_ => match x_ with | (A2, c3, l4, y5) => Mem w0 (.blk b_q [.slice A2 l4.length c3, vI q_1] 98 :: orow A2 l4.length c3 105 3 y5 :: Fz F W :: cs)) (I := fun x_ => match x_ with | (A2, c3, l4, y5) => ((queue_Queue_int_Put_j1 q_1) l4 = some (i9001, l9004, i9007)) ∧ (RepL R_queue_item_int F W l4 y5)) ?_ ?_
  · --
   rintro ⟨A2, c3, l4, y5⟩ ⟨hp, h6⟩
   refine st_conv (l' := [(0, vP b_q 0)]) (M' := Mem w0 (.blk b_q [.slice A2 l4.length c3, vI q_1] 98 :: orow A2 l4.length c3 105 3 y5 :: Fz F W :: cs)) rfl (fun _ h => h) ?_
   unfold queue_Queue_int_Put_j1 at hp
   refine st_seq ?_
   refine st_region [oF 0, oF 1, oF 2, oF 3, oF 4, oF 5, oF 6, oF 7] (by rfl) ?_
   refine oR [oF 0, oF 1, oF 2] [(32, vP b_q 1), (30, vP b_q 0), (0, vP b_q 0)] [32, 30, 0] (by kernel_rfl) ?_
   refine ops_mem (d := some 33) (an := [.v (vI q_1)]) (evs := [.load ⟨b_q, 1, none⟩ (vI q_1)]) (v := vI q_1) (M' := Mem w0 (.blk b_q [.slice A2 l4.length c3, vI q_1] 98 :: orow A2 l4.length c3 105 3 y5 :: Fz F W :: cs)) ⟨by kernel_rfl⟩ (fun w_ hM hS => ⟨w_, ⟨hM.cell 0 rfl rfl, rfl⟩, hM, trivial⟩) ?_
   refine oR [oF 4, oF 5, oF 6] [(36, vP b_q 1), (34, vI (IntKind.i64.wrap (q_1 + 1))), (0, vP b_q 0)] [36, 34, 0] (by kernel_rfl) ?_
   refine ops_store (an := []) (evs := [.store ⟨b_q, 1, none⟩ (vI (IntKind.i64.wrap (q_1 + 1)))]) (M' := Mem w0 (.blk b_q [.slice A2 l4.length c3, vI (IntKind.i64.wrap (q_1 + 1))] 98 :: orow A2 l4.length c3 105 3 y5 :: Fz F W :: cs)) ⟨by kernel_rfl⟩ (fun w_ hM hS => let ⟨w', he, h'⟩ := hM.evs_stores [vI (IntKind.i64.wrap (q_1 + 1))] 0 rfl 1 (Nat.le_of_ble_eq_true rfl); ⟨w', he, h', trivial⟩) ?_
   refine oR [] [(0, vP b_q 0)] [0] (by kernel_rfl) ?_
   refine ops_nil ?_
   refine fin_then ?_
   refine st_join1 (σ := (List queue_item_int) × (List Value) × Int) (L := fun x_ => match x_ with | (l7, y8, i10) => []) (N := fun x_ => match x_ with | (l7, y8, i10) => Mem w0 (.blk b_q [.slice A2 l7.length c3, vI i10] 98 :: orow A2 l7.length c3 105 3 y8 :: Fz F W :: cs)) (I := fun x_ => match x_ with | (l7, y8, i10) => (queue_Queue_int_Put_j2 l7 i10 = some (i9001, l9004, i9007)) ∧ (RepL R_queue_item_int F W l7 y8)) ?_ ?_
   · --
    rintro ⟨l7, y8, i10⟩ ⟨hp, h9⟩
    refine st_conv (l' := []) (M' := Mem w0 (.blk b_q [.slice A2 l7.length c3, vI i10] 98 :: orow A2 l7.length c3 105 3 y8 :: Fz F W :: cs)) rfl (fun _ h => h) ?_
    unfold queue_Queue_int_Put_j2 at hp
    refine st_seq ?_
    refine st_region [oF 0] (by rfl) ?_
    refine oR [oF 0] [(6, vI 0)] [6] (by kernel_rfl) ?_
    refine ops_nil ?_
    refine fin_then ?_
    refine st_ret ?_
    have hq_ := Option.some.inj hp
    obtain ⟨hr0_, hq_⟩ := Prod.mk.inj hq_
    obtain ⟨hr1_, hq_⟩ := Prod.mk.inj hq_
    have hr2_ := hq_
    subst hr0_
    subst hr1_
    subst hr2_
    refine fin_ret [.tmp 6] [vI 0] rfl rfl (fun w_ hM => (.tmp rfl .nil)) (fun w_ hM => ?_)
    exact ⟨A2, c3, y8, h9, rfl, hM⟩
   · --
    intro HJ2
    refine st_seq ?_
    refine st_seq ?_
    refine st_region [oF 0, oF 1, oF 2, oF 3, oF 4, oF 5, oF 6] (by rfl) ?_
    refine oR [oF 0, oF 1, oF 2] [(39, vP b_q 0), (0, vP b_q 0)] [39, 0] (by kernel_rfl) ?_
    refine ops_mem (d := some 40) (an := [.v (.slice A2 l4.length c3)]) (evs := [.load ⟨b_q, 0, none⟩ (.slice A2 l4.length c3)]) (v := .slice A2 l4.length c3) (M' := Mem w0 (.blk b_q [.slice A2 l4.length c3, vI (IntKind.i64.wrap (q_1 + 1))] 98 :: orow A2 l4.length c3 105 3 y5 :: Fz F W :: cs)) ⟨by kernel_rfl⟩ (fun w_ hM hS => ⟨w_, ⟨hM.cell 0 rfl rfl, rfl⟩, hM, trivial⟩) ?_
    refine oR [oF 4, oF 5, oF 6] [(7, vI (IntKind.i64.wrap ((l4.length : Int) - 1))), (0, vP b_q 0)] [7, 0] (by kernel_rfl) ?_
    refine ops_nil ?_
    refine fin_then ?_
    refine st_block ?_
    obtain ⟨r3, hl3, hk3⟩ := obind hp
    refine st_loopP (σ := (List queue_item_int) × Int × Int) (ρ := (List queue_item_int) × Int) (γ := (List Value)) hl3 y5 (fun s_ g_ => match s_, g_ with | (l11, i14, i15), y12 => [(0, vP b_q 0), (7, vI i15)]) (fun s_ g_ => match s_, g_ with | (l11, i14, i15), y12 => Mem w0 (.blk b_q [.slice A2 l11.length c3, vI i14] 98 :: orow A2 l11.length c3 105 3 y12 :: Fz F W :: cs)) (fun s_ g_ => match s_, g_ with | (l11, i14, i15), y12 => (RepL R_queue_item_int F W l11 y12)) h6 (look_has ⟨rfl, rfl, trivial⟩) (fun w_ hM => hM) ?_
    rintro ⟨l11, i14, i15⟩ y12 o3 h13 hs_ hd3
    have hp : queue_Queue_int_Put_l3 l11 i14 i15 = some o3 := hs_
    clear hs_
    unfold queue_Queue_int_Put_l3 at hp
    refine st_conv (l' := [(0, vP b_q 0), (7, vI i15)]) (M' := Mem w0 (.blk b_q [.slice A2 l11.length c3, vI i14] 98 :: orow A2 l11.length c3 105 3 y12 :: Fz F W :: cs)) rfl (fun _ h => h) ?_
    refine st_seq ?_
    refine st_seq ?_
    refine st_region [oF 0, oF 1, oF 2, oF 3, oF 4, oF 5, oF 6, oF 7, oF 8, oF 9] (by rfl) ?_
    refine oR [oF 0, oF 1, oF 2] [(45, .bool (decide (0 < i15))), (0, vP b_q 0), (7, vI i15)] [45, 0, 7] (by kernel_rfl) ?_
    refine ops_bool (t := decide (0 < i15)) (l1 := [(45, .bool true), (0, vP b_q 0), (7, vI i15)]) (l2 := [(45, .bool false), (0, vP b_q 0), (7, vI i15)]) (fun h => by rw [h]) (fun h => by rw [h]) (fun hc16 => ?_) (fun hc16 => ?_)
    · --
     have hp := cnd_t hc16 hp
     refine oR [oF 3, oF 4, oF 5, oF 6, oF 7] [(50, vI (IntKind.i64.wrap (Int.tdiv (IntKind.i64.wrap (i15 - 1)) 2))), (47, vI i15), (46, vP b_q 0), (45, .bool true), (0, vP b_q 0), (7, vI i15)] [50, 47, 46, 45, 0, 7] (by kernel_rfl) ?_
     obtain ⟨x17, hv18, hp⟩ := obind hp
     refine ops_callI (σ := (List Value)) (d := some 51) (f := 77) (args := #[vP b_q 0, vI i15, vI (IntKind.i64.wrap (Int.tdiv (IntKind.i64.wrap (i15 - 1)) 2))]) (v := (fun x_ => match x_ with | y19 => .bool x17)) (I := (fun x_ => match x_ with | y19 => (RepL R_queue_item_int F W l11 y19))) (M' := (fun x_ => match x_ with | y19 => Mem w0 (.blk b_q [.slice A2 l11.length c3, vI i14] 98 :: orow A2 l11.length c3 105 3 y19 :: Fz F W :: cs))) ⟨by kernel_rfl⟩ (fun w_ hM hS => (queue_Queue_int_before_ok w0 w_ (cs) F W b_q A2 c3 l11 y12 i14 i15 (IntKind.i64.wrap (Int.tdiv (IntKind.i64.wrap (i15 - 1)) 2)) hM h13 x17 hv18).mono (by rintro e w' ⟨y19, h20, rfl, h'⟩; have h' : Mem w0 (.blk b_q [.slice A2 l11.length c3, vI i14] 98 :: orow A2 l11.length c3 105 3 y19 :: Fz F W :: cs) w' := h'; exact ⟨y19, h20, rfl, h', trivial⟩)) ?_
     rintro y19 h20
     refine ops_conv (l' := [(51, .bool x17), (50, vI (IntKind.i64.wrap (Int.tdiv (IntKind.i64.wrap (i15 - 1)) 2))), (47, vI i15), (46, vP b_q 0), (45, .bool true), (0, vP b_q 0), (7, vI i15)]) (M' := Mem w0 (.blk b_q [.slice A2 l11.length c3, vI i14] 98 :: orow A2 l11.length c3 105 3 y19 :: Fz F W :: cs)) rfl (fun _ h => h) ?_
     refine oR [oF 9] [(52, .bool x17), (0, vP b_q 0), (7, vI i15)] [52, 0, 7] (by kernel_rfl) ?_
     refine ops_nil ?_
     refine fin_then ?_
     refine st_if (b := x17) rfl (fun hc21 => ?_) (fun hc21 => ?_)
     · --
      have hp := cnd_t hc21 hp
      refine st_skip ?_
      refine fin_then ?_
      refine st_join1 (σ := (List queue_item_int) × (List Value)) (L := fun x_ => match x_ with | (l22, y23) => [(0, vP b_q 0), (7, vI i15)]) (N := fun x_ => match x_ with | (l22, y23) => Mem w0 (.blk b_q [.slice A2 l22.length c3, vI i14] 98 :: orow A2 l22.length c3 105 3 y23 :: Fz F W :: cs)) (I := fun x_ => match x_ with | (l22, y23) => ((queue_Queue_int_Put_j4 i14 i15) l22 = some o3) ∧ (RepL R_queue_item_int F W l22 y23)) ?_ ?_
      · --
       rintro ⟨l22, y23⟩ ⟨hp, h24⟩
       refine st_conv (l' := [(0, vP b_q 0), (7, vI i15)]) (M' := Mem w0 (.blk b_q [.slice A2 l22.length c3, vI i14] 98 :: orow A2 l22.length c3 105 3 y23 :: Fz F W :: cs)) rfl (fun _ h => h) ?_
       unfold queue_Queue_int_Put_j4 at hp
       refine st_region [oF 0, oF 1, oF 2, oF 3] (by rfl) ?_
       refine oR [oF 0, oF 1, oF 2, oF 3] [(7, vI (IntKind.i64.wrap (Int.tdiv (IntKind.i64.wrap (i15 - 1)) 2))), (0, vP b_q 0)] [7, 0] (by kernel_rfl) ?_
       refine ops_nil ?_
       exact fin_again (l22, i14, IntKind.i64.wrap (Int.tdiv (IntKind.i64.wrap (i15 - 1)) 2)) y23 (Option.some.inj hp).symm h24 (look_has ⟨rfl, rfl, trivial⟩) (fun w_ hM => hM)
      · --
       intro HJ4
       refine st_seq ?_
       refine st_block ?_
       obtain ⟨x25, hv26, hp⟩ := obind hp
       obtain ⟨x35, hv36, hp⟩ := obind hp
       obtain ⟨x44, hv45, hp⟩ := obind hp
       obtain ⟨l53, hv54, hp⟩ := obind hp
       obtain ⟨x64, hv65, hp⟩ := obind hp
       obtain ⟨l73, hv74, hp⟩ := obind hp
       refine st_region_tree (.node [oT 0, oT 1, oT 2, oT 3, oT 4, oT 5, oT 6, oT 7, oT 8, oT 9, oT 10, oT 11, oT 12, oT 13, oT 14, oT 15, oT 16, oT 17, oT 18, oT 19, oT 21, oT 22, oT 23, oT 24, oT 25, oT 26] (.leaf [oF 20, oF 27, oT 28, oF 29, oT 30, oF 31]) (.leaf [oF 27, oF 20, oT 28, oF 29, oT 30, oF 31])) (Mem w0 (.blk b_q [.slice A2 l11.length c3, vI i14] 98 :: Fz F W :: cs)) (by kernel_rfl) (by kernel_rfl) (by kernel_rfl) (fun _ d _ _ _ h => by cases d <;> exact h) (M' := Mem w0 (.blk b_q [.slice A2 l11.length c3, vI i14] 98 :: orow A2 l11.length c3 105 3 y19 :: Fz F W :: cs)) (fun w_ hM => ⟨hM.drew, hM.drew.sub (.cons_cons _ (.cons _ (.cons_cons _ (.refl _))))⟩) ?_
       refine tree_node ?_
       refine oR [oT 0, oT 1, oT 2] [(58, vP b_q 0), (0, vP b_q 0), (7, vI i15)] [58, 0, 7] (by kernel_rfl) ?_
       refine ops_load (d := some 59) (an := [.v (.slice A2 l11.length c3)]) (evs := [.load ⟨b_q, 0, none⟩ (.slice A2 l11.length c3)]) (v := .slice A2 l11.length c3) ⟨by kernel_rfl⟩ (fun w_ hM => ⟨hM.cell 0 rfl rfl, rfl⟩) ?_
       refine oR [oT 4, oT 5, oT 6, oT 7] [(63, vP b_q 0), (60, vI i15), (59, .slice A2 l11.length c3), (0, vP b_q 0), (7, vI i15)] [63, 60, 59, 0, 7] (by kernel_rfl) ?_
       refine ops_load (d := some 64) (an := [.v (.slice A2 l11.length c3)]) (evs := [.load ⟨b_q, 0, none⟩ (.slice A2 l11.length c3)]) (v := .slice A2 l11.length c3) ⟨by kernel_rfl⟩ (fun w_ hM => ⟨hM.cell 0 rfl rfl, rfl⟩) ?_
       refine oR [oT 9, oT 10, oT 11, oT 12, oT 13, oT 14] [(70, vP b_q 0), (67, vI (IntKind.i64.wrap (Int.tdiv (IntKind.i64.wrap (i15 - 1)) 2))), (64, .slice A2 l11.length c3), (60, vI i15), (59, .slice A2 l11.length c3), (0, vP b_q 0), (7, vI i15)] [70, 67, 64, 60, 59, 0, 7] (by kernel_rfl) ?_
       refine ops_load (d := some 71) (an := [.v (.slice A2 l11.length c3)]) (evs := [.load ⟨b_q, 0, none⟩ (.slice A2 l11.length c3)]) (v := .slice A2 l11.length c3) ⟨by kernel_rfl⟩ (fun w_ hM => ⟨hM.cell 0 rfl rfl, rfl⟩) ?_
       refine oR [oT 16, oT 17, oT 18] [(74, vI (IntKind.i64.wrap (Int.tdiv (IntKind.i64.wrap (i15 - 1)) 2))), (71, .slice A2 l11.length c3), (67, vI (IntKind.i64.wrap (Int.tdiv (IntKind.i64.wrap (i15 - 1)) 2))), (64, .slice A2 l11.length c3), (60, vI i15), (59, .slice A2 l11.length c3), (0, vP b_q 0), (7, vI i15)] [74, 71, 67, 64, 60, 59, 0, 7] (by kernel_rfl) ?_
       obtain ⟨m75, hm76, hx77⟩ := idx_some hv26
       have hl80 := (List.getElem?_eq_some_iff.1 hx77).1
       refine ops_fact (fun w_ hM => hM.orowSome 1 rfl (Nat.lt_of_le_of_lt (Nat.zero_le _) hl80)) ?_
       rintro ⟨g81, rfl, -⟩
       obtain ⟨vs78, hr79, hq82⟩ := h20.at_ m75 x25 hx77
       obtain rfl := dec_queue_item_int hr79
       refine ops_val (op := (Go.Op.indexAddr 96 (Go.Operand.tmp 71) (Go.Operand.tmp 74))) (d := some 75) (v := vP g81 (m75 * 3)) ⟨by kernel_rfl⟩ (run_indexRow Try.underlying96 (z := 3) (by kernel_rfl) rfl rfl hm76 hl80 rfl) ?_
       refine oR [oT 21, oT 22, oT 23] [(79, vP b_q 0), (75, vP g81 (m75 * 3)), (67, vI (IntKind.i64.wrap (Int.tdiv (IntKind.i64.wrap (i15 - 1)) 2))), (64, .slice (some ⟨g81, 0, none⟩) l11.length c3), (60, vI i15), (59, .slice (some ⟨g81, 0, none⟩) l11.length c3), (0, vP b_q 0), (7, vI i15)] [79, 75, 67, 64, 60, 59, 0, 7] (by kernel_rfl) ?_
       refine ops_load (d := some 80) (an := [.v (.slice (some ⟨g81, 0, none⟩) l11.length c3)]) (evs := [.load ⟨b_q, 0, none⟩ (.slice (some ⟨g81, 0, none⟩) l11.length c3)]) (v := .slice (some ⟨g81, 0, none⟩) l11.length c3) ⟨by kernel_rfl⟩ (fun w_ hM => ⟨hM.cell 0 rfl rfl, rfl⟩) ?_
       refine oR [oT 25] [(81, vI i15), (80, .slice (some ⟨g81, 0, none⟩) l11.length c3), (75, vP g81 (m75 * 3)), (67, vI (IntKind.i64.wrap (Int.tdiv (IntKind.i64.wrap (i15 - 1)) 2))), (64, .slice (some ⟨g81, 0, none⟩) l11.length c3), (60, vI i15), (59, .slice (some ⟨g81, 0, none⟩) l11.length c3), (0, vP b_q 0), (7, vI i15)] [81, 80, 75, 67, 64, 60, 59, 0, 7] (by kernel_rfl) ?_
       obtain ⟨m83, hm84, hx85⟩ := idx_some hv36
       have hl88 := (List.getElem?_eq_some_iff.1 hx85).1
       obtain ⟨vs86, hr87, hq89⟩ := h20.at_ m83 x35 hx85
       obtain rfl := dec_queue_item_int hr87
       refine ops_val (op := (Go.Op.indexAddr 96 (Go.Operand.tmp 80) (Go.Operand.tmp 81))) (d := some 82) (v := vP g81 (m83 * 3)) ⟨by kernel_rfl⟩ (run_indexRow Try.underlying96 (z := 3) (by kernel_rfl) rfl rfl hm84 hl88 rfl) ?_
       refine oR [] [(82, vP g81 (m83 * 3)), (75, vP g81 (m75 * 3)), (67, vI (IntKind.i64.wrap (Int.tdiv (IntKind.i64.wrap (i15 - 1)) 2))), (64, .slice (some ⟨g81, 0, none⟩) l11.length c3), (60, vI i15), (59, .slice (some ⟨g81, 0, none⟩) l11.length c3), (0, vP b_q 0), (7, vI i15)] [82, 75, 67, 64, 60, 59, 0, 7] (by kernel_rfl) ?_
       refine ops_nil ?_
       refine tree_both ?_ ?_
       · --
        refine tree_leaf ?_
        refine ops_mem (d := some 76) (an := [.v (vI x25.v), .v (vI x25.rank), .v (vI x25.came)]) (evs := [.load ⟨g81, m75 * 3, none⟩ (vI x25.v), .load ⟨g81, m75 * 3 + 1, none⟩ (vI x25.rank), .load ⟨g81, m75 * 3 + 2, none⟩ (vI x25.came)]) (v := .agg #[vI x25.v, vI x25.rank, vI x25.came]) (M' := Mem w0 (.blk b_q [.slice (some ⟨g81, 0, none⟩) l11.length c3, vI i14] 98 :: orow (some ⟨g81, 0, none⟩) l11.length c3 105 3 y19 :: Fz F W :: cs)) ⟨by kernel_rfl⟩ (fun w_ hM hS => ⟨w_, ⟨hM.ocell 1 rfl (hq82 0 _ rfl), hM.ocell 1 rfl (hq82 1 _ rfl), hM.ocell 1 rfl (hq82 2 _ rfl), rfl⟩, hM, hS⟩) ?_
        refine oR [] [(76, .agg #[vI x25.v, vI x25.rank, vI x25.came]), (82, vP g81 (m83 * 3)), (67, vI (IntKind.i64.wrap (Int.tdiv (IntKind.i64.wrap (i15 - 1)) 2))), (64, .slice (some ⟨g81, 0, none⟩) l11.length c3), (60, vI i15), (59, .slice (some ⟨g81, 0, none⟩) l11.length c3), (0, vP b_q 0), (7, vI i15)] [76, 82, 67, 64, 60, 59, 0, 7] (by kernel_rfl) ?_
        refine ops_mem (d := some 83) (an := [.v (vI x35.v), .v (vI x35.rank), .v (vI x35.came)]) (evs := [.load ⟨g81, m83 * 3, none⟩ (vI x35.v), .load ⟨g81, m83 * 3 + 1, none⟩ (vI x35.rank), .load ⟨g81, m83 * 3 + 2, none⟩ (vI x35.came)]) (v := .agg #[vI x35.v, vI x35.rank, vI x35.came]) (M' := Mem w0 (.blk b_q [.slice (some ⟨g81, 0, none⟩) l11.length c3, vI i14] 98 :: orow (some ⟨g81, 0, none⟩) l11.length c3 105 3 y19 :: Fz F W :: cs)) ⟨by kernel_rfl⟩ (fun w_ hM hS => ⟨w_, ⟨hM.ocell 1 rfl (hq89 0 _ rfl), hM.ocell 1 rfl (hq89 1 _ rfl), hM.ocell 1 rfl (hq89 2 _ rfl), rfl⟩, hM, hS⟩) ?_
        refine oR [] [(83, .agg #[vI x35.v, vI x35.rank, vI x35.came]), (76, .agg #[vI x25.v, vI x25.rank, vI x25.came]), (67, vI (IntKind.i64.wrap (Int.tdiv (IntKind.i64.wrap (i15 - 1)) 2))), (64, .slice (some ⟨g81, 0, none⟩) l11.length c3), (60, vI i15), (59, .slice (some ⟨g81, 0, none⟩) l11.length c3), (0, vP b_q 0), (7, vI i15)] [83, 76, 67, 64, 60, 59, 0, 7] (by kernel_rfl) ?_
        obtain ⟨m90, hm91, hx92⟩ := idx_some hv45
        have hl95 := (List.getElem?_eq_some_iff.1 hx92).1
        obtain ⟨vs93, hr94, hq96⟩ := h20.at_ m90 x44 hx92
        obtain rfl := dec_queue_item_int hr94
        refine ops_val (op := (Go.Op.indexAddr 96 (Go.Operand.tmp 59) (Go.Operand.tmp 60))) (d := some 84) (v := vP g81 (m90 * 3)) ⟨by kernel_rfl⟩ (run_indexRow Try.underlying96 (z := 3) (by kernel_rfl) rfl rfl hm91 hl95 rfl) ?_
        refine oR [] [(84, vP g81 (m90 * 3)), (83, .agg #[vI x35.v, vI x35.rank, vI x35.came]), (76, .agg #[vI x25.v, vI x25.rank, vI x25.came]), (67, vI (IntKind.i64.wrap (Int.tdiv (IntKind.i64.wrap (i15 - 1)) 2))), (64, .slice (some ⟨g81, 0, none⟩) l11.length c3), (0, vP b_q 0), (7, vI i15)] [84, 83, 76, 67, 64, 0, 7] (by kernel_rfl) ?_
        obtain ⟨m97, hm98, hl99, he100⟩ := upd_some hv54
        obtain rfl : m90 = m97 := by have := hm91; omega
        have hl101 : l11.length = l53.length := by rw [he100, List.length_set]
        obtain ⟨y102, hy103⟩ : ∃ y_, setAll y19 (m90 * 3 + 0) [vI x25.v, vI x25.rank, vI x25.came] = y_ := ⟨_, rfl⟩
        have h104 : RepL R_queue_item_int F W l53 y102 := by rw [he100, ← hy103]; exact RepL.set h20 (List.getElem?_eq_getElem hl99) (fun vs_ hr_ _ => by obtain rfl := dec_queue_item_int hr_; exact ⟨(enc_queue_item_int), Nat.le_of_ble_eq_true rfl⟩)
        refine ops_store (an := []) (evs := [.store ⟨g81, m90 * 3, none⟩ (vI x25.v), .store ⟨g81, m90 * 3 + 1, none⟩ (vI x25.rank), .store ⟨g81, m90 * 3 + 2, none⟩ (vI x25.came)]) (M' := Mem w0 (.blk b_q [.slice (some ⟨g81, 0, none⟩) l11.length c3, vI i14] 98 :: orow (some ⟨g81, 0, none⟩) l53.length c3 105 3 y102 :: Fz F W :: cs)) ⟨by kernel_rfl⟩ (fun w_ hM hS => let ⟨w', he, h'⟩ := hM.ostore' 1 rfl (m90 * 3 + 0) [vI x25.v, vI x25.rank, vI x25.came] (by have z_ : y19.length = l11.length * 3 := h20.len; have y_ : (m90 + 1) * 3 ≤ l11.length * 3 := Nat.mul_le_mul_right _ hl99; rw [Nat.add_mul] at y_; simp only [List.length_cons, List.length_nil]; omega) hl101 hy103; ⟨w', he, h', (by exact h'.sub (.cons_cons _ (.cons _ (.cons_cons _ (.refl _)))))⟩) ?_
        refine ops_conv (l' := [(84, vP g81 (m90 * 3)), (83, .agg #[vI x35.v, vI x35.rank, vI x35.came]), (76, .agg #[vI x25.v, vI x25.rank, vI x25.came]), (67, vI (IntKind.i64.wrap (Int.tdiv (IntKind.i64.wrap (i15 - 1)) 2))), (64, .slice (some ⟨g81, 0, none⟩) l53.length c3), (0, vP b_q 0), (7, vI i15)]) (M' := Mem w0 (.blk b_q [.slice (some ⟨g81, 0, none⟩) l53.length c3, vI i14] 98 :: orow (some ⟨g81, 0, none⟩) l53.length c3 105 3 y102 :: Fz F W :: cs)) (by first | rfl | rw [hl101]) (fun w_ hM => by first | exact hM | (rw [hl101] at hM; exact hM)) ?_
        refine oR [] [(83, .agg #[vI x35.v, vI x35.rank, vI x35.came]), (67, vI (IntKind.i64.wrap (Int.tdiv (IntKind.i64.wrap (i15 - 1)) 2))), (64, .slice (some ⟨g81, 0, none⟩) l53.length c3), (0, vP b_q 0), (7, vI i15)] [83, 67, 64, 0, 7] (by kernel_rfl) ?_
        obtain ⟨m106, hm107, hx108⟩ := idx_some hv65
        have hl111 := (List.getElem?_eq_some_iff.1 hx108).1
        obtain ⟨vs109, hr110, hq112⟩ := h104.at_ m106 x64 hx108
        obtain rfl := dec_queue_item_int hr110
        refine ops_val (op := (Go.Op.indexAddr 96 (Go.Operand.tmp 64) (Go.Operand.tmp 67))) (d := some 85) (v := vP g81 (m106 * 3)) ⟨by kernel_rfl⟩ (run_indexRow Try.underlying96 (z := 3) (by kernel_rfl) rfl rfl hm107 hl111 rfl) ?_
        refine oR [] [(85, vP g81 (m106 * 3)), (83, .agg #[vI x35.v, vI x35.rank, vI x35.came]), (0, vP b_q 0), (7, vI i15)] [85, 83, 0, 7] (by kernel_rfl) ?_
        obtain ⟨m113, hm114, hl115, he116⟩ := upd_some hv74
        obtain rfl : m106 = m113 := by have := hm107; omega
        have hl117 : l53.length = l73.length := by rw [he116, List.length_set]
        obtain ⟨y118, hy119⟩ : ∃ y_, setAll y102 (m106 * 3 + 0) [vI x35.v, vI x35.rank, vI x35.came] = y_ := ⟨_, rfl⟩
        have h120 : RepL R_queue_item_int F W l73 y118 := by rw [he116, ← hy119]; exact RepL.set h104 (List.getElem?_eq_getElem hl115) (fun vs_ hr_ _ => by obtain rfl := dec_queue_item_int hr_; exact ⟨(enc_queue_item_int), Nat.le_of_ble_eq_true rfl⟩)
        refine ops_store (an := []) (evs := [.store ⟨g81, m106 * 3, none⟩ (vI x35.v), .store ⟨g81, m106 * 3 + 1, none⟩ (vI x35.rank), .store ⟨g81, m106 * 3 + 2, none⟩ (vI x35.came)]) (M' := Mem w0 (.blk b_q [.slice (some ⟨g81, 0, none⟩) l53.length c3, vI i14] 98 :: orow (some ⟨g81, 0, none⟩) l73.length c3 105 3 y118 :: Fz F W :: cs)) ⟨by kernel_rfl⟩ (fun w_ hM hS => let ⟨w', he, h'⟩ := hM.ostore' 1 rfl (m106 * 3 + 0) [vI x35.v, vI x35.rank, vI x35.came] (by have z_ : y102.length = l53.length * 3 := h104.len; have y_ : (m106 + 1) * 3 ≤ l53.length * 3 := Nat.mul_le_mul_right _ hl115; rw [Nat.add_mul] at y_; simp only [List.length_cons, List.length_nil]; omega) hl117 hy119; ⟨w', he, h', (by first | (refine h'.sub ?_; simp; done) | ((try simp only [← hl117] at h'); (try simp only [← hl101] at h'); (try simp only [← hl79] at h'); (try simp only [← hl59] at h'); (try simp only [← hl146] at h'); (try simp only [← hl130] at h'); exact h'.sub (by simp)))⟩) ?_
        refine ops_conv (l' := [(85, vP g81 (m106 * 3)), (83, .agg #[vI x35.v, vI x35.rank, vI x35.came]), (0, vP b_q 0), (7, vI i15)]) (M' := Mem w0 (.blk b_q [.slice (some ⟨g81, 0, none⟩) l73.length c3, vI i14] 98 :: orow (some ⟨g81, 0, none⟩) l73.length c3 105 3 y118 :: Fz F W :: cs)) (by first | rfl | rw [hl117]) (fun w_ hM => by first | exact hM | (rw [hl117] at hM; exact hM)) ?_
        refine oR [] [(0, vP b_q 0), (7, vI i15)] [0, 7] (by kernel_rfl) ?_
        refine ops_nil ?_
        refine fin_block ?_
        exact fin_join HJ4 (l73, y118) ⟨hp, h120⟩ (look_has ⟨rfl, rfl, trivial⟩) (fun w_ hM => hM)
       · --
        refine tree_leaf ?_
        refine ops_mem (d := some 83) (an := [.v (vI x35.v), .v (vI x35.rank), .v (vI x35.came)]) (evs := [.load ⟨g81, m83 * 3, none⟩ (vI x35.v), .load ⟨g81, m83 * 3 + 1, none⟩ (vI x35.rank), .load ⟨g81, m83 * 3 + 2, none⟩ (vI x35.came)]) (v := .agg #[vI x35.v, vI x35.rank, vI x35.came]) (M' := Mem w0 (.blk b_q [.slice (some ⟨g81, 0, none⟩) l11.length c3, vI i14] 98 :: orow (some ⟨g81, 0, none⟩) l11.length c3 105 3 y19 :: Fz F W :: cs)) ⟨by kernel_rfl⟩ (fun w_ hM hS => ⟨w_, ⟨hM.ocell 1 rfl (hq89 0 _ rfl), hM.ocell 1 rfl (hq89 1 _ rfl), hM.ocell 1 rfl (hq89 2 _ rfl), rfl⟩, hM, hS⟩) ?_
        refine oR [] [(83, .agg #[vI x35.v, vI x35.rank, vI x35.came]), (75, vP g81 (m75 * 3)), (67, vI (IntKind.i64.wrap (Int.tdiv (IntKind.i64.wrap (i15 - 1)) 2))), (64, .slice (some ⟨g81, 0, none⟩) l11.length c3), (60, vI i15), (59, .slice (some ⟨g81, 0, none⟩) l11.length c3), (0, vP b_q 0), (7, vI i15)] [83, 75, 67, 64, 60, 59, 0, 7] (by kernel_rfl) ?_
        refine ops_mem (d := some 76) (an := [.v (vI x25.v), .v (vI x25.rank), .v (vI x25.came)]) (evs := [.load ⟨g81, m75 * 3, none⟩ (vI x25.v), .load ⟨g81, m75 * 3 + 1, none⟩ (vI x25.rank), .load ⟨g81, m75 * 3 + 2, none⟩ (vI x25.came)]) (v := .agg #[vI x25.v, vI x25.rank, vI x25.came]) (M' := Mem w0 (.blk b_q [.slice (some ⟨g81, 0, none⟩) l11.length c3, vI i14] 98 :: orow (some ⟨g81, 0, none⟩) l11.length c3 105 3 y19 :: Fz F W :: cs)) ⟨by kernel_rfl⟩ (fun w_ hM hS => ⟨w_, ⟨hM.ocell 1 rfl (hq82 0 _ rfl), hM.ocell 1 rfl (hq82 1 _ rfl), hM.ocell 1 rfl (hq82 2 _ rfl), rfl⟩, hM, hS⟩) ?_
        refine oR [] [(76, .agg #[vI x25.v, vI x25.rank, vI x25.came]), (83, .agg #[vI x35.v, vI x35.rank, vI x35.came]), (67, vI (IntKind.i64.wrap (Int.tdiv (IntKind.i64.wrap (i15 - 1)) 2))), (64, .slice (some ⟨g81, 0, none⟩) l11.length c3), (60, vI i15), (59, .slice (some ⟨g81, 0, none⟩) l11.length c3), (0, vP b_q 0), (7, vI i15)] [76, 83, 67, 64, 60, 59, 0, 7] (by kernel_rfl) ?_
        obtain ⟨m122, hm123, hx124⟩ := idx_some hv45
        have hl127 := (List.getElem?_eq_some_iff.1 hx124).1
        obtain ⟨vs125, hr126, hq128⟩ := h20.at_ m122 x44 hx124
        obtain rfl := dec_queue_item_int hr126
        refine ops_val (op := (Go.Op.indexAddr 96 (Go.Operand.tmp 59) (Go.Operand.tmp 60))) (d := some 84) (v := vP g81 (m122 * 3)) ⟨by kernel_rfl⟩ (run_indexRow Try.underlying96 (z := 3) (by kernel_rfl) rfl rfl hm123 hl127 rfl) ?_
        refine oR [] [(84, vP g81 (m122 * 3)), (76, .agg #[vI x25.v, vI x25.rank, vI x25.came]), (83, .agg #[vI x35.v, vI x35.rank, vI x35.came]), (67, vI (IntKind.i64.wrap (Int.tdiv (IntKind.i64.wrap (i15 - 1)) 2))), (64, .slice (some ⟨g81, 0, none⟩) l11.length c3), (0, vP b_q 0), (7, vI i15)] [84, 76, 83, 67, 64, 0, 7] (by kernel_rfl) ?_
        obtain ⟨m129, hm130, hl131, he132⟩ := upd_some hv54
        obtain rfl : m122 = m129 := by have := hm123; omega
        have hl133 : l11.length = l53.length := by rw [he132, List.length_set]
        obtain ⟨y134, hy135⟩ : ∃ y_, setAll y19 (m122 * 3 + 0) [vI x25.v, vI x25.rank, vI x25.came] = y_ := ⟨_, rfl⟩
        have h136 : RepL R_queue_item_int F W l53 y134 := by rw [he132, ← hy135]; exact RepL.set h20 (List.getElem?_eq_getElem hl131) (fun vs_ hr_ _ => by obtain rfl := dec_queue_item_int hr_; exact ⟨(enc_queue_item_int), Nat.le_of_ble_eq_true rfl⟩)
        refine ops_store (an := []) (evs := [.store ⟨g81, m122 * 3, none⟩ (vI x25.v), .store ⟨g81, m122 * 3 + 1, none⟩ (vI x25.rank), .store ⟨g81, m122 * 3 + 2, none⟩ (vI x25.came)]) (M' := Mem w0 (.blk b_q [.slice (some ⟨g81, 0, none⟩) l11.length c3, vI i14] 98 :: orow (some ⟨g81, 0, none⟩) l53.length c3 105 3 y134 :: Fz F W :: cs)) ⟨by kernel_rfl⟩ (fun w_ hM hS => let ⟨w', he, h'⟩ := hM.ostore' 1 rfl (m122 * 3 + 0) [vI x25.v, vI x25.rank, vI x25.came] (by have z_ : y19.length = l11.length * 3 := h20.len; have y_ : (m122 + 1) * 3 ≤ l11.length * 3 := Nat.mul_le_mul_right _ hl131; rw [Nat.add_mul] at y_; simp only [List.length_cons, List.length_nil]; omega) hl133 hy135; ⟨w', he, h', (by exact h'.sub (.cons_cons _ (.cons _ (.cons_cons _ (.refl _)))))⟩) ?_
        refine ops_conv (l' := [(84, vP g81 (m122 * 3)), (76, .agg #[vI x25.v, vI x25.rank, vI x25.came]), (83, .agg #[vI x35.v, vI x35.rank, vI x35.came]), (67, vI (IntKind.i64.wrap (Int.tdiv (IntKind.i64.wrap (i15 - 1)) 2))), (64, .slice (some ⟨g81, 0, none⟩) l53.length c3), (0, vP b_q 0), (7, vI i15)]) (M' := Mem w0 (.blk b_q [.slice (some ⟨g81, 0, none⟩) l53.length c3, vI i14] 98 :: orow (some ⟨g81, 0, none⟩) l53.length c3 105 3 y134 :: Fz F W :: cs)) (by first | rfl | rw [hl133]) (fun w_ hM => by first | exact hM | (rw [hl133] at hM; exact hM)) ?_
        refine oR [] [(83, .agg #[vI x35.v, vI x35.rank, vI x35.came]), (67, vI (IntKind.i64.wrap (Int.tdiv (IntKind.i64.wrap (i15 - 1)) 2))), (64, .slice (some ⟨g81, 0, none⟩) l53.length c3), (0, vP b_q 0), (7, vI i15)] [83, 67, 64, 0, 7] (by kernel_rfl) ?_
        obtain ⟨m138, hm139, hx140⟩ := idx_some hv65
        have hl143 := (List.getElem?_eq_some_iff.1 hx140).1
        obtain ⟨vs141, hr142, hq144⟩ := h136.at_ m138 x64 hx140
        obtain rfl := dec_queue_item_int hr142
        refine ops_val (op := (Go.Op.indexAddr 96 (Go.Operand.tmp 64) (Go.Operand.tmp 67))) (d := some 85) (v := vP g81 (m138 * 3)) ⟨by kernel_rfl⟩ (run_indexRow Try.underlying96 (z := 3) (by kernel_rfl) rfl rfl hm139 hl143 rfl) ?_
        refine oR [] [(85, vP g81 (m138 * 3)), (83, .agg #[vI x35.v, vI x35.rank, vI x35.came]), (0, vP b_q 0), (7, vI i15)] [85, 83, 0, 7] (by kernel_rfl) ?_
        obtain ⟨m145, hm146, hl147, he148⟩ := upd_some hv74
        obtain rfl : m138 = m145 := by have := hm139; omega
        have hl149 : l53.length = l73.length := by rw [he148, List.length_set]
        obtain ⟨y150, hy151⟩ : ∃ y_, setAll y134 (m138 * 3 + 0) [vI x35.v, vI x35.rank, vI x35.came] = y_ := ⟨_, rfl⟩
        have h152 : RepL R_queue_item_int F W l73 y150 := by rw [he148, ← hy151]; exact RepL.set h136 (List.getElem?_eq_getElem hl147) (fun vs_ hr_ _ => by obtain rfl := dec_queue_item_int hr_; exact ⟨(enc_queue_item_int), Nat.le_of_ble_eq_true rfl⟩)
        refine ops_store (an := []) (evs := [.store ⟨g81, m138 * 3, none⟩ (vI x35.v), .store ⟨g81, m138 * 3 + 1, none⟩ (vI x35.rank), .store ⟨g81, m138 * 3 + 2, none⟩ (vI x35.came)]) (M' := Mem w0 (.blk b_q [.slice (some ⟨g81, 0, none⟩) l53.length c3, vI i14] 98 :: orow (some ⟨g81, 0, none⟩) l73.length c3 105 3 y150 :: Fz F W :: cs)) ⟨by kernel_rfl⟩ (fun w_ hM hS => let ⟨w', he, h'⟩ := hM.ostore' 1 rfl (m138 * 3 + 0) [vI x35.v, vI x35.rank, vI x35.came] (by have z_ : y134.length = l53.length * 3 := h136.len; have y_ : (m138 + 1) * 3 ≤ l53.length * 3 := Nat.mul_le_mul_right _ hl147; rw [Nat.add_mul] at y_; simp only [List.length_cons, List.length_nil]; omega) hl149 hy151; ⟨w', he, h', (by first | (refine h'.sub ?_; simp; done) | ((try simp only [← hl149] at h'); (try simp only [← hl133] at h'); (try simp only [← hl117] at h'); (try simp only [← hl101] at h'); (try simp only [← hl79] at h'); (try simp only [← hl59] at h'); exact h'.sub (by simp)))⟩) ?_
        refine ops_conv (l' := [(85, vP g81 (m138 * 3)), (83, .agg #[vI x35.v, vI x35.rank, vI x35.came]), (0, vP b_q 0), (7, vI i15)]) (M' := Mem w0 (.blk b_q [.slice (some ⟨g81, 0, none⟩) l73.length c3, vI i14] 98 :: orow (some ⟨g81, 0, none⟩) l73.length c3 105 3 y150 :: Fz F W :: cs)) (by first | rfl | rw [hl149]) (fun w_ hM => by first | exact hM | (rw [hl149] at hM; exact hM)) ?_
        refine oR [] [(0, vP b_q 0), (7, vI i15)] [0, 7] (by kernel_rfl) ?_
        refine ops_nil ?_
        refine fin_block ?_
        exact fin_join HJ4 (l73, y150) ⟨hp, h152⟩ (look_has ⟨rfl, rfl, trivial⟩) (fun w_ hM => hM)
     · --
      have hp := cnd_f hc21 hp
      refine st_exit ?_
      refine fin_exit_then ?_
      refine fin_exit_then ?_
      refine fin_exit ?_
      obtain hq_ := Option.some.inj hp
      subst hq_
      obtain hq_ := hd3 _ rfl
      subst hq_
      have hp : queue_Queue_int_Put_j2 l11 i14 = some (i9001, l9004, i9007) := hk3
      exact fin_join HJ2 (l11, y19, i14) ⟨hp, h20⟩ (look_has trivial) (fun w_ hM => hM)
    · --
     have hp := cnd_f hc16 hp
     refine oR [oF 3, oF 4, oF 5, oF 6, oF 7, oF 8, oF 9] [(52, .bool false), (0, vP b_q 0), (7, vI i15)] [52, 0, 7] (by kernel_rfl) ?_
     refine ops_nil ?_
     refine fin_then ?_
     refine st_false rfl ?_
     refine st_exit ?_
     refine fin_exit_then ?_
     refine fin_exit_then ?_
     refine fin_exit ?_
     obtain hq_ := Option.some.inj hp
     subst hq_
     obtain hq_ := hd3 _ rfl
     subst hq_
     have hp : queue_Queue_int_Put_j2 l11 i14 = some (i9001, l9004, i9007) := hk3
     exact fin_join HJ2 (l11, y12, i14) ⟨hp, h13⟩ (look_has trivial) (fun w_ hM => hM)
  · --
   intro HJ1
   refine st_seq ?_
   obtain ⟨l156, hv157, hp⟩ := obind hp
   refine st_region_tree (.node [oT 0, oT 1, oT 2, oT 3, oT 5, oT 6, oT 7, oT 8, oT 9] (.leaf [oF 4, oF 10, oT 11, oF 12, oF 13, oT 14, oT 15, oF 16]) (.node [oF 10, oT 11] (.leaf [oF 4, oF 12, oF 13, oT 14, oT 15, oF 16]) (.leaf [oF 12, oF 4, oF 13, oT 14, oT 15, oF 16]))) (Mem w0 (Fz F W :: cs)) (by kernel_rfl) (by kernel_rfl) (by kernel_rfl) (fun _ d _ _ _ h => by cases d <;> exact h) (M' := Mem w0 (.blk b_q [.slice A_q_0 q_0.length c_q_0, vI q_1] 98 :: orow A_q_0 q_0.length c_q_0 105 3 y_q_0 :: Fz F W :: cs)) (fun w_ hM => ⟨hM.drew, hM.drew.sub (.cons _ (.cons _ (.cons_cons _ (.refl _))))⟩) ?_
   refine tree_node ?_
   refine oR [oT 0, oT 1, oT 2, oT 3, oT 5, oT 6, oT 7, oT 8, oT 9] [(23, vP b_q 1), (20, vI rank), (19, vI v), (17, vP b_q 0), (14, vP b_q 0), (0, vP b_q 0)] [23, 20, 19, 17, 14, 0] (by kernel_rfl) ?_
   refine ops_nil ?_
   refine tree_both ?_ ?_
   · --
    refine tree_leaf ?_
    refine ops_mem (d := some 18) (an := [.v (.slice A_q_0 q_0.length c_q_0)]) (evs := [.load ⟨b_q, 0, none⟩ (.slice A_q_0 q_0.length c_q_0)]) (v := .slice A_q_0 q_0.length c_q_0) (M' := Mem w0 (.blk b_q [.slice A_q_0 q_0.length c_q_0, vI q_1] 98 :: orow A_q_0 q_0.length c_q_0 105 3 y_q_0 :: Fz F W :: cs)) ⟨by kernel_rfl⟩ (fun w_ hM hS => ⟨w_, ⟨hM.cell 0 rfl rfl, rfl⟩, hM, hS⟩) ?_
    refine oR [] [(18, .slice A_q_0 q_0.length c_q_0), (23, vP b_q 1), (20, vI rank), (19, vI v), (14, vP b_q 0), (0, vP b_q 0)] [18, 23, 20, 19, 14, 0] (by kernel_rfl) ?_
    refine ops_mem (d := some 24) (an := [.v (vI q_1)]) (evs := [.load ⟨b_q, 1, none⟩ (vI q_1)]) (v := vI q_1) (M' := Mem w0 (.blk b_q [.slice A_q_0 q_0.length c_q_0, vI q_1] 98 :: orow A_q_0 q_0.length c_q_0 105 3 y_q_0 :: Fz F W :: cs)) ⟨by kernel_rfl⟩ (fun w_ hM hS => ⟨w_, ⟨hM.cell 0 rfl rfl, rfl⟩, hM, hS⟩) ?_
    refine oR [oT 11] [(25, .agg #[vI v, vI rank, vI q_1]), (18, .slice A_q_0 q_0.length c_q_0), (14, vP b_q 0), (0, vP b_q 0)] [25, 18, 14, 0] (by kernel_rfl) ?_
    have h158 : RepL R_queue_item_int F W ([(queue_item_int.mk v rank q_1)] : List queue_item_int) ([vI v, vI rank, vI q_1]) := (RepL.cons (R := R_queue_item_int) (F := F) (w := W) (vs := [vI v, vI rank, vI q_1]) (ys := []) (enc_queue_item_int) RepL.nil)
    refine ops_new (d := some 26) (o := .cells ([vI v, vI rank, vI q_1]).toArray 105) (v := fun g159 => .slice (some ⟨g159, 0, none⟩) ([(queue_item_int.mk v rank q_1)] : List queue_item_int).length 1) (M' := fun g159 => Mem w0 (orow (some ⟨g159, 0, none⟩) ([(queue_item_int.mk v rank q_1)] : List queue_item_int).length 1 105 3 ([vI v, vI rank, vI q_1]) :: .blk b_q [.slice A_q_0 q_0.length c_q_0, vI q_1] 98 :: orow A_q_0 q_0.length c_q_0 105 3 y_q_0 :: Fz F W :: cs)) (fun g159 => ⟨by kernel_rfl⟩) (fun w_ hM hS => ⟨hM.onew [vI v, vI rank, vI q_1] 105 1 3 rfl (by decide), hS.alloc _⟩) (fun g159 => ?_)
    refine oR [] [(26, .slice (some ⟨g159, 0, none⟩) ([(queue_item_int.mk v rank q_1)] : List queue_item_int).length 1), (18, .slice A_q_0 q_0.length c_q_0), (14, vP b_q 0), (0, vP b_q 0)] [26, 18, 14, 0] (by kernel_rfl) ?_
    obtain ⟨he160, hb161⟩ := app_some hv157
    obtain ⟨y162, hy163⟩ : ∃ y_, y_q_0 ++ ([vI v, vI rank, vI q_1]) = y_ := ⟨_, rfl⟩
    have h164 : RepL R_queue_item_int F W l156 y162 := by rw [he160, ← hy163]; exact RepL.app h_q_0 h158
    refine ops_appendO (x := (Go.Operand.tmp 18)) (y := (Go.Operand.tmp 26)) (t := 96) (e := 105) (d := some 27) (n' := l156.length) (z := 3) (m := ([(queue_item_int.mk v rank q_1)] : List queue_item_int).length) (bytes := 24) (xs' := y162) (news := ([vI v, vI rank, vI q_1])) (zv := .agg #[vI 0, vI 0, vI 0]) 2 ⟨by kernel_rfl⟩ rfl rfl Try.underlying96 (by kernel_rfl) (by rfl) rfl (fun w_ hM => hM.srcO 0 rfl) h158.len h158.one hb161 (by have z_ := congrArg List.length he160; rw [List.length_append] at z_; exact z_.symm) hy163 (fun _ _ _ _ hS h' => (by exact h'.sub (.cons _ (.cons _ (.cons _ (.cons_cons _ (.refl _))))))) ?_
    rintro ⟨A165, c166⟩
    refine ops_conv (l' := [(27, .slice A165 l156.length c166), (26, .slice (some ⟨g159, 0, none⟩) ([(queue_item_int.mk v rank q_1)] : List queue_item_int).length 1), (18, .slice A_q_0 q_0.length c_q_0), (14, vP b_q 0), (0, vP b_q 0)]) (M' := Mem w0 (orow (some ⟨g159, 0, none⟩) ([(queue_item_int.mk v rank q_1)] : List queue_item_int).length 1 105 3 ([vI v, vI rank, vI q_1]) :: .blk b_q [.slice A_q_0 q_0.length c_q_0, vI q_1] 98 :: orow A165 l156.length c166 105 3 y162 :: Fz F W :: cs)) rfl (fun _ h => h) ?_
    refine oR [oT 14, oT 15] [(29, vP b_q 0), (27, .slice A165 l156.length c166), (0, vP b_q 0)] [29, 27, 0] (by kernel_rfl) ?_
    refine ops_store (an := []) (evs := [.store ⟨b_q, 0, none⟩ (.slice A165 l156.length c166)]) (M' := Mem w0 (orow (some ⟨g159, 0, none⟩) ([(queue_item_int.mk v rank q_1)] : List queue_item_int).length 1 105 3 ([vI v, vI rank, vI q_1]) :: .blk b_q [.slice A165 l156.length c166, vI q_1] 98 :: orow A165 l156.length c166 105 3 y162 :: Fz F W :: cs)) ⟨by kernel_rfl⟩ (fun w_ hM hS => let ⟨w', he, h'⟩ := hM.evs_stores [.slice A165 l156.length c166] 1 rfl 0 (Nat.le_of_ble_eq_true rfl); ⟨w', he, h', (by exact h'.sub (.cons _ (.cons _ (.cons _ (.cons_cons _ (.refl _))))))⟩) ?_
    refine oR [] [(0, vP b_q 0)] [0] (by kernel_rfl) ?_
    refine ops_nil ?_
    exact fin_join HJ1 (A165, c166, l156, y162) ⟨hp, h164⟩ (look_has ⟨rfl, trivial⟩) (fun w_ hM => hM.pick 4 [1, 2, 3] (by kernel_rfl) (by decide) rfl)
   · --
    refine tree_node ?_
    refine ops_mem (d := some 24) (an := [.v (vI q_1)]) (evs := [.load ⟨b_q, 1, none⟩ (vI q_1)]) (v := vI q_1) (M' := Mem w0 (.blk b_q [.slice A_q_0 q_0.length c_q_0, vI q_1] 98 :: orow A_q_0 q_0.length c_q_0 105 3 y_q_0 :: Fz F W :: cs)) ⟨by kernel_rfl⟩ (fun w_ hM hS => ⟨w_, ⟨hM.cell 0 rfl rfl, rfl⟩, hM, hS⟩) ?_
    refine oR [oT 11] [(25, .agg #[vI v, vI rank, vI q_1]), (17, vP b_q 0), (14, vP b_q 0), (0, vP b_q 0)] [25, 17, 14, 0] (by kernel_rfl) ?_
    refine ops_nil ?_
    refine tree_both ?_ ?_
    · --
     refine tree_leaf ?_
     refine ops_mem (d := some 18) (an := [.v (.slice A_q_0 q_0.length c_q_0)]) (evs := [.load ⟨b_q, 0, none⟩ (.slice A_q_0 q_0.length c_q_0)]) (v := .slice A_q_0 q_0.length c_q_0) (M' := Mem w0 (.blk b_q [.slice A_q_0 q_0.length c_q_0, vI q_1] 98 :: orow A_q_0 q_0.length c_q_0 105 3 y_q_0 :: Fz F W :: cs)) ⟨by kernel_rfl⟩ (fun w_ hM hS => ⟨w_, ⟨hM.cell 0 rfl rfl, rfl⟩, hM, hS⟩) ?_
     refine oR [] [(18, .slice A_q_0 q_0.length c_q_0), (25, .agg #[vI v, vI rank, vI q_1]), (14, vP b_q 0), (0, vP b_q 0)] [18, 25, 14, 0] (by kernel_rfl) ?_
     have h167 : RepL R_queue_item_int F W ([(queue_item_int.mk v rank q_1)] : List queue_item_int) ([vI v, vI rank, vI q_1]) := (RepL.cons (R := R_queue_item_int) (F := F) (w := W) (vs := [vI v, vI rank, vI q_1]) (ys := []) (enc_queue_item_int) RepL.nil)
     refine ops_new (d := some 26) (o := .cells ([vI v, vI rank, vI q_1]).toArray 105) (v := fun g168 => .slice (some ⟨g168, 0, none⟩) ([(queue_item_int.mk v rank q_1)] : List queue_item_int).length 1) (M' := fun g168 => Mem w0 (orow (some ⟨g168, 0, none⟩) ([(queue_item_int.mk v rank q_1)] : List queue_item_int).length 1 105 3 ([vI v, vI rank, vI q_1]) :: .blk b_q [.slice A_q_0 q_0.length c_q_0, vI q_1] 98 :: orow A_q_0 q_0.length c_q_0 105 3 y_q_0 :: Fz F W :: cs)) (fun g168 => ⟨by kernel_rfl⟩) (fun w_ hM hS => ⟨hM.onew [vI v, vI rank, vI q_1] 105 1 3 rfl (by decide), hS.alloc _⟩) (fun g168 => ?_)
     refine oR [] [(26, .slice (some ⟨g168, 0, none⟩) ([(queue_item_int.mk v rank q_1)] : List queue_item_int).length 1), (18, .slice A_q_0 q_0.length c_q_0), (14, vP b_q 0), (0, vP b_q 0)] [26, 18, 14, 0] (by kernel_rfl) ?_
     obtain ⟨he169, hb170⟩ := app_some hv157
     obtain ⟨y171, hy172⟩ : ∃ y_, y_q_0 ++ ([vI v, vI rank, vI q_1]) = y_ := ⟨_, rfl⟩
     have h173 : RepL R_queue_item_int F W l156 y171 := by rw [he169, ← hy172]; exact RepL.app h_q_0 h167
     refine ops_appendO (x := (Go.Operand.tmp 18)) (y := (Go.Operand.tmp 26)) (t := 96) (e := 105) (d := some 27) (n' := l156.length) (z := 3) (m := ([(queue_item_int.mk v rank q_1)] : List queue_item_int).length) (bytes := 24) (xs' := y171) (news := ([vI v, vI rank, vI q_1])) (zv := .agg #[vI 0, vI 0, vI 0]) 2 ⟨by kernel_rfl⟩ rfl rfl Try.underlying96 (by kernel_rfl) (by rfl) rfl (fun w_ hM => hM.srcO 0 rfl) h167.len h167.one hb170 (by have z_ := congrArg List.length he169; rw [List.length_append] at z_; exact z_.symm) hy172 (fun _ _ _ _ hS h' => (by exact h'.sub (.cons _ (.cons _ (.cons _ (.cons_cons _ (.refl _))))))) ?_
     rintro ⟨A174, c175⟩
     refine ops_conv (l' := [(27, .slice A174 l156.length c175), (26, .slice (some ⟨g168, 0, none⟩) ([(queue_item_int.mk v rank q_1)] : List queue_item_int).length 1), (18, .slice A_q_0 q_0.length c_q_0), (14, vP b_q 0), (0, vP b_q 0)]) (M' := Mem w0 (orow (some ⟨g168, 0, none⟩) ([(queue_item_int.mk v rank q_1)] : List queue_item_int).length 1 105 3 ([vI v, vI rank, vI q_1]) :: .blk b_q [.slice A_q_0 q_0.length c_q_0, vI q_1] 98 :: orow A174 l156.length c175 105 3 y171 :: Fz F W :: cs)) rfl (fun _ h => h) ?_
     refine oR [oT 14, oT 15] [(29, vP b_q 0), (27, .slice A174 l156.length c175), (0, vP b_q 0)] [29, 27, 0] (by kernel_rfl) ?_
     refine ops_store (an := []) (evs := [.store ⟨b_q, 0, none⟩ (.slice A174 l156.length c175)]) (M' := Mem w0 (orow (some ⟨g168, 0, none⟩) ([(queue_item_int.mk v rank q_1)] : List queue_item_int).length 1 105 3 ([vI v, vI rank, vI q_1]) :: .blk b_q [.slice A174 l156.length c175, vI q_1] 98 :: orow A174 l156.length c175 105 3 y171 :: Fz F W :: cs)) ⟨by kernel_rfl⟩ (fun w_ hM hS => let ⟨w', he, h'⟩ := hM.evs_stores [.slice A174 l156.length c175] 1 rfl 0 (Nat.le_of_ble_eq_true rfl); ⟨w', he, h', (by exact h'.sub (.cons _ (.cons _ (.cons _ (.cons_cons _ (.refl _))))))⟩) ?_
     refine oR [] [(0, vP b_q 0)] [0] (by kernel_rfl) ?_
     refine ops_nil ?_
     exact fin_join HJ1 (A174, c175, l156, y171) ⟨hp, h173⟩ (look_has ⟨rfl, trivial⟩) (fun w_ hM => hM.pick 4 [1, 2, 3] (by kernel_rfl) (by decide) rfl)
    · --
     refine tree_leaf ?_
     have h176 : RepL R_queue_item_int F W ([(queue_item_int.mk v rank q_1)] : List queue_item_int) ([vI v, vI rank, vI q_1]) := (RepL.cons (R := R_queue_item_int) (F := F) (w := W) (vs := [vI v, vI rank, vI q_1]) (ys := []) (enc_queue_item_int) RepL.nil)
     refine ops_new (d := some 26) (o := .cells ([vI v, vI rank, vI q_1]).toArray 105) (v := fun g177 => .slice (some ⟨g177, 0, none⟩) ([(queue_item_int.mk v rank q_1)] : List queue_item_int).length 1) (M' := fun g177 => Mem w0 (orow (some ⟨g177, 0, none⟩) ([(queue_item_int.mk v rank q_1)] : List queue_item_int).length 1 105 3 ([vI v, vI rank, vI q_1]) :: .blk b_q [.slice A_q_0 q_0.length c_q_0, vI q_1] 98 :: orow A_q_0 q_0.length c_q_0 105 3 y_q_0 :: Fz F W :: cs)) (fun g177 => ⟨by kernel_rfl⟩) (fun w_ hM hS => ⟨hM.onew [vI v, vI rank, vI q_1] 105 1 3 rfl (by decide), hS.alloc _⟩) (fun g177 => ?_)
     refine oR [] [(26, .slice (some ⟨g177, 0, none⟩) ([(queue_item_int.mk v rank q_1)] : List queue_item_int).length 1), (17, vP b_q 0), (14, vP b_q 0), (0, vP b_q 0)] [26, 17, 14, 0] (by kernel_rfl) ?_
     refine ops_mem (d := some 18) (an := [.v (.slice A_q_0 q_0.length c_q_0)]) (evs := [.load ⟨b_q, 0, none⟩ (.slice A_q_0 q_0.length c_q_0)]) (v := .slice A_q_0 q_0.length c_q_0) (M' := Mem w0 (orow (some ⟨g177, 0, none⟩) ([(queue_item_int.mk v rank q_1)] : List queue_item_int).length 1 105 3 ([vI v, vI rank, vI q_1]) :: .blk b_q [.slice A_q_0 q_0.length c_q_0, vI q_1] 98 :: orow A_q_0 q_0.length c_q_0 105 3 y_q_0 :: Fz F W :: cs)) ⟨by kernel_rfl⟩ (fun w_ hM hS => ⟨w_, ⟨hM.cell 1 rfl rfl, rfl⟩, hM, hS⟩) ?_
     refine oR [] [(18, .slice A_q_0 q_0.length c_q_0), (26, .slice (some ⟨g177, 0, none⟩) ([(queue_item_int.mk v rank q_1)] : List queue_item_int).length 1), (14, vP b_q 0), (0, vP b_q 0)] [18, 26, 14, 0] (by kernel_rfl) ?_
     obtain ⟨he178, hb179⟩ := app_some hv157
     obtain ⟨y180, hy181⟩ : ∃ y_, y_q_0 ++ ([vI v, vI rank, vI q_1]) = y_ := ⟨_, rfl⟩
     have h182 : RepL R_queue_item_int F W l156 y180 := by rw [he178, ← hy181]; exact RepL.app h_q_0 h176
     refine ops_appendO (x := (Go.Operand.tmp 18)) (y := (Go.Operand.tmp 26)) (t := 96) (e := 105) (d := some 27) (n' := l156.length) (z := 3) (m := ([(queue_item_int.mk v rank q_1)] : List queue_item_int).length) (bytes := 24) (xs' := y180) (news := ([vI v, vI rank, vI q_1])) (zv := .agg #[vI 0, vI 0, vI 0]) 2 ⟨by kernel_rfl⟩ rfl rfl Try.underlying96 (by kernel_rfl) (by rfl) rfl (fun w_ hM => hM.srcO 0 rfl) h176.len h176.one hb179 (by have z_ := congrArg List.length he178; rw [List.length_append] at z_; exact z_.symm) hy181 (fun _ _ _ _ hS h' => (by exact h'.sub (.cons _ (.cons _ (.cons _ (.cons_cons _ (.refl _))))))) ?_
     rintro ⟨A183, c184⟩
     refine ops_conv (l' := [(27, .slice A183 l156.length c184), (18, .slice A_q_0 q_0.length c_q_0), (26, .slice (some ⟨g177, 0, none⟩) ([(queue_item_int.mk v rank q_1)] : List queue_item_int).length 1), (14, vP b_q 0), (0, vP b_q 0)]) (M' := Mem w0 (orow (some ⟨g177, 0, none⟩) ([(queue_item_int.mk v rank q_1)] : List queue_item_int).length 1 105 3 ([vI v, vI rank, vI q_1]) :: .blk b_q [.slice A_q_0 q_0.length c_q_0, vI q_1] 98 :: orow A183 l156.length c184 105 3 y180 :: Fz F W :: cs)) rfl (fun _ h => h) ?_
     refine oR [oT 14, oT 15] [(29, vP b_q 0), (27, .slice A183 l156.length c184), (0, vP b_q 0)] [29, 27, 0] (by kernel_rfl) ?_
     refine ops_store (an := []) (evs := [.store ⟨b_q, 0, none⟩ (.slice A183 l156.length c184)]) (M' := Mem w0 (orow (some ⟨g177, 0, none⟩) ([(queue_item_int.mk v rank q_1)] : List queue_item_int).length 1 105 3 ([vI v, vI rank, vI q_1]) :: .blk b_q [.slice A183 l156.length c184, vI q_1] 98 :: orow A183 l156.length c184 105 3 y180 :: Fz F W :: cs)) ⟨by kernel_rfl⟩ (fun w_ hM hS => let ⟨w', he, h'⟩ := hM.evs_stores [.slice A183 l156.length c184] 1 rfl 0 (Nat.le_of_ble_eq_true rfl); ⟨w', he, h', (by exact h'.sub (.cons _ (.cons _ (.cons _ (.cons_cons _ (.refl _))))))⟩) ?_
     refine oR [] [(0, vP b_q 0)] [0] (by kernel_rfl) ?_
     refine ops_nil ?_
     exact fin_join HJ1 (A183, c184, l156, y180) ⟨hp, h182⟩ (look_has ⟨rfl, trivial⟩) (fun w_ hM => hM.pick 4 [1, 2, 3] (by kernel_rfl) (by decide) rfl)
set_option maxHeartbeats 4000000 in
set_option maxRecDepth 100000 in
theorem queue_Queue_int_Len_ok (w0 w : World) (cs : List Chunk) (F : Nat → Prop) (W : World) (b_q : Nat) (A_q_0 : Option Addr) (c_q_0 : Nat) (q_0 : List queue_item_int) (y_q_0 : List Value) (q_1 : Int) (hM0 : Mem w0 (.blk b_q [.slice A_q_0 q_0.length c_q_0, vI q_1] 98 :: orow A_q_0 q_0.length c_q_0 105 3 y_q_0 :: Fz F W :: cs) w) (h_q_0 : RepL R_queue_item_int F W q_0 y_q_0) (i9001 : Int) (hp : queue_Queue_int_Len q_0 q_1 = some i9001) : Calls Try.prog 72 #[vP b_q 0] w fun e w' => ∃ (y9002 : List Value), ((RepL R_queue_item_int F W q_0 y9002)) ∧ e = .returned (vI i9001) ∧ Mem w0 (.blk b_q [.slice A_q_0 q_0.length c_q_0, vI q_1] 98 :: orow A_q_0 q_0.length c_q_0 105 3 y9002 :: Fz F W :: cs) w' := by
 unfold queue_Queue_int_Len at hp
 refine sx_calls Try.func72 rfl (n := 8) (by kernel_rfl) (l := [(0, vP b_q 0)]) rfl (by rfl) hM0 ?_
 refine st_seq ?_
 refine st_region [oF 0] (by rfl) ?_
 refine oR [oF 0] [(0, vP b_q 0)] [0] (by kernel_rfl) ?_
 refine ops_nil ?_
 refine fin_then ?_
 refine st_seq ?_
 refine st_region [oF 0, oF 1, oF 2, oF 3, oF 4, oF 5] (by rfl) ?_
 refine oR [oF 0, oF 1, oF 2] [(5, vP b_q 0)] [5] (by kernel_rfl) ?_
 refine ops_mem (d := some 6) (an := [.v (.slice A_q_0 q_0.length c_q_0)]) (evs := [.load ⟨b_q, 0, none⟩ (.slice A_q_0 q_0.length c_q_0)]) (v := .slice A_q_0 q_0.length c_q_0) (M' := Mem w0 (.blk b_q [.slice A_q_0 q_0.length c_q_0, vI q_1] 98 :: orow A_q_0 q_0.length c_q_0 105 3 y_q_0 :: Fz F W :: cs)) ⟨by kernel_rfl⟩ (fun w_ hM hS => ⟨w_, ⟨hM.cell 0 rfl rfl, rfl⟩, hM, trivial⟩) ?_
 refine oR [oF 4, oF 5] [(2, vI (q_0.length : Int))] [2] (by kernel_rfl) ?_
 refine ops_nil ?_
 refine fin_then ?_
 refine st_ret ?_
 have hq_ := Option.some.inj hp
 have hr0_ := hq_
 subst hr0_
 refine fin_ret [.tmp 2] [vI (q_0.length : Int)] rfl rfl (fun w_ hM => (.tmp rfl .nil)) (fun w_ hM => ?_)
 exact ⟨y_q_0, h_q_0, rfl, hM⟩
end Go.Proofs.Ytnognpmkhkkkeaa.X
