/- The Go functions come to what the plain functions tell. No condition. -/
import Derived.Test.YtfihfbkjomploaaProg
import Derived.Test.YtfihfbkjomploaaFnX
namespace Go.Proofs.Ytfihfbkjomploaa.X
open Go Go.RowKit Go.Proofs.Ytfihfbkjomploaa.Sx
set_option linter.unusedVariables false
set_option maxHeartbeats 4000000 in
set_option maxRecDepth 100000 in
theorem queue_Queue_string_before_ok (w0 w : World) (cs : List Chunk) (F : Nat → Prop) (W : World) (b_q : Nat) (A_q_0 : Option Addr) (c_q_0 : Nat) (q_0 : List queue_item_string) (y_q_0 : List Value) (q_1 : Int) (i : Int) (k : Int) (hM0 : Mem w0 (.blk b_q [.slice A_q_0 q_0.length c_q_0, vI q_1] 145 :: orow A_q_0 q_0.length c_q_0 170 3 y_q_0 :: Fz F W :: cs) w) (h_q_0 : RepL R_queue_item_string F W q_0 y_q_0) (t9001 : Bool) (hp : queue_Queue_string_before q_0 q_1 i k = some t9001) : Calls Try.prog 136 #[vP b_q 0, vI i, vI k] w fun e w' => ∃ (A9002 : Option Addr), ∃ (y9003 : List Value), ((RepL R_queue_item_string F W q_0 y9003)) ∧ e = .returned (.bool t9001) ∧ Mem w0 (.blk b_q [.slice A9002 q_0.length c_q_0, vI q_1] 145 :: orow A9002 q_0.length c_q_0 170 3 y9003 :: Fz F W :: cs) w' := by
 unfold queue_Queue_string_before at hp
 refine sx_calls Try.func136 rfl (n := 38) (by kernel_rfl) (l := [(0, vP b_q 0), (1, vI i), (2, vI k)]) rfl (by rfl) hM0 ?_
 refine st_seq ?_
 refine st_region [oF 0] (by rfl) ?_
 refine oR [oF 0] [(0, vP b_q 0), (1, vI i), (2, vI k)] [0, 1, 2] (by kernel_rfl) ?_
 refine ops_nil ?_
 refine fin_then ?_
 refine st_join1 (σ := Nat × ByteArray × Int × Int × Nat × ByteArray × Int × Int × (Option Addr) × (List Value)) (L := fun x_ => match x_ with | (b1, u2, i3, i4, b5, u6, i7, i8, A9, y10) => [(7, vP b1 0), (8, vP b5 0)]) (N := fun x_ => match x_ with | (b1, u2, i3, i4, b5, u6, i7, i8, A9, y10) => Mem w0 (.blk b1 [.string u2, vI i3, vI i4] 170 :: .blk b5 [.string u6, vI i7, vI i8] 170 :: .blk b_q [.slice A9 q_0.length c_q_0, vI q_1] 145 :: orow A9 q_0.length c_q_0 170 3 y10 :: Fz F W :: cs)) (I := fun x_ => match x_ with | (b1, u2, i3, i4, b5, u6, i7, i8, A9, y10) => (queue_Queue_string_before_j1 u2 i3 i4 u6 i7 i8 = some t9001) ∧ (RepL R_queue_item_string F W q_0 y10)) ?_ ?_
 · --
  rintro ⟨b1, u2, i3, i4, b5, u6, i7, i8, A9, y10⟩ ⟨hp, h11⟩
  refine st_conv (l' := [(7, vP b1 0), (8, vP b5 0)]) (M' := Mem w0 (.blk b1 [.string u2, vI i3, vI i4] 170 :: .blk b5 [.string u6, vI i7, vI i8] 170 :: .blk b_q [.slice A9 q_0.length c_q_0, vI q_1] 145 :: orow A9 q_0.length c_q_0 170 3 y10 :: Fz F W :: cs)) rfl (fun _ h => h) ?_
  unfold queue_Queue_string_before_j1 at hp
  refine st_seq ?_
  refine st_seq ?_
  refine st_region [oF 0, oF 1, oF 2, oF 3, oF 4] (by rfl) ?_
  refine oR [oF 0] [(23, vP b1 1), (7, vP b1 0), (8, vP b5 0)] [23, 7, 8] (by kernel_rfl) ?_
  refine ops_mem (d := some 24) (an := [.v (vI i3)]) (evs := [.load ⟨b1, 1, none⟩ (vI i3)]) (v := vI i3) (M' := Mem w0 (.blk b1 [.string u2, vI i3, vI i4] 170 :: .blk b5 [.string u6, vI i7, vI i8] 170 :: .blk b_q [.slice A9 q_0.length c_q_0, vI q_1] 145 :: orow A9 q_0.length c_q_0 170 3 y10 :: Fz F W :: cs)) ⟨by kernel_rfl⟩ (fun w_ hM hS => ⟨w_, ⟨hM.cell 0 rfl rfl, rfl⟩, hM, trivial⟩) ?_
  refine oR [oF 2] [(25, vP b5 1), (24, vI i3), (7, vP b1 0), (8, vP b5 0)] [25, 24, 7, 8] (by kernel_rfl) ?_
  refine ops_mem (d := some 26) (an := [.v (vI i7)]) (evs := [.load ⟨b5, 1, none⟩ (vI i7)]) (v := vI i7) (M' := Mem w0 (.blk b1 [.string u2, vI i3, vI i4] 170 :: .blk b5 [.string u6, vI i7, vI i8] 170 :: .blk b_q [.slice A9 q_0.length c_q_0, vI q_1] 145 :: orow A9 q_0.length c_q_0 170 3 y10 :: Fz F W :: cs)) ⟨by kernel_rfl⟩ (fun w_ hM hS => ⟨w_, ⟨hM.cell 1 rfl rfl, rfl⟩, hM, trivial⟩) ?_
  refine oR [oF 4] [(27, .bool (!(i3 == i7))), (7, vP b1 0), (8, vP b5 0)] [27, 7, 8] (by kernel_rfl) ?_
  refine ops_nil ?_
  refine fin_then ?_
  refine st_if (b := !(i3 == i7)) rfl (fun hc12 => ?_) (fun hc12 => ?_)
  · --
   have hp := cnd_t hc12 hp
   refine st_seq ?_
   refine st_region [oF 0, oF 1, oF 2, oF 3, oF 4, oF 5] (by rfl) ?_
   refine oR [oF 0] [(28, vP b1 1), (8, vP b5 0)] [28, 8] (by kernel_rfl) ?_
   refine ops_mem (d := some 29) (an := [.v (vI i3)]) (evs := [.load ⟨b1, 1, none⟩ (vI i3)]) (v := vI i3) (M' := Mem w0 (.blk b1 [.string u2, vI i3, vI i4] 170 :: .blk b5 [.string u6, vI i7, vI i8] 170 :: .blk b_q [.slice A9 q_0.length c_q_0, vI q_1] 145 :: orow A9 q_0.length c_q_0 170 3 y10 :: Fz F W :: cs)) ⟨by kernel_rfl⟩ (fun w_ hM hS => ⟨w_, ⟨hM.cell 0 rfl rfl, rfl⟩, hM, trivial⟩) ?_
   refine oR [oF 2] [(30, vP b5 1), (29, vI i3)] [30, 29] (by kernel_rfl) ?_
   refine ops_mem (d := some 31) (an := [.v (vI i7)]) (evs := [.load ⟨b5, 1, none⟩ (vI i7)]) (v := vI i7) (M' := Mem w0 (.blk b1 [.string u2, vI i3, vI i4] 170 :: .blk b5 [.string u6, vI i7, vI i8] 170 :: .blk b_q [.slice A9 q_0.length c_q_0, vI q_1] 145 :: orow A9 q_0.length c_q_0 170 3 y10 :: Fz F W :: cs)) ⟨by kernel_rfl⟩ (fun w_ hM hS => ⟨w_, ⟨hM.cell 1 rfl rfl, rfl⟩, hM, trivial⟩) ?_
   refine oR [oF 4, oF 5] [(6, .bool (decide (i3 < i7)))] [6] (by kernel_rfl) ?_
   refine ops_nil ?_
   refine fin_then ?_
   refine st_ret ?_
   refine fin_ret_then ?_
   have hq_ := Option.some.inj hp
   have hr0_ := hq_
   subst hr0_
   refine fin_ret [.tmp 6] [.bool (decide (i3 < i7))] rfl rfl (fun w_ hM => (.tmp rfl .nil)) (fun w_ hM => ?_)
   exact ⟨A9, y10, h11, rfl, hM.pick 5 [2, 3, 4] (by kernel_rfl) (by decide) rfl⟩
  · --
   have hp := cnd_f hc12 hp
   refine st_skip ?_
   refine fin_then ?_
   refine st_seq ?_
   refine st_region [oF 0, oF 1, oF 2, oF 3, oF 4, oF 5] (by rfl) ?_
   refine oR [oF 0] [(33, vP b1 2), (8, vP b5 0)] [33, 8] (by kernel_rfl) ?_
   refine ops_mem (d := some 34) (an := [.v (vI i4)]) (evs := [.load ⟨b1, 2, none⟩ (vI i4)]) (v := vI i4) (M' := Mem w0 (.blk b1 [.string u2, vI i3, vI i4] 170 :: .blk b5 [.string u6, vI i7, vI i8] 170 :: .blk b_q [.slice A9 q_0.length c_q_0, vI q_1] 145 :: orow A9 q_0.length c_q_0 170 3 y10 :: Fz F W :: cs)) ⟨by kernel_rfl⟩ (fun w_ hM hS => ⟨w_, ⟨hM.cell 0 rfl rfl, rfl⟩, hM, trivial⟩) ?_
   refine oR [oF 2] [(35, vP b5 2), (34, vI i4)] [35, 34] (by kernel_rfl) ?_
   refine ops_mem (d := some 36) (an := [.v (vI i8)]) (evs := [.load ⟨b5, 2, none⟩ (vI i8)]) (v := vI i8) (M' := Mem w0 (.blk b1 [.string u2, vI i3, vI i4] 170 :: .blk b5 [.string u6, vI i7, vI i8] 170 :: .blk b_q [.slice A9 q_0.length c_q_0, vI q_1] 145 :: orow A9 q_0.length c_q_0 170 3 y10 :: Fz F W :: cs)) ⟨by kernel_rfl⟩ (fun w_ hM hS => ⟨w_, ⟨hM.cell 1 rfl rfl, rfl⟩, hM, trivial⟩) ?_
   refine oR [oF 4, oF 5] [(6, .bool (decide (i4 < i8)))] [6] (by kernel_rfl) ?_
   refine ops_nil ?_
   refine fin_then ?_
   refine st_ret ?_
   have hq_ := Option.some.inj hp
   have hr0_ := hq_
   subst hr0_
   refine fin_ret [.tmp 6] [.bool (decide (i4 < i8))] rfl rfl (fun w_ hM => (.tmp rfl .nil)) (fun w_ hM => ?_)
   exact ⟨A9, y10, h11, rfl, hM.pick 5 [2, 3, 4] (by kernel_rfl) (by decide) rfl⟩
 · --
  intro HJ1
  refine st_seq ?_
  obtain ⟨x13, hv14, hp⟩ := obind hp
  obtain ⟨x23, hv24, hp⟩ := obind hp
  refine st_region_tree (.node [oT 0, oT 1, oT 2, oT 3, oT 4, oT 5, oT 6, oT 7, oT 8, oT 9, oT 10, oT 11, oT 12, oT 13] (.leaf [oF 14, oF 15, oF 16, oF 17]) (.leaf [oF 15, oF 14, oF 16, oF 17])) (Mem w0 (.blk b_q [.slice A_q_0 q_0.length c_q_0, vI q_1] 145 :: orow A_q_0 q_0.length c_q_0 170 3 y_q_0 :: Fz F W :: cs)) (by kernel_rfl) (by kernel_rfl) (by kernel_rfl) (fun _ d _ _ _ h => by cases d <;> exact h) (M' := Mem w0 (.blk b_q [.slice A_q_0 q_0.length c_q_0, vI q_1] 145 :: orow A_q_0 q_0.length c_q_0 170 3 y_q_0 :: Fz F W :: cs)) (fun w_ hM => ⟨hM.drew, hM.drew.sub (.cons_cons _ (.cons_cons _ (.cons_cons _ (.refl _))))⟩) ?_
  refine tree_node ?_
  refine oR [oT 0, oT 1, oT 2] [(11, vP b_q 0), (0, vP b_q 0), (1, vI i), (2, vI k)] [11, 0, 1, 2] (by kernel_rfl) ?_
  refine ops_load (d := some 12) (an := [.v (.slice A_q_0 q_0.length c_q_0)]) (evs := [.load ⟨b_q, 0, none⟩ (.slice A_q_0 q_0.length c_q_0)]) (v := .slice A_q_0 q_0.length c_q_0) ⟨by kernel_rfl⟩ (fun w_ hM => ⟨hM.cell 0 rfl rfl, rfl⟩) ?_
  refine oR [oT 4] [(13, vI i), (12, .slice A_q_0 q_0.length c_q_0), (0, vP b_q 0), (2, vI k)] [13, 12, 0, 2] (by kernel_rfl) ?_
  obtain ⟨m25, hm26, hx27⟩ := idx_some hv14
  have hl30 := (List.getElem?_eq_some_iff.1 hx27).1
  refine ops_fact (fun w_ hM => hM.orowSome 1 rfl (Nat.lt_of_le_of_lt (Nat.zero_le _) hl30)) ?_
  rintro ⟨g31, rfl, -⟩
  obtain ⟨vs28, hr29, hq32⟩ := h_q_0.at_ m25 x13 hx27
  obtain rfl := dec_queue_item_string hr29
  refine ops_val (op := (Go.Op.indexAddr 143 (Go.Operand.tmp 12) (Go.Operand.tmp 13))) (d := some 14) (v := vP g31 (m25 * 3)) ⟨by kernel_rfl⟩ (run_indexRow Try.underlying143 (z := 3) (by kernel_rfl) rfl rfl hm26 hl30 rfl) ?_
  refine oR [] [(14, vP g31 (m25 * 3)), (0, vP b_q 0), (2, vI k)] [14, 0, 2] (by kernel_rfl) ?_
  refine ops_load (d := some 15) (an := [.v (.string x13.v), .v (vI x13.rank), .v (vI x13.came)]) (evs := [.load ⟨g31, m25 * 3, none⟩ (.string x13.v), .load ⟨g31, m25 * 3 + 1, none⟩ (vI x13.rank), .load ⟨g31, m25 * 3 + 2, none⟩ (vI x13.came)]) (v := .agg #[.string x13.v, vI x13.rank, vI x13.came]) ⟨by kernel_rfl⟩ (fun w_ hM => ⟨hM.ocell 1 rfl (hq32 0 _ rfl), hM.ocell 1 rfl (hq32 1 _ rfl), hM.ocell 1 rfl (hq32 2 _ rfl), rfl⟩) ?_
  refine oR [oT 7, oT 8, oT 9] [(18, vP b_q 0), (15, .agg #[.string x13.v, vI x13.rank, vI x13.came]), (2, vI k)] [18, 15, 2] (by kernel_rfl) ?_
  refine ops_load (d := some 19) (an := [.v (.slice (some ⟨g31, 0, none⟩) q_0.length c_q_0)]) (evs := [.load ⟨b_q, 0, none⟩ (.slice (some ⟨g31, 0, none⟩) q_0.length c_q_0)]) (v := .slice (some ⟨g31, 0, none⟩) q_0.length c_q_0) ⟨by kernel_rfl⟩ (fun w_ hM => ⟨hM.cell 0 rfl rfl, rfl⟩) ?_
  refine oR [oT 11] [(20, vI k), (19, .slice (some ⟨g31, 0, none⟩) q_0.length c_q_0), (15, .agg #[.string x13.v, vI x13.rank, vI x13.came])] [20, 19, 15] (by kernel_rfl) ?_
  obtain ⟨m33, hm34, hx35⟩ := idx_some hv24
  have hl38 := (List.getElem?_eq_some_iff.1 hx35).1
  obtain ⟨vs36, hr37, hq39⟩ := h_q_0.at_ m33 x23 hx35
  obtain rfl := dec_queue_item_string hr37
  refine ops_val (op := (Go.Op.indexAddr 143 (Go.Operand.tmp 19) (Go.Operand.tmp 20))) (d := some 21) (v := vP g31 (m33 * 3)) ⟨by kernel_rfl⟩ (run_indexRow Try.underlying143 (z := 3) (by kernel_rfl) rfl rfl hm34 hl38 rfl) ?_
  refine oR [] [(21, vP g31 (m33 * 3)), (15, .agg #[.string x13.v, vI x13.rank, vI x13.came])] [21, 15] (by kernel_rfl) ?_
  refine ops_load (d := some 22) (an := [.v (.string x23.v), .v (vI x23.rank), .v (vI x23.came)]) (evs := [.load ⟨g31, m33 * 3, none⟩ (.string x23.v), .load ⟨g31, m33 * 3 + 1, none⟩ (vI x23.rank), .load ⟨g31, m33 * 3 + 2, none⟩ (vI x23.came)]) (v := .agg #[.string x23.v, vI x23.rank, vI x23.came]) ⟨by kernel_rfl⟩ (fun w_ hM => ⟨hM.ocell 1 rfl (hq39 0 _ rfl), hM.ocell 1 rfl (hq39 1 _ rfl), hM.ocell 1 rfl (hq39 2 _ rfl), rfl⟩) ?_
  refine oR [] [(22, .agg #[.string x23.v, vI x23.rank, vI x23.came]), (15, .agg #[.string x13.v, vI x13.rank, vI x13.came])] [22, 15] (by kernel_rfl) ?_
  refine ops_nil ?_
  refine tree_both ?_ ?_
  · --
   refine tree_leaf ?_
   refine ops_new (d := some 7) (o := .cells #[.string ByteArray.empty, vI 0, vI 0] 170) (v := fun b40 => vP b40 0) (M' := fun b40 => Mem w0 (.blk b40 [.string ByteArray.empty, vI 0, vI 0] 170 :: .blk b_q [.slice (some ⟨g31, 0, none⟩) q_0.length c_q_0, vI q_1] 145 :: orow (some ⟨g31, 0, none⟩) q_0.length c_q_0 170 3 y_q_0 :: Fz F W :: cs)) (fun b40 => ⟨by kernel_rfl⟩) (fun w_ hM hS => ⟨hM.blk [.string ByteArray.empty, vI 0, vI 0] 170, hS.alloc _⟩) (fun b40 => ?_)
   refine ops_new (d := some 8) (o := .cells #[.string ByteArray.empty, vI 0, vI 0] 170) (v := fun b41 => vP b41 0) (M' := fun b41 => Mem w0 (.blk b41 [.string ByteArray.empty, vI 0, vI 0] 170 :: .blk b40 [.string ByteArray.empty, vI 0, vI 0] 170 :: .blk b_q [.slice (some ⟨g31, 0, none⟩) q_0.length c_q_0, vI q_1] 145 :: orow (some ⟨g31, 0, none⟩) q_0.length c_q_0 170 3 y_q_0 :: Fz F W :: cs)) (fun b41 => ⟨by kernel_rfl⟩) (fun w_ hM hS => ⟨hM.blk [.string ByteArray.empty, vI 0, vI 0] 170, hS.alloc _⟩) (fun b41 => ?_)
   refine ops_store (an := []) (evs := [.store ⟨b40, 0, none⟩ (.string x13.v), .store ⟨b40, 1, none⟩ (vI x13.rank), .store ⟨b40, 2, none⟩ (vI x13.came)]) (M' := Mem w0 (.blk b41 [.string ByteArray.empty, vI 0, vI 0] 170 :: .blk b40 [.string x13.v, vI x13.rank, vI x13.came] 170 :: .blk b_q [.slice (some ⟨g31, 0, none⟩) q_0.length c_q_0, vI q_1] 145 :: orow (some ⟨g31, 0, none⟩) q_0.length c_q_0 170 3 y_q_0 :: Fz F W :: cs)) ⟨by kernel_rfl⟩ (fun w_ hM hS => let ⟨w', he, h'⟩ := hM.evs_stores [.string x13.v, vI x13.rank, vI x13.came] 1 rfl 0 (Nat.le_of_ble_eq_true rfl); ⟨w', he, h', (by exact h'.sub (.cons _ (.cons _ (.cons_cons _ (.cons_cons _ (.cons_cons _ (.refl _)))))))⟩) ?_
   refine oR [] [(8, vP b41 0), (7, vP b40 0), (22, .agg #[.string x23.v, vI x23.rank, vI x23.came])] [8, 7, 22] (by kernel_rfl) ?_
   refine ops_store (an := []) (evs := [.store ⟨b41, 0, none⟩ (.string x23.v), .store ⟨b41, 1, none⟩ (vI x23.rank), .store ⟨b41, 2, none⟩ (vI x23.came)]) (M' := Mem w0 (.blk b41 [.string x23.v, vI x23.rank, vI x23.came] 170 :: .blk b40 [.string x13.v, vI x13.rank, vI x13.came] 170 :: .blk b_q [.slice (some ⟨g31, 0, none⟩) q_0.length c_q_0, vI q_1] 145 :: orow (some ⟨g31, 0, none⟩) q_0.length c_q_0 170 3 y_q_0 :: Fz F W :: cs)) ⟨by kernel_rfl⟩ (fun w_ hM hS => let ⟨w', he, h'⟩ := hM.evs_stores [.string x23.v, vI x23.rank, vI x23.came] 0 rfl 0 (Nat.le_of_ble_eq_true rfl); ⟨w', he, h', (by exact h'.sub (.cons _ (.cons _ (.cons_cons _ (.cons_cons _ (.cons_cons _ (.refl _)))))))⟩) ?_
   refine oR [] [(8, vP b41 0), (7, vP b40 0)] [8, 7] (by kernel_rfl) ?_
   refine ops_nil ?_
   exact fin_join HJ1 (b40, x13.v, x13.rank, x13.came, b41, x23.v, x23.rank, x23.came, (some ⟨g31, 0, none⟩), y_q_0) ⟨hp, h_q_0⟩ (look_has ⟨rfl, rfl, trivial⟩) (fun w_ hM => hM.pick 5 [1, 0, 2, 3, 4] (by kernel_rfl) (by decide) rfl)
  · --
   refine tree_leaf ?_
   refine ops_new (d := some 8) (o := .cells #[.string ByteArray.empty, vI 0, vI 0] 170) (v := fun b42 => vP b42 0) (M' := fun b42 => Mem w0 (.blk b42 [.string ByteArray.empty, vI 0, vI 0] 170 :: .blk b_q [.slice (some ⟨g31, 0, none⟩) q_0.length c_q_0, vI q_1] 145 :: orow (some ⟨g31, 0, none⟩) q_0.length c_q_0 170 3 y_q_0 :: Fz F W :: cs)) (fun b42 => ⟨by kernel_rfl⟩) (fun w_ hM hS => ⟨hM.blk [.string ByteArray.empty, vI 0, vI 0] 170, hS.alloc _⟩) (fun b42 => ?_)
   refine ops_new (d := some 7) (o := .cells #[.string ByteArray.empty, vI 0, vI 0] 170) (v := fun b43 => vP b43 0) (M' := fun b43 => Mem w0 (.blk b43 [.string ByteArray.empty, vI 0, vI 0] 170 :: .blk b42 [.string ByteArray.empty, vI 0, vI 0] 170 :: .blk b_q [.slice (some ⟨g31, 0, none⟩) q_0.length c_q_0, vI q_1] 145 :: orow (some ⟨g31, 0, none⟩) q_0.length c_q_0 170 3 y_q_0 :: Fz F W :: cs)) (fun b43 => ⟨by kernel_rfl⟩) (fun w_ hM hS => ⟨hM.blk [.string ByteArray.empty, vI 0, vI 0] 170, hS.alloc _⟩) (fun b43 => ?_)
   refine ops_store (an := []) (evs := [.store ⟨b43, 0, none⟩ (.string x13.v), .store ⟨b43, 1, none⟩ (vI x13.rank), .store ⟨b43, 2, none⟩ (vI x13.came)]) (M' := Mem w0 (.blk b43 [.string x13.v, vI x13.rank, vI x13.came] 170 :: .blk b42 [.string ByteArray.empty, vI 0, vI 0] 170 :: .blk b_q [.slice (some ⟨g31, 0, none⟩) q_0.length c_q_0, vI q_1] 145 :: orow (some ⟨g31, 0, none⟩) q_0.length c_q_0 170 3 y_q_0 :: Fz F W :: cs)) ⟨by kernel_rfl⟩ (fun w_ hM hS => let ⟨w', he, h'⟩ := hM.evs_stores [.string x13.v, vI x13.rank, vI x13.came] 0 rfl 0 (Nat.le_of_ble_eq_true rfl); ⟨w', he, h', (by exact h'.sub (.cons _ (.cons _ (.cons_cons _ (.cons_cons _ (.cons_cons _ (.refl _)))))))⟩) ?_
   refine oR [] [(7, vP b43 0), (8, vP b42 0), (22, .agg #[.string x23.v, vI x23.rank, vI x23.came])] [7, 8, 22] (by kernel_rfl) ?_
   refine ops_store (an := []) (evs := [.store ⟨b42, 0, none⟩ (.string x23.v), .store ⟨b42, 1, none⟩ (vI x23.rank), .store ⟨b42, 2, none⟩ (vI x23.came)]) (M' := Mem w0 (.blk b43 [.string x13.v, vI x13.rank, vI x13.came] 170 :: .blk b42 [.string x23.v, vI x23.rank, vI x23.came] 170 :: .blk b_q [.slice (some ⟨g31, 0, none⟩) q_0.length c_q_0, vI q_1] 145 :: orow (some ⟨g31, 0, none⟩) q_0.length c_q_0 170 3 y_q_0 :: Fz F W :: cs)) ⟨by kernel_rfl⟩ (fun w_ hM hS => let ⟨w', he, h'⟩ := hM.evs_stores [.string x23.v, vI x23.rank, vI x23.came] 1 rfl 0 (Nat.le_of_ble_eq_true rfl); ⟨w', he, h', (by exact h'.sub (.cons _ (.cons _ (.cons_cons _ (.cons_cons _ (.cons_cons _ (.refl _)))))))⟩) ?_
   refine oR [] [(7, vP b43 0), (8, vP b42 0)] [7, 8] (by kernel_rfl) ?_
   refine ops_nil ?_
   exact fin_join HJ1 (b43, x13.v, x13.rank, x13.came, b42, x23.v, x23.rank, x23.came, (some ⟨g31, 0, none⟩), y_q_0) ⟨hp, h_q_0⟩ (look_has ⟨rfl, rfl, trivial⟩) (fun w_ hM => hM)
set_option maxHeartbeats 4000000 in
set_option maxRecDepth 100000 in
theorem queue_Queue_string_Put_ok (w0 w : World) (cs : List Chunk) (F : Nat → Prop) (W : World) (b_q : Nat) (A_q_0 : Option Addr) (c_q_0 : Nat) (q_0 : List queue_item_string) (y_q_0 : List Value) (q_1 : Int) (v : ByteArray) (rank : Int) (hM0 : Mem w0 (.blk b_q [.slice A_q_0 q_0.length c_q_0, vI q_1] 145 :: orow A_q_0 q_0.length c_q_0 170 3 y_q_0 :: Fz F W :: cs) w) (h_q_0 : RepL R_queue_item_string F W q_0 y_q_0) (i9001 : Int) (l9004 : List queue_item_string) (i9007 : Int) (hp : queue_Queue_string_Put q_0 q_1 v rank = some (i9001, l9004, i9007)) : Calls Try.prog 112 #[vP b_q 0, .string v, vI rank] w fun e w' => ∃ (A9002 : Option Addr), ∃ (c9003 : Nat), ∃ (y9005 : List Value), ((RepL R_queue_item_string F W l9004 y9005)) ∧ e = .returned (vI i9001) ∧ Mem w0 (.blk b_q [.slice A9002 l9004.length c9003, vI i9007] 145 :: orow A9002 l9004.length c9003 170 3 y9005 :: Fz F W :: cs) w' := by
 unfold queue_Queue_string_Put at hp
 refine sx_calls Try.func112 rfl (n := 86) (by kernel_rfl) (l := [(0, vP b_q 0), (1, .string v), (2, vI rank)]) rfl (by rfl) hM0 ?_
 refine st_seq ?_
 refine st_region [oF 0] (by rfl) ?_
 refine oR [oF 0] [(0, vP b_q 0), (1, .string v), (2, vI rank)] [0, 1, 2] (by kernel_rfl) ?_
 refine ops_nil ?_
 refine fin_then ?_
 refine st_seq ?_
 refine st_seq ?_
 refine st_region [oF 0, oF 1, oF 2, oF 3, oF 4, oF 5] (by rfl) ?_
 refine oR [oF 0, oF 1, oF 2] [(10, vP b_q 0), (0, vP b_q 0), (1, .string v), (2, vI rank)] [10, 0, 1, 2] (by kernel_rfl) ?_
 refine ops_mem (d := some 11) (an := [.v (.slice A_q_0 q_0.length c_q_0)]) (evs := [.load ⟨b_q, 0, none⟩ (.slice A_q_0 q_0.length c_q_0)]) (v := .slice A_q_0 q_0.length c_q_0) (M' := Mem w0 (.blk b_q [.slice A_q_0 q_0.length c_q_0, vI q_1] 145 :: orow A_q_0 q_0.length c_q_0 170 3 y_q_0 :: Fz F W :: cs)) ⟨by kernel_rfl⟩ (fun w_ hM hS => ⟨w_, ⟨hM.cell 0 rfl rfl, rfl⟩, hM, trivial⟩) ?_
 refine oR [oF 4, oF 5] [(13, .bool (decide (4096 ≤ (q_0.length : Int)))), (0, vP b_q 0), (1, .string v), (2, vI rank)] [13, 0, 1, 2] (by kernel_rfl) ?_
 refine ops_nil ?_
 refine fin_then ?_
 refine st_if (b := decide (4096 ≤ (q_0.length : Int))) rfl (fun hc1 => ?_) (fun hc1 => ?_)
 · --
  have hp := cnd_t hc1 hp
  refine st_seq ?_
  refine st_region [oF 0] (by rfl) ?_
  refine oR [oF 0] [(6, vI 6)] [6] (by kernel_rfl) ?_
  refine ops_nil ?_
  refine fin_then ?_
  refine st_ret ?_
  refine fin_ret_then ?_
  have hq_ := Option.some.inj hp
  obtain ⟨hr0_, hq_⟩ := Prod.mk.inj hq_
  obtain ⟨hr1_, hq_⟩ := Prod.mk.inj hq_
  have hr2_ := hq_
  subst hr0_
  subst hr1_
  subst hr2_
  refine fin_ret [.tmp 6] [vI 6] rfl rfl (fun w_ hM => (.tmp rfl .nil)) (fun w_ hM => ?_)
  exact ⟨A_q_0, c_q_0, y_q_0, h_q_0, rfl, hM⟩
 · --
  have hp := cnd_f hc1 hp
  refine st_skip ?_
  refine fin_then ?_
  refine st_join1 (σ := (Option Addr) × Nat × (List queue_item_string) × (List Value)) (L := fun x_ => match x_ with | (A2, c3, l4, y5) => [(0, vP b_q 0)]) (N := fun x_ => match x_ with | (A2, c3, l4, y5) => Mem w0 (.blk b_q [.slice A2 l4.length c3, vI q_1] 145 :: orow A2 l4.length c3 170 3 y5 :: Fz F W :: cs)) (I := fun x_ => match x_ with | (A2, c3, l4, y5) => ((queue_Queue_string_Put_j1 q_1) l4 = some (i9001, l9004, i9007)) ∧ (RepL R_queue_item_string F W l4 y5)) ?_ ?_
  · --
   rintro ⟨A2, c3, l4, y5⟩ ⟨hp, h6⟩
   refine st_conv (l' := [(0, vP b_q 0)]) (M' := Mem w0 (.blk b_q [.slice A2 l4.length c3, vI q_1] 145 :: orow A2 l4.length c3 170 3 y5 :: Fz F W :: cs)) rfl (fun _ h => h) ?_
   unfold queue_Queue_string_Put_j1 at hp
   refine st_seq ?_
   refine st_region [oF 0, oF 1, oF 2, oF 3, oF 4, oF 5, oF 6, oF 7] (by rfl) ?_
   refine oR [oF 0, oF 1, oF 2] [(32, vP b_q 1), (30, vP b_q 0), (0, vP b_q 0)] [32, 30, 0] (by kernel_rfl) ?_
   refine ops_mem (d := some 33) (an := [.v (vI q_1)]) (evs := [.load ⟨b_q, 1, none⟩ (vI q_1)]) (v := vI q_1) (M' := Mem w0 (.blk b_q [.slice A2 l4.length c3, vI q_1] 145 :: orow A2 l4.length c3 170 3 y5 :: Fz F W :: cs)) ⟨by kernel_rfl⟩ (fun w_ hM hS => ⟨w_, ⟨hM.cell 0 rfl rfl, rfl⟩, hM, trivial⟩) ?_
   refine oR [oF 4, oF 5, oF 6] [(36, vP b_q 1), (34, vI (IntKind.i64.wrap (q_1 + 1))), (0, vP b_q 0)] [36, 34, 0] (by kernel_rfl) ?_
   refine ops_store (an := []) (evs := [.store ⟨b_q, 1, none⟩ (vI (IntKind.i64.wrap (q_1 + 1)))]) (M' := Mem w0 (.blk b_q [.slice A2 l4.length c3, vI (IntKind.i64.wrap (q_1 + 1))] 145 :: orow A2 l4.length c3 170 3 y5 :: Fz F W :: cs)) ⟨by kernel_rfl⟩ (fun w_ hM hS => let ⟨w', he, h'⟩ := hM.evs_stores [vI (IntKind.i64.wrap (q_1 + 1))] 0 rfl 1 (Nat.le_of_ble_eq_true rfl); ⟨w', he, h', trivial⟩) ?_
   refine oR [] [(0, vP b_q 0)] [0] (by kernel_rfl) ?_
   refine ops_nil ?_
   refine fin_then ?_
   refine st_join1 (σ := (Option Addr) × (List queue_item_string) × (List Value) × Int) (L := fun x_ => match x_ with | (A7, l8, y9, i11) => []) (N := fun x_ => match x_ with | (A7, l8, y9, i11) => Mem w0 (.blk b_q [.slice A7 l8.length c3, vI i11] 145 :: orow A7 l8.length c3 170 3 y9 :: Fz F W :: cs)) (I := fun x_ => match x_ with | (A7, l8, y9, i11) => (queue_Queue_string_Put_j2 l8 i11 = some (i9001, l9004, i9007)) ∧ (RepL R_queue_item_string F W l8 y9)) ?_ ?_
   · --
    rintro ⟨A7, l8, y9, i11⟩ ⟨hp, h10⟩
    refine st_conv (l' := []) (M' := Mem w0 (.blk b_q [.slice A7 l8.length c3, vI i11] 145 :: orow A7 l8.length c3 170 3 y9 :: Fz F W :: cs)) rfl (fun _ h => h) ?_
    unfold queue_Queue_string_Put_j2 at hp
    refine st_seq ?_
    refine st_region [oF 0] (by rfl) ?_
    refine oR [oF 0] [(6, vI 0)] [6] (by kernel_rfl) ?_
    refine ops_nil ?_
    refine fin_then ?_
    refine st_ret ?_
    have hq_ := Option.some.inj hp
    obtain ⟨hr0_, hq_⟩ := Prod.mk.inj hq_
    obtain ⟨hr1_, hq_⟩ := Prod.mk.inj hq_
    have hr2_ := hq_
    subst hr0_
    subst hr1_
    subst hr2_
    refine fin_ret [.tmp 6] [vI 0] rfl rfl (fun w_ hM => (.tmp rfl .nil)) (fun w_ hM => ?_)
    exact ⟨A7, c3, y9, h10, rfl, hM⟩
   · --
    intro HJ2
    refine st_seq ?_
    refine st_seq ?_
    refine st_region [oF 0, oF 1, oF 2, oF 3, oF 4, oF 5, oF 6] (by rfl) ?_
    refine oR [oF 0, oF 1, oF 2] [(39, vP b_q 0), (0, vP b_q 0)] [39, 0] (by kernel_rfl) ?_
    refine ops_mem (d := some 40) (an := [.v (.slice A2 l4.length c3)]) (evs := [.load ⟨b_q, 0, none⟩ (.slice A2 l4.length c3)]) (v := .slice A2 l4.length c3) (M' := Mem w0 (.blk b_q [.slice A2 l4.length c3, vI (IntKind.i64.wrap (q_1 + 1))] 145 :: orow A2 l4.length c3 170 3 y5 :: Fz F W :: cs)) ⟨by kernel_rfl⟩ (fun w_ hM hS => ⟨w_, ⟨hM.cell 0 rfl rfl, rfl⟩, hM, trivial⟩) ?_
    refine oR [oF 4, oF 5, oF 6] [(7, vI (IntKind.i64.wrap ((l4.length : Int) - 1))), (0, vP b_q 0)] [7, 0] (by kernel_rfl) ?_
    refine ops_nil ?_
    refine fin_then ?_
    refine st_block ?_
    obtain ⟨r3, hl3, hk3⟩ := obind hp
    refine st_loopP (σ := (List queue_item_string) × Int × Int) (ρ := (List queue_item_string) × Int) (γ := (Option Addr) × (List Value)) hl3 (A2, y5) (fun s_ g_ => match s_, g_ with | (l13, i16, i17), (A12, y14) => [(0, vP b_q 0), (7, vI i17)]) (fun s_ g_ => match s_, g_ with | (l13, i16, i17), (A12, y14) => Mem w0 (.blk b_q [.slice A12 l13.length c3, vI i16] 145 :: orow A12 l13.length c3 170 3 y14 :: Fz F W :: cs)) (fun s_ g_ => match s_, g_ with | (l13, i16, i17), (A12, y14) => (RepL R_queue_item_string F W l13 y14)) h6 (look_has ⟨rfl, rfl, trivial⟩) (fun w_ hM => hM) ?_
    rintro ⟨l13, i16, i17⟩ ⟨A12, y14⟩ o3 h15 hs_ hd3
    have hp : queue_Queue_string_Put_l3 l13 i16 i17 = some o3 := hs_
    clear hs_
    unfold queue_Queue_string_Put_l3 at hp
    refine st_conv (l' := [(0, vP b_q 0), (7, vI i17)]) (M' := Mem w0 (.blk b_q [.slice A12 l13.length c3, vI i16] 145 :: orow A12 l13.length c3 170 3 y14 :: Fz F W :: cs)) rfl (fun _ h => h) ?_
    refine st_seq ?_
    refine st_seq ?_
    refine st_region [oF 0, oF 1, oF 2, oF 3, oF 4, oF 5, oF 6, oF 7, oF 8, oF 9] (by rfl) ?_
    refine oR [oF 0, oF 1, oF 2] [(45, .bool (decide (0 < i17))), (0, vP b_q 0), (7, vI i17)] [45, 0, 7] (by kernel_rfl) ?_
    refine ops_bool (t := decide (0 < i17)) (l1 := [(45, .bool true), (0, vP b_q 0), (7, vI i17)]) (l2 := [(45, .bool false), (0, vP b_q 0), (7, vI i17)]) (fun h => by rw [h]) (fun h => by rw [h]) (fun hc18 => ?_) (fun hc18 => ?_)
    · --
     have hp := cnd_t hc18 hp
     refine oR [oF 3, oF 4, oF 5, oF 6, oF 7] [(50, vI (IntKind.i64.wrap (Int.tdiv (IntKind.i64.wrap (i17 - 1)) 2))), (47, vI i17), (46, vP b_q 0), (45, .bool true), (0, vP b_q 0), (7, vI i17)] [50, 47, 46, 45, 0, 7] (by kernel_rfl) ?_
     obtain ⟨x19, hv20, hp⟩ := obind hp
     refine ops_callI (σ := (Option Addr) × (List Value)) (d := some 51) (f := 136) (args := #[vP b_q 0, vI i17, vI (IntKind.i64.wrap (Int.tdiv (IntKind.i64.wrap (i17 - 1)) 2))]) (v := (fun x_ => match x_ with | (A21, y22) => .bool x19)) (I := (fun x_ => match x_ with | (A21, y22) => (RepL R_queue_item_string F W l13 y22))) (M' := (fun x_ => match x_ with | (A21, y22) => Mem w0 (orow A21 l13.length c3 170 3 y22 :: .blk b_q [.slice A21 l13.length c3, vI i16] 145 :: Fz F W :: cs))) ⟨by kernel_rfl⟩ (fun w_ hM hS => (queue_Queue_string_before_ok w0 w_ (cs) F W b_q A12 c3 l13 y14 i16 i17 (IntKind.i64.wrap (Int.tdiv (IntKind.i64.wrap (i17 - 1)) 2)) hM h15 x19 hv20).mono (by rintro e w' ⟨A21, y22, h23, rfl, h'⟩; have h' : Mem w0 (orow A21 l13.length c3 170 3 y22 :: .blk b_q [.slice A21 l13.length c3, vI i16] 145 :: Fz F W :: cs) w' := (h'.pick 3 [1, 0, 2] (by kernel_rfl) (by decide) rfl); exact ⟨(A21, y22), h23, rfl, h', trivial⟩)) ?_
     rintro ⟨A21, y22⟩ h23
     refine ops_conv (l' := [(51, .bool x19), (50, vI (IntKind.i64.wrap (Int.tdiv (IntKind.i64.wrap (i17 - 1)) 2))), (47, vI i17), (46, vP b_q 0), (45, .bool true), (0, vP b_q 0), (7, vI i17)]) (M' := Mem w0 (orow A21 l13.length c3 170 3 y22 :: .blk b_q [.slice A21 l13.length c3, vI i16] 145 :: Fz F W :: cs)) rfl (fun _ h => h) ?_
     refine oR [oF 9] [(52, .bool x19), (0, vP b_q 0), (7, vI i17)] [52, 0, 7] (by kernel_rfl) ?_
     refine ops_nil ?_
     refine fin_then ?_
     refine st_if (b := x19) rfl (fun hc24 => ?_) (fun hc24 => ?_)
     · --
      have hp := cnd_t hc24 hp
      refine st_skip ?_
      refine fin_then ?_
      refine st_join1 (σ := (Option Addr) × (List queue_item_string) × (List Value)) (L := fun x_ => match x_ with | (A25, l26, y27) => [(0, vP b_q 0), (7, vI i17)]) (N := fun x_ => match x_ with | (A25, l26, y27) => Mem w0 (.blk b_q [.slice A25 l26.length c3, vI i16] 145 :: orow A25 l26.length c3 170 3 y27 :: Fz F W :: cs)) (I := fun x_ => match x_ with | (A25, l26, y27) => ((queue_Queue_string_Put_j4 i16 i17) l26 = some o3) ∧ (RepL R_queue_item_string F W l26 y27)) ?_ ?_
      · --
       rintro ⟨A25, l26, y27⟩ ⟨hp, h28⟩
       refine st_conv (l' := [(0, vP b_q 0), (7, vI i17)]) (M' := Mem w0 (.blk b_q [.slice A25 l26.length c3, vI i16] 145 :: orow A25 l26.length c3 170 3 y27 :: Fz F W :: cs)) rfl (fun _ h => h) ?_
       unfold queue_Queue_string_Put_j4 at hp
       refine st_region [oF 0, oF 1, oF 2, oF 3] (by rfl) ?_
       refine oR [oF 0, oF 1, oF 2, oF 3] [(7, vI (IntKind.i64.wrap (Int.tdiv (IntKind.i64.wrap (i17 - 1)) 2))), (0, vP b_q 0)] [7, 0] (by kernel_rfl) ?_
       refine ops_nil ?_
       exact fin_again (l26, i16, IntKind.i64.wrap (Int.tdiv (IntKind.i64.wrap (i17 - 1)) 2)) (A25, y27) (Option.some.inj hp).symm h28 (look_has ⟨rfl, rfl, trivial⟩) (fun w_ hM => hM)
      · --
       intro HJ4
       refine st_seq ?_
       refine st_block ?_
       obtain ⟨x29, hv30, hp⟩ := obind hp
       obtain ⟨x39, hv40, hp⟩ := obind hp
       obtain ⟨x48, hv49, hp⟩ := obind hp
       obtain ⟨l57, hv58, hp⟩ := obind hp
       obtain ⟨x68, hv69, hp⟩ := obind hp
       obtain ⟨l77, hv78, hp⟩ := obind hp
       refine st_region_tree (.node [oT 0, oT 1, oT 2, oT 3, oT 4, oT 5, oT 6, oT 7, oT 8, oT 9, oT 10, oT 11, oT 12, oT 13, oT 14, oT 15, oT 16, oT 17, oT 18, oT 19, oT 21, oT 22, oT 23, oT 24, oT 25, oT 26] (.leaf [oF 20, oF 27, oT 28, oF 29, oT 30, oF 31]) (.leaf [oF 27, oF 20, oT 28, oF 29, oT 30, oF 31])) (Mem w0 (.blk b_q [.slice A21 l13.length c3, vI i16] 145 :: Fz F W :: cs)) (by kernel_rfl) (by kernel_rfl) (by kernel_rfl) (fun _ d _ _ _ h => by cases d <;> exact h) (M' := Mem w0 (orow A21 l13.length c3 170 3 y22 :: .blk b_q [.slice A21 l13.length c3, vI i16] 145 :: Fz F W :: cs)) (fun w_ hM => ⟨hM.drew, hM.drew.sub (.cons _ (.cons_cons _ (.cons_cons _ (.refl _))))⟩) ?_
       refine tree_node ?_
       refine oR [oT 0, oT 1, oT 2] [(58, vP b_q 0), (0, vP b_q 0), (7, vI i17)] [58, 0, 7] (by kernel_rfl) ?_
       refine ops_load (d := some 59) (an := [.v (.slice A21 l13.length c3)]) (evs := [.load ⟨b_q, 0, none⟩ (.slice A21 l13.length c3)]) (v := .slice A21 l13.length c3) ⟨by kernel_rfl⟩ (fun w_ hM => ⟨hM.cell 0 rfl rfl, rfl⟩) ?_
       refine oR [oT 4, oT 5, oT 6, oT 7] [(63, vP b_q 0), (60, vI i17), (59, .slice A21 l13.length c3), (0, vP b_q 0), (7, vI i17)] [63, 60, 59, 0, 7] (by kernel_rfl) ?_
       refine ops_load (d := some 64) (an := [.v (.slice A21 l13.length c3)]) (evs := [.load ⟨b_q, 0, none⟩ (.slice A21 l13.length c3)]) (v := .slice A21 l13.length c3) ⟨by kernel_rfl⟩ (fun w_ hM => ⟨hM.cell 0 rfl rfl, rfl⟩) ?_
       refine oR [oT 9, oT 10, oT 11, oT 12, oT 13, oT 14] [(70, vP b_q 0), (67, vI (IntKind.i64.wrap (Int.tdiv (IntKind.i64.wrap (i17 - 1)) 2))), (64, .slice A21 l13.length c3), (60, vI i17), (59, .slice A21 l13.length c3), (0, vP b_q 0), (7, vI i17)] [70, 67, 64, 60, 59, 0, 7] (by kernel_rfl) ?_
       refine ops_load (d := some 71) (an := [.v (.slice A21 l13.length c3)]) (evs := [.load ⟨b_q, 0, none⟩ (.slice A21 l13.length c3)]) (v := .slice A21 l13.length c3) ⟨by kernel_rfl⟩ (fun w_ hM => ⟨hM.cell 0 rfl rfl, rfl⟩) ?_
       refine oR [oT 16, oT 17, oT 18] [(74, vI (IntKind.i64.wrap (Int.tdiv (IntKind.i64.wrap (i17 - 1)) 2))), (71, .slice A21 l13.length c3), (67, vI (IntKind.i64.wrap (Int.tdiv (IntKind.i64.wrap (i17 - 1)) 2))), (64, .slice A21 l13.length c3), (60, vI i17), (59, .slice A21 l13.length c3), (0, vP b_q 0), (7, vI i17)] [74, 71, 67, 64, 60, 59, 0, 7] (by kernel_rfl) ?_
       obtain ⟨m79, hm80, hx81⟩ := idx_some hv30
       have hl84 := (List.getElem?_eq_some_iff.1 hx81).1
       refine ops_fact (fun w_ hM => hM.orowSome 0 rfl (Nat.lt_of_le_of_lt (Nat.zero_le _) hl84)) ?_
       rintro ⟨g85, rfl, -⟩
       obtain ⟨vs82, hr83, hq86⟩ := h23.at_ m79 x29 hx81
       obtain rfl := dec_queue_item_string hr83
       refine ops_val (op := (Go.Op.indexAddr 143 (Go.Operand.tmp 71) (Go.Operand.tmp 74))) (d := some 75) (v := vP g85 (m79 * 3)) ⟨by kernel_rfl⟩ (run_indexRow Try.underlying143 (z := 3) (by kernel_rfl) rfl rfl hm80 hl84 rfl) ?_
       refine oR [oT 21, oT 22, oT 23] [(79, vP b_q 0), (75, vP g85 (m79 * 3)), (67, vI (IntKind.i64.wrap (Int.tdiv (IntKind.i64.wrap (i17 - 1)) 2))), (64, .slice (some ⟨g85, 0, none⟩) l13.length c3), (60, vI i17), (59, .slice (some ⟨g85, 0, none⟩) l13.length c3), (0, vP b_q 0), (7, vI i17)] [79, 75, 67, 64, 60, 59, 0, 7] (by kernel_rfl) ?_
       refine ops_load (d := some 80) (an := [.v (.slice (some ⟨g85, 0, none⟩) l13.length c3)]) (evs := [.load ⟨b_q, 0, none⟩ (.slice (some ⟨g85, 0, none⟩) l13.length c3)]) (v := .slice (some ⟨g85, 0, none⟩) l13.length c3) ⟨by kernel_rfl⟩ (fun w_ hM => ⟨hM.cell 0 rfl rfl, rfl⟩) ?_
       refine oR [oT 25] [(81, vI i17), (80, .slice (some ⟨g85, 0, none⟩) l13.length c3), (75, vP g85 (m79 * 3)), (67, vI (IntKind.i64.wrap (Int.tdiv (IntKind.i64.wrap (i17 - 1)) 2))), (64, .slice (some ⟨g85, 0, none⟩) l13.length c3), (60, vI i17), (59, .slice (some ⟨g85, 0, none⟩) l13.length c3), (0, vP b_q 0), (7, vI i17)] [81, 80, 75, 67, 64, 60, 59, 0, 7] (by kernel_rfl) ?_
       obtain ⟨m87, hm88, hx89⟩ := idx_some hv40
       have hl92 := (List.getElem?_eq_some_iff.1 hx89).1
       obtain ⟨vs90, hr91, hq93⟩ := h23.at_ m87 x39 hx89
       obtain rfl := dec_queue_item_string hr91
       refine ops_val (op := (Go.Op.indexAddr 143 (Go.Operand.tmp 80) (Go.Operand.tmp 81))) (d := some 82) (v := vP g85 (m87 * 3)) ⟨by kernel_rfl⟩ (run_indexRow Try.underlying143 (z := 3) (by kernel_rfl) rfl rfl hm88 hl92 rfl) ?_
       refine oR [] [(82, vP g85 (m87 * 3)), (75, vP g85 (m79 * 3)), (67, vI (IntKind.i64.wrap (Int.tdiv (IntKind.i64.wrap (i17 - 1)) 2))), (64, .slice (some ⟨g85, 0, none⟩) l13.length c3), (60, vI i17), (59, .slice (some ⟨g85, 0, none⟩) l13.length c3), (0, vP b_q 0), (7, vI i17)] [82, 75, 67, 64, 60, 59, 0, 7] (by kernel_rfl) ?_
       refine ops_nil ?_
       refine tree_both ?_ ?_
       · --
        refine tree_leaf ?_
        refine ops_mem (d := some 76) (an := [.v (.string x29.v), .v (vI x29.rank), .v (vI x29.came)]) (evs := [.load ⟨g85, m79 * 3, none⟩ (.string x29.v), .load ⟨g85, m79 * 3 + 1, none⟩ (vI x29.rank), .load ⟨g85, m79 * 3 + 2, none⟩ (vI x29.came)]) (v := .agg #[.string x29.v, vI x29.rank, vI x29.came]) (M' := Mem w0 (orow (some ⟨g85, 0, none⟩) l13.length c3 170 3 y22 :: .blk b_q [.slice (some ⟨g85, 0, none⟩) l13.length c3, vI i16] 145 :: Fz F W :: cs)) ⟨by kernel_rfl⟩ (fun w_ hM hS => ⟨w_, ⟨hM.ocell 0 rfl (hq86 0 _ rfl), hM.ocell 0 rfl (hq86 1 _ rfl), hM.ocell 0 rfl (hq86 2 _ rfl), rfl⟩, hM, hS⟩) ?_
        refine oR [] [(76, .agg #[.string x29.v, vI x29.rank, vI x29.came]), (82, vP g85 (m87 * 3)), (67, vI (IntKind.i64.wrap (Int.tdiv (IntKind.i64.wrap (i17 - 1)) 2))), (64, .slice (some ⟨g85, 0, none⟩) l13.length c3), (60, vI i17), (59, .slice (some ⟨g85, 0, none⟩) l13.length c3), (0, vP b_q 0), (7, vI i17)] [76, 82, 67, 64, 60, 59, 0, 7] (by kernel_rfl) ?_
        refine ops_mem (d := some 83) (an := [.v (.string x39.v), .v (vI x39.rank), .v (vI x39.came)]) (evs := [.load ⟨g85, m87 * 3, none⟩ (.string x39.v), .load ⟨g85, m87 * 3 + 1, none⟩ (vI x39.rank), .load ⟨g85, m87 * 3 + 2, none⟩ (vI x39.came)]) (v := .agg #[.string x39.v, vI x39.rank, vI x39.came]) (M' := Mem w0 (orow (some ⟨g85, 0, none⟩) l13.length c3 170 3 y22 :: .blk b_q [.slice (some ⟨g85, 0, none⟩) l13.length c3, vI i16] 145 :: Fz F W :: cs)) ⟨by kernel_rfl⟩ (fun w_ hM hS => ⟨w_, ⟨hM.ocell 0 rfl (hq93 0 _ rfl), hM.ocell 0 rfl (hq93 1 _ rfl), hM.ocell 0 rfl (hq93 2 _ rfl), rfl⟩, hM, hS⟩) ?_
        refine oR [] [(83, .agg #[.string x39.v, vI x39.rank, vI x39.came]), (76, .agg #[.string x29.v, vI x29.rank, vI x29.came]), (67, vI (IntKind.i64.wrap (Int.tdiv (IntKind.i64.wrap (i17 - 1)) 2))), (64, .slice (some ⟨g85, 0, none⟩) l13.length c3), (60, vI i17), (59, .slice (some ⟨g85, 0, none⟩) l13.length c3), (0, vP b_q 0), (7, vI i17)] [83, 76, 67, 64, 60, 59, 0, 7] (by kernel_rfl) ?_
        obtain ⟨m94, hm95, hx96⟩ := idx_some hv49
        have hl99 := (List.getElem?_eq_some_iff.1 hx96).1
        obtain ⟨vs97, hr98, hq100⟩ := h23.at_ m94 x48 hx96
        obtain rfl := dec_queue_item_string hr98
        refine ops_val (op := (Go.Op.indexAddr 143 (Go.Operand.tmp 59) (Go.Operand.tmp 60))) (d := some 84) (v := vP g85 (m94 * 3)) ⟨by kernel_rfl⟩ (run_indexRow Try.underlying143 (z := 3) (by kernel_rfl) rfl rfl hm95 hl99 rfl) ?_
        refine oR [] [(84, vP g85 (m94 * 3)), (83, .agg #[.string x39.v, vI x39.rank, vI x39.came]), (76, .agg #[.string x29.v, vI x29.rank, vI x29.came]), (67, vI (IntKind.i64.wrap (Int.tdiv (IntKind.i64.wrap (i17 - 1)) 2))), (64, .slice (some ⟨g85, 0, none⟩) l13.length c3), (0, vP b_q 0), (7, vI i17)] [84, 83, 76, 67, 64, 0, 7] (by kernel_rfl) ?_
        obtain ⟨m101, hm102, hl103, he104⟩ := upd_some hv58
        obtain rfl : m94 = m101 := by have := hm95; omega
        have hl105 : l13.length = l57.length := by rw [he104, List.length_set]
        obtain ⟨y106, hy107⟩ : ∃ y_, setAll y22 (m94 * 3 + 0) [.string x29.v, vI x29.rank, vI x29.came] = y_ := ⟨_, rfl⟩
        have h108 : RepL R_queue_item_string F W l57 y106 := by rw [he104, ← hy107]; exact RepL.set h23 (List.getElem?_eq_getElem hl103) (fun vs_ hr_ _ => by obtain rfl := dec_queue_item_string hr_; exact ⟨(enc_queue_item_string), Nat.le_of_ble_eq_true rfl⟩)
        refine ops_store (an := []) (evs := [.store ⟨g85, m94 * 3, none⟩ (.string x29.v), .store ⟨g85, m94 * 3 + 1, none⟩ (vI x29.rank), .store ⟨g85, m94 * 3 + 2, none⟩ (vI x29.came)]) (M' := Mem w0 (orow (some ⟨g85, 0, none⟩) l57.length c3 170 3 y106 :: .blk b_q [.slice (some ⟨g85, 0, none⟩) l13.length c3, vI i16] 145 :: Fz F W :: cs)) ⟨by kernel_rfl⟩ (fun w_ hM hS => let ⟨w', he, h'⟩ := hM.ostore' 0 rfl (m94 * 3 + 0) [.string x29.v, vI x29.rank, vI x29.came] (by have z_ : y22.length = l13.length * 3 := h23.len; have y_ : (m94 + 1) * 3 ≤ l13.length * 3 := Nat.mul_le_mul_right _ hl103; rw [Nat.add_mul] at y_; simp only [List.length_cons, List.length_nil]; omega) hl105 hy107; ⟨w', he, h', (by exact h'.sub (.cons _ (.cons_cons _ (.cons_cons _ (.refl _)))))⟩) ?_
        refine ops_conv (l' := [(84, vP g85 (m94 * 3)), (83, .agg #[.string x39.v, vI x39.rank, vI x39.came]), (76, .agg #[.string x29.v, vI x29.rank, vI x29.came]), (67, vI (IntKind.i64.wrap (Int.tdiv (IntKind.i64.wrap (i17 - 1)) 2))), (64, .slice (some ⟨g85, 0, none⟩) l57.length c3), (0, vP b_q 0), (7, vI i17)]) (M' := Mem w0 (orow (some ⟨g85, 0, none⟩) l57.length c3 170 3 y106 :: .blk b_q [.slice (some ⟨g85, 0, none⟩) l57.length c3, vI i16] 145 :: Fz F W :: cs)) (by first | rfl | rw [hl105]) (fun w_ hM => by first | exact hM | (rw [hl105] at hM; exact hM)) ?_
        refine oR [] [(83, .agg #[.string x39.v, vI x39.rank, vI x39.came]), (67, vI (IntKind.i64.wrap (Int.tdiv (IntKind.i64.wrap (i17 - 1)) 2))), (64, .slice (some ⟨g85, 0, none⟩) l57.length c3), (0, vP b_q 0), (7, vI i17)] [83, 67, 64, 0, 7] (by kernel_rfl) ?_
        obtain ⟨m110, hm111, hx112⟩ := idx_some hv69
        have hl115 := (List.getElem?_eq_some_iff.1 hx112).1
        obtain ⟨vs113, hr114, hq116⟩ := h108.at_ m110 x68 hx112
        obtain rfl := dec_queue_item_string hr114
        refine ops_val (op := (Go.Op.indexAddr 143 (Go.Operand.tmp 64) (Go.Operand.tmp 67))) (d := some 85) (v := vP g85 (m110 * 3)) ⟨by kernel_rfl⟩ (run_indexRow Try.underlying143 (z := 3) (by kernel_rfl) rfl rfl hm111 hl115 rfl) ?_
        refine oR [] [(85, vP g85 (m110 * 3)), (83, .agg #[.string x39.v, vI x39.rank, vI x39.came]), (0, vP b_q 0), (7, vI i17)] [85, 83, 0, 7] (by kernel_rfl) ?_
        obtain ⟨m117, hm118, hl119, he120⟩ := upd_some hv78
        obtain rfl : m110 = m117 := by have := hm111; omega
        have hl121 : l57.length = l77.length := by rw [he120, List.length_set]
        obtain ⟨y122, hy123⟩ : ∃ y_, setAll y106 (m110 * 3 + 0) [.string x39.v, vI x39.rank, vI x39.came] = y_ := ⟨_, rfl⟩
        have h124 : RepL R_queue_item_string F W l77 y122 := by rw [he120, ← hy123]; exact RepL.set h108 (List.getElem?_eq_getElem hl119) (fun vs_ hr_ _ => by obtain rfl := dec_queue_item_string hr_; exact ⟨(enc_queue_item_string), Nat.le_of_ble_eq_true rfl⟩)
        refine ops_store (an := []) (evs := [.store ⟨g85, m110 * 3, none⟩ (.string x39.v), .store ⟨g85, m110 * 3 + 1, none⟩ (vI x39.rank), .store ⟨g85, m110 * 3 + 2, none⟩ (vI x39.came)]) (M' := Mem w0 (orow (some ⟨g85, 0, none⟩) l77.length c3 170 3 y122 :: .blk b_q [.slice (some ⟨g85, 0, none⟩) l57.length c3, vI i16] 145 :: Fz F W :: cs)) ⟨by kernel_rfl⟩ (fun w_ hM hS => let ⟨w', he, h'⟩ := hM.ostore' 0 rfl (m110 * 3 + 0) [.string x39.v, vI x39.rank, vI x39.came] (by have z_ : y106.length = l57.length * 3 := h108.len; have y_ : (m110 + 1) * 3 ≤ l57.length * 3 := Nat.mul_le_mul_right _ hl119; rw [Nat.add_mul] at y_; simp only [List.length_cons, List.length_nil]; omega) hl121 hy123; ⟨w', he, h', (by first | (refine h'.sub ?_; simp; done) | ((try simp only [← hl121] at h'); (try simp only [← hl105] at h'); (try simp only [← hl83] at h'); (try simp only [← hl63] at h'); (try simp only [← hl149] at h'); (try simp only [← hl133] at h'); exact h'.sub (by simp)))⟩) ?_
        refine ops_conv (l' := [(85, vP g85 (m110 * 3)), (83, .agg #[.string x39.v, vI x39.rank, vI x39.came]), (0, vP b_q 0), (7, vI i17)]) (M' := Mem w0 (orow (some ⟨g85, 0, none⟩) l77.length c3 170 3 y122 :: .blk b_q [.slice (some ⟨g85, 0, none⟩) l77.length c3, vI i16] 145 :: Fz F W :: cs)) (by first | rfl | rw [hl121]) (fun w_ hM => by first | exact hM | (rw [hl121] at hM; exact hM)) ?_
        refine oR [] [(0, vP b_q 0), (7, vI i17)] [0, 7] (by kernel_rfl) ?_
        refine ops_nil ?_
        refine fin_block ?_
        exact fin_join HJ4 ((some ⟨g85, 0, none⟩), l77, y122) ⟨hp, h124⟩ (look_has ⟨rfl, rfl, trivial⟩) (fun w_ hM => hM.pick 3 [1, 0, 2] (by kernel_rfl) (by decide) rfl)
       · --
        refine tree_leaf ?_
        refine ops_mem (d := some 83) (an := [.v (.string x39.v), .v (vI x39.rank), .v (vI x39.came)]) (evs := [.load ⟨g85, m87 * 3, none⟩ (.string x39.v), .load ⟨g85, m87 * 3 + 1, none⟩ (vI x39.rank), .load ⟨g85, m87 * 3 + 2, none⟩ (vI x39.came)]) (v := .agg #[.string x39.v, vI x39.rank, vI x39.came]) (M' := Mem w0 (orow (some ⟨g85, 0, none⟩) l13.length c3 170 3 y22 :: .blk b_q [.slice (some ⟨g85, 0, none⟩) l13.length c3, vI i16] 145 :: Fz F W :: cs)) ⟨by kernel_rfl⟩ (fun w_ hM hS => ⟨w_, ⟨hM.ocell 0 rfl (hq93 0 _ rfl), hM.ocell 0 rfl (hq93 1 _ rfl), hM.ocell 0 rfl (hq93 2 _ rfl), rfl⟩, hM, hS⟩) ?_
        refine oR [] [(83, .agg #[.string x39.v, vI x39.rank, vI x39.came]), (75, vP g85 (m79 * 3)), (67, vI (IntKind.i64.wrap (Int.tdiv (IntKind.i64.wrap (i17 - 1)) 2))), (64, .slice (some ⟨g85, 0, none⟩) l13.length c3), (60, vI i17), (59, .slice (some ⟨g85, 0, none⟩) l13.length c3), (0, vP b_q 0), (7, vI i17)] [83, 75, 67, 64, 60, 59, 0, 7] (by kernel_rfl) ?_
        refine ops_mem (d := some 76) (an := [.v (.string x29.v), .v (vI x29.rank), .v (vI x29.came)]) (evs := [.load ⟨g85, m79 * 3, none⟩ (.string x29.v), .load ⟨g85, m79 * 3 + 1, none⟩ (vI x29.rank), .load ⟨g85, m79 * 3 + 2, none⟩ (vI x29.came)]) (v := .agg #[.string x29.v, vI x29.rank, vI x29.came]) (M' := Mem w0 (orow (some ⟨g85, 0, none⟩) l13.length c3 170 3 y22 :: .blk b_q [.slice (some ⟨g85, 0, none⟩) l13.length c3, vI i16] 145 :: Fz F W :: cs)) ⟨by kernel_rfl⟩ (fun w_ hM hS => ⟨w_, ⟨hM.ocell 0 rfl (hq86 0 _ rfl), hM.ocell 0 rfl (hq86 1 _ rfl), hM.ocell 0 rfl (hq86 2 _ rfl), rfl⟩, hM, hS⟩) ?_
        refine oR [] [(76, .agg #[.string x29.v, vI x29.rank, vI x29.came]), (83, .agg #[.string x39.v, vI x39.rank, vI x39.came]), (67, vI (IntKind.i64.wrap (Int.tdiv (IntKind.i64.wrap (i17 - 1)) 2))), (64, .slice (some ⟨g85, 0, none⟩) l13.length c3), (60, vI i17), (59, .slice (some ⟨g85, 0, none⟩) l13.length c3), (0, vP b_q 0), (7, vI i17)] [76, 83, 67, 64, 60, 59, 0, 7] (by kernel_rfl) ?_
        obtain ⟨m126, hm127, hx128⟩ := idx_some hv49
        have hl131 := (List.getElem?_eq_some_iff.1 hx128).1
        obtain ⟨vs129, hr130, hq132⟩ := h23.at_ m126 x48 hx128
        obtain rfl := dec_queue_item_string hr130
        refine ops_val (op := (Go.Op.indexAddr 143 (Go.Operand.tmp 59) (Go.Operand.tmp 60))) (d := some 84) (v := vP g85 (m126 * 3)) ⟨by kernel_rfl⟩ (run_indexRow Try.underlying143 (z := 3) (by kernel_rfl) rfl rfl hm127 hl131 rfl) ?_
        refine oR [] [(84, vP g85 (m126 * 3)), (76, .agg #[.string x29.v, vI x29.rank, vI x29.came]), (83, .agg #[.string x39.v, vI x39.rank, vI x39.came]), (67, vI (IntKind.i64.wrap (Int.tdiv (IntKind.i64.wrap (i17 - 1)) 2))), (64, .slice (some ⟨g85, 0, none⟩) l13.length c3), (0, vP b_q 0), (7, vI i17)] [84, 76, 83, 67, 64, 0, 7] (by kernel_rfl) ?_
        obtain ⟨m133, hm134, hl135, he136⟩ := upd_some hv58
        obtain rfl : m126 = m133 := by have := hm127; omega
        have hl137 : l13.length = l57.length := by rw [he136, List.length_set]
        obtain ⟨y138, hy139⟩ : ∃ y_, setAll y22 (m126 * 3 + 0) [.string x29.v, vI x29.rank, vI x29.came] = y_ := ⟨_, rfl⟩
        have h140 : RepL R_queue_item_string F W l57 y138 := by rw [he136, ← hy139]; exact RepL.set h23 (List.getElem?_eq_getElem hl135) (fun vs_ hr_ _ => by obtain rfl := dec_queue_item_string hr_; exact ⟨(enc_queue_item_string), Nat.le_of_ble_eq_true rfl⟩)
        refine ops_store (an := []) (evs := [.store ⟨g85, m126 * 3, none⟩ (.string x29.v), .store ⟨g85, m126 * 3 + 1, none⟩ (vI x29.rank), .store ⟨g85, m126 * 3 + 2, none⟩ (vI x29.came)]) (M' := Mem w0 (orow (some ⟨g85, 0, none⟩) l57.length c3 170 3 y138 :: .blk b_q [.slice (some ⟨g85, 0, none⟩) l13.length c3, vI i16] 145 :: Fz F W :: cs)) ⟨by kernel_rfl⟩ (fun w_ hM hS => let ⟨w', he, h'⟩ := hM.ostore' 0 rfl (m126 * 3 + 0) [.string x29.v, vI x29.rank, vI x29.came] (by have z_ : y22.length = l13.length * 3 := h23.len; have y_ : (m126 + 1) * 3 ≤ l13.length * 3 := Nat.mul_le_mul_right _ hl135; rw [Nat.add_mul] at y_; simp only [List.length_cons, List.length_nil]; omega) hl137 hy139; ⟨w', he, h', (by exact h'.sub (.cons _ (.cons_cons _ (.cons_cons _ (.refl _)))))⟩) ?_
        refine ops_conv (l' := [(84, vP g85 (m126 * 3)), (76, .agg #[.string x29.v, vI x29.rank, vI x29.came]), (83, .agg #[.string x39.v, vI x39.rank, vI x39.came]), (67, vI (IntKind.i64.wrap (Int.tdiv (IntKind.i64.wrap (i17 - 1)) 2))), (64, .slice (some ⟨g85, 0, none⟩) l57.length c3), (0, vP b_q 0), (7, vI i17)]) (M' := Mem w0 (orow (some ⟨g85, 0, none⟩) l57.length c3 170 3 y138 :: .blk b_q [.slice (some ⟨g85, 0, none⟩) l57.length c3, vI i16] 145 :: Fz F W :: cs)) (by first | rfl | rw [hl137]) (fun w_ hM => by first | exact hM | (rw [hl137] at hM; exact hM)) ?_
        refine oR [] [(83, .agg #[.string x39.v, vI x39.rank, vI x39.came]), (67, vI (IntKind.i64.wrap (Int.tdiv (IntKind.i64.wrap (i17 - 1)) 2))), (64, .slice (some ⟨g85, 0, none⟩) l57.length c3), (0, vP b_q 0), (7, vI i17)] [83, 67, 64, 0, 7] (by kernel_rfl) ?_
        obtain ⟨m142, hm143, hx144⟩ := idx_some hv69
        have hl147 := (List.getElem?_eq_some_iff.1 hx144).1
        obtain ⟨vs145, hr146, hq148⟩ := h140.at_ m142 x68 hx144
        obtain rfl := dec_queue_item_string hr146
        refine ops_val (op := (Go.Op.indexAddr 143 (Go.Operand.tmp 64) (Go.Operand.tmp 67))) (d := some 85) (v := vP g85 (m142 * 3)) ⟨by kernel_rfl⟩ (run_indexRow Try.underlying143 (z := 3) (by kernel_rfl) rfl rfl hm143 hl147 rfl) ?_
        refine oR [] [(85, vP g85 (m142 * 3)), (83, .agg #[.string x39.v, vI x39.rank, vI x39.came]), (0, vP b_q 0), (7, vI i17)] [85, 83, 0, 7] (by kernel_rfl) ?_
        obtain ⟨m149, hm150, hl151, he152⟩ := upd_some hv78
        obtain rfl : m142 = m149 := by have := hm143; omega
        have hl153 : l57.length = l77.length := by rw [he152, List.length_set]
        obtain ⟨y154, hy155⟩ : ∃ y_, setAll y138 (m142 * 3 + 0) [.string x39.v, vI x39.rank, vI x39.came] = y_ := ⟨_, rfl⟩
        have h156 : RepL R_queue_item_string F W l77 y154 := by rw [he152, ← hy155]; exact RepL.set h140 (List.getElem?_eq_getElem hl151) (fun vs_ hr_ _ => by obtain rfl := dec_queue_item_string hr_; exact ⟨(enc_queue_item_string), Nat.le_of_ble_eq_true rfl⟩)
        refine ops_store (an := []) (evs := [.store ⟨g85, m142 * 3, none⟩ (.string x39.v), .store ⟨g85, m142 * 3 + 1, none⟩ (vI x39.rank), .store ⟨g85, m142 * 3 + 2, none⟩ (vI x39.came)]) (M' := Mem w0 (orow (some ⟨g85, 0, none⟩) l77.length c3 170 3 y154 :: .blk b_q [.slice (some ⟨g85, 0, none⟩) l57.length c3, vI i16] 145 :: Fz F W :: cs)) ⟨by kernel_rfl⟩ (fun w_ hM hS => let ⟨w', he, h'⟩ := hM.ostore' 0 rfl (m142 * 3 + 0) [.string x39.v, vI x39.rank, vI x39.came] (by have z_ : y138.length = l57.length * 3 := h140.len; have y_ : (m142 + 1) * 3 ≤ l57.length * 3 := Nat.mul_le_mul_right _ hl151; rw [Nat.add_mul] at y_; simp only [List.length_cons, List.length_nil]; omega) hl153 hy155; ⟨w', he, h', (by first | (refine h'.sub ?_; simp; done) | ((try simp only [← hl153] at h'); (try simp only [← hl137] at h'); (try simp only [← hl121] at h'); (try simp only [← hl105] at h'); (try simp only [← hl83] at h'); (try simp only [← hl63] at h'); exact h'.sub (by simp)))⟩) ?_
        refine ops_conv (l' := [(85, vP g85 (m142 * 3)), (83, .agg #[.string x39.v, vI x39.rank, vI x39.came]), (0, vP b_q 0), (7, vI i17)]) (M' := Mem w0 (orow (some ⟨g85, 0, none⟩) l77.length c3 170 3 y154 :: .blk b_q [.slice (some ⟨g85, 0, none⟩) l77.length c3, vI i16] 145 :: Fz F W :: cs)) (by first | rfl | rw [hl153]) (fun w_ hM => by first | exact hM | (rw [hl153] at hM; exact hM)) ?_
        refine oR [] [(0, vP b_q 0), (7, vI i17)] [0, 7] (by kernel_rfl) ?_
        refine ops_nil ?_
        refine fin_block ?_
        exact fin_join HJ4 ((some ⟨g85, 0, none⟩), l77, y154) ⟨hp, h156⟩ (look_has ⟨rfl, rfl, trivial⟩) (fun w_ hM => hM.pick 3 [1, 0, 2] (by kernel_rfl) (by decide) rfl)
     · --
      have hp := cnd_f hc24 hp
      refine st_exit ?_
      refine fin_exit_then ?_
      refine fin_exit_then ?_
      refine fin_exit ?_
      obtain hq_ := Option.some.inj hp
      subst hq_
      obtain hq_ := hd3 _ rfl
      subst hq_
      have hp : queue_Queue_string_Put_j2 l13 i16 = some (i9001, l9004, i9007) := hk3
      exact fin_join HJ2 (A21, l13, y22, i16) ⟨hp, h23⟩ (look_has trivial) (fun w_ hM => hM.pick 3 [1, 0, 2] (by kernel_rfl) (by decide) rfl)
    · --
     have hp := cnd_f hc18 hp
     refine oR [oF 3, oF 4, oF 5, oF 6, oF 7, oF 8, oF 9] [(52, .bool false), (0, vP b_q 0), (7, vI i17)] [52, 0, 7] (by kernel_rfl) ?_
     refine ops_nil ?_
     refine fin_then ?_
     refine st_false rfl ?_
     refine st_exit ?_
     refine fin_exit_then ?_
     refine fin_exit_then ?_
     refine fin_exit ?_
     obtain hq_ := Option.some.inj hp
     subst hq_
     obtain hq_ := hd3 _ rfl
     subst hq_
     have hp : queue_Queue_string_Put_j2 l13 i16 = some (i9001, l9004, i9007) := hk3
     exact fin_join HJ2 (A12, l13, y14, i16) ⟨hp, h15⟩ (look_has trivial) (fun w_ hM => hM)
  · --
   intro HJ1
   refine st_seq ?_
   obtain ⟨l160, hv161, hp⟩ := obind hp
   refine st_region_tree (.node [oT 0, oT 1, oT 2, oT 3, oT 5, oT 6, oT 7, oT 8, oT 9] (.leaf [oF 4, oF 10, oT 11, oF 12, oF 13, oT 14, oT 15, oF 16]) (.node [oF 10, oT 11] (.leaf [oF 4, oF 12, oF 13, oT 14, oT 15, oF 16]) (.leaf [oF 12, oF 4, oF 13, oT 14, oT 15, oF 16]))) (Mem w0 (Fz F W :: cs)) (by kernel_rfl) (by kernel_rfl) (by kernel_rfl) (fun _ d _ _ _ h => by cases d <;> exact h) (M' := Mem w0 (.blk b_q [.slice A_q_0 q_0.length c_q_0, vI q_1] 145 :: orow A_q_0 q_0.length c_q_0 170 3 y_q_0 :: Fz F W :: cs)) (fun w_ hM => ⟨hM.drew, hM.drew.sub (.cons _ (.cons _ (.cons_cons _ (.refl _))))⟩) ?_
   refine tree_node ?_
   refine oR [oT 0, oT 1, oT 2, oT 3, oT 5, oT 6, oT 7, oT 8, oT 9] [(23, vP b_q 1), (20, vI rank), (19, .string v), (17, vP b_q 0), (14, vP b_q 0), (0, vP b_q 0)] [23, 20, 19, 17, 14, 0] (by kernel_rfl) ?_
   refine ops_nil ?_
   refine tree_both ?_ ?_
   · --
    refine tree_leaf ?_
    refine ops_mem (d := some 18) (an := [.v (.slice A_q_0 q_0.length c_q_0)]) (evs := [.load ⟨b_q, 0, none⟩ (.slice A_q_0 q_0.length c_q_0)]) (v := .slice A_q_0 q_0.length c_q_0) (M' := Mem w0 (.blk b_q [.slice A_q_0 q_0.length c_q_0, vI q_1] 145 :: orow A_q_0 q_0.length c_q_0 170 3 y_q_0 :: Fz F W :: cs)) ⟨by kernel_rfl⟩ (fun w_ hM hS => ⟨w_, ⟨hM.cell 0 rfl rfl, rfl⟩, hM, hS⟩) ?_
    refine oR [] [(18, .slice A_q_0 q_0.length c_q_0), (23, vP b_q 1), (20, vI rank), (19, .string v), (14, vP b_q 0), (0, vP b_q 0)] [18, 23, 20, 19, 14, 0] (by kernel_rfl) ?_
    refine ops_mem (d := some 24) (an := [.v (vI q_1)]) (evs := [.load ⟨b_q, 1, none⟩ (vI q_1)]) (v := vI q_1) (M' := Mem w0 (.blk b_q [.slice A_q_0 q_0.length c_q_0, vI q_1] 145 :: orow A_q_0 q_0.length c_q_0 170 3 y_q_0 :: Fz F W :: cs)) ⟨by kernel_rfl⟩ (fun w_ hM hS => ⟨w_, ⟨hM.cell 0 rfl rfl, rfl⟩, hM, hS⟩) ?_
    refine oR [oT 11] [(25, .agg #[.string v, vI rank, vI q_1]), (18, .slice A_q_0 q_0.length c_q_0), (14, vP b_q 0), (0, vP b_q 0)] [25, 18, 14, 0] (by kernel_rfl) ?_
    have h162 : RepL R_queue_item_string F W ([(queue_item_string.mk v rank q_1)] : List queue_item_string) ([.string v, vI rank, vI q_1]) := (RepL.cons (R := R_queue_item_string) (F := F) (w := W) (vs := [.string v, vI rank, vI q_1]) (ys := []) (enc_queue_item_string) RepL.nil)
    refine ops_new (d := some 26) (o := .cells ([.string v, vI rank, vI q_1]).toArray 170) (v := fun g163 => .slice (some ⟨g163, 0, none⟩) ([(queue_item_string.mk v rank q_1)] : List queue_item_string).length 1) (M' := fun g163 => Mem w0 (orow (some ⟨g163, 0, none⟩) ([(queue_item_string.mk v rank q_1)] : List queue_item_string).length 1 170 3 ([.string v, vI rank, vI q_1]) :: .blk b_q [.slice A_q_0 q_0.length c_q_0, vI q_1] 145 :: orow A_q_0 q_0.length c_q_0 170 3 y_q_0 :: Fz F W :: cs)) (fun g163 => ⟨by kernel_rfl⟩) (fun w_ hM hS => ⟨hM.onew [.string v, vI rank, vI q_1] 170 1 3 rfl (by decide), hS.alloc _⟩) (fun g163 => ?_)
    refine oR [] [(26, .slice (some ⟨g163, 0, none⟩) ([(queue_item_string.mk v rank q_1)] : List queue_item_string).length 1), (18, .slice A_q_0 q_0.length c_q_0), (14, vP b_q 0), (0, vP b_q 0)] [26, 18, 14, 0] (by kernel_rfl) ?_
    obtain ⟨he164, hb165⟩ := app_some hv161
    obtain ⟨y166, hy167⟩ : ∃ y_, y_q_0 ++ ([.string v, vI rank, vI q_1]) = y_ := ⟨_, rfl⟩
    have h168 : RepL R_queue_item_string F W l160 y166 := by rw [he164, ← hy167]; exact RepL.app h_q_0 h162
    refine ops_appendO (x := (Go.Operand.tmp 18)) (y := (Go.Operand.tmp 26)) (t := 143) (e := 170) (d := some 27) (n' := l160.length) (z := 3) (m := ([(queue_item_string.mk v rank q_1)] : List queue_item_string).length) (bytes := 32) (xs' := y166) (news := ([.string v, vI rank, vI q_1])) (zv := .agg #[.string ByteArray.empty, vI 0, vI 0]) 2 ⟨by kernel_rfl⟩ rfl rfl Try.underlying143 (by kernel_rfl) (by rfl) rfl (fun w_ hM => hM.srcO 0 rfl) h162.len h162.one hb165 (by have z_ := congrArg List.length he164; rw [List.length_append] at z_; exact z_.symm) hy167 (fun _ _ _ _ hS h' => h'.sub (.cons _ (.cons _ (.cons _ (.cons_cons _ (.refl _)))))) ?_
    rintro ⟨A169, c170⟩
    refine ops_conv (l' := [(27, .slice A169 l160.length c170), (26, .slice (some ⟨g163, 0, none⟩) ([(queue_item_string.mk v rank q_1)] : List queue_item_string).length 1), (18, .slice A_q_0 q_0.length c_q_0), (14, vP b_q 0), (0, vP b_q 0)]) (M' := Mem w0 (orow (some ⟨g163, 0, none⟩) ([(queue_item_string.mk v rank q_1)] : List queue_item_string).length 1 170 3 ([.string v, vI rank, vI q_1]) :: .blk b_q [.slice A_q_0 q_0.length c_q_0, vI q_1] 145 :: orow A169 l160.length c170 170 3 y166 :: Fz F W :: cs)) rfl (fun _ h => h) ?_
    refine oR [oT 14, oT 15] [(29, vP b_q 0), (27, .slice A169 l160.length c170), (0, vP b_q 0)] [29, 27, 0] (by kernel_rfl) ?_
    refine ops_store (an := []) (evs := [.store ⟨b_q, 0, none⟩ (.slice A169 l160.length c170)]) (M' := Mem w0 (orow (some ⟨g163, 0, none⟩) ([(queue_item_string.mk v rank q_1)] : List queue_item_string).length 1 170 3 ([.string v, vI rank, vI q_1]) :: .blk b_q [.slice A169 l160.length c170, vI q_1] 145 :: orow A169 l160.length c170 170 3 y166 :: Fz F W :: cs)) ⟨by kernel_rfl⟩ (fun w_ hM hS => let ⟨w', he, h'⟩ := hM.evs_stores [.slice A169 l160.length c170] 1 rfl 0 (Nat.le_of_ble_eq_true rfl); ⟨w', he, h', (by exact h'.sub (.cons _ (.cons _ (.cons _ (.cons_cons _ (.refl _))))))⟩) ?_
    refine oR [] [(0, vP b_q 0)] [0] (by kernel_rfl) ?_
    refine ops_nil ?_
    exact fin_join HJ1 (A169, c170, l160, y166) ⟨hp, h168⟩ (look_has ⟨rfl, trivial⟩) (fun w_ hM => hM.pick 4 [1, 2, 3] (by kernel_rfl) (by decide) rfl)
   · --
    refine tree_node ?_
    refine ops_mem (d := some 24) (an := [.v (vI q_1)]) (evs := [.load ⟨b_q, 1, none⟩ (vI q_1)]) (v := vI q_1) (M' := Mem w0 (.blk b_q [.slice A_q_0 q_0.length c_q_0, vI q_1] 145 :: orow A_q_0 q_0.length c_q_0 170 3 y_q_0 :: Fz F W :: cs)) ⟨by kernel_rfl⟩ (fun w_ hM hS => ⟨w_, ⟨hM.cell 0 rfl rfl, rfl⟩, hM, hS⟩) ?_
    refine oR [oT 11] [(25, .agg #[.string v, vI rank, vI q_1]), (17, vP b_q 0), (14, vP b_q 0), (0, vP b_q 0)] [25, 17, 14, 0] (by kernel_rfl) ?_
    refine ops_nil ?_
    refine tree_both ?_ ?_
    · --
     refine tree_leaf ?_
     refine ops_mem (d := some 18) (an := [.v (.slice A_q_0 q_0.length c_q_0)]) (evs := [.load ⟨b_q, 0, none⟩ (.slice A_q_0 q_0.length c_q_0)]) (v := .slice A_q_0 q_0.length c_q_0) (M' := Mem w0 (.blk b_q [.slice A_q_0 q_0.length c_q_0, vI q_1] 145 :: orow A_q_0 q_0.length c_q_0 170 3 y_q_0 :: Fz F W :: cs)) ⟨by kernel_rfl⟩ (fun w_ hM hS => ⟨w_, ⟨hM.cell 0 rfl rfl, rfl⟩, hM, hS⟩) ?_
     refine oR [] [(18, .slice A_q_0 q_0.length c_q_0), (25, .agg #[.string v, vI rank, vI q_1]), (14, vP b_q 0), (0, vP b_q 0)] [18, 25, 14, 0] (by kernel_rfl) ?_
     have h171 : RepL R_queue_item_string F W ([(queue_item_string.mk v rank q_1)] : List queue_item_string) ([.string v, vI rank, vI q_1]) := (RepL.cons (R := R_queue_item_string) (F := F) (w := W) (vs := [.string v, vI rank, vI q_1]) (ys := []) (enc_queue_item_string) RepL.nil)
     refine ops_new (d := some 26) (o := .cells ([.string v, vI rank, vI q_1]).toArray 170) (v := fun g172 => .slice (some ⟨g172, 0, none⟩) ([(queue_item_string.mk v rank q_1)] : List queue_item_string).length 1) (M' := fun g172 => Mem w0 (orow (some ⟨g172, 0, none⟩) ([(queue_item_string.mk v rank q_1)] : List queue_item_string).length 1 170 3 ([.string v, vI rank, vI q_1]) :: .blk b_q [.slice A_q_0 q_0.length c_q_0, vI q_1] 145 :: orow A_q_0 q_0.length c_q_0 170 3 y_q_0 :: Fz F W :: cs)) (fun g172 => ⟨by kernel_rfl⟩) (fun w_ hM hS => ⟨hM.onew [.string v, vI rank, vI q_1] 170 1 3 rfl (by decide), hS.alloc _⟩) (fun g172 => ?_)
     refine oR [] [(26, .slice (some ⟨g172, 0, none⟩) ([(queue_item_string.mk v rank q_1)] : List queue_item_string).length 1), (18, .slice A_q_0 q_0.length c_q_0), (14, vP b_q 0), (0, vP b_q 0)] [26, 18, 14, 0] (by kernel_rfl) ?_
     obtain ⟨he173, hb174⟩ := app_some hv161
     obtain ⟨y175, hy176⟩ : ∃ y_, y_q_0 ++ ([.string v, vI rank, vI q_1]) = y_ := ⟨_, rfl⟩
     have h177 : RepL R_queue_item_string F W l160 y175 := by rw [he173, ← hy176]; exact RepL.app h_q_0 h171
     refine ops_appendO (x := (Go.Operand.tmp 18)) (y := (Go.Operand.tmp 26)) (t := 143) (e := 170) (d := some 27) (n' := l160.length) (z := 3) (m := ([(queue_item_string.mk v rank q_1)] : List queue_item_string).length) (bytes := 32) (xs' := y175) (news := ([.string v, vI rank, vI q_1])) (zv := .agg #[.string ByteArray.empty, vI 0, vI 0]) 2 ⟨by kernel_rfl⟩ rfl rfl Try.underlying143 (by kernel_rfl) (by rfl) rfl (fun w_ hM => hM.srcO 0 rfl) h171.len h171.one hb174 (by have z_ := congrArg List.length he173; rw [List.length_append] at z_; exact z_.symm) hy176 (fun _ _ _ _ hS h' => h'.sub (.cons _ (.cons _ (.cons _ (.cons_cons _ (.refl _)))))) ?_
     rintro ⟨A178, c179⟩
     refine ops_conv (l' := [(27, .slice A178 l160.length c179), (26, .slice (some ⟨g172, 0, none⟩) ([(queue_item_string.mk v rank q_1)] : List queue_item_string).length 1), (18, .slice A_q_0 q_0.length c_q_0), (14, vP b_q 0), (0, vP b_q 0)]) (M' := Mem w0 (orow (some ⟨g172, 0, none⟩) ([(queue_item_string.mk v rank q_1)] : List queue_item_string).length 1 170 3 ([.string v, vI rank, vI q_1]) :: .blk b_q [.slice A_q_0 q_0.length c_q_0, vI q_1] 145 :: orow A178 l160.length c179 170 3 y175 :: Fz F W :: cs)) rfl (fun _ h => h) ?_
     refine oR [oT 14, oT 15] [(29, vP b_q 0), (27, .slice A178 l160.length c179), (0, vP b_q 0)] [29, 27, 0] (by kernel_rfl) ?_
     refine ops_store (an := []) (evs := [.store ⟨b_q, 0, none⟩ (.slice A178 l160.length c179)]) (M' := Mem w0 (orow (some ⟨g172, 0, none⟩) ([(queue_item_string.mk v rank q_1)] : List queue_item_string).length 1 170 3 ([.string v, vI rank, vI q_1]) :: .blk b_q [.slice A178 l160.length c179, vI q_1] 145 :: orow A178 l160.length c179 170 3 y175 :: Fz F W :: cs)) ⟨by kernel_rfl⟩ (fun w_ hM hS => let ⟨w', he, h'⟩ := hM.evs_stores [.slice A178 l160.length c179] 1 rfl 0 (Nat.le_of_ble_eq_true rfl); ⟨w', he, h', (by exact h'.sub (.cons _ (.cons _ (.cons _ (.cons_cons _ (.refl _))))))⟩) ?_
     refine oR [] [(0, vP b_q 0)] [0] (by kernel_rfl) ?_
     refine ops_nil ?_
     exact fin_join HJ1 (A178, c179, l160, y175) ⟨hp, h177⟩ (look_has ⟨rfl, trivial⟩) (fun w_ hM => hM.pick 4 [1, 2, 3] (by kernel_rfl) (by decide) rfl)
    · --
     refine tree_leaf ?_
     have h180 : RepL R_queue_item_string F W ([(queue_item_string.mk v rank q_1)] : List queue_item_string) ([.string v, vI rank, vI q_1]) := (RepL.cons (R := R_queue_item_string) (F := F) (w := W) (vs := [.string v, vI rank, vI q_1]) (ys := []) (enc_queue_item_string) RepL.nil)
     refine ops_new (d := some 26) (o := .cells ([.string v, vI rank, vI q_1]).toArray 170) (v := fun g181 => .slice (some ⟨g181, 0, none⟩) ([(queue_item_string.mk v rank q_1)] : List queue_item_string).length 1) (M' := fun g181 => Mem w0 (orow (some ⟨g181, 0, none⟩) ([(queue_item_string.mk v rank q_1)] : List queue_item_string).length 1 170 3 ([.string v, vI rank, vI q_1]) :: .blk b_q [.slice A_q_0 q_0.length c_q_0, vI q_1] 145 :: orow A_q_0 q_0.length c_q_0 170 3 y_q_0 :: Fz F W :: cs)) (fun g181 => ⟨by kernel_rfl⟩) (fun w_ hM hS => ⟨hM.onew [.string v, vI rank, vI q_1] 170 1 3 rfl (by decide), hS.alloc _⟩) (fun g181 => ?_)
     refine oR [] [(26, .slice (some ⟨g181, 0, none⟩) ([(queue_item_string.mk v rank q_1)] : List queue_item_string).length 1), (17, vP b_q 0), (14, vP b_q 0), (0, vP b_q 0)] [26, 17, 14, 0] (by kernel_rfl) ?_
     refine ops_mem (d := some 18) (an := [.v (.slice A_q_0 q_0.length c_q_0)]) (evs := [.load ⟨b_q, 0, none⟩ (.slice A_q_0 q_0.length c_q_0)]) (v := .slice A_q_0 q_0.length c_q_0) (M' := Mem w0 (orow (some ⟨g181, 0, none⟩) ([(queue_item_string.mk v rank q_1)] : List queue_item_string).length 1 170 3 ([.string v, vI rank, vI q_1]) :: .blk b_q [.slice A_q_0 q_0.length c_q_0, vI q_1] 145 :: orow A_q_0 q_0.length c_q_0 170 3 y_q_0 :: Fz F W :: cs)) ⟨by kernel_rfl⟩ (fun w_ hM hS => ⟨w_, ⟨hM.cell 1 rfl rfl, rfl⟩, hM, hS⟩) ?_
     refine oR [] [(18, .slice A_q_0 q_0.length c_q_0), (26, .slice (some ⟨g181, 0, none⟩) ([(queue_item_string.mk v rank q_1)] : List queue_item_string).length 1), (14, vP b_q 0), (0, vP b_q 0)] [18, 26, 14, 0] (by kernel_rfl) ?_
     obtain ⟨he182, hb183⟩ := app_some hv161
     obtain ⟨y184, hy185⟩ : ∃ y_, y_q_0 ++ ([.string v, vI rank, vI q_1]) = y_ := ⟨_, rfl⟩
     have h186 : RepL R_queue_item_string F W l160 y184 := by rw [he182, ← hy185]; exact RepL.app h_q_0 h180
     refine ops_appendO (x := (Go.Operand.tmp 18)) (y := (Go.Operand.tmp 26)) (t := 143) (e := 170) (d := some 27) (n' := l160.length) (z := 3) (m := ([(queue_item_string.mk v rank q_1)] : List queue_item_string).length) (bytes := 32) (xs' := y184) (news := ([.string v, vI rank, vI q_1])) (zv := .agg #[.string ByteArray.empty, vI 0, vI 0]) 2 ⟨by kernel_rfl⟩ rfl rfl Try.underlying143 (by kernel_rfl) (by rfl) rfl (fun w_ hM => hM.srcO 0 rfl) h180.len h180.one hb183 (by have z_ := congrArg List.length he182; rw [List.length_append] at z_; exact z_.symm) hy185 (fun _ _ _ _ hS h' => h'.sub (.cons _ (.cons _ (.cons _ (.cons_cons _ (.refl _)))))) ?_
     rintro ⟨A187, c188⟩
     refine ops_conv (l' := [(27, .slice A187 l160.length c188), (18, .slice A_q_0 q_0.length c_q_0), (26, .slice (some ⟨g181, 0, none⟩) ([(queue_item_string.mk v rank q_1)] : List queue_item_string).length 1), (14, vP b_q 0), (0, vP b_q 0)]) (M' := Mem w0 (orow (some ⟨g181, 0, none⟩) ([(queue_item_string.mk v rank q_1)] : List queue_item_string).length 1 170 3 ([.string v, vI rank, vI q_1]) :: .blk b_q [.slice A_q_0 q_0.length c_q_0, vI q_1] 145 :: orow A187 l160.length c188 170 3 y184 :: Fz F W :: cs)) rfl (fun _ h => h) ?_
     refine oR [oT 14, oT 15] [(29, vP b_q 0), (27, .slice A187 l160.length c188), (0, vP b_q 0)] [29, 27, 0] (by kernel_rfl) ?_
     refine ops_store (an := []) (evs := [.store ⟨b_q, 0, none⟩ (.slice A187 l160.length c188)]) (M' := Mem w0 (orow (some ⟨g181, 0, none⟩) ([(queue_item_string.mk v rank q_1)] : List queue_item_string).length 1 170 3 ([.string v, vI rank, vI q_1]) :: .blk b_q [.slice A187 l160.length c188, vI q_1] 145 :: orow A187 l160.length c188 170 3 y184 :: Fz F W :: cs)) ⟨by kernel_rfl⟩ (fun w_ hM hS => let ⟨w', he, h'⟩ := hM.evs_stores [.slice A187 l160.length c188] 1 rfl 0 (Nat.le_of_ble_eq_true rfl); ⟨w', he, h', (by exact h'.sub (.cons _ (.cons _ (.cons _ (.cons_cons _ (.refl _))))))⟩) ?_
     refine oR [] [(0, vP b_q 0)] [0] (by kernel_rfl) ?_
     refine ops_nil ?_
     exact fin_join HJ1 (A187, c188, l160, y184) ⟨hp, h186⟩ (look_has ⟨rfl, trivial⟩) (fun w_ hM => hM.pick 4 [1, 2, 3] (by kernel_rfl) (by decide) rfl)
end Go.Proofs.Ytfihfbkjomploaa.X
