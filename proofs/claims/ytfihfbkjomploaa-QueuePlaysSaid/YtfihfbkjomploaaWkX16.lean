/- The Go functions come to what the plain functions tell. No condition. -/
import Derived.Test.YtfihfbkjomploaaProg
import Derived.Test.YtfihfbkjomploaaFnX
import Derived.Test.YtfihfbkjomploaaWkX14
namespace Go.Proofs.Ytfihfbkjomploaa.X
open Go Go.RowKit Go.Proofs.Ytfihfbkjomploaa.Sx
set_option linter.unusedVariables false
set_option maxHeartbeats 4000000 in
set_option maxRecDepth 100000 in
theorem queue_Queue_int_Take_ok (w0 w : World) (cs : List Chunk) (F : Nat → Prop) (W : World) (b_q : Nat) (A_q_0 : Option Addr) (c_q_0 : Nat) (q_0 : List queue_item_int) (y_q_0 : List Value) (q_1 : Int) (hM0 : Mem w0 (.blk b_q [.slice A_q_0 q_0.length c_q_0, vI q_1] 78 :: orow A_q_0 q_0.length c_q_0 151 3 y_q_0 :: Fz F W :: cs) w) (h_q_0 : RepL R_queue_item_int F W q_0 y_q_0) (i9001 : Int) (i9002 : Int) (i9003 : Int) (l9005 : List queue_item_int) (hp : queue_Queue_int_Take q_0 q_1 = some (i9001, i9002, i9003, l9005)) : Calls Try.prog 55 #[vP b_q 0] w fun e w' => ∃ (A9004 : Option Addr), ∃ (y9006 : List Value), ((RepL R_queue_item_int F W l9005 y9006)) ∧ e = .returned (.tuple #[vI i9001, vI i9002, vI i9003]) ∧ Mem w0 (.blk b_q [.slice A9004 l9005.length c_q_0, vI q_1] 78 :: orow A9004 l9005.length c_q_0 151 3 y9006 :: Fz F W :: cs) w' := by
 unfold queue_Queue_int_Take at hp
 refine sx_calls Try.func55 rfl (n := 109) (by kernel_rfl) (l := [(0, vP b_q 0)]) rfl (by rfl) hM0 ?_
 refine st_seq ?_
 refine st_region [oF 0, oF 1, oF 2] (by rfl) ?_
 refine oR [oF 0, oF 1, oF 2] [(0, vP b_q 0)] [0] (by kernel_rfl) ?_
 refine ops_nil ?_
 refine fin_then ?_
 refine st_seq ?_
 refine st_region [oF 0] (by rfl) ?_
 refine oR [oF 0] [(5, vI 0), (0, vP b_q 0)] [5, 0] (by kernel_rfl) ?_
 refine ops_nil ?_
 refine fin_then ?_
 refine st_seq ?_
 refine st_region [oF 0, oF 1, oF 2, oF 3, oF 4, oF 5, oF 6] (by rfl) ?_
 refine oR [oF 0, oF 1, oF 2] [(12, vP b_q 0), (5, vI 0), (0, vP b_q 0)] [12, 5, 0] (by kernel_rfl) ?_
 refine ops_mem (d := some 13) (an := [.v (.slice A_q_0 q_0.length c_q_0)]) (evs := [.load ⟨b_q, 0, none⟩ (.slice A_q_0 q_0.length c_q_0)]) (v := .slice A_q_0 q_0.length c_q_0) (M' := Mem w0 (.blk b_q [.slice A_q_0 q_0.length c_q_0, vI q_1] 78 :: orow A_q_0 q_0.length c_q_0 151 3 y_q_0 :: Fz F W :: cs)) ⟨by kernel_rfl⟩ (fun w_ hM hS => ⟨w_, ⟨hM.cell 0 rfl rfl, rfl⟩, hM, trivial⟩) ?_
 refine oR [oF 4, oF 5, oF 6] [(6, vI (IntKind.i64.wrap ((q_0.length : Int) - 1))), (5, vI 0), (0, vP b_q 0)] [6, 5, 0] (by kernel_rfl) ?_
 refine ops_nil ?_
 refine fin_then ?_
 refine st_seq ?_
 refine st_seq ?_
 refine st_region [oF 0, oF 1] (by rfl) ?_
 refine oR [oF 0, oF 1] [(17, .bool (decide (IntKind.i64.wrap ((q_0.length : Int) - 1) < 0))), (6, vI (IntKind.i64.wrap ((q_0.length : Int) - 1))), (5, vI 0), (0, vP b_q 0)] [17, 6, 5, 0] (by kernel_rfl) ?_
 refine ops_nil ?_
 refine fin_then ?_
 refine st_if (b := decide (IntKind.i64.wrap ((q_0.length : Int) - 1) < 0)) rfl (fun hc1 => ?_) (fun hc1 => ?_)
 · --
  have hp := cnd_t hc1 hp
  refine st_seq ?_
  refine st_region [oF 0, oF 1, oF 2, oF 3] (by rfl) ?_
  refine oR [oF 0, oF 1, oF 2, oF 3] [(4, vI 4), (3, vI 0), (2, vI 0)] [4, 3, 2] (by kernel_rfl) ?_
  refine ops_nil ?_
  refine fin_then ?_
  refine st_ret ?_
  refine fin_ret_then ?_
  have hq_ := Option.some.inj hp
  obtain ⟨hr0_, hq_⟩ := Prod.mk.inj hq_
  obtain ⟨hr1_, hq_⟩ := Prod.mk.inj hq_
  obtain ⟨hr2_, hq_⟩ := Prod.mk.inj hq_
  have hr3_ := hq_
  subst hr0_
  subst hr1_
  subst hr2_
  subst hr3_
  refine fin_ret [.tmp 2, .tmp 3, .tmp 4] [vI 0, vI 0, vI 4] rfl rfl (fun w_ hM => (.tmp rfl (.tmp rfl (.tmp rfl .nil)))) (fun w_ hM => ?_)
  exact ⟨A_q_0, y_q_0, h_q_0, rfl, hM⟩
 · --
  have hp := cnd_f hc1 hp
  refine st_skip ?_
  refine fin_then ?_
  refine st_seq ?_
  refine st_region [oF 0, oF 1, oF 2, oF 3, oF 4, oF 5, oF 6, oF 7] (by rfl) ?_
  refine oR [oF 0, oF 1, oF 2] [(21, vP b_q 0), (6, vI (IntKind.i64.wrap ((q_0.length : Int) - 1))), (0, vP b_q 0)] [21, 6, 0] (by kernel_rfl) ?_
  refine ops_mem (d := some 22) (an := [.v (.slice A_q_0 q_0.length c_q_0)]) (evs := [.load ⟨b_q, 0, none⟩ (.slice A_q_0 q_0.length c_q_0)]) (v := .slice A_q_0 q_0.length c_q_0) (M' := Mem w0 (.blk b_q [.slice A_q_0 q_0.length c_q_0, vI q_1] 78 :: orow A_q_0 q_0.length c_q_0 151 3 y_q_0 :: Fz F W :: cs)) ⟨by kernel_rfl⟩ (fun w_ hM hS => ⟨w_, ⟨hM.cell 0 rfl rfl, rfl⟩, hM, trivial⟩) ?_
  refine oR [] [(22, .slice A_q_0 q_0.length c_q_0), (6, vI (IntKind.i64.wrap ((q_0.length : Int) - 1))), (0, vP b_q 0)] [22, 6, 0] (by kernel_rfl) ?_
  obtain ⟨x2, hv3, hp⟩ := obind hp
  obtain ⟨m4, hm5, hx6⟩ := idx_some hv3
  have hl9 := (List.getElem?_eq_some_iff.1 hx6).1
  refine ops_fact (fun w_ hM => hM.orowSome 1 rfl (Nat.lt_of_le_of_lt (Nat.zero_le _) hl9)) ?_
  rintro ⟨g10, rfl, -⟩
  obtain ⟨vs7, hr8, hq11⟩ := h_q_0.at_ m4 x2 hx6
  obtain rfl := dec_queue_item_int hr8
  refine ops_val (op := (Go.Op.indexAddr 76 (Go.Operand.tmp 22) (Go.Operand.const (Go.Value.int Go.IntKind.i64 0)))) (d := some 23) (v := vP g10 (m4 * 3)) ⟨by kernel_rfl⟩ (run_indexRow Try.underlying76 (z := 3) (by kernel_rfl) rfl rfl hm5 hl9 rfl) ?_
  refine oR [] [(23, vP g10 (m4 * 3)), (6, vI (IntKind.i64.wrap ((q_0.length : Int) - 1))), (0, vP b_q 0)] [23, 6, 0] (by kernel_rfl) ?_
  refine ops_mem (d := some 24) (an := [.v (vI x2.v), .v (vI x2.rank), .v (vI x2.came)]) (evs := [.load ⟨g10, m4 * 3, none⟩ (vI x2.v), .load ⟨g10, m4 * 3 + 1, none⟩ (vI x2.rank), .load ⟨g10, m4 * 3 + 2, none⟩ (vI x2.came)]) (v := .agg #[vI x2.v, vI x2.rank, vI x2.came]) (M' := Mem w0 (.blk b_q [.slice (some ⟨g10, 0, none⟩) q_0.length c_q_0, vI q_1] 78 :: orow (some ⟨g10, 0, none⟩) q_0.length c_q_0 151 3 y_q_0 :: Fz F W :: cs)) ⟨by kernel_rfl⟩ (fun w_ hM hS => ⟨w_, ⟨hM.ocell 1 rfl (hq11 0 _ rfl), hM.ocell 1 rfl (hq11 1 _ rfl), hM.ocell 1 rfl (hq11 2 _ rfl), rfl⟩, hM, trivial⟩) ?_
  refine oR [] [(24, .agg #[vI x2.v, vI x2.rank, vI x2.came]), (6, vI (IntKind.i64.wrap ((q_0.length : Int) - 1))), (0, vP b_q 0)] [24, 6, 0] (by kernel_rfl) ?_
  refine ops_new (d := some 7) (o := .cells #[vI 0, vI 0, vI 0] 151) (v := fun b12 => vP b12 0) (M' := fun b12 => Mem w0 (.blk b12 [vI 0, vI 0, vI 0] 151 :: .blk b_q [.slice (some ⟨g10, 0, none⟩) q_0.length c_q_0, vI q_1] 78 :: orow (some ⟨g10, 0, none⟩) q_0.length c_q_0 151 3 y_q_0 :: Fz F W :: cs)) (fun b12 => ⟨by kernel_rfl⟩) (fun w_ hM hS => ⟨hM.blk [vI 0, vI 0, vI 0] 151, trivial⟩) (fun b12 => ?_)
  refine ops_store (an := []) (evs := [.store ⟨b12, 0, none⟩ (vI x2.v), .store ⟨b12, 1, none⟩ (vI x2.rank), .store ⟨b12, 2, none⟩ (vI x2.came)]) (M' := Mem w0 (.blk b12 [vI x2.v, vI x2.rank, vI x2.came] 151 :: .blk b_q [.slice (some ⟨g10, 0, none⟩) q_0.length c_q_0, vI q_1] 78 :: orow (some ⟨g10, 0, none⟩) q_0.length c_q_0 151 3 y_q_0 :: Fz F W :: cs)) ⟨by kernel_rfl⟩ (fun w_ hM hS => let ⟨w', he, h'⟩ := hM.evs_stores [vI x2.v, vI x2.rank, vI x2.came] 0 rfl 0 (Nat.le_of_ble_eq_true rfl); ⟨w', he, h', trivial⟩) ?_
  refine oR [] [(7, vP b12 0), (6, vI (IntKind.i64.wrap ((q_0.length : Int) - 1))), (0, vP b_q 0)] [7, 6, 0] (by kernel_rfl) ?_
  refine ops_nil ?_
  refine fin_then ?_
  refine st_seq ?_
  refine st_region_draw [oT 0, oT 1, oT 2, oT 3, oT 4, oT 5, oT 6, oT 7, oT 8, oT 9, oF 10, oT 11, oF 12] (Mem w0 (.blk b12 [vI x2.v, vI x2.rank, vI x2.came] 151 :: .blk b_q [.slice (some ⟨g10, 0, none⟩) q_0.length c_q_0, vI q_1] 78 :: Fz F W :: cs)) (by kernel_rfl) (by kernel_rfl) (by kernel_rfl) (fun _ d _ _ _ h => by cases d <;> exact h) (M' := Mem w0 (.blk b12 [vI x2.v, vI x2.rank, vI x2.came] 151 :: .blk b_q [.slice (some ⟨g10, 0, none⟩) q_0.length c_q_0, vI q_1] 78 :: orow (some ⟨g10, 0, none⟩) q_0.length c_q_0 151 3 y_q_0 :: Fz F W :: cs)) (fun w_ hM => ⟨hM.drew, hM.drew.sub (.cons_cons _ (.cons_cons _ (.cons _ (.cons_cons _ (.refl _)))))⟩) ?_
  refine oR [oT 0, oT 1, oT 2] [(27, vP b_q 0), (7, vP b12 0), (6, vI (IntKind.i64.wrap ((q_0.length : Int) - 1))), (0, vP b_q 0)] [27, 7, 6, 0] (by kernel_rfl) ?_
  refine ops_load (d := some 28) (an := [.v (.slice (some ⟨g10, 0, none⟩) q_0.length c_q_0)]) (evs := [.load ⟨b_q, 0, none⟩ (.slice (some ⟨g10, 0, none⟩) q_0.length c_q_0)]) (v := .slice (some ⟨g10, 0, none⟩) q_0.length c_q_0) ⟨by kernel_rfl⟩ (fun w_ hM => ⟨hM.cell 1 rfl rfl, rfl⟩) ?_
  refine oR [oT 4, oT 5, oT 6] [(31, vP b_q 0), (28, .slice (some ⟨g10, 0, none⟩) q_0.length c_q_0), (7, vP b12 0), (6, vI (IntKind.i64.wrap ((q_0.length : Int) - 1))), (0, vP b_q 0)] [31, 28, 7, 6, 0] (by kernel_rfl) ?_
  refine ops_load (d := some 32) (an := [.v (.slice (some ⟨g10, 0, none⟩) q_0.length c_q_0)]) (evs := [.load ⟨b_q, 0, none⟩ (.slice (some ⟨g10, 0, none⟩) q_0.length c_q_0)]) (v := .slice (some ⟨g10, 0, none⟩) q_0.length c_q_0) ⟨by kernel_rfl⟩ (fun w_ hM => ⟨hM.cell 1 rfl rfl, rfl⟩) ?_
  refine oR [oT 8] [(33, vI (IntKind.i64.wrap ((q_0.length : Int) - 1))), (32, .slice (some ⟨g10, 0, none⟩) q_0.length c_q_0), (28, .slice (some ⟨g10, 0, none⟩) q_0.length c_q_0), (7, vP b12 0), (6, vI (IntKind.i64.wrap ((q_0.length : Int) - 1))), (0, vP b_q 0)] [33, 32, 28, 7, 6, 0] (by kernel_rfl) ?_
  obtain ⟨x13, hv14, hp⟩ := obind hp
  obtain ⟨m15, hm16, hx17⟩ := idx_some hv14
  have hl20 := (List.getElem?_eq_some_iff.1 hx17).1
  obtain ⟨vs18, hr19, hq21⟩ := h_q_0.at_ m15 x13 hx17
  obtain rfl := dec_queue_item_int hr19
  refine ops_val (op := (Go.Op.indexAddr 76 (Go.Operand.tmp 32) (Go.Operand.tmp 33))) (d := some 34) (v := vP g10 (m15 * 3)) ⟨by kernel_rfl⟩ (run_indexRow Try.underlying76 (z := 3) (by kernel_rfl) rfl rfl hm16 hl20 rfl) ?_
  refine oR [] [(34, vP g10 (m15 * 3)), (28, .slice (some ⟨g10, 0, none⟩) q_0.length c_q_0), (7, vP b12 0), (6, vI (IntKind.i64.wrap ((q_0.length : Int) - 1))), (0, vP b_q 0)] [34, 28, 7, 6, 0] (by kernel_rfl) ?_
  refine ops_mem (d := some 35) (an := [.v (vI x13.v), .v (vI x13.rank), .v (vI x13.came)]) (evs := [.load ⟨g10, m15 * 3, none⟩ (vI x13.v), .load ⟨g10, m15 * 3 + 1, none⟩ (vI x13.rank), .load ⟨g10, m15 * 3 + 2, none⟩ (vI x13.came)]) (v := .agg #[vI x13.v, vI x13.rank, vI x13.came]) (M' := Mem w0 (.blk b12 [vI x2.v, vI x2.rank, vI x2.came] 151 :: .blk b_q [.slice (some ⟨g10, 0, none⟩) q_0.length c_q_0, vI q_1] 78 :: orow (some ⟨g10, 0, none⟩) q_0.length c_q_0 151 3 y_q_0 :: Fz F W :: cs)) ⟨by kernel_rfl⟩ (fun w_ hM hS => ⟨w_, ⟨hM.ocell 2 rfl (hq21 0 _ rfl), hM.ocell 2 rfl (hq21 1 _ rfl), hM.ocell 2 rfl (hq21 2 _ rfl), rfl⟩, hM, hS⟩) ?_
  refine oR [] [(35, .agg #[vI x13.v, vI x13.rank, vI x13.came]), (28, .slice (some ⟨g10, 0, none⟩) q_0.length c_q_0), (7, vP b12 0), (6, vI (IntKind.i64.wrap ((q_0.length : Int) - 1))), (0, vP b_q 0)] [35, 28, 7, 6, 0] (by kernel_rfl) ?_
  obtain ⟨x22, hv23, hp⟩ := obind hp
  obtain ⟨m24, hm25, hx26⟩ := idx_some hv23
  have hl29 := (List.getElem?_eq_some_iff.1 hx26).1
  obtain ⟨vs27, hr28, hq30⟩ := h_q_0.at_ m24 x22 hx26
  obtain rfl := dec_queue_item_int hr28
  refine ops_val (op := (Go.Op.indexAddr 76 (Go.Operand.tmp 28) (Go.Operand.const (Go.Value.int Go.IntKind.i64 0)))) (d := some 36) (v := vP g10 (m24 * 3)) ⟨by kernel_rfl⟩ (run_indexRow Try.underlying76 (z := 3) (by kernel_rfl) rfl rfl hm25 hl29 rfl) ?_
  refine oR [] [(36, vP g10 (m24 * 3)), (35, .agg #[vI x13.v, vI x13.rank, vI x13.came]), (7, vP b12 0), (6, vI (IntKind.i64.wrap ((q_0.length : Int) - 1))), (0, vP b_q 0)] [36, 35, 7, 6, 0] (by kernel_rfl) ?_
  obtain ⟨l31, hv32, hp⟩ := obind hp
  obtain ⟨m33, hm34, hl35, he36⟩ := upd_some hv32
  obtain rfl : m24 = m33 := by have := hm25; omega
  have hl37 : q_0.length = l31.length := by rw [he36, List.length_set]
  obtain ⟨y38, hy39⟩ : ∃ y_, setAll y_q_0 (m24 * 3 + 0) [vI x13.v, vI x13.rank, vI x13.came] = y_ := ⟨_, rfl⟩
  have h40 : RepL R_queue_item_int F W l31 y38 := by rw [he36, ← hy39]; exact RepL.set h_q_0 (List.getElem?_eq_getElem hl35) (fun vs_ hr_ _ => by obtain rfl := dec_queue_item_int hr_; exact ⟨(enc_queue_item_int), Nat.le_of_ble_eq_true rfl⟩)
  refine ops_store (an := []) (evs := [.store ⟨g10, m24 * 3, none⟩ (vI x13.v), .store ⟨g10, m24 * 3 + 1, none⟩ (vI x13.rank), .store ⟨g10, m24 * 3 + 2, none⟩ (vI x13.came)]) (M' := Mem w0 (.blk b12 [vI x2.v, vI x2.rank, vI x2.came] 151 :: .blk b_q [.slice (some ⟨g10, 0, none⟩) q_0.length c_q_0, vI q_1] 78 :: orow (some ⟨g10, 0, none⟩) l31.length c_q_0 151 3 y38 :: Fz F W :: cs)) ⟨by kernel_rfl⟩ (fun w_ hM hS => let ⟨w', he, h'⟩ := hM.ostore' 2 rfl (m24 * 3 + 0) [vI x13.v, vI x13.rank, vI x13.came] (by have z_ : y_q_0.length = q_0.length * 3 := h_q_0.len; have y_ : (m24 + 1) * 3 ≤ q_0.length * 3 := Nat.mul_le_mul_right _ hl35; rw [Nat.add_mul] at y_; simp only [List.length_cons, List.length_nil]; omega) hl37 hy39; ⟨w', he, h', (by exact h'.sub (.cons_cons _ (.cons_cons _ (.cons _ (.cons_cons _ (.refl _))))))⟩) ?_
  refine ops_conv (l' := [(36, vP g10 (m24 * 3)), (35, .agg #[vI x13.v, vI x13.rank, vI x13.came]), (7, vP b12 0), (6, vI (IntKind.i64.wrap ((q_0.length : Int) - 1))), (0, vP b_q 0)]) (M' := Mem w0 (.blk b12 [vI x2.v, vI x2.rank, vI x2.came] 151 :: .blk b_q [.slice (some ⟨g10, 0, none⟩) l31.length c_q_0, vI q_1] 78 :: orow (some ⟨g10, 0, none⟩) l31.length c_q_0 151 3 y38 :: Fz F W :: cs)) (by first | rfl | rw [hl37]) (fun w_ hM => by first | exact hM | (rw [hl37] at hM; exact hM)) ?_
  refine oR [] [(7, vP b12 0), (6, vI (IntKind.i64.wrap ((q_0.length : Int) - 1))), (0, vP b_q 0)] [7, 6, 0] (by kernel_rfl) ?_
  refine ops_nil ?_
  refine fin_then ?_
  refine st_seq ?_
  refine st_region [oF 0, oF 1, oF 2, oF 3, oF 4, oF 5, oF 6, oF 7] (by rfl) ?_
  refine oR [oF 0, oF 1, oF 2] [(39, vP b_q 0), (7, vP b12 0), (6, vI (IntKind.i64.wrap ((q_0.length : Int) - 1))), (0, vP b_q 0)] [39, 7, 6, 0] (by kernel_rfl) ?_
  refine ops_mem (d := some 40) (an := [.v (.slice (some ⟨g10, 0, none⟩) l31.length c_q_0)]) (evs := [.load ⟨b_q, 0, none⟩ (.slice (some ⟨g10, 0, none⟩) l31.length c_q_0)]) (v := .slice (some ⟨g10, 0, none⟩) l31.length c_q_0) (M' := Mem w0 (.blk b12 [vI x2.v, vI x2.rank, vI x2.came] 151 :: .blk b_q [.slice (some ⟨g10, 0, none⟩) l31.length c_q_0, vI q_1] 78 :: orow (some ⟨g10, 0, none⟩) l31.length c_q_0 151 3 y38 :: Fz F W :: cs)) ⟨by kernel_rfl⟩ (fun w_ hM hS => ⟨w_, ⟨hM.cell 1 rfl rfl, rfl⟩, hM, trivial⟩) ?_
  refine oR [oF 4, oF 5] [(42, .agg #[vI 0, vI 0, vI 0]), (41, vI (IntKind.i64.wrap ((q_0.length : Int) - 1))), (40, .slice (some ⟨g10, 0, none⟩) l31.length c_q_0), (7, vP b12 0), (6, vI (IntKind.i64.wrap ((q_0.length : Int) - 1))), (0, vP b_q 0)] [42, 41, 40, 7, 6, 0] (by kernel_rfl) ?_
  obtain ⟨x42, hv43, hp⟩ := obind hp
  obtain ⟨m44, hm45, hx46⟩ := idx_some hv43
  have hl49 := (List.getElem?_eq_some_iff.1 hx46).1
  obtain ⟨vs47, hr48, hq50⟩ := h40.at_ m44 x42 hx46
  obtain rfl := dec_queue_item_int hr48
  refine ops_val (op := (Go.Op.indexAddr 76 (Go.Operand.tmp 40) (Go.Operand.tmp 41))) (d := some 43) (v := vP g10 (m44 * 3)) ⟨by kernel_rfl⟩ (run_indexRow Try.underlying76 (z := 3) (by kernel_rfl) rfl rfl hm45 hl49 rfl) ?_
  refine oR [] [(43, vP g10 (m44 * 3)), (42, .agg #[vI 0, vI 0, vI 0]), (7, vP b12 0), (6, vI (IntKind.i64.wrap ((q_0.length : Int) - 1))), (0, vP b_q 0)] [43, 42, 7, 6, 0] (by kernel_rfl) ?_
  obtain ⟨l51, hv52, hp⟩ := obind hp
  obtain ⟨m53, hm54, hl55, he56⟩ := upd_some hv52
  obtain rfl : m44 = m53 := by have := hm45; omega
  have hl57 : l31.length = l51.length := by rw [he56, List.length_set]
  obtain ⟨y58, hy59⟩ : ∃ y_, setAll y38 (m44 * 3 + 0) [vI 0, vI 0, vI 0] = y_ := ⟨_, rfl⟩
  have h60 : RepL R_queue_item_int F W l51 y58 := by rw [he56, ← hy59]; exact RepL.set h40 (List.getElem?_eq_getElem hl55) (fun vs_ hr_ _ => by obtain rfl := dec_queue_item_int hr_; exact ⟨(enc_queue_item_int), Nat.le_of_ble_eq_true rfl⟩)
  refine ops_store (an := []) (evs := [.store ⟨g10, m44 * 3, none⟩ (vI 0), .store ⟨g10, m44 * 3 + 1, none⟩ (vI 0), .store ⟨g10, m44 * 3 + 2, none⟩ (vI 0)]) (M' := Mem w0 (.blk b12 [vI x2.v, vI x2.rank, vI x2.came] 151 :: .blk b_q [.slice (some ⟨g10, 0, none⟩) l31.length c_q_0, vI q_1] 78 :: orow (some ⟨g10, 0, none⟩) l51.length c_q_0 151 3 y58 :: Fz F W :: cs)) ⟨by kernel_rfl⟩ (fun w_ hM hS => let ⟨w', he, h'⟩ := hM.ostore' 2 rfl (m44 * 3 + 0) [vI 0, vI 0, vI 0] (by have z_ : y38.length = l31.length * 3 := h40.len; have y_ : (m44 + 1) * 3 ≤ l31.length * 3 := Nat.mul_le_mul_right _ hl55; rw [Nat.add_mul] at y_; simp only [List.length_cons, List.length_nil]; omega) hl57 hy59; ⟨w', he, h', trivial⟩) ?_
  refine ops_conv (l' := [(43, vP g10 (m44 * 3)), (42, .agg #[vI 0, vI 0, vI 0]), (7, vP b12 0), (6, vI (IntKind.i64.wrap ((q_0.length : Int) - 1))), (0, vP b_q 0)]) (M' := Mem w0 (.blk b12 [vI x2.v, vI x2.rank, vI x2.came] 151 :: .blk b_q [.slice (some ⟨g10, 0, none⟩) l51.length c_q_0, vI q_1] 78 :: orow (some ⟨g10, 0, none⟩) l51.length c_q_0 151 3 y58 :: Fz F W :: cs)) (by first | rfl | rw [hl57]) (fun w_ hM => by first | exact hM | (rw [hl57] at hM; exact hM)) ?_
  refine oR [] [(7, vP b12 0), (6, vI (IntKind.i64.wrap ((q_0.length : Int) - 1))), (0, vP b_q 0)] [7, 6, 0] (by kernel_rfl) ?_
  refine ops_nil ?_
  refine fin_then ?_
  refine st_seq ?_
  refine st_region [oF 0, oF 1, oF 2, oF 3, oF 4, oF 5, oF 6, oF 7, oF 8, oF 9] (by rfl) ?_
  refine oR [oF 0, oF 1, oF 2, oF 3] [(47, vP b_q 0), (44, vP b_q 0), (7, vP b12 0), (6, vI (IntKind.i64.wrap ((q_0.length : Int) - 1))), (0, vP b_q 0)] [47, 44, 7, 6, 0] (by kernel_rfl) ?_
  refine ops_mem (d := some 48) (an := [.v (.slice (some ⟨g10, 0, none⟩) l51.length c_q_0)]) (evs := [.load ⟨b_q, 0, none⟩ (.slice (some ⟨g10, 0, none⟩) l51.length c_q_0)]) (v := .slice (some ⟨g10, 0, none⟩) l51.length c_q_0) (M' := Mem w0 (.blk b12 [vI x2.v, vI x2.rank, vI x2.came] 151 :: .blk b_q [.slice (some ⟨g10, 0, none⟩) l51.length c_q_0, vI q_1] 78 :: orow (some ⟨g10, 0, none⟩) l51.length c_q_0 151 3 y58 :: Fz F W :: cs)) ⟨by kernel_rfl⟩ (fun w_ hM hS => ⟨w_, ⟨hM.cell 1 rfl rfl, rfl⟩, hM, trivial⟩) ?_
  refine oR [oF 5] [(49, vI (IntKind.i64.wrap ((q_0.length : Int) - 1))), (48, .slice (some ⟨g10, 0, none⟩) l51.length c_q_0), (44, vP b_q 0), (7, vP b12 0), (6, vI (IntKind.i64.wrap ((q_0.length : Int) - 1))), (0, vP b_q 0)] [49, 48, 44, 7, 6, 0] (by kernel_rfl) ?_
  obtain ⟨l62, hv63, hp⟩ := obind hp
  obtain ⟨m64, n65, hm66, hn67, h68, h69, he70⟩ := cut_some hv63
  have hl71 := cut_len he70 h68 h69
  obtain rfl : m64 = 0 := by omega
  refine ops_fact (fun w_ hM => (hM.rowCap 2 rfl).1) (fun hc73 => ?_)
  obtain ⟨y74, hy75⟩ : ∃ y_, y58.take (l62.length * 3) = y_ := ⟨_, rfl⟩
  have h72 : RepL R_queue_item_int F W l62 y74 := by rw [← hy75, hl71, he70, List.drop_zero, Nat.sub_zero]; exact h60.take _
  refine ops_val (op := (Go.Op.slice 76 (Go.Operand.tmp 48) none (some (Go.Operand.tmp 49)) none)) (d := some 50) (v := .slice (some ⟨g10, 0, none⟩) l62.length c_q_0) ⟨by kernel_rfl⟩ (run_cutH0 (by kernel_rfl) (z := 3) (by kernel_rfl) rfl rfl hn67 (Nat.le_trans h69 hc73) (by omega)) ?_
  refine ops_conv (l' := [(50, .slice (some ⟨g10, 0, none⟩) l62.length c_q_0), (49, vI (IntKind.i64.wrap ((q_0.length : Int) - 1))), (48, .slice (some ⟨g10, 0, none⟩) l51.length c_q_0), (44, vP b_q 0), (7, vP b12 0), (6, vI (IntKind.i64.wrap ((q_0.length : Int) - 1))), (0, vP b_q 0)]) (M' := Mem w0 (.blk b12 [vI x2.v, vI x2.rank, vI x2.came] 151 :: .blk b_q [.slice (some ⟨g10, 0, none⟩) l51.length c_q_0, vI q_1] 78 :: orow (some ⟨g10, 0, none⟩) l62.length c_q_0 151 3 y74 :: Fz F W :: cs)) rfl (fun w_ h => h.otake' 2 rfl (by omega) hy75) ?_
  refine oR [oF 7, oF 8] [(52, vP b_q 0), (50, .slice (some ⟨g10, 0, none⟩) l62.length c_q_0), (7, vP b12 0), (6, vI (IntKind.i64.wrap ((q_0.length : Int) - 1))), (0, vP b_q 0)] [52, 50, 7, 6, 0] (by kernel_rfl) ?_
  refine ops_store (an := []) (evs := [.store ⟨b_q, 0, none⟩ (.slice (some ⟨g10, 0, none⟩) l62.length c_q_0)]) (M' := Mem w0 (.blk b12 [vI x2.v, vI x2.rank, vI x2.came] 151 :: .blk b_q [.slice (some ⟨g10, 0, none⟩) l62.length c_q_0, vI q_1] 78 :: orow (some ⟨g10, 0, none⟩) l62.length c_q_0 151 3 y74 :: Fz F W :: cs)) ⟨by kernel_rfl⟩ (fun w_ hM hS => let ⟨w', he, h'⟩ := hM.evs_stores [.slice (some ⟨g10, 0, none⟩) l62.length c_q_0] 1 rfl 0 (Nat.le_of_ble_eq_true rfl); ⟨w', he, h', trivial⟩) ?_
  refine oR [] [(7, vP b12 0), (6, vI (IntKind.i64.wrap ((q_0.length : Int) - 1))), (0, vP b_q 0)] [7, 6, 0] (by kernel_rfl) ?_
  refine ops_nil ?_
  refine fin_then ?_
  refine st_join1 (σ := (Option Addr) × (List queue_item_int) × (List Value)) (L := fun x_ => match x_ with | (A76, l77, y78) => [(7, vP b12 0)]) (N := fun x_ => match x_ with | (A76, l77, y78) => Mem w0 (.blk b12 [vI x2.v, vI x2.rank, vI x2.came] 151 :: .blk b_q [.slice A76 l77.length c_q_0, vI q_1] 78 :: orow A76 l77.length c_q_0 151 3 y78 :: Fz F W :: cs)) (I := fun x_ => match x_ with | (A76, l77, y78) => ((queue_Queue_int_Take_j1 x2) l77 = some (i9001, i9002, i9003, l9005)) ∧ (RepL R_queue_item_int F W l77 y78)) ?_ ?_
  · --
   rintro ⟨A76, l77, y78⟩ ⟨hp, h79⟩
   refine st_conv (l' := [(7, vP b12 0)]) (M' := Mem w0 (.blk b12 [vI x2.v, vI x2.rank, vI x2.came] 151 :: .blk b_q [.slice A76 l77.length c_q_0, vI q_1] 78 :: orow A76 l77.length c_q_0 151 3 y78 :: Fz F W :: cs)) rfl (fun _ h => h) ?_
   unfold queue_Queue_int_Take_j1 at hp
   refine st_seq ?_
   refine st_region_draw [oT 0, oT 1, oT 2, oT 3, oT 4, oT 5, oT 6] (Mem w0 (.blk b12 [vI x2.v, vI x2.rank, vI x2.came] 151 :: .blk b_q [.slice A76 l77.length c_q_0, vI q_1] 78 :: orow A76 l77.length c_q_0 151 3 y78 :: Fz F W :: cs)) (by kernel_rfl) (by kernel_rfl) (by kernel_rfl) (fun _ d _ _ _ h => by cases d <;> exact h) (M' := Mem w0 (.blk b12 [vI x2.v, vI x2.rank, vI x2.came] 151 :: .blk b_q [.slice A76 l77.length c_q_0, vI q_1] 78 :: orow A76 l77.length c_q_0 151 3 y78 :: Fz F W :: cs)) (fun w_ hM => ⟨hM.drew, hM.drew.sub (.cons_cons _ (.cons_cons _ (.cons_cons _ (.cons_cons _ (.refl _)))))⟩) ?_
   refine oR [oT 0] [(105, vP b12 0), (7, vP b12 0)] [105, 7] (by kernel_rfl) ?_
   refine ops_load (d := some 106) (an := [.v (vI x2.v)]) (evs := [.load ⟨b12, 0, none⟩ (vI x2.v)]) (v := vI x2.v) ⟨by kernel_rfl⟩ (fun w_ hM => ⟨hM.cell 0 rfl rfl, rfl⟩) ?_
   refine oR [oT 2] [(107, vP b12 1), (106, vI x2.v)] [107, 106] (by kernel_rfl) ?_
   refine ops_load (d := some 108) (an := [.v (vI x2.rank)]) (evs := [.load ⟨b12, 1, none⟩ (vI x2.rank)]) (v := vI x2.rank) ⟨by kernel_rfl⟩ (fun w_ hM => ⟨hM.cell 0 rfl rfl, rfl⟩) ?_
   refine oR [oT 4, oT 5, oT 6] [(4, vI 0), (3, vI x2.rank), (2, vI x2.v)] [4, 3, 2] (by kernel_rfl) ?_
   refine ops_nil ?_
   refine fin_then ?_
   refine st_ret ?_
   have hq_ := Option.some.inj hp
   obtain ⟨hr0_, hq_⟩ := Prod.mk.inj hq_
   obtain ⟨hr1_, hq_⟩ := Prod.mk.inj hq_
   obtain ⟨hr2_, hq_⟩ := Prod.mk.inj hq_
   have hr3_ := hq_
   subst hr0_
   subst hr1_
   subst hr2_
   subst hr3_
   refine fin_ret [.tmp 2, .tmp 3, .tmp 4] [vI x2.v, vI x2.rank, vI 0] rfl rfl (fun w_ hM => (.tmp rfl (.tmp rfl (.tmp rfl .nil)))) (fun w_ hM => ?_)
   exact ⟨A76, y78, h79, rfl, hM.pick 4 [1, 2, 3] (by kernel_rfl) (by decide) rfl⟩
  · --
   intro HJ1
   refine st_seq ?_
   refine st_seq ?_
   refine st_region [oF 0] (by rfl) ?_
   refine oR [oF 0] [(8, vI 0), (7, vP b12 0), (6, vI (IntKind.i64.wrap ((q_0.length : Int) - 1))), (0, vP b_q 0)] [8, 7, 6, 0] (by kernel_rfl) ?_
   refine ops_nil ?_
   refine fin_then ?_
   refine st_block ?_
   obtain ⟨r2, hl2, hk2⟩ := obind hp
   refine st_loopP (σ := (List queue_item_int) × Int) (ρ := (List queue_item_int)) (γ := (Option Addr) × (List Value)) hl2 ((some ⟨g10, 0, none⟩), y74) (fun s_ g_ => match s_, g_ with | (l81, i84), (A80, y82) => [(0, vP b_q 0), (6, vI (IntKind.i64.wrap ((q_0.length : Int) - 1))), (7, vP b12 0), (8, vI i84)]) (fun s_ g_ => match s_, g_ with | (l81, i84), (A80, y82) => Mem w0 (.blk b_q [.slice A80 l81.length c_q_0, vI q_1] 78 :: orow A80 l81.length c_q_0 151 3 y82 :: .blk b12 [vI x2.v, vI x2.rank, vI x2.came] 151 :: Fz F W :: cs)) (fun s_ g_ => match s_, g_ with | (l81, i84), (A80, y82) => (RepL R_queue_item_int F W l81 y82)) h72 (look_has ⟨rfl, rfl, rfl, rfl, trivial⟩) (fun w_ hM => hM.pick 4 [1, 2, 0, 3] (by kernel_rfl) (by decide) rfl) ?_
   rintro ⟨l81, i84⟩ ⟨A80, y82⟩ o2 h83 hs_ hd2
   have hp : (queue_Queue_int_Take_l2 q_0 q_1) l81 i84 = some o2 := hs_
   clear hs_
   unfold queue_Queue_int_Take_l2 at hp
   refine st_conv (l' := [(0, vP b_q 0), (6, vI (IntKind.i64.wrap ((q_0.length : Int) - 1))), (7, vP b12 0), (8, vI i84)]) (M' := Mem w0 (.blk b_q [.slice A80 l81.length c_q_0, vI q_1] 78 :: orow A80 l81.length c_q_0 151 3 y82 :: .blk b12 [vI x2.v, vI x2.rank, vI x2.came] 151 :: Fz F W :: cs)) rfl (fun _ h => h) ?_
   refine st_block ?_
   refine st_seq ?_
   refine st_region [oF 0, oF 1, oF 2, oF 3] (by rfl) ?_
   refine oR [oF 0, oF 1, oF 2, oF 3] [(9, vI (IntKind.i64.wrap (IntKind.i64.wrap (2 * i84) + 1))), (0, vP b_q 0), (6, vI (IntKind.i64.wrap ((q_0.length : Int) - 1))), (7, vP b12 0), (8, vI i84)] [9, 0, 6, 7, 8] (by kernel_rfl) ?_
   refine ops_nil ?_
   refine fin_then ?_
   refine st_join1 (σ := (Option Addr) × (List Value) × Int) (L := fun x_ => match x_ with | (A85, y86, i88) => [(0, vP b_q 0), (6, vI (IntKind.i64.wrap ((q_0.length : Int) - 1))), (7, vP b12 0), (8, vI i84), (9, vI i88)]) (N := fun x_ => match x_ with | (A85, y86, i88) => Mem w0 (.blk b_q [.slice A85 l81.length c_q_0, vI q_1] 78 :: orow A85 l81.length c_q_0 151 3 y86 :: .blk b12 [vI x2.v, vI x2.rank, vI x2.came] 151 :: Fz F W :: cs)) (I := fun x_ => match x_ with | (A85, y86, i88) => ((queue_Queue_int_Take_j3 q_0 l81 q_1 i84) i88 = some o2) ∧ (RepL R_queue_item_int F W l81 y86)) ?_ ?_
   · --
    rintro ⟨A85, y86, i88⟩ ⟨hp, h87⟩
    refine st_conv (l' := [(0, vP b_q 0), (6, vI (IntKind.i64.wrap ((q_0.length : Int) - 1))), (7, vP b12 0), (8, vI i84), (9, vI i88)]) (M' := Mem w0 (.blk b_q [.slice A85 l81.length c_q_0, vI q_1] 78 :: orow A85 l81.length c_q_0 151 3 y86 :: .blk b12 [vI x2.v, vI x2.rank, vI x2.came] 151 :: Fz F W :: cs)) rfl (fun _ h => h) ?_
    unfold queue_Queue_int_Take_j3 at hp
    refine st_seq ?_
    refine st_seq ?_
    refine st_region [oF 0, oF 1, oF 2, oF 3, oF 4, oF 5, oF 6, oF 7, oF 8] (by rfl) ?_
    refine oR [oF 0, oF 1, oF 2, oF 3] [(72, .bool (decide (IntKind.i64.wrap ((q_0.length : Int) - 1) ≤ i88))), (0, vP b_q 0), (6, vI (IntKind.i64.wrap ((q_0.length : Int) - 1))), (7, vP b12 0), (8, vI i84), (9, vI i88)] [72, 0, 6, 7, 8, 9] (by kernel_rfl) ?_
    refine ops_bool (t := decide (IntKind.i64.wrap ((q_0.length : Int) - 1) ≤ i88)) (l1 := [(72, .bool true), (0, vP b_q 0), (6, vI (IntKind.i64.wrap ((q_0.length : Int) - 1))), (7, vP b12 0), (8, vI i84), (9, vI i88)]) (l2 := [(72, .bool false), (0, vP b_q 0), (6, vI (IntKind.i64.wrap ((q_0.length : Int) - 1))), (7, vP b12 0), (8, vI i84), (9, vI i88)]) (fun h => by rw [h]) (fun h => by rw [h]) (fun hc89 => ?_) (fun hc89 => ?_)
    · --
     have hp := cnd_t hc89 hp
     refine oR [oF 4, oF 5, oF 6, oF 7, oF 8] [(77, .bool true), (0, vP b_q 0), (6, vI (IntKind.i64.wrap ((q_0.length : Int) - 1))), (7, vP b12 0), (8, vI i84), (9, vI i88)] [77, 0, 6, 7, 8, 9] (by kernel_rfl) ?_
     refine ops_nil ?_
     refine fin_then ?_
     refine st_true rfl ?_
     refine st_exit ?_
     refine fin_exit_then ?_
     refine fin_exit_ne (by rfl) ?_
     refine fin_exit_then ?_
     refine fin_exit ?_
     obtain hq_ := Option.some.inj hp
     subst hq_
     obtain hq_ := hd2 _ rfl
     subst hq_
     have hp : (queue_Queue_int_Take_j1 x2) l81 = some (i9001, i9002, i9003, l9005) := hk2
     exact fin_join HJ1 (A85, l81, y86) ⟨hp, h87⟩ (look_has ⟨rfl, trivial⟩) (fun w_ hM => hM.pick 4 [2, 0, 1, 3] (by kernel_rfl) (by decide) rfl)
    · --
     have hp := cnd_f hc89 hp
     refine oR [oF 4, oF 5, oF 6] [(75, vI i88), (74, vI i84), (73, vP b_q 0), (72, .bool false), (0, vP b_q 0), (6, vI (IntKind.i64.wrap ((q_0.length : Int) - 1))), (7, vP b12 0), (8, vI i84), (9, vI i88)] [75, 74, 73, 72, 0, 6, 7, 8, 9] (by kernel_rfl) ?_
     obtain ⟨x90, hv91, hp⟩ := obind hp
     refine ops_callI (σ := (Option Addr) × (List Value)) (d := some 76) (f := 115) (args := #[vP b_q 0, vI i84, vI i88]) (v := (fun x_ => match x_ with | (A92, y93) => .bool x90)) (I := (fun x_ => match x_ with | (A92, y93) => (RepL R_queue_item_int F W l81 y93))) (M' := (fun x_ => match x_ with | (A92, y93) => Mem w0 (orow A92 l81.length c_q_0 151 3 y93 :: .blk b_q [.slice A92 l81.length c_q_0, vI q_1] 78 :: .blk b12 [vI x2.v, vI x2.rank, vI x2.came] 151 :: Fz F W :: cs))) ⟨by kernel_rfl⟩ (fun w_ hM hS => (queue_Queue_int_before_ok w0 w_ (.blk b12 [vI x2.v, vI x2.rank, vI x2.came] 151 :: cs) F W b_q A85 c_q_0 l81 y86 q_1 i84 i88 (hM.pick 4 [0, 1, 3, 2] (by kernel_rfl) (by decide) rfl) h87 x90 hv91).mono (by rintro e w' ⟨A92, y93, h94, rfl, h'⟩; have h' : Mem w0 (orow A92 l81.length c_q_0 151 3 y93 :: .blk b_q [.slice A92 l81.length c_q_0, vI q_1] 78 :: .blk b12 [vI x2.v, vI x2.rank, vI x2.came] 151 :: Fz F W :: cs) w' := (h'.pick 4 [1, 0, 3, 2] (by kernel_rfl) (by decide) rfl); exact ⟨(A92, y93), h94, rfl, h', trivial⟩)) ?_
     rintro ⟨A92, y93⟩ h94
     refine ops_conv (l' := [(76, .bool x90), (75, vI i88), (74, vI i84), (73, vP b_q 0), (72, .bool false), (0, vP b_q 0), (6, vI (IntKind.i64.wrap ((q_0.length : Int) - 1))), (7, vP b12 0), (8, vI i84), (9, vI i88)]) (M' := Mem w0 (orow A92 l81.length c_q_0 151 3 y93 :: .blk b_q [.slice A92 l81.length c_q_0, vI q_1] 78 :: .blk b12 [vI x2.v, vI x2.rank, vI x2.came] 151 :: Fz F W :: cs)) rfl (fun _ h => h) ?_
     refine oR [oF 8] [(77, .bool x90), (0, vP b_q 0), (6, vI (IntKind.i64.wrap ((q_0.length : Int) - 1))), (7, vP b12 0), (8, vI i84), (9, vI i88)] [77, 0, 6, 7, 8, 9] (by kernel_rfl) ?_
     refine ops_nil ?_
     refine fin_then ?_
     refine st_if (b := x90) rfl (fun hc95 => ?_) (fun hc95 => ?_)
     · --
      have hp := cnd_t hc95 hp
      refine st_exit ?_
      refine fin_exit_then ?_
      refine fin_exit_ne (by rfl) ?_
      refine fin_exit_then ?_
      refine fin_exit ?_
      obtain hq_ := Option.some.inj hp
      subst hq_
      obtain hq_ := hd2 _ rfl
      subst hq_
      have hp : (queue_Queue_int_Take_j1 x2) l81 = some (i9001, i9002, i9003, l9005) := hk2
      exact fin_join HJ1 (A92, l81, y93) ⟨hp, h94⟩ (look_has ⟨rfl, trivial⟩) (fun w_ hM => hM.pick 4 [2, 1, 0, 3] (by kernel_rfl) (by decide) rfl)
     · --
      have hp := cnd_f hc95 hp
      refine st_skip ?_
      refine fin_then ?_
      refine st_join1 (σ := (Option Addr) × (List queue_item_int) × (List Value)) (L := fun x_ => match x_ with | (A96, l97, y98) => [(0, vP b_q 0), (6, vI (IntKind.i64.wrap ((q_0.length : Int) - 1))), (7, vP b12 0), (9, vI i88)]) (N := fun x_ => match x_ with | (A96, l97, y98) => Mem w0 (.blk b_q [.slice A96 l97.length c_q_0, vI q_1] 78 :: orow A96 l97.length c_q_0 151 3 y98 :: .blk b12 [vI x2.v, vI x2.rank, vI x2.came] 151 :: Fz F W :: cs)) (I := fun x_ => match x_ with | (A96, l97, y98) => ((queue_Queue_int_Take_j4 i88) l97 = some o2) ∧ (RepL R_queue_item_int F W l97 y98)) ?_ ?_
      · --
       rintro ⟨A96, l97, y98⟩ ⟨hp, h99⟩
       refine st_conv (l' := [(0, vP b_q 0), (6, vI (IntKind.i64.wrap ((q_0.length : Int) - 1))), (7, vP b12 0), (9, vI i88)]) (M' := Mem w0 (.blk b_q [.slice A96 l97.length c_q_0, vI q_1] 78 :: orow A96 l97.length c_q_0 151 3 y98 :: .blk b12 [vI x2.v, vI x2.rank, vI x2.came] 151 :: Fz F W :: cs)) rfl (fun _ h => h) ?_
       unfold queue_Queue_int_Take_j4 at hp
       refine st_region [oF 0, oF 1] (by rfl) ?_
       refine oR [oF 0, oF 1] [(8, vI i88), (0, vP b_q 0), (6, vI (IntKind.i64.wrap ((q_0.length : Int) - 1))), (7, vP b12 0)] [8, 0, 6, 7] (by kernel_rfl) ?_
       refine ops_nil ?_
       refine fin_block ?_
       exact fin_again (l97, i88) (A96, y98) (Option.some.inj hp).symm h99 (look_has ⟨rfl, rfl, rfl, rfl, trivial⟩) (fun w_ hM => hM)
      · --
       intro HJ4
       refine st_seq ?_
       obtain ⟨x100, hv101, hp⟩ := obind hp
       obtain ⟨x110, hv111, hp⟩ := obind hp
       obtain ⟨x119, hv120, hp⟩ := obind hp
       obtain ⟨l128, hv129, hp⟩ := obind hp
       obtain ⟨x139, hv140, hp⟩ := obind hp
       obtain ⟨l148, hv149, hp⟩ := obind hp
       refine st_region_tree (.node [oT 0, oT 1, oT 2, oT 3, oT 4, oT 5, oT 6, oT 7, oT 8, oT 9, oT 10, oT 11, oT 12, oT 13, oT 14, oT 15, oT 17, oT 18, oT 19, oT 20, oT 21, oT 22] (.leaf [oF 16, oF 23, oT 24, oF 25, oT 26, oF 27]) (.leaf [oF 23, oF 16, oT 24, oF 25, oT 26, oF 27])) (Mem w0 (.blk b_q [.slice A92 l81.length c_q_0, vI q_1] 78 :: .blk b12 [vI x2.v, vI x2.rank, vI x2.came] 151 :: Fz F W :: cs)) (by kernel_rfl) (by kernel_rfl) (by kernel_rfl) (fun _ d _ _ _ h => by cases d <;> exact h) (M' := Mem w0 (orow A92 l81.length c_q_0 151 3 y93 :: .blk b_q [.slice A92 l81.length c_q_0, vI q_1] 78 :: .blk b12 [vI x2.v, vI x2.rank, vI x2.came] 151 :: Fz F W :: cs)) (fun w_ hM => ⟨hM.drew, hM.drew.sub (.cons _ (.cons_cons _ (.cons_cons _ (.cons_cons _ (.refl _)))))⟩) ?_
       refine tree_node ?_
       refine oR [oT 0, oT 1, oT 2] [(80, vP b_q 0), (0, vP b_q 0), (6, vI (IntKind.i64.wrap ((q_0.length : Int) - 1))), (7, vP b12 0), (8, vI i84), (9, vI i88)] [80, 0, 6, 7, 8, 9] (by kernel_rfl) ?_
       refine ops_load (d := some 81) (an := [.v (.slice A92 l81.length c_q_0)]) (evs := [.load ⟨b_q, 0, none⟩ (.slice A92 l81.length c_q_0)]) (v := .slice A92 l81.length c_q_0) ⟨by kernel_rfl⟩ (fun w_ hM => ⟨hM.cell 0 rfl rfl, rfl⟩) ?_
       refine oR [oT 4, oT 5, oT 6, oT 7] [(85, vP b_q 0), (82, vI i84), (81, .slice A92 l81.length c_q_0), (0, vP b_q 0), (6, vI (IntKind.i64.wrap ((q_0.length : Int) - 1))), (7, vP b12 0), (8, vI i84), (9, vI i88)] [85, 82, 81, 0, 6, 7, 8, 9] (by kernel_rfl) ?_
       refine ops_load (d := some 86) (an := [.v (.slice A92 l81.length c_q_0)]) (evs := [.load ⟨b_q, 0, none⟩ (.slice A92 l81.length c_q_0)]) (v := .slice A92 l81.length c_q_0) ⟨by kernel_rfl⟩ (fun w_ hM => ⟨hM.cell 0 rfl rfl, rfl⟩) ?_
       refine oR [oT 9, oT 10, oT 11, oT 12] [(90, vP b_q 0), (87, vI i88), (86, .slice A92 l81.length c_q_0), (82, vI i84), (81, .slice A92 l81.length c_q_0), (0, vP b_q 0), (6, vI (IntKind.i64.wrap ((q_0.length : Int) - 1))), (7, vP b12 0), (8, vI i84), (9, vI i88)] [90, 87, 86, 82, 81, 0, 6, 7, 8, 9] (by kernel_rfl) ?_
       refine ops_load (d := some 91) (an := [.v (.slice A92 l81.length c_q_0)]) (evs := [.load ⟨b_q, 0, none⟩ (.slice A92 l81.length c_q_0)]) (v := .slice A92 l81.length c_q_0) ⟨by kernel_rfl⟩ (fun w_ hM => ⟨hM.cell 0 rfl rfl, rfl⟩) ?_
       refine oR [oT 14] [(92, vI i88), (91, .slice A92 l81.length c_q_0), (87, vI i88), (86, .slice A92 l81.length c_q_0), (82, vI i84), (81, .slice A92 l81.length c_q_0), (0, vP b_q 0), (6, vI (IntKind.i64.wrap ((q_0.length : Int) - 1))), (7, vP b12 0), (8, vI i84), (9, vI i88)] [92, 91, 87, 86, 82, 81, 0, 6, 7, 8, 9] (by kernel_rfl) ?_
       obtain ⟨m150, hm151, hx152⟩ := idx_some hv101
       have hl155 := (List.getElem?_eq_some_iff.1 hx152).1
       refine ops_fact (fun w_ hM => hM.orowSome 0 rfl (Nat.lt_of_le_of_lt (Nat.zero_le _) hl155)) ?_
       rintro ⟨g156, rfl, -⟩
       obtain ⟨vs153, hr154, hq157⟩ := h94.at_ m150 x100 hx152
       obtain rfl := dec_queue_item_int hr154
       refine ops_val (op := (Go.Op.indexAddr 76 (Go.Operand.tmp 91) (Go.Operand.tmp 92))) (d := some 93) (v := vP g156 (m150 * 3)) ⟨by kernel_rfl⟩ (run_indexRow Try.underlying76 (z := 3) (by kernel_rfl) rfl rfl hm151 hl155 rfl) ?_
       refine oR [oT 17, oT 18, oT 19] [(97, vP b_q 0), (93, vP g156 (m150 * 3)), (87, vI i88), (86, .slice (some ⟨g156, 0, none⟩) l81.length c_q_0), (82, vI i84), (81, .slice (some ⟨g156, 0, none⟩) l81.length c_q_0), (0, vP b_q 0), (6, vI (IntKind.i64.wrap ((q_0.length : Int) - 1))), (7, vP b12 0), (8, vI i84), (9, vI i88)] [97, 93, 87, 86, 82, 81, 0, 6, 7, 8, 9] (by kernel_rfl) ?_
       refine ops_load (d := some 98) (an := [.v (.slice (some ⟨g156, 0, none⟩) l81.length c_q_0)]) (evs := [.load ⟨b_q, 0, none⟩ (.slice (some ⟨g156, 0, none⟩) l81.length c_q_0)]) (v := .slice (some ⟨g156, 0, none⟩) l81.length c_q_0) ⟨by kernel_rfl⟩ (fun w_ hM => ⟨hM.cell 0 rfl rfl, rfl⟩) ?_
       refine oR [oT 21] [(99, vI i84), (98, .slice (some ⟨g156, 0, none⟩) l81.length c_q_0), (93, vP g156 (m150 * 3)), (87, vI i88), (86, .slice (some ⟨g156, 0, none⟩) l81.length c_q_0), (82, vI i84), (81, .slice (some ⟨g156, 0, none⟩) l81.length c_q_0), (0, vP b_q 0), (6, vI (IntKind.i64.wrap ((q_0.length : Int) - 1))), (7, vP b12 0), (9, vI i88)] [99, 98, 93, 87, 86, 82, 81, 0, 6, 7, 9] (by kernel_rfl) ?_
       obtain ⟨m158, hm159, hx160⟩ := idx_some hv111
       have hl163 := (List.getElem?_eq_some_iff.1 hx160).1
       obtain ⟨vs161, hr162, hq164⟩ := h94.at_ m158 x110 hx160
       obtain rfl := dec_queue_item_int hr162
       refine ops_val (op := (Go.Op.indexAddr 76 (Go.Operand.tmp 98) (Go.Operand.tmp 99))) (d := some 100) (v := vP g156 (m158 * 3)) ⟨by kernel_rfl⟩ (run_indexRow Try.underlying76 (z := 3) (by kernel_rfl) rfl rfl hm159 hl163 rfl) ?_
       refine oR [] [(100, vP g156 (m158 * 3)), (93, vP g156 (m150 * 3)), (87, vI i88), (86, .slice (some ⟨g156, 0, none⟩) l81.length c_q_0), (82, vI i84), (81, .slice (some ⟨g156, 0, none⟩) l81.length c_q_0), (0, vP b_q 0), (6, vI (IntKind.i64.wrap ((q_0.length : Int) - 1))), (7, vP b12 0), (9, vI i88)] [100, 93, 87, 86, 82, 81, 0, 6, 7, 9] (by kernel_rfl) ?_
       refine ops_nil ?_
       refine tree_both ?_ ?_
       · --
        refine tree_leaf ?_
        refine ops_mem (d := some 94) (an := [.v (vI x100.v), .v (vI x100.rank), .v (vI x100.came)]) (evs := [.load ⟨g156, m150 * 3, none⟩ (vI x100.v), .load ⟨g156, m150 * 3 + 1, none⟩ (vI x100.rank), .load ⟨g156, m150 * 3 + 2, none⟩ (vI x100.came)]) (v := .agg #[vI x100.v, vI x100.rank, vI x100.came]) (M' := Mem w0 (orow (some ⟨g156, 0, none⟩) l81.length c_q_0 151 3 y93 :: .blk b_q [.slice (some ⟨g156, 0, none⟩) l81.length c_q_0, vI q_1] 78 :: .blk b12 [vI x2.v, vI x2.rank, vI x2.came] 151 :: Fz F W :: cs)) ⟨by kernel_rfl⟩ (fun w_ hM hS => ⟨w_, ⟨hM.ocell 0 rfl (hq157 0 _ rfl), hM.ocell 0 rfl (hq157 1 _ rfl), hM.ocell 0 rfl (hq157 2 _ rfl), rfl⟩, hM, hS⟩) ?_
        refine oR [] [(94, .agg #[vI x100.v, vI x100.rank, vI x100.came]), (100, vP g156 (m158 * 3)), (87, vI i88), (86, .slice (some ⟨g156, 0, none⟩) l81.length c_q_0), (82, vI i84), (81, .slice (some ⟨g156, 0, none⟩) l81.length c_q_0), (0, vP b_q 0), (6, vI (IntKind.i64.wrap ((q_0.length : Int) - 1))), (7, vP b12 0), (9, vI i88)] [94, 100, 87, 86, 82, 81, 0, 6, 7, 9] (by kernel_rfl) ?_
        refine ops_mem (d := some 101) (an := [.v (vI x110.v), .v (vI x110.rank), .v (vI x110.came)]) (evs := [.load ⟨g156, m158 * 3, none⟩ (vI x110.v), .load ⟨g156, m158 * 3 + 1, none⟩ (vI x110.rank), .load ⟨g156, m158 * 3 + 2, none⟩ (vI x110.came)]) (v := .agg #[vI x110.v, vI x110.rank, vI x110.came]) (M' := Mem w0 (orow (some ⟨g156, 0, none⟩) l81.length c_q_0 151 3 y93 :: .blk b_q [.slice (some ⟨g156, 0, none⟩) l81.length c_q_0, vI q_1] 78 :: .blk b12 [vI x2.v, vI x2.rank, vI x2.came] 151 :: Fz F W :: cs)) ⟨by kernel_rfl⟩ (fun w_ hM hS => ⟨w_, ⟨hM.ocell 0 rfl (hq164 0 _ rfl), hM.ocell 0 rfl (hq164 1 _ rfl), hM.ocell 0 rfl (hq164 2 _ rfl), rfl⟩, hM, hS⟩) ?_
        refine oR [] [(101, .agg #[vI x110.v, vI x110.rank, vI x110.came]), (94, .agg #[vI x100.v, vI x100.rank, vI x100.came]), (87, vI i88), (86, .slice (some ⟨g156, 0, none⟩) l81.length c_q_0), (82, vI i84), (81, .slice (some ⟨g156, 0, none⟩) l81.length c_q_0), (0, vP b_q 0), (6, vI (IntKind.i64.wrap ((q_0.length : Int) - 1))), (7, vP b12 0), (9, vI i88)] [101, 94, 87, 86, 82, 81, 0, 6, 7, 9] (by kernel_rfl) ?_
        obtain ⟨m165, hm166, hx167⟩ := idx_some hv120
        have hl170 := (List.getElem?_eq_some_iff.1 hx167).1
        obtain ⟨vs168, hr169, hq171⟩ := h94.at_ m165 x119 hx167
        obtain rfl := dec_queue_item_int hr169
        refine ops_val (op := (Go.Op.indexAddr 76 (Go.Operand.tmp 81) (Go.Operand.tmp 82))) (d := some 102) (v := vP g156 (m165 * 3)) ⟨by kernel_rfl⟩ (run_indexRow Try.underlying76 (z := 3) (by kernel_rfl) rfl rfl hm166 hl170 rfl) ?_
        refine oR [] [(102, vP g156 (m165 * 3)), (101, .agg #[vI x110.v, vI x110.rank, vI x110.came]), (94, .agg #[vI x100.v, vI x100.rank, vI x100.came]), (87, vI i88), (86, .slice (some ⟨g156, 0, none⟩) l81.length c_q_0), (0, vP b_q 0), (6, vI (IntKind.i64.wrap ((q_0.length : Int) - 1))), (7, vP b12 0), (9, vI i88)] [102, 101, 94, 87, 86, 0, 6, 7, 9] (by kernel_rfl) ?_
        obtain ⟨m172, hm173, hl174, he175⟩ := upd_some hv129
        obtain rfl : m165 = m172 := by have := hm166; omega
        have hl176 : l81.length = l128.length := by rw [he175, List.length_set]
        obtain ⟨y177, hy178⟩ : ∃ y_, setAll y93 (m165 * 3 + 0) [vI x100.v, vI x100.rank, vI x100.came] = y_ := ⟨_, rfl⟩
        have h179 : RepL R_queue_item_int F W l128 y177 := by rw [he175, ← hy178]; exact RepL.set h94 (List.getElem?_eq_getElem hl174) (fun vs_ hr_ _ => by obtain rfl := dec_queue_item_int hr_; exact ⟨(enc_queue_item_int), Nat.le_of_ble_eq_true rfl⟩)
        refine ops_store (an := []) (evs := [.store ⟨g156, m165 * 3, none⟩ (vI x100.v), .store ⟨g156, m165 * 3 + 1, none⟩ (vI x100.rank), .store ⟨g156, m165 * 3 + 2, none⟩ (vI x100.came)]) (M' := Mem w0 (orow (some ⟨g156, 0, none⟩) l128.length c_q_0 151 3 y177 :: .blk b_q [.slice (some ⟨g156, 0, none⟩) l81.length c_q_0, vI q_1] 78 :: .blk b12 [vI x2.v, vI x2.rank, vI x2.came] 151 :: Fz F W :: cs)) ⟨by kernel_rfl⟩ (fun w_ hM hS => let ⟨w', he, h'⟩ := hM.ostore' 0 rfl (m165 * 3 + 0) [vI x100.v, vI x100.rank, vI x100.came] (by have z_ : y93.length = l81.length * 3 := h94.len; have y_ : (m165 + 1) * 3 ≤ l81.length * 3 := Nat.mul_le_mul_right _ hl174; rw [Nat.add_mul] at y_; simp only [List.length_cons, List.length_nil]; omega) hl176 hy178; ⟨w', he, h', (by exact h'.sub (.cons _ (.cons_cons _ (.cons_cons _ (.cons_cons _ (.refl _))))))⟩) ?_
        refine ops_conv (l' := [(102, vP g156 (m165 * 3)), (101, .agg #[vI x110.v, vI x110.rank, vI x110.came]), (94, .agg #[vI x100.v, vI x100.rank, vI x100.came]), (87, vI i88), (86, .slice (some ⟨g156, 0, none⟩) l128.length c_q_0), (0, vP b_q 0), (6, vI (IntKind.i64.wrap ((q_0.length : Int) - 1))), (7, vP b12 0), (9, vI i88)]) (M' := Mem w0 (orow (some ⟨g156, 0, none⟩) l128.length c_q_0 151 3 y177 :: .blk b_q [.slice (some ⟨g156, 0, none⟩) l128.length c_q_0, vI q_1] 78 :: .blk b12 [vI x2.v, vI x2.rank, vI x2.came] 151 :: Fz F W :: cs)) (by first | rfl | rw [hl176]) (fun w_ hM => by first | exact hM | (rw [hl176] at hM; exact hM)) ?_
        refine oR [] [(101, .agg #[vI x110.v, vI x110.rank, vI x110.came]), (87, vI i88), (86, .slice (some ⟨g156, 0, none⟩) l128.length c_q_0), (0, vP b_q 0), (6, vI (IntKind.i64.wrap ((q_0.length : Int) - 1))), (7, vP b12 0), (9, vI i88)] [101, 87, 86, 0, 6, 7, 9] (by kernel_rfl) ?_
        obtain ⟨m181, hm182, hx183⟩ := idx_some hv140
        have hl186 := (List.getElem?_eq_some_iff.1 hx183).1
        obtain ⟨vs184, hr185, hq187⟩ := h179.at_ m181 x139 hx183
        obtain rfl := dec_queue_item_int hr185
        refine ops_val (op := (Go.Op.indexAddr 76 (Go.Operand.tmp 86) (Go.Operand.tmp 87))) (d := some 103) (v := vP g156 (m181 * 3)) ⟨by kernel_rfl⟩ (run_indexRow Try.underlying76 (z := 3) (by kernel_rfl) rfl rfl hm182 hl186 rfl) ?_
        refine oR [] [(103, vP g156 (m181 * 3)), (101, .agg #[vI x110.v, vI x110.rank, vI x110.came]), (0, vP b_q 0), (6, vI (IntKind.i64.wrap ((q_0.length : Int) - 1))), (7, vP b12 0), (9, vI i88)] [103, 101, 0, 6, 7, 9] (by kernel_rfl) ?_
        obtain ⟨m188, hm189, hl190, he191⟩ := upd_some hv149
        obtain rfl : m181 = m188 := by have := hm182; omega
        have hl192 : l128.length = l148.length := by rw [he191, List.length_set]
        obtain ⟨y193, hy194⟩ : ∃ y_, setAll y177 (m181 * 3 + 0) [vI x110.v, vI x110.rank, vI x110.came] = y_ := ⟨_, rfl⟩
        have h195 : RepL R_queue_item_int F W l148 y193 := by rw [he191, ← hy194]; exact RepL.set h179 (List.getElem?_eq_getElem hl190) (fun vs_ hr_ _ => by obtain rfl := dec_queue_item_int hr_; exact ⟨(enc_queue_item_int), Nat.le_of_ble_eq_true rfl⟩)
        refine ops_store (an := []) (evs := [.store ⟨g156, m181 * 3, none⟩ (vI x110.v), .store ⟨g156, m181 * 3 + 1, none⟩ (vI x110.rank), .store ⟨g156, m181 * 3 + 2, none⟩ (vI x110.came)]) (M' := Mem w0 (orow (some ⟨g156, 0, none⟩) l148.length c_q_0 151 3 y193 :: .blk b_q [.slice (some ⟨g156, 0, none⟩) l128.length c_q_0, vI q_1] 78 :: .blk b12 [vI x2.v, vI x2.rank, vI x2.came] 151 :: Fz F W :: cs)) ⟨by kernel_rfl⟩ (fun w_ hM hS => let ⟨w', he, h'⟩ := hM.ostore' 0 rfl (m181 * 3 + 0) [vI x110.v, vI x110.rank, vI x110.came] (by have z_ : y177.length = l128.length * 3 := h179.len; have y_ : (m181 + 1) * 3 ≤ l128.length * 3 := Nat.mul_le_mul_right _ hl190; rw [Nat.add_mul] at y_; simp only [List.length_cons, List.length_nil]; omega) hl192 hy194; ⟨w', he, h', (by first | (refine h'.sub ?_; simp; done) | ((try simp only [← hl192] at h'); (try simp only [← hl176] at h'); (try simp only [← hl154] at h'); (try simp only [← hl134] at h'); (try simp only [← hl220] at h'); (try simp only [← hl204] at h'); exact h'.sub (by simp)))⟩) ?_
        refine ops_conv (l' := [(103, vP g156 (m181 * 3)), (101, .agg #[vI x110.v, vI x110.rank, vI x110.came]), (0, vP b_q 0), (6, vI (IntKind.i64.wrap ((q_0.length : Int) - 1))), (7, vP b12 0), (9, vI i88)]) (M' := Mem w0 (orow (some ⟨g156, 0, none⟩) l148.length c_q_0 151 3 y193 :: .blk b_q [.slice (some ⟨g156, 0, none⟩) l148.length c_q_0, vI q_1] 78 :: .blk b12 [vI x2.v, vI x2.rank, vI x2.came] 151 :: Fz F W :: cs)) (by first | rfl | rw [hl192]) (fun w_ hM => by first | exact hM | (rw [hl192] at hM; exact hM)) ?_
        refine oR [] [(0, vP b_q 0), (6, vI (IntKind.i64.wrap ((q_0.length : Int) - 1))), (7, vP b12 0), (9, vI i88)] [0, 6, 7, 9] (by kernel_rfl) ?_
        refine ops_nil ?_
        exact fin_join HJ4 ((some ⟨g156, 0, none⟩), l148, y193) ⟨hp, h195⟩ (look_has ⟨rfl, rfl, rfl, rfl, trivial⟩) (fun w_ hM => hM.pick 4 [1, 0, 2, 3] (by kernel_rfl) (by decide) rfl)
       · --
        refine tree_leaf ?_
        refine ops_mem (d := some 101) (an := [.v (vI x110.v), .v (vI x110.rank), .v (vI x110.came)]) (evs := [.load ⟨g156, m158 * 3, none⟩ (vI x110.v), .load ⟨g156, m158 * 3 + 1, none⟩ (vI x110.rank), .load ⟨g156, m158 * 3 + 2, none⟩ (vI x110.came)]) (v := .agg #[vI x110.v, vI x110.rank, vI x110.came]) (M' := Mem w0 (orow (some ⟨g156, 0, none⟩) l81.length c_q_0 151 3 y93 :: .blk b_q [.slice (some ⟨g156, 0, none⟩) l81.length c_q_0, vI q_1] 78 :: .blk b12 [vI x2.v, vI x2.rank, vI x2.came] 151 :: Fz F W :: cs)) ⟨by kernel_rfl⟩ (fun w_ hM hS => ⟨w_, ⟨hM.ocell 0 rfl (hq164 0 _ rfl), hM.ocell 0 rfl (hq164 1 _ rfl), hM.ocell 0 rfl (hq164 2 _ rfl), rfl⟩, hM, hS⟩) ?_
        refine oR [] [(101, .agg #[vI x110.v, vI x110.rank, vI x110.came]), (93, vP g156 (m150 * 3)), (87, vI i88), (86, .slice (some ⟨g156, 0, none⟩) l81.length c_q_0), (82, vI i84), (81, .slice (some ⟨g156, 0, none⟩) l81.length c_q_0), (0, vP b_q 0), (6, vI (IntKind.i64.wrap ((q_0.length : Int) - 1))), (7, vP b12 0), (9, vI i88)] [101, 93, 87, 86, 82, 81, 0, 6, 7, 9] (by kernel_rfl) ?_
        refine ops_mem (d := some 94) (an := [.v (vI x100.v), .v (vI x100.rank), .v (vI x100.came)]) (evs := [.load ⟨g156, m150 * 3, none⟩ (vI x100.v), .load ⟨g156, m150 * 3 + 1, none⟩ (vI x100.rank), .load ⟨g156, m150 * 3 + 2, none⟩ (vI x100.came)]) (v := .agg #[vI x100.v, vI x100.rank, vI x100.came]) (M' := Mem w0 (orow (some ⟨g156, 0, none⟩) l81.length c_q_0 151 3 y93 :: .blk b_q [.slice (some ⟨g156, 0, none⟩) l81.length c_q_0, vI q_1] 78 :: .blk b12 [vI x2.v, vI x2.rank, vI x2.came] 151 :: Fz F W :: cs)) ⟨by kernel_rfl⟩ (fun w_ hM hS => ⟨w_, ⟨hM.ocell 0 rfl (hq157 0 _ rfl), hM.ocell 0 rfl (hq157 1 _ rfl), hM.ocell 0 rfl (hq157 2 _ rfl), rfl⟩, hM, hS⟩) ?_
        refine oR [] [(94, .agg #[vI x100.v, vI x100.rank, vI x100.came]), (101, .agg #[vI x110.v, vI x110.rank, vI x110.came]), (87, vI i88), (86, .slice (some ⟨g156, 0, none⟩) l81.length c_q_0), (82, vI i84), (81, .slice (some ⟨g156, 0, none⟩) l81.length c_q_0), (0, vP b_q 0), (6, vI (IntKind.i64.wrap ((q_0.length : Int) - 1))), (7, vP b12 0), (9, vI i88)] [94, 101, 87, 86, 82, 81, 0, 6, 7, 9] (by kernel_rfl) ?_
        obtain ⟨m197, hm198, hx199⟩ := idx_some hv120
        have hl202 := (List.getElem?_eq_some_iff.1 hx199).1
        obtain ⟨vs200, hr201, hq203⟩ := h94.at_ m197 x119 hx199
        obtain rfl := dec_queue_item_int hr201
        refine ops_val (op := (Go.Op.indexAddr 76 (Go.Operand.tmp 81) (Go.Operand.tmp 82))) (d := some 102) (v := vP g156 (m197 * 3)) ⟨by kernel_rfl⟩ (run_indexRow Try.underlying76 (z := 3) (by kernel_rfl) rfl rfl hm198 hl202 rfl) ?_
        refine oR [] [(102, vP g156 (m197 * 3)), (94, .agg #[vI x100.v, vI x100.rank, vI x100.came]), (101, .agg #[vI x110.v, vI x110.rank, vI x110.came]), (87, vI i88), (86, .slice (some ⟨g156, 0, none⟩) l81.length c_q_0), (0, vP b_q 0), (6, vI (IntKind.i64.wrap ((q_0.length : Int) - 1))), (7, vP b12 0), (9, vI i88)] [102, 94, 101, 87, 86, 0, 6, 7, 9] (by kernel_rfl) ?_
        obtain ⟨m204, hm205, hl206, he207⟩ := upd_some hv129
        obtain rfl : m197 = m204 := by have := hm198; omega
        have hl208 : l81.length = l128.length := by rw [he207, List.length_set]
        obtain ⟨y209, hy210⟩ : ∃ y_, setAll y93 (m197 * 3 + 0) [vI x100.v, vI x100.rank, vI x100.came] = y_ := ⟨_, rfl⟩
        have h211 : RepL R_queue_item_int F W l128 y209 := by rw [he207, ← hy210]; exact RepL.set h94 (List.getElem?_eq_getElem hl206) (fun vs_ hr_ _ => by obtain rfl := dec_queue_item_int hr_; exact ⟨(enc_queue_item_int), Nat.le_of_ble_eq_true rfl⟩)
        refine ops_store (an := []) (evs := [.store ⟨g156, m197 * 3, none⟩ (vI x100.v), .store ⟨g156, m197 * 3 + 1, none⟩ (vI x100.rank), .store ⟨g156, m197 * 3 + 2, none⟩ (vI x100.came)]) (M' := Mem w0 (orow (some ⟨g156, 0, none⟩) l128.length c_q_0 151 3 y209 :: .blk b_q [.slice (some ⟨g156, 0, none⟩) l81.length c_q_0, vI q_1] 78 :: .blk b12 [vI x2.v, vI x2.rank, vI x2.came] 151 :: Fz F W :: cs)) ⟨by kernel_rfl⟩ (fun w_ hM hS => let ⟨w', he, h'⟩ := hM.ostore' 0 rfl (m197 * 3 + 0) [vI x100.v, vI x100.rank, vI x100.came] (by have z_ : y93.length = l81.length * 3 := h94.len; have y_ : (m197 + 1) * 3 ≤ l81.length * 3 := Nat.mul_le_mul_right _ hl206; rw [Nat.add_mul] at y_; simp only [List.length_cons, List.length_nil]; omega) hl208 hy210; ⟨w', he, h', (by exact h'.sub (.cons _ (.cons_cons _ (.cons_cons _ (.cons_cons _ (.refl _))))))⟩) ?_
        refine ops_conv (l' := [(102, vP g156 (m197 * 3)), (94, .agg #[vI x100.v, vI x100.rank, vI x100.came]), (101, .agg #[vI x110.v, vI x110.rank, vI x110.came]), (87, vI i88), (86, .slice (some ⟨g156, 0, none⟩) l128.length c_q_0), (0, vP b_q 0), (6, vI (IntKind.i64.wrap ((q_0.length : Int) - 1))), (7, vP b12 0), (9, vI i88)]) (M' := Mem w0 (orow (some ⟨g156, 0, none⟩) l128.length c_q_0 151 3 y209 :: .blk b_q [.slice (some ⟨g156, 0, none⟩) l128.length c_q_0, vI q_1] 78 :: .blk b12 [vI x2.v, vI x2.rank, vI x2.came] 151 :: Fz F W :: cs)) (by first | rfl | rw [hl208]) (fun w_ hM => by first | exact hM | (rw [hl208] at hM; exact hM)) ?_
        refine oR [] [(101, .agg #[vI x110.v, vI x110.rank, vI x110.came]), (87, vI i88), (86, .slice (some ⟨g156, 0, none⟩) l128.length c_q_0), (0, vP b_q 0), (6, vI (IntKind.i64.wrap ((q_0.length : Int) - 1))), (7, vP b12 0), (9, vI i88)] [101, 87, 86, 0, 6, 7, 9] (by kernel_rfl) ?_
        obtain ⟨m213, hm214, hx215⟩ := idx_some hv140
        have hl218 := (List.getElem?_eq_some_iff.1 hx215).1
        obtain ⟨vs216, hr217, hq219⟩ := h211.at_ m213 x139 hx215
        obtain rfl := dec_queue_item_int hr217
        refine ops_val (op := (Go.Op.indexAddr 76 (Go.Operand.tmp 86) (Go.Operand.tmp 87))) (d := some 103) (v := vP g156 (m213 * 3)) ⟨by kernel_rfl⟩ (run_indexRow Try.underlying76 (z := 3) (by kernel_rfl) rfl rfl hm214 hl218 rfl) ?_
        refine oR [] [(103, vP g156 (m213 * 3)), (101, .agg #[vI x110.v, vI x110.rank, vI x110.came]), (0, vP b_q 0), (6, vI (IntKind.i64.wrap ((q_0.length : Int) - 1))), (7, vP b12 0), (9, vI i88)] [103, 101, 0, 6, 7, 9] (by kernel_rfl) ?_
        obtain ⟨m220, hm221, hl222, he223⟩ := upd_some hv149
        obtain rfl : m213 = m220 := by have := hm214; omega
        have hl224 : l128.length = l148.length := by rw [he223, List.length_set]
        obtain ⟨y225, hy226⟩ : ∃ y_, setAll y209 (m213 * 3 + 0) [vI x110.v, vI x110.rank, vI x110.came] = y_ := ⟨_, rfl⟩
        have h227 : RepL R_queue_item_int F W l148 y225 := by rw [he223, ← hy226]; exact RepL.set h211 (List.getElem?_eq_getElem hl222) (fun vs_ hr_ _ => by obtain rfl := dec_queue_item_int hr_; exact ⟨(enc_queue_item_int), Nat.le_of_ble_eq_true rfl⟩)
        refine ops_store (an := []) (evs := [.store ⟨g156, m213 * 3, none⟩ (vI x110.v), .store ⟨g156, m213 * 3 + 1, none⟩ (vI x110.rank), .store ⟨g156, m213 * 3 + 2, none⟩ (vI x110.came)]) (M' := Mem w0 (orow (some ⟨g156, 0, none⟩) l148.length c_q_0 151 3 y225 :: .blk b_q [.slice (some ⟨g156, 0, none⟩) l128.length c_q_0, vI q_1] 78 :: .blk b12 [vI x2.v, vI x2.rank, vI x2.came] 151 :: Fz F W :: cs)) ⟨by kernel_rfl⟩ (fun w_ hM hS => let ⟨w', he, h'⟩ := hM.ostore' 0 rfl (m213 * 3 + 0) [vI x110.v, vI x110.rank, vI x110.came] (by have z_ : y209.length = l128.length * 3 := h211.len; have y_ : (m213 + 1) * 3 ≤ l128.length * 3 := Nat.mul_le_mul_right _ hl222; rw [Nat.add_mul] at y_; simp only [List.length_cons, List.length_nil]; omega) hl224 hy226; ⟨w', he, h', (by first | (refine h'.sub ?_; simp; done) | ((try simp only [← hl224] at h'); (try simp only [← hl208] at h'); (try simp only [← hl192] at h'); (try simp only [← hl176] at h'); (try simp only [← hl154] at h'); (try simp only [← hl134] at h'); exact h'.sub (by simp)))⟩) ?_
        refine ops_conv (l' := [(103, vP g156 (m213 * 3)), (101, .agg #[vI x110.v, vI x110.rank, vI x110.came]), (0, vP b_q 0), (6, vI (IntKind.i64.wrap ((q_0.length : Int) - 1))), (7, vP b12 0), (9, vI i88)]) (M' := Mem w0 (orow (some ⟨g156, 0, none⟩) l148.length c_q_0 151 3 y225 :: .blk b_q [.slice (some ⟨g156, 0, none⟩) l148.length c_q_0, vI q_1] 78 :: .blk b12 [vI x2.v, vI x2.rank, vI x2.came] 151 :: Fz F W :: cs)) (by first | rfl | rw [hl224]) (fun w_ hM => by first | exact hM | (rw [hl224] at hM; exact hM)) ?_
        refine oR [] [(0, vP b_q 0), (6, vI (IntKind.i64.wrap ((q_0.length : Int) - 1))), (7, vP b12 0), (9, vI i88)] [0, 6, 7, 9] (by kernel_rfl) ?_
        refine ops_nil ?_
        exact fin_join HJ4 ((some ⟨g156, 0, none⟩), l148, y225) ⟨hp, h227⟩ (look_has ⟨rfl, rfl, rfl, rfl, trivial⟩) (fun w_ hM => hM.pick 4 [1, 0, 2, 3] (by kernel_rfl) (by decide) rfl)
   · --
    intro HJ3
    refine st_seq ?_
    refine st_seq ?_
    refine st_region [oF 0, oF 1, oF 2, oF 3, oF 4, oF 5, oF 6, oF 7, oF 8, oF 9, oF 10] (by rfl) ?_
    refine oR [oF 0, oF 1, oF 2, oF 3, oF 4] [(60, .bool (decide (IntKind.i64.wrap (IntKind.i64.wrap (IntKind.i64.wrap (2 * i84) + 1) + 1) < IntKind.i64.wrap ((q_0.length : Int) - 1)))), (9, vI (IntKind.i64.wrap (IntKind.i64.wrap (2 * i84) + 1))), (0, vP b_q 0), (6, vI (IntKind.i64.wrap ((q_0.length : Int) - 1))), (7, vP b12 0), (8, vI i84)] [60, 9, 0, 6, 7, 8] (by kernel_rfl) ?_
    refine ops_bool (t := decide (IntKind.i64.wrap (IntKind.i64.wrap (IntKind.i64.wrap (2 * i84) + 1) + 1) < IntKind.i64.wrap ((q_0.length : Int) - 1))) (l1 := [(60, .bool true), (9, vI (IntKind.i64.wrap (IntKind.i64.wrap (2 * i84) + 1))), (0, vP b_q 0), (6, vI (IntKind.i64.wrap ((q_0.length : Int) - 1))), (7, vP b12 0), (8, vI i84)]) (l2 := [(60, .bool false), (9, vI (IntKind.i64.wrap (IntKind.i64.wrap (2 * i84) + 1))), (0, vP b_q 0), (6, vI (IntKind.i64.wrap ((q_0.length : Int) - 1))), (7, vP b12 0), (8, vI i84)]) (fun h => by rw [h]) (fun h => by rw [h]) (fun hc229 => ?_) (fun hc229 => ?_)
    · --
     have hp := cnd_t hc229 hp
     refine oR [oF 5, oF 6, oF 7, oF 8] [(64, vI (IntKind.i64.wrap (IntKind.i64.wrap (2 * i84) + 1))), (63, vI (IntKind.i64.wrap (IntKind.i64.wrap (IntKind.i64.wrap (2 * i84) + 1) + 1))), (61, vP b_q 0), (60, .bool true), (9, vI (IntKind.i64.wrap (IntKind.i64.wrap (2 * i84) + 1))), (0, vP b_q 0), (6, vI (IntKind.i64.wrap ((q_0.length : Int) - 1))), (7, vP b12 0), (8, vI i84)] [64, 63, 61, 60, 9, 0, 6, 7, 8] (by kernel_rfl) ?_
     obtain ⟨x230, hv231, hp⟩ := obind hp
     refine ops_conv (l' := [(64, vI (IntKind.i64.wrap (IntKind.i64.wrap (2 * i84) + 1))), (63, vI x230), (61, vP b_q 0), (60, .bool true), (9, vI (IntKind.i64.wrap (IntKind.i64.wrap (2 * i84) + 1))), (0, vP b_q 0), (6, vI (IntKind.i64.wrap ((q_0.length : Int) - 1))), (7, vP b12 0), (8, vI i84)]) (by rw [← Option.some.inj hv231]) (fun _ h => h) ?_
     obtain ⟨x232, hv233, hp⟩ := obind hp
     refine ops_callI (σ := (Option Addr) × (List Value)) (d := some 65) (f := 115) (args := #[vP b_q 0, vI x230, vI (IntKind.i64.wrap (IntKind.i64.wrap (2 * i84) + 1))]) (v := (fun x_ => match x_ with | (A234, y235) => .bool x232)) (I := (fun x_ => match x_ with | (A234, y235) => (RepL R_queue_item_int F W l81 y235))) (M' := (fun x_ => match x_ with | (A234, y235) => Mem w0 (orow A234 l81.length c_q_0 151 3 y235 :: .blk b_q [.slice A234 l81.length c_q_0, vI q_1] 78 :: .blk b12 [vI x2.v, vI x2.rank, vI x2.came] 151 :: Fz F W :: cs))) ⟨by kernel_rfl⟩ (fun w_ hM hS => (queue_Queue_int_before_ok w0 w_ (.blk b12 [vI x2.v, vI x2.rank, vI x2.came] 151 :: cs) F W b_q A80 c_q_0 l81 y82 q_1 x230 (IntKind.i64.wrap (IntKind.i64.wrap (2 * i84) + 1)) (hM.pick 4 [0, 1, 3, 2] (by kernel_rfl) (by decide) rfl) h83 x232 hv233).mono (by rintro e w' ⟨A234, y235, h236, rfl, h'⟩; have h' : Mem w0 (orow A234 l81.length c_q_0 151 3 y235 :: .blk b_q [.slice A234 l81.length c_q_0, vI q_1] 78 :: .blk b12 [vI x2.v, vI x2.rank, vI x2.came] 151 :: Fz F W :: cs) w' := (h'.pick 4 [1, 0, 3, 2] (by kernel_rfl) (by decide) rfl); exact ⟨(A234, y235), h236, rfl, h', trivial⟩)) ?_
     rintro ⟨A234, y235⟩ h236
     refine ops_conv (l' := [(65, .bool x232), (64, vI (IntKind.i64.wrap (IntKind.i64.wrap (2 * i84) + 1))), (63, vI x230), (61, vP b_q 0), (60, .bool true), (9, vI (IntKind.i64.wrap (IntKind.i64.wrap (2 * i84) + 1))), (0, vP b_q 0), (6, vI (IntKind.i64.wrap ((q_0.length : Int) - 1))), (7, vP b12 0), (8, vI i84)]) (M' := Mem w0 (orow A234 l81.length c_q_0 151 3 y235 :: .blk b_q [.slice A234 l81.length c_q_0, vI q_1] 78 :: .blk b12 [vI x2.v, vI x2.rank, vI x2.came] 151 :: Fz F W :: cs)) rfl (fun _ h => h) ?_
     refine oR [oF 10] [(66, .bool x232), (9, vI (IntKind.i64.wrap (IntKind.i64.wrap (2 * i84) + 1))), (0, vP b_q 0), (6, vI (IntKind.i64.wrap ((q_0.length : Int) - 1))), (7, vP b12 0), (8, vI i84)] [66, 9, 0, 6, 7, 8] (by kernel_rfl) ?_
     refine ops_nil ?_
     refine fin_then ?_
     refine st_if (b := x232) rfl (fun hc237 => ?_) (fun hc237 => ?_)
     · --
      have hp := cnd_t hc237 hp
      refine st_region [oF 0, oF 1, oF 2] (by rfl) ?_
      refine oR [oF 0, oF 1, oF 2] [(9, vI (IntKind.i64.wrap (IntKind.i64.wrap (IntKind.i64.wrap (2 * i84) + 1) + 1))), (0, vP b_q 0), (6, vI (IntKind.i64.wrap ((q_0.length : Int) - 1))), (7, vP b12 0), (8, vI i84)] [9, 0, 6, 7, 8] (by kernel_rfl) ?_
      obtain ⟨x238, hv239, hp⟩ := obind hp
      refine ops_conv (l' := [(9, vI x238), (0, vP b_q 0), (6, vI (IntKind.i64.wrap ((q_0.length : Int) - 1))), (7, vP b12 0), (8, vI i84)]) (by rw [← Option.some.inj hv239]) (fun _ h => h) ?_
      refine ops_nil ?_
      exact fin_join HJ3 (A234, y235, x238) ⟨hp, h236⟩ (look_has ⟨rfl, rfl, rfl, rfl, rfl, trivial⟩) (fun w_ hM => hM.pick 4 [1, 0, 2, 3] (by kernel_rfl) (by decide) rfl)
     · --
      have hp := cnd_f hc237 hp
      refine st_skip ?_
      exact fin_join HJ3 (A234, y235, IntKind.i64.wrap (IntKind.i64.wrap (2 * i84) + 1)) ⟨hp, h236⟩ (look_has ⟨rfl, rfl, rfl, rfl, rfl, trivial⟩) (fun w_ hM => hM.pick 4 [1, 0, 2, 3] (by kernel_rfl) (by decide) rfl)
    · --
     have hp := cnd_f hc229 hp
     refine oR [oF 5, oF 6, oF 7, oF 8, oF 9, oF 10] [(66, .bool false), (9, vI (IntKind.i64.wrap (IntKind.i64.wrap (2 * i84) + 1))), (0, vP b_q 0), (6, vI (IntKind.i64.wrap ((q_0.length : Int) - 1))), (7, vP b12 0), (8, vI i84)] [66, 9, 0, 6, 7, 8] (by kernel_rfl) ?_
     refine ops_nil ?_
     refine fin_then ?_
     refine st_false rfl ?_
     refine st_skip ?_
     exact fin_join HJ3 (A80, y82, IntKind.i64.wrap (IntKind.i64.wrap (2 * i84) + 1)) ⟨hp, h83⟩ (look_has ⟨rfl, rfl, rfl, rfl, rfl, trivial⟩) (fun w_ hM => hM)
set_option maxHeartbeats 4000000 in
set_option maxRecDepth 100000 in
theorem queue_Queue_int_Len_ok (w0 w : World) (cs : List Chunk) (F : Nat → Prop) (W : World) (b_q : Nat) (A_q_0 : Option Addr) (c_q_0 : Nat) (q_0 : List queue_item_int) (y_q_0 : List Value) (q_1 : Int) (hM0 : Mem w0 (.blk b_q [.slice A_q_0 q_0.length c_q_0, vI q_1] 78 :: orow A_q_0 q_0.length c_q_0 151 3 y_q_0 :: Fz F W :: cs) w) (h_q_0 : RepL R_queue_item_int F W q_0 y_q_0) (i9001 : Int) (hp : queue_Queue_int_Len q_0 q_1 = some i9001) : Calls Try.prog 58 #[vP b_q 0] w fun e w' => ∃ (y9002 : List Value), ((RepL R_queue_item_int F W q_0 y9002)) ∧ e = .returned (vI i9001) ∧ Mem w0 (.blk b_q [.slice A_q_0 q_0.length c_q_0, vI q_1] 78 :: orow A_q_0 q_0.length c_q_0 151 3 y9002 :: Fz F W :: cs) w' := by
 unfold queue_Queue_int_Len at hp
 refine sx_calls Try.func58 rfl (n := 8) (by kernel_rfl) (l := [(0, vP b_q 0)]) rfl (by rfl) hM0 ?_
 refine st_seq ?_
 refine st_region [oF 0] (by rfl) ?_
 refine oR [oF 0] [(0, vP b_q 0)] [0] (by kernel_rfl) ?_
 refine ops_nil ?_
 refine fin_then ?_
 refine st_seq ?_
 refine st_region [oF 0, oF 1, oF 2, oF 3, oF 4, oF 5] (by rfl) ?_
 refine oR [oF 0, oF 1, oF 2] [(5, vP b_q 0)] [5] (by kernel_rfl) ?_
 refine ops_mem (d := some 6) (an := [.v (.slice A_q_0 q_0.length c_q_0)]) (evs := [.load ⟨b_q, 0, none⟩ (.slice A_q_0 q_0.length c_q_0)]) (v := .slice A_q_0 q_0.length c_q_0) (M' := Mem w0 (.blk b_q [.slice A_q_0 q_0.length c_q_0, vI q_1] 78 :: orow A_q_0 q_0.length c_q_0 151 3 y_q_0 :: Fz F W :: cs)) ⟨by kernel_rfl⟩ (fun w_ hM hS => ⟨w_, ⟨hM.cell 0 rfl rfl, rfl⟩, hM, trivial⟩) ?_
 refine oR [oF 4, oF 5] [(2, vI (q_0.length : Int))] [2] (by kernel_rfl) ?_
 refine ops_nil ?_
 refine fin_then ?_
 refine st_ret ?_
 have hq_ := Option.some.inj hp
 have hr0_ := hq_
 subst hr0_
 refine fin_ret [.tmp 2] [vI (q_0.length : Int)] rfl rfl (fun w_ hM => (.tmp rfl .nil)) (fun w_ hM => ?_)
 exact ⟨y_q_0, h_q_0, rfl, hM⟩
set_option maxHeartbeats 4000000 in
set_option maxRecDepth 100000 in
theorem tourref1_Taken_ok (w0 w : World) (cs : List Chunk) (F : Nat → Prop) (W : World) (A_l : Option Addr) (c_l : Nat) (l : List tourref1_Waiting) (hM0 : Mem w0 (Fz F W :: cs) w) (h_l : RdS R_tourref1_Waiting F W A_l c_l l) (i9001 : Int) (hp : tourref1_Taken l = some i9001) : Calls Try.prog 56 #[.slice A_l l.length c_l] w fun e w' => (True) ∧ e = .returned (vI i9001) ∧ Mem w0 (Fz F W :: cs) w' := by
 unfold tourref1_Taken at hp
 refine sx_calls Try.func56 rfl (n := 24) (by kernel_rfl) (l := [(0, .slice A_l l.length c_l)]) rfl (by rfl) hM0 ?_
 refine st_seq ?_
 refine st_region [oF 0] (by rfl) ?_
 refine oR [oF 0] [(0, .slice A_l l.length c_l)] [0] (by kernel_rfl) ?_
 refine ops_nil ?_
 refine fin_then ?_
 refine st_seq ?_
 refine st_region [oF 0] (by rfl) ?_
 refine oR [oF 0] [(3, vI 0), (0, .slice A_l l.length c_l)] [3, 0] (by kernel_rfl) ?_
 refine ops_nil ?_
 refine fin_then ?_
 refine st_join1 (σ := Int) (L := fun x_ => match x_ with | i1 => [(3, vI i1)]) (N := fun x_ => match x_ with | i1 => Mem w0 (Fz F W :: cs)) (I := fun x_ => match x_ with | i1 => (tourref1_Taken_j1 i1 = some i9001)) ?_ ?_
 · --
  rintro i1 hp
  refine st_conv (l' := [(3, vI i1)]) (M' := Mem w0 (Fz F W :: cs)) rfl (fun _ h => h) ?_
  unfold tourref1_Taken_j1 at hp
  refine st_seq ?_
  refine st_region [oF 0, oF 1] (by rfl) ?_
  refine oR [oF 0, oF 1] [(2, vI i1)] [2] (by kernel_rfl) ?_
  refine ops_nil ?_
  refine fin_then ?_
  refine st_ret ?_
  have hq_ := Option.some.inj hp
  have hr0_ := hq_
  subst hr0_
  refine fin_ret [.tmp 2] [vI i1] rfl rfl (fun w_ hM => (.tmp rfl .nil)) (fun w_ hM => ?_)
  exact ⟨trivial, rfl, hM⟩
 · --
  intro HJ1
  refine st_seq ?_
  refine st_seq ?_
  refine st_region [oF 0, oF 1, oF 2] (by rfl) ?_
  refine oR [oF 0, oF 1, oF 2] [(8, vI 0), (7, vI (l.length : Int)), (6, .slice A_l l.length c_l), (3, vI 0), (0, .slice A_l l.length c_l)] [8, 7, 6, 3, 0] (by kernel_rfl) ?_
  refine ops_nil ?_
  refine fin_then ?_
  refine st_block ?_
  obtain ⟨r2, hl2, hk2⟩ := obind hp
  refine st_loopP (σ := Int × Int) (ρ := Int) (γ := Unit) hl2 () (fun s_ g_ => match s_, g_ with | (i3, i4), _ => [(0, .slice A_l l.length c_l), (3, vI i3), (6, .slice A_l l.length c_l), (7, vI (l.length : Int)), (8, vI i4)]) (fun s_ g_ => match s_, g_ with | (i3, i4), _ => Mem w0 (Fz F W :: cs)) (fun s_ g_ => match s_, g_ with | (i3, i4), _ => True) trivial (look_has ⟨rfl, rfl, rfl, rfl, rfl, trivial⟩) (fun w_ hM => hM) ?_
  rintro ⟨i3, i4⟩ _ o2 - hs_ hd2
  have hp : (tourref1_Taken_l2 l) i3 i4 = some o2 := hs_
  clear hs_
  unfold tourref1_Taken_l2 at hp
  refine st_conv (l' := [(0, .slice A_l l.length c_l), (3, vI i3), (6, .slice A_l l.length c_l), (7, vI (l.length : Int)), (8, vI i4)]) (M' := Mem w0 (Fz F W :: cs)) rfl (fun _ h => h) ?_
  refine st_seq ?_
  refine st_region [oF 0] (by rfl) ?_
  refine oR [oF 0] [(9, .bool (decide (i4 < (l.length : Int)))), (0, .slice A_l l.length c_l), (3, vI i3), (6, .slice A_l l.length c_l), (7, vI (l.length : Int)), (8, vI i4)] [9, 0, 3, 6, 7, 8] (by kernel_rfl) ?_
  refine ops_nil ?_
  refine fin_then ?_
  refine st_seq ?_
  refine st_if (b := decide (i4 < (l.length : Int))) rfl (fun hc5 => ?_) (fun hc5 => ?_)
  · --
   have hp := cnd_t hc5 hp
   refine st_skip ?_
   refine fin_then ?_
   refine st_join1 (σ := Int) (L := fun x_ => match x_ with | i6 => [(0, .slice A_l l.length c_l), (3, vI i6), (6, .slice A_l l.length c_l), (7, vI (l.length : Int)), (8, vI i4)]) (N := fun x_ => match x_ with | i6 => Mem w0 (Fz F W :: cs)) (I := fun x_ => match x_ with | i6 => ((tourref1_Taken_j3 i4) i6 = some o2)) ?_ ?_
   · --
    rintro i6 hp
    refine st_conv (l' := [(0, .slice A_l l.length c_l), (3, vI i6), (6, .slice A_l l.length c_l), (7, vI (l.length : Int)), (8, vI i4)]) (M' := Mem w0 (Fz F W :: cs)) rfl (fun _ h => h) ?_
    unfold tourref1_Taken_j3 at hp
    refine st_region [oF 0, oF 1] (by rfl) ?_
    refine oR [oF 0, oF 1] [(8, vI (IntKind.i64.wrap (i4 + 1))), (0, .slice A_l l.length c_l), (3, vI i6), (6, .slice A_l l.length c_l), (7, vI (l.length : Int))] [8, 0, 3, 6, 7] (by kernel_rfl) ?_
    refine ops_nil ?_
    exact fin_again (i6, IntKind.i64.wrap (i4 + 1)) () (Option.some.inj hp).symm trivial (look_has ⟨rfl, rfl, rfl, rfl, rfl, trivial⟩) (fun w_ hM => hM)
   · --
    intro HJ3
    refine st_seq ?_
    refine st_block ?_
    refine st_seq ?_
    refine st_region [oF 0, oF 1, oF 2, oF 3, oF 4, oF 5] (by rfl) ?_
    refine oR [oF 0] [(10, vI i4), (0, .slice A_l l.length c_l), (3, vI i3), (6, .slice A_l l.length c_l), (7, vI (l.length : Int)), (8, vI i4)] [10, 0, 3, 6, 7, 8] (by kernel_rfl) ?_
    obtain ⟨x7, hv8, hp⟩ := obind hp
    obtain ⟨m9, hm10, hx11⟩ := idx_some hv8
    have hl14 := (List.getElem?_eq_some_iff.1 hx11).1
    obtain ⟨ad15, vs12, hA16, hr13, hq17⟩ := RdS.el h_l hx11
    obtain rfl := dec_tourref1_Waiting hr13
    refine ops_val (op := (Go.Op.indexAddr 79 (Go.Operand.tmp 6) (Go.Operand.tmp 8))) (d := some 11) (v := .pointer (some (ad15.add (m9 * 2)))) ⟨by kernel_rfl⟩ (run_indexA hA16 Try.underlying79 (z := 2) (by kernel_rfl) rfl rfl hm10 hl14) ?_
    refine ops_mem (d := some 12) (an := [.v (vI x7.V), .v (vI x7.Rank)]) (evs := [.load (ad15.add (m9 * 2)) (vI x7.V), .load ((ad15.add (m9 * 2)).add 1) (vI x7.Rank)]) (v := .agg #[vI x7.V, vI x7.Rank]) (M' := Mem w0 (Fz F W :: cs)) ⟨by kernel_rfl⟩ (fun w_ hM hS => ⟨w_, ⟨hM.elcell 0 rfl hq17 0 rfl, hM.elcell 0 rfl hq17 1 rfl, rfl⟩, hM, trivial⟩) ?_
    refine oR [] [(12, .agg #[vI x7.V, vI x7.Rank]), (10, vI i4), (0, .slice A_l l.length c_l), (3, vI i3), (6, .slice A_l l.length c_l), (7, vI (l.length : Int)), (8, vI i4)] [12, 10, 0, 3, 6, 7, 8] (by kernel_rfl) ?_
    refine ops_new (d := some 5) (o := .cells #[vI 0, vI 0] 82) (v := fun b18 => vP b18 0) (M' := fun b18 => Mem w0 (.blk b18 [vI 0, vI 0] 82 :: Fz F W :: cs)) (fun b18 => ⟨by kernel_rfl⟩) (fun w_ hM hS => ⟨hM.blk [vI 0, vI 0] 82, trivial⟩) (fun b18 => ?_)
    refine oR [oF 4] [(4, vI i4), (5, vP b18 0), (12, .agg #[vI x7.V, vI x7.Rank]), (0, .slice A_l l.length c_l), (3, vI i3), (6, .slice A_l l.length c_l), (7, vI (l.length : Int)), (8, vI i4)] [4, 5, 12, 0, 3, 6, 7, 8] (by kernel_rfl) ?_
    refine ops_store (an := []) (evs := [.store ⟨b18, 0, none⟩ (vI x7.V), .store ⟨b18, 1, none⟩ (vI x7.Rank)]) (M' := Mem w0 (.blk b18 [vI x7.V, vI x7.Rank] 82 :: Fz F W :: cs)) ⟨by kernel_rfl⟩ (fun w_ hM hS => let ⟨w', he, h'⟩ := hM.evs_stores [vI x7.V, vI x7.Rank] 0 rfl 0 (Nat.le_of_ble_eq_true rfl); ⟨w', he, h', trivial⟩) ?_
    refine oR [] [(4, vI i4), (5, vP b18 0), (0, .slice A_l l.length c_l), (3, vI i3), (6, .slice A_l l.length c_l), (7, vI (l.length : Int)), (8, vI i4)] [4, 5, 0, 3, 6, 7, 8] (by kernel_rfl) ?_
    refine ops_nil ?_
    refine fin_then ?_
    refine st_seq ?_
    refine st_region_draw [oT 0, oT 1, oT 2, oT 3, oT 4, oT 5, oT 6, oT 7] (Mem w0 (.blk b18 [vI x7.V, vI x7.Rank] 82 :: Fz F W :: cs)) (by kernel_rfl) (by kernel_rfl) (by kernel_rfl) (fun _ d _ _ _ h => by cases d <;> exact h) (M' := Mem w0 (.blk b18 [vI x7.V, vI x7.Rank] 82 :: Fz F W :: cs)) (fun w_ hM => ⟨hM.drew, hM.drew.sub (.cons_cons _ (.cons_cons _ (.refl _)))⟩) ?_
    refine oR [oT 0] [(13, vP b18 1), (4, vI i4), (0, .slice A_l l.length c_l), (3, vI i3), (6, .slice A_l l.length c_l), (7, vI (l.length : Int)), (8, vI i4)] [13, 4, 0, 3, 6, 7, 8] (by kernel_rfl) ?_
    refine ops_load (d := some 14) (an := [.v (vI x7.Rank)]) (evs := [.load ⟨b18, 1, none⟩ (vI x7.Rank)]) (v := vI x7.Rank) ⟨by kernel_rfl⟩ (fun w_ hM => ⟨hM.cell 0 rfl rfl, rfl⟩) ?_
    refine oR [oT 2, oT 3] [(16, vI i3), (15, .slice A_l l.length c_l), (14, vI x7.Rank), (4, vI i4), (0, .slice A_l l.length c_l), (3, vI i3), (6, .slice A_l l.length c_l), (7, vI (l.length : Int)), (8, vI i4)] [16, 15, 14, 4, 0, 3, 6, 7, 8] (by kernel_rfl) ?_
    obtain ⟨x19, hv20, hp⟩ := obind hp
    obtain ⟨m21, hm22, hx23⟩ := idx_some hv20
    have hl26 := (List.getElem?_eq_some_iff.1 hx23).1
    obtain ⟨ad27, vs24, hA28, hr25, hq29⟩ := RdS.el h_l hx23
    obtain rfl := dec_tourref1_Waiting hr25
    refine ops_val (op := (Go.Op.indexAddr 79 (Go.Operand.tmp 15) (Go.Operand.tmp 16))) (d := some 17) (v := .pointer (some (ad27.add (m21 * 2)))) ⟨by kernel_rfl⟩ (run_indexA hA28 Try.underlying79 (z := 2) (by kernel_rfl) rfl rfl hm22 hl26) ?_
    refine oR [oT 5] [(18, .pointer (some ((ad27.add (m21 * 2)).add 1))), (14, vI x7.Rank), (4, vI i4), (0, .slice A_l l.length c_l), (3, vI i3), (6, .slice A_l l.length c_l), (7, vI (l.length : Int)), (8, vI i4)] [18, 14, 4, 0, 3, 6, 7, 8] (by kernel_rfl) ?_
    refine ops_load (d := some 19) (an := [.v (vI x19.Rank)]) (evs := [.load ((ad27.add (m21 * 2)).add 1) (vI x19.Rank)]) (v := vI x19.Rank) ⟨by kernel_rfl⟩ (fun w_ hM => ⟨hM.elcell 1 rfl hq29 1 rfl, rfl⟩) ?_
    refine oR [oT 7] [(20, .bool (decide (x7.Rank < x19.Rank))), (4, vI i4), (0, .slice A_l l.length c_l), (3, vI i3), (6, .slice A_l l.length c_l), (7, vI (l.length : Int)), (8, vI i4)] [20, 4, 0, 3, 6, 7, 8] (by kernel_rfl) ?_
    refine ops_nil ?_
    refine fin_then ?_
    refine st_if (b := decide (x7.Rank < x19.Rank)) rfl (fun hc30 => ?_) (fun hc30 => ?_)
    · --
     have hp := cnd_t hc30 hp
     refine st_region [oF 0, oF 1] (by rfl) ?_
     refine oR [oF 0, oF 1] [(3, vI i4), (0, .slice A_l l.length c_l), (6, .slice A_l l.length c_l), (7, vI (l.length : Int)), (8, vI i4)] [3, 0, 6, 7, 8] (by kernel_rfl) ?_
     refine ops_nil ?_
     refine fin_block ?_
     exact fin_join HJ3 i4 hp (look_has ⟨rfl, rfl, rfl, rfl, rfl, trivial⟩) (fun w_ hM => hM.pick 2 [1] (by kernel_rfl) (by decide) rfl)
    · --
     have hp := cnd_f hc30 hp
     refine st_skip ?_
     refine fin_block ?_
     exact fin_join HJ3 i3 hp (look_has ⟨rfl, rfl, rfl, rfl, rfl, trivial⟩) (fun w_ hM => hM.pick 2 [1] (by kernel_rfl) (by decide) rfl)
  · --
   have hp := cnd_f hc5 hp
   refine st_exit ?_
   refine fin_exit_then ?_
   refine fin_exit_then ?_
   refine fin_exit ?_
   obtain hq_ := Option.some.inj hp
   subst hq_
   obtain hq_ := hd2 _ rfl
   subst hq_
   have hp : tourref1_Taken_j1 i3 = some i9001 := hk2
   exact fin_join HJ1 i3 hp (look_has ⟨rfl, trivial⟩) (fun w_ hM => hM)
end Go.Proofs.Ytfihfbkjomploaa.X
