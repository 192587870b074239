/- The Go functions come to what the plain functions tell. No condition. -/
import Derived.Test.YtnognpmkhkkkeaaProg
import Derived.Test.YtnognpmkhkkkeaaFnX
import Derived.Test.YtnognpmkhkkkeaaWkX0
namespace Go.Proofs.Ytnognpmkhkkkeaa.X
open Go Go.RowKit Go.Proofs.Ytnognpmkhkkkeaa.Sx
set_option linter.unusedVariables false
set_option maxHeartbeats 4000000 in
set_option maxRecDepth 100000 in
theorem queue_Queue_int_Take_ok (w0 w : World) (cs : List Chunk) (F : Nat → Prop) (W : World) (b_q : Nat) (A_q_0 : Option Addr) (c_q_0 : Nat) (q_0 : List queue_item_int) (y_q_0 : List Value) (q_1 : Int) (hM0 : Mem w0 (.blk b_q [.slice A_q_0 q_0.length c_q_0, vI q_1] 98 :: orow A_q_0 q_0.length c_q_0 105 3 y_q_0 :: Fz F W :: cs) w) (h_q_0 : RepL R_queue_item_int F W q_0 y_q_0) (i9001 : Int) (i9002 : Int) (i9003 : Int) (l9004 : List queue_item_int) (hp : queue_Queue_int_Take q_0 q_1 = some (i9001, i9002, i9003, l9004)) : Calls Try.prog 73 #[vP b_q 0] w fun e w' => ∃ (y9005 : List Value), ((RepL R_queue_item_int F W l9004 y9005)) ∧ e = .returned (.tuple #[vI i9001, vI i9002, vI i9003]) ∧ Mem w0 (.blk b_q [.slice A_q_0 l9004.length c_q_0, vI q_1] 98 :: orow A_q_0 l9004.length c_q_0 105 3 y9005 :: Fz F W :: cs) w' := by
 unfold queue_Queue_int_Take at hp
 refine sx_calls Try.func73 rfl (n := 109) (by kernel_rfl) (l := [(0, vP b_q 0)]) rfl (by rfl) hM0 ?_
 refine st_seq ?_
 refine st_region [oF 0, oF 1, oF 2] (by rfl) ?_
 refine oR [oF 0, oF 1, oF 2] [(0, vP b_q 0)] [0] (by kernel_rfl) ?_
 refine ops_nil ?_
 refine fin_then ?_
 refine st_seq ?_
 refine st_region [oF 0] (by rfl) ?_
 refine oR [oF 0] [(5, vI 0), (0, vP b_q 0)] [5, 0] (by kernel_rfl) ?_
 refine ops_nil ?_
 refine fin_then ?_
 refine st_seq ?_
 refine st_region [oF 0, oF 1, oF 2, oF 3, oF 4, oF 5, oF 6] (by rfl) ?_
 refine oR [oF 0, oF 1, oF 2] [(12, vP b_q 0), (5, vI 0), (0, vP b_q 0)] [12, 5, 0] (by kernel_rfl) ?_
 refine ops_mem (d := some 13) (an := [.v (.slice A_q_0 q_0.length c_q_0)]) (evs := [.load ⟨b_q, 0, none⟩ (.slice A_q_0 q_0.length c_q_0)]) (v := .slice A_q_0 q_0.length c_q_0) (M' := Mem w0 (.blk b_q [.slice A_q_0 q_0.length c_q_0, vI q_1] 98 :: orow A_q_0 q_0.length c_q_0 105 3 y_q_0 :: Fz F W :: cs)) ⟨by kernel_rfl⟩ (fun w_ hM hS => ⟨w_, ⟨hM.cell 0 rfl rfl, rfl⟩, hM, trivial⟩) ?_
 refine oR [oF 4, oF 5, oF 6] [(6, vI (IntKind.i64.wrap ((q_0.length : Int) - 1))), (5, vI 0), (0, vP b_q 0)] [6, 5, 0] (by kernel_rfl) ?_
 refine ops_nil ?_
 refine fin_then ?_
 refine st_seq ?_
 refine st_seq ?_
 refine st_region [oF 0, oF 1] (by rfl) ?_
 refine oR [oF 0, oF 1] [(17, .bool (decide (IntKind.i64.wrap ((q_0.length : Int) - 1) < 0))), (6, vI (IntKind.i64.wrap ((q_0.length : Int) - 1))), (5, vI 0), (0, vP b_q 0)] [17, 6, 5, 0] (by kernel_rfl) ?_
 refine ops_nil ?_
 refine fin_then ?_
 refine st_if (b := decide (IntKind.i64.wrap ((q_0.length : Int) - 1) < 0)) rfl (fun hc1 => ?_) (fun hc1 => ?_)
 · --
  have hp := cnd_t hc1 hp
  refine st_seq ?_
  refine st_region [oF 0, oF 1, oF 2, oF 3] (by rfl) ?_
  refine oR [oF 0, oF 1, oF 2, oF 3] [(4, vI 4), (3, vI 0), (2, vI 0)] [4, 3, 2] (by kernel_rfl) ?_
  refine ops_nil ?_
  refine fin_then ?_
  refine st_ret ?_
  refine fin_ret_then ?_
  have hq_ := Option.some.inj hp
  obtain ⟨hr0_, hq_⟩ := Prod.mk.inj hq_
  obtain ⟨hr1_, hq_⟩ := Prod.mk.inj hq_
  obtain ⟨hr2_, hq_⟩ := Prod.mk.inj hq_
  have hr3_ := hq_
  subst hr0_
  subst hr1_
  subst hr2_
  subst hr3_
  refine fin_ret [.tmp 2, .tmp 3, .tmp 4] [vI 0, vI 0, vI 4] rfl rfl (fun w_ hM => (.tmp rfl (.tmp rfl (.tmp rfl .nil)))) (fun w_ hM => ?_)
  exact ⟨y_q_0, h_q_0, rfl, hM⟩
 · --
  have hp := cnd_f hc1 hp
  refine st_skip ?_
  refine fin_then ?_
  refine st_seq ?_
  refine st_region [oF 0, oF 1, oF 2, oF 3, oF 4, oF 5, oF 6, oF 7] (by rfl) ?_
  refine oR [oF 0, oF 1, oF 2] [(21, vP b_q 0), (6, vI (IntKind.i64.wrap ((q_0.length : Int) - 1))), (0, vP b_q 0)] [21, 6, 0] (by kernel_rfl) ?_
  refine ops_mem (d := some 22) (an := [.v (.slice A_q_0 q_0.length c_q_0)]) (evs := [.load ⟨b_q, 0, none⟩ (.slice A_q_0 q_0.length c_q_0)]) (v := .slice A_q_0 q_0.length c_q_0) (M' := Mem w0 (.blk b_q [.slice A_q_0 q_0.length c_q_0, vI q_1] 98 :: orow A_q_0 q_0.length c_q_0 105 3 y_q_0 :: Fz F W :: cs)) ⟨by kernel_rfl⟩ (fun w_ hM hS => ⟨w_, ⟨hM.cell 0 rfl rfl, rfl⟩, hM, trivial⟩) ?_
  refine oR [] [(22, .slice A_q_0 q_0.length c_q_0), (6, vI (IntKind.i64.wrap ((q_0.length : Int) - 1))), (0, vP b_q 0)] [22, 6, 0] (by kernel_rfl) ?_
  obtain ⟨x2, hv3, hp⟩ := obind hp
  obtain ⟨m4, hm5, hx6⟩ := idx_some hv3
  have hl9 := (List.getElem?_eq_some_iff.1 hx6).1
  refine ops_fact (fun w_ hM => hM.orowSome 1 rfl (Nat.lt_of_le_of_lt (Nat.zero_le _) hl9)) ?_
  rintro ⟨g10, rfl, -⟩
  obtain ⟨vs7, hr8, hq11⟩ := h_q_0.at_ m4 x2 hx6
  obtain rfl := dec_queue_item_int hr8
  refine ops_val (op := (Go.Op.indexAddr 96 (Go.Operand.tmp 22) (Go.Operand.const (Go.Value.int Go.IntKind.i64 0)))) (d := some 23) (v := vP g10 (m4 * 3)) ⟨by kernel_rfl⟩ (run_indexRow Try.underlying96 (z := 3) (by kernel_rfl) rfl rfl hm5 hl9 rfl) ?_
  refine oR [] [(23, vP g10 (m4 * 3)), (6, vI (IntKind.i64.wrap ((q_0.length : Int) - 1))), (0, vP b_q 0)] [23, 6, 0] (by kernel_rfl) ?_
  refine ops_mem (d := some 24) (an := [.v (vI x2.v), .v (vI x2.rank), .v (vI x2.came)]) (evs := [.load ⟨g10, m4 * 3, none⟩ (vI x2.v), .load ⟨g10, m4 * 3 + 1, none⟩ (vI x2.rank), .load ⟨g10, m4 * 3 + 2, none⟩ (vI x2.came)]) (v := .agg #[vI x2.v, vI x2.rank, vI x2.came]) (M' := Mem w0 (.blk b_q [.slice (some ⟨g10, 0, none⟩) q_0.length c_q_0, vI q_1] 98 :: orow (some ⟨g10, 0, none⟩) q_0.length c_q_0 105 3 y_q_0 :: Fz F W :: cs)) ⟨by kernel_rfl⟩ (fun w_ hM hS => ⟨w_, ⟨hM.ocell 1 rfl (hq11 0 _ rfl), hM.ocell 1 rfl (hq11 1 _ rfl), hM.ocell 1 rfl (hq11 2 _ rfl), rfl⟩, hM, trivial⟩) ?_
  refine oR [] [(24, .agg #[vI x2.v, vI x2.rank, vI x2.came]), (6, vI (IntKind.i64.wrap ((q_0.length : Int) - 1))), (0, vP b_q 0)] [24, 6, 0] (by kernel_rfl) ?_
  refine ops_new (d := some 7) (o := .cells #[vI 0, vI 0, vI 0] 105) (v := fun b12 => vP b12 0) (M' := fun b12 => Mem w0 (.blk b12 [vI 0, vI 0, vI 0] 105 :: .blk b_q [.slice (some ⟨g10, 0, none⟩) q_0.length c_q_0, vI q_1] 98 :: orow (some ⟨g10, 0, none⟩) q_0.length c_q_0 105 3 y_q_0 :: Fz F W :: cs)) (fun b12 => ⟨by kernel_rfl⟩) (fun w_ hM hS => ⟨hM.blk [vI 0, vI 0, vI 0] 105, trivial⟩) (fun b12 => ?_)
  refine ops_store (an := []) (evs := [.store ⟨b12, 0, none⟩ (vI x2.v), .store ⟨b12, 1, none⟩ (vI x2.rank), .store ⟨b12, 2, none⟩ (vI x2.came)]) (M' := Mem w0 (.blk b12 [vI x2.v, vI x2.rank, vI x2.came] 105 :: .blk b_q [.slice (some ⟨g10, 0, none⟩) q_0.length c_q_0, vI q_1] 98 :: orow (some ⟨g10, 0, none⟩) q_0.length c_q_0 105 3 y_q_0 :: Fz F W :: cs)) ⟨by kernel_rfl⟩ (fun w_ hM hS => let ⟨w', he, h'⟩ := hM.evs_stores [vI x2.v, vI x2.rank, vI x2.came] 0 rfl 0 (Nat.le_of_ble_eq_true rfl); ⟨w', he, h', trivial⟩) ?_
  refine oR [] [(7, vP b12 0), (6, vI (IntKind.i64.wrap ((q_0.length : Int) - 1))), (0, vP b_q 0)] [7, 6, 0] (by kernel_rfl) ?_
  refine ops_nil ?_
  refine fin_then ?_
  refine st_seq ?_
  refine st_region_draw [oT 0, oT 1, oT 2, oT 3, oT 4, oT 5, oT 6, oT 7, oT 8, oT 9, oF 10, oT 11, oF 12] (Mem w0 (.blk b12 [vI x2.v, vI x2.rank, vI x2.came] 105 :: .blk b_q [.slice (some ⟨g10, 0, none⟩) q_0.length c_q_0, vI q_1] 98 :: Fz F W :: cs)) (by kernel_rfl) (by kernel_rfl) (by kernel_rfl) (fun _ d _ _ _ h => by cases d <;> exact h) (M' := Mem w0 (.blk b12 [vI x2.v, vI x2.rank, vI x2.came] 105 :: .blk b_q [.slice (some ⟨g10, 0, none⟩) q_0.length c_q_0, vI q_1] 98 :: orow (some ⟨g10, 0, none⟩) q_0.length c_q_0 105 3 y_q_0 :: Fz F W :: cs)) (fun w_ hM => ⟨hM.drew, hM.drew.sub (.cons_cons _ (.cons_cons _ (.cons _ (.cons_cons _ (.refl _)))))⟩) ?_
  refine oR [oT 0, oT 1, oT 2] [(27, vP b_q 0), (7, vP b12 0), (6, vI (IntKind.i64.wrap ((q_0.length : Int) - 1))), (0, vP b_q 0)] [27, 7, 6, 0] (by kernel_rfl) ?_
  refine ops_load (d := some 28) (an := [.v (.slice (some ⟨g10, 0, none⟩) q_0.length c_q_0)]) (evs := [.load ⟨b_q, 0, none⟩ (.slice (some ⟨g10, 0, none⟩) q_0.length c_q_0)]) (v := .slice (some ⟨g10, 0, none⟩) q_0.length c_q_0) ⟨by kernel_rfl⟩ (fun w_ hM => ⟨hM.cell 1 rfl rfl, rfl⟩) ?_
  refine oR [oT 4, oT 5, oT 6] [(31, vP b_q 0), (28, .slice (some ⟨g10, 0, none⟩) q_0.length c_q_0), (7, vP b12 0), (6, vI (IntKind.i64.wrap ((q_0.length : Int) - 1))), (0, vP b_q 0)] [31, 28, 7, 6, 0] (by kernel_rfl) ?_
  refine ops_load (d := some 32) (an := [.v (.slice (some ⟨g10, 0, none⟩) q_0.length c_q_0)]) (evs := [.load ⟨b_q, 0, none⟩ (.slice (some ⟨g10, 0, none⟩) q_0.length c_q_0)]) (v := .slice (some ⟨g10, 0, none⟩) q_0.length c_q_0) ⟨by kernel_rfl⟩ (fun w_ hM => ⟨hM.cell 1 rfl rfl, rfl⟩) ?_
  refine oR [oT 8] [(33, vI (IntKind.i64.wrap ((q_0.length : Int) - 1))), (32, .slice (some ⟨g10, 0, none⟩) q_0.length c_q_0), (28, .slice (some ⟨g10, 0, none⟩) q_0.length c_q_0), (7, vP b12 0), (6, vI (IntKind.i64.wrap ((q_0.length : Int) - 1))), (0, vP b_q 0)] [33, 32, 28, 7, 6, 0] (by kernel_rfl) ?_
  obtain ⟨x13, hv14, hp⟩ := obind hp
  obtain ⟨m15, hm16, hx17⟩ := idx_some hv14
  have hl20 := (List.getElem?_eq_some_iff.1 hx17).1
  obtain ⟨vs18, hr19, hq21⟩ := h_q_0.at_ m15 x13 hx17
  obtain rfl := dec_queue_item_int hr19
  refine ops_val (op := (Go.Op.indexAddr 96 (Go.Operand.tmp 32) (Go.Operand.tmp 33))) (d := some 34) (v := vP g10 (m15 * 3)) ⟨by kernel_rfl⟩ (run_indexRow Try.underlying96 (z := 3) (by kernel_rfl) rfl rfl hm16 hl20 rfl) ?_
  refine oR [] [(34, vP g10 (m15 * 3)), (28, .slice (some ⟨g10, 0, none⟩) q_0.length c_q_0), (7, vP b12 0), (6, vI (IntKind.i64.wrap ((q_0.length : Int) - 1))), (0, vP b_q 0)] [34, 28, 7, 6, 0] (by kernel_rfl) ?_
  refine ops_mem (d := some 35) (an := [.v (vI x13.v), .v (vI x13.rank), .v (vI x13.came)]) (evs := [.load ⟨g10, m15 * 3, none⟩ (vI x13.v), .load ⟨g10, m15 * 3 + 1, none⟩ (vI x13.rank), .load ⟨g10, m15 * 3 + 2, none⟩ (vI x13.came)]) (v := .agg #[vI x13.v, vI x13.rank, vI x13.came]) (M' := Mem w0 (.blk b12 [vI x2.v, vI x2.rank, vI x2.came] 105 :: .blk b_q [.slice (some ⟨g10, 0, none⟩) q_0.length c_q_0, vI q_1] 98 :: orow (some ⟨g10, 0, none⟩) q_0.length c_q_0 105 3 y_q_0 :: Fz F W :: cs)) ⟨by kernel_rfl⟩ (fun w_ hM hS => ⟨w_, ⟨hM.ocell 2 rfl (hq21 0 _ rfl), hM.ocell 2 rfl (hq21 1 _ rfl), hM.ocell 2 rfl (hq21 2 _ rfl), rfl⟩, hM, hS⟩) ?_
  refine oR [] [(35, .agg #[vI x13.v, vI x13.rank, vI x13.came]), (28, .slice (some ⟨g10, 0, none⟩) q_0.length c_q_0), (7, vP b12 0), (6, vI (IntKind.i64.wrap ((q_0.length : Int) - 1))), (0, vP b_q 0)] [35, 28, 7, 6, 0] (by kernel_rfl) ?_
  obtain ⟨x22, hv23, hp⟩ := obind hp
  obtain ⟨m24, hm25, hx26⟩ := idx_some hv23
  have hl29 := (List.getElem?_eq_some_iff.1 hx26).1
  obtain ⟨vs27, hr28, hq30⟩ := h_q_0.at_ m24 x22 hx26
  obtain rfl := dec_queue_item_int hr28
  refine ops_val (op := (Go.Op.indexAddr 96 (Go.Operand.tmp 28) (Go.Operand.const (Go.Value.int Go.IntKind.i64 0)))) (d := some 36) (v := vP g10 (m24 * 3)) ⟨by kernel_rfl⟩ (run_indexRow Try.underlying96 (z := 3) (by kernel_rfl) rfl rfl hm25 hl29 rfl) ?_
  refine oR [] [(36, vP g10 (m24 * 3)), (35, .agg #[vI x13.v, vI x13.rank, vI x13.came]), (7, vP b12 0), (6, vI (IntKind.i64.wrap ((q_0.length : Int) - 1))), (0, vP b_q 0)] [36, 35, 7, 6, 0] (by kernel_rfl) ?_
  obtain ⟨l31, hv32, hp⟩ := obind hp
  obtain ⟨m33, hm34, hl35, he36⟩ := upd_some hv32
  obtain rfl : m24 = m33 := by have := hm25; omega
  have hl37 : q_0.length = l31.length := by rw [he36, List.length_set]
  obtain ⟨y38, hy39⟩ : ∃ y_, setAll y_q_0 (m24 * 3 + 0) [vI x13.v, vI x13.rank, vI x13.came] = y_ := ⟨_, rfl⟩
  have h40 : RepL R_queue_item_int F W l31 y38 := by rw [he36, ← hy39]; exact RepL.set h_q_0 (List.getElem?_eq_getElem hl35) (fun vs_ hr_ _ => by obtain rfl := dec_queue_item_int hr_; exact ⟨(enc_queue_item_int), Nat.le_of_ble_eq_true rfl⟩)
  refine ops_store (an := []) (evs := [.store ⟨g10, m24 * 3, none⟩ (vI x13.v), .store ⟨g10, m24 * 3 + 1, none⟩ (vI x13.rank), .store ⟨g10, m24 * 3 + 2, none⟩ (vI x13.came)]) (M' := Mem w0 (.blk b12 [vI x2.v, vI x2.rank, vI x2.came] 105 :: .blk b_q [.slice (some ⟨g10, 0, none⟩) q_0.length c_q_0, vI q_1] 98 :: orow (some ⟨g10, 0, none⟩) l31.length c_q_0 105 3 y38 :: Fz F W :: cs)) ⟨by kernel_rfl⟩ (fun w_ hM hS => let ⟨w', he, h'⟩ := hM.ostore' 2 rfl (m24 * 3 + 0) [vI x13.v, vI x13.rank, vI x13.came] (by have z_ : y_q_0.length = q_0.length * 3 := h_q_0.len; have y_ : (m24 + 1) * 3 ≤ q_0.length * 3 := Nat.mul_le_mul_right _ hl35; rw [Nat.add_mul] at y_; simp only [List.length_cons, List.length_nil]; omega) hl37 hy39; ⟨w', he, h', (by exact h'.sub (.cons_cons _ (.cons_cons _ (.cons _ (.cons_cons _ (.refl _))))))⟩) ?_
  refine ops_conv (l' := [(36, vP g10 (m24 * 3)), (35, .agg #[vI x13.v, vI x13.rank, vI x13.came]), (7, vP b12 0), (6, vI (IntKind.i64.wrap ((q_0.length : Int) - 1))), (0, vP b_q 0)]) (M' := Mem w0 (.blk b12 [vI x2.v, vI x2.rank, vI x2.came] 105 :: .blk b_q [.slice (some ⟨g10, 0, none⟩) l31.length c_q_0, vI q_1] 98 :: orow (some ⟨g10, 0, none⟩) l31.length c_q_0 105 3 y38 :: Fz F W :: cs)) (by first | rfl | rw [hl37]) (fun w_ hM => by first | exact hM | (rw [hl37] at hM; exact hM)) ?_
  refine oR [] [(7, vP b12 0), (6, vI (IntKind.i64.wrap ((q_0.length : Int) - 1))), (0, vP b_q 0)] [7, 6, 0] (by kernel_rfl) ?_
  refine ops_nil ?_
  refine fin_then ?_
  refine st_seq ?_
  refine st_region [oF 0, oF 1, oF 2, oF 3, oF 4, oF 5, oF 6, oF 7] (by rfl) ?_
  refine oR [oF 0, oF 1, oF 2] [(39, vP b_q 0), (7, vP b12 0), (6, vI (IntKind.i64.wrap ((q_0.length : Int) - 1))), (0, vP b_q 0)] [39, 7, 6, 0] (by kernel_rfl) ?_
  refine ops_mem (d := some 40) (an := [.v (.slice (some ⟨g10, 0, none⟩) l31.length c_q_0)]) (evs := [.load ⟨b_q, 0, none⟩ (.slice (some ⟨g10, 0, none⟩) l31.length c_q_0)]) (v := .slice (some ⟨g10, 0, none⟩) l31.length c_q_0) (M' := Mem w0 (.blk b12 [vI x2.v, vI x2.rank, vI x2.came] 105 :: .blk b_q [.slice (some ⟨g10, 0, none⟩) l31.length c_q_0, vI q_1] 98 :: orow (some ⟨g10, 0, none⟩) l31.length c_q_0 105 3 y38 :: Fz F W :: cs)) ⟨by kernel_rfl⟩ (fun w_ hM hS => ⟨w_, ⟨hM.cell 1 rfl rfl, rfl⟩, hM, trivial⟩) ?_
  refine oR [oF 4, oF 5] [(42, .agg #[vI 0, vI 0, vI 0]), (41, vI (IntKind.i64.wrap ((q_0.length : Int) - 1))), (40, .slice (some ⟨g10, 0, none⟩) l31.length c_q_0), (7, vP b12 0), (6, vI (IntKind.i64.wrap ((q_0.length : Int) - 1))), (0, vP b_q 0)] [42, 41, 40, 7, 6, 0] (by kernel_rfl) ?_
  obtain ⟨x42, hv43, hp⟩ := obind hp
  obtain ⟨m44, hm45, hx46⟩ := idx_some hv43
  have hl49 := (List.getElem?_eq_some_iff.1 hx46).1
  obtain ⟨vs47, hr48, hq50⟩ := h40.at_ m44 x42 hx46
  obtain rfl := dec_queue_item_int hr48
  refine ops_val (op := (Go.Op.indexAddr 96 (Go.Operand.tmp 40) (Go.Operand.tmp 41))) (d := some 43) (v := vP g10 (m44 * 3)) ⟨by kernel_rfl⟩ (run_indexRow Try.underlying96 (z := 3) (by kernel_rfl) rfl rfl hm45 hl49 rfl) ?_
  refine oR [] [(43, vP g10 (m44 * 3)), (42, .agg #[vI 0, vI 0, vI 0]), (7, vP b12 0), (6, vI (IntKind.i64.wrap ((q_0.length : Int) - 1))), (0, vP b_q 0)] [43, 42, 7, 6, 0] (by kernel_rfl) ?_
  obtain ⟨l51, hv52, hp⟩ := obind hp
  obtain ⟨m53, hm54, hl55, he56⟩ := upd_some hv52
  obtain rfl : m44 = m53 := by have := hm45; omega
  have hl57 : l31.length = l51.length := by rw [he56, List.length_set]
  obtain ⟨y58, hy59⟩ : ∃ y_, setAll y38 (m44 * 3 + 0) [vI 0, vI 0, vI 0] = y_ := ⟨_, rfl⟩
  have h60 : RepL R_queue_item_int F W l51 y58 := by rw [he56, ← hy59]; exact RepL.set h40 (List.getElem?_eq_getElem hl55) (fun vs_ hr_ _ => by obtain rfl := dec_queue_item_int hr_; exact ⟨(enc_queue_item_int), Nat.le_of_ble_eq_true rfl⟩)
  refine ops_store (an := []) (evs := [.store ⟨g10, m44 * 3, none⟩ (vI 0), .store ⟨g10, m44 * 3 + 1, none⟩ (vI 0), .store ⟨g10, m44 * 3 + 2, none⟩ (vI 0)]) (M' := Mem w0 (.blk b12 [vI x2.v, vI x2.rank, vI x2.came] 105 :: .blk b_q [.slice (some ⟨g10, 0, none⟩) l31.length c_q_0, vI q_1] 98 :: orow (some ⟨g10, 0, none⟩) l51.length c_q_0 105 3 y58 :: Fz F W :: cs)) ⟨by kernel_rfl⟩ (fun w_ hM hS => let ⟨w', he, h'⟩ := hM.ostore' 2 rfl (m44 * 3 + 0) [vI 0, vI 0, vI 0] (by have z_ : y38.length = l31.length * 3 := h40.len; have y_ : (m44 + 1) * 3 ≤ l31.length * 3 := Nat.mul_le_mul_right _ hl55; rw [Nat.add_mul] at y_; simp only [List.length_cons, List.length_nil]; omega) hl57 hy59; ⟨w', he, h', trivial⟩) ?_
  refine ops_conv (l' := [(43, vP g10 (m44 * 3)), (42, .agg #[vI 0, vI 0, vI 0]), (7, vP b12 0), (6, vI (IntKind.i64.wrap ((q_0.length : Int) - 1))), (0, vP b_q 0)]) (M' := Mem w0 (.blk b12 [vI x2.v, vI x2.rank, vI x2.came] 105 :: .blk b_q [.slice (some ⟨g10, 0, none⟩) l51.length c_q_0, vI q_1] 98 :: orow (some ⟨g10, 0, none⟩) l51.length c_q_0 105 3 y58 :: Fz F W :: cs)) (by first | rfl | rw [hl57]) (fun w_ hM => by first | exact hM | (rw [hl57] at hM; exact hM)) ?_
  refine oR [] [(7, vP b12 0), (6, vI (IntKind.i64.wrap ((q_0.length : Int) - 1))), (0, vP b_q 0)] [7, 6, 0] (by kernel_rfl) ?_
  refine ops_nil ?_
  refine fin_then ?_
  refine st_seq ?_
  refine st_region [oF 0, oF 1, oF 2, oF 3, oF 4, oF 5, oF 6, oF 7, oF 8, oF 9] (by rfl) ?_
  refine oR [oF 0, oF 1, oF 2, oF 3] [(47, vP b_q 0), (44, vP b_q 0), (7, vP b12 0), (6, vI (IntKind.i64.wrap ((q_0.length : Int) - 1))), (0, vP b_q 0)] [47, 44, 7, 6, 0] (by kernel_rfl) ?_
  refine ops_mem (d := some 48) (an := [.v (.slice (some ⟨g10, 0, none⟩) l51.length c_q_0)]) (evs := [.load ⟨b_q, 0, none⟩ (.slice (some ⟨g10, 0, none⟩) l51.length c_q_0)]) (v := .slice (some ⟨g10, 0, none⟩) l51.length c_q_0) (M' := Mem w0 (.blk b12 [vI x2.v, vI x2.rank, vI x2.came] 105 :: .blk b_q [.slice (some ⟨g10, 0, none⟩) l51.length c_q_0, vI q_1] 98 :: orow (some ⟨g10, 0, none⟩) l51.length c_q_0 105 3 y58 :: Fz F W :: cs)) ⟨by kernel_rfl⟩ (fun w_ hM hS => ⟨w_, ⟨hM.cell 1 rfl rfl, rfl⟩, hM, trivial⟩) ?_
  refine oR [oF 5] [(49, vI (IntKind.i64.wrap ((q_0.length : Int) - 1))), (48, .slice (some ⟨g10, 0, none⟩) l51.length c_q_0), (44, vP b_q 0), (7, vP b12 0), (6, vI (IntKind.i64.wrap ((q_0.length : Int) - 1))), (0, vP b_q 0)] [49, 48, 44, 7, 6, 0] (by kernel_rfl) ?_
  obtain ⟨l62, hv63, hp⟩ := obind hp
  obtain ⟨m64, n65, hm66, hn67, h68, h69, he70⟩ := cut_some hv63
  have hl71 := cut_len he70 h68 h69
  obtain rfl : m64 = 0 := by omega
  refine ops_fact (fun w_ hM => (hM.rowCap 2 rfl).1) (fun hc73 => ?_)
  obtain ⟨y74, hy75⟩ : ∃ y_, y58.take (l62.length * 3) = y_ := ⟨_, rfl⟩
  have h72 : RepL R_queue_item_int F W l62 y74 := by rw [← hy75, hl71, he70, List.drop_zero, Nat.sub_zero]; exact h60.take _
  refine ops_val (op := (Go.Op.slice 96 (Go.Operand.tmp 48) none (some (Go.Operand.tmp 49)) none)) (d := some 50) (v := .slice (some ⟨g10, 0, none⟩) l62.length c_q_0) ⟨by kernel_rfl⟩ (run_cutH0 (by kernel_rfl) (z := 3) (by kernel_rfl) rfl rfl hn67 (Nat.le_trans h69 hc73) (by omega)) ?_
  refine ops_conv (l' := [(50, .slice (some ⟨g10, 0, none⟩) l62.length c_q_0), (49, vI (IntKind.i64.wrap ((q_0.length : Int) - 1))), (48, .slice (some ⟨g10, 0, none⟩) l51.length c_q_0), (44, vP b_q 0), (7, vP b12 0), (6, vI (IntKind.i64.wrap ((q_0.length : Int) - 1))), (0, vP b_q 0)]) (M' := Mem w0 (.blk b12 [vI x2.v, vI x2.rank, vI x2.came] 105 :: .blk b_q [.slice (some ⟨g10, 0, none⟩) l51.length c_q_0, vI q_1] 98 :: orow (some ⟨g10, 0, none⟩) l62.length c_q_0 105 3 y74 :: Fz F W :: cs)) rfl (fun w_ h => h.otake' 2 rfl (by omega) hy75) ?_
  refine oR [oF 7, oF 8] [(52, vP b_q 0), (50, .slice (some ⟨g10, 0, none⟩) l62.length c_q_0), (7, vP b12 0), (6, vI (IntKind.i64.wrap ((q_0.length : Int) - 1))), (0, vP b_q 0)] [52, 50, 7, 6, 0] (by kernel_rfl) ?_
  refine ops_store (an := []) (evs := [.store ⟨b_q, 0, none⟩ (.slice (some ⟨g10, 0, none⟩) l62.length c_q_0)]) (M' := Mem w0 (.blk b12 [vI x2.v, vI x2.rank, vI x2.came] 105 :: .blk b_q [.slice (some ⟨g10, 0, none⟩) l62.length c_q_0, vI q_1] 98 :: orow (some ⟨g10, 0, none⟩) l62.length c_q_0 105 3 y74 :: Fz F W :: cs)) ⟨by kernel_rfl⟩ (fun w_ hM hS => let ⟨w', he, h'⟩ := hM.evs_stores [.slice (some ⟨g10, 0, none⟩) l62.length c_q_0] 1 rfl 0 (Nat.le_of_ble_eq_true rfl); ⟨w', he, h', trivial⟩) ?_
  refine oR [] [(7, vP b12 0), (6, vI (IntKind.i64.wrap ((q_0.length : Int) - 1))), (0, vP b_q 0)] [7, 6, 0] (by kernel_rfl) ?_
  refine ops_nil ?_
  refine fin_then ?_
  refine st_join1 (σ := (List queue_item_int) × (List Value)) (L := fun x_ => match x_ with | (l76, y77) => [(7, vP b12 0)]) (N := fun x_ => match x_ with | (l76, y77) => Mem w0 (.blk b12 [vI x2.v, vI x2.rank, vI x2.came] 105 :: .blk b_q [.slice (some ⟨g10, 0, none⟩) l76.length c_q_0, vI q_1] 98 :: orow (some ⟨g10, 0, none⟩) l76.length c_q_0 105 3 y77 :: Fz F W :: cs)) (I := fun x_ => match x_ with | (l76, y77) => ((queue_Queue_int_Take_j1 x2) l76 = some (i9001, i9002, i9003, l9004)) ∧ (RepL R_queue_item_int F W l76 y77)) ?_ ?_
  · --
   rintro ⟨l76, y77⟩ ⟨hp, h78⟩
   refine st_conv (l' := [(7, vP b12 0)]) (M' := Mem w0 (.blk b12 [vI x2.v, vI x2.rank, vI x2.came] 105 :: .blk b_q [.slice (some ⟨g10, 0, none⟩) l76.length c_q_0, vI q_1] 98 :: orow (some ⟨g10, 0, none⟩) l76.length c_q_0 105 3 y77 :: Fz F W :: cs)) rfl (fun _ h => h) ?_
   unfold queue_Queue_int_Take_j1 at hp
   refine st_seq ?_
   refine st_region_draw [oT 0, oT 1, oT 2, oT 3, oT 4, oT 5, oT 6] (Mem w0 (.blk b12 [vI x2.v, vI x2.rank, vI x2.came] 105 :: .blk b_q [.slice (some ⟨g10, 0, none⟩) l76.length c_q_0, vI q_1] 98 :: orow (some ⟨g10, 0, none⟩) l76.length c_q_0 105 3 y77 :: Fz F W :: cs)) (by kernel_rfl) (by kernel_rfl) (by kernel_rfl) (fun _ d _ _ _ h => by cases d <;> exact h) (M' := Mem w0 (.blk b12 [vI x2.v, vI x2.rank, vI x2.came] 105 :: .blk b_q [.slice (some ⟨g10, 0, none⟩) l76.length c_q_0, vI q_1] 98 :: orow (some ⟨g10, 0, none⟩) l76.length c_q_0 105 3 y77 :: Fz F W :: cs)) (fun w_ hM => ⟨hM.drew, hM.drew.sub (.cons_cons _ (.cons_cons _ (.cons_cons _ (.cons_cons _ (.refl _)))))⟩) ?_
   refine oR [oT 0] [(105, vP b12 0), (7, vP b12 0)] [105, 7] (by kernel_rfl) ?_
   refine ops_load (d := some 106) (an := [.v (vI x2.v)]) (evs := [.load ⟨b12, 0, none⟩ (vI x2.v)]) (v := vI x2.v) ⟨by kernel_rfl⟩ (fun w_ hM => ⟨hM.cell 0 rfl rfl, rfl⟩) ?_
   refine oR [oT 2] [(107, vP b12 1), (106, vI x2.v)] [107, 106] (by kernel_rfl) ?_
   refine ops_load (d := some 108) (an := [.v (vI x2.rank)]) (evs := [.load ⟨b12, 1, none⟩ (vI x2.rank)]) (v := vI x2.rank) ⟨by kernel_rfl⟩ (fun w_ hM => ⟨hM.cell 0 rfl rfl, rfl⟩) ?_
   refine oR [oT 4, oT 5, oT 6] [(4, vI 0), (3, vI x2.rank), (2, vI x2.v)] [4, 3, 2] (by kernel_rfl) ?_
   refine ops_nil ?_
   refine fin_then ?_
   refine st_ret ?_
   have hq_ := Option.some.inj hp
   obtain ⟨hr0_, hq_⟩ := Prod.mk.inj hq_
   obtain ⟨hr1_, hq_⟩ := Prod.mk.inj hq_
   obtain ⟨hr2_, hq_⟩ := Prod.mk.inj hq_
   have hr3_ := hq_
   subst hr0_
   subst hr1_
   subst hr2_
   subst hr3_
   refine fin_ret [.tmp 2, .tmp 3, .tmp 4] [vI x2.v, vI x2.rank, vI 0] rfl rfl (fun w_ hM => (.tmp rfl (.tmp rfl (.tmp rfl .nil)))) (fun w_ hM => ?_)
   exact ⟨y77, h78, rfl, hM.pick 4 [1, 2, 3] (by kernel_rfl) (by decide) rfl⟩
  · --
   intro HJ1
   refine st_seq ?_
   refine st_seq ?_
   refine st_region [oF 0] (by rfl) ?_
   refine oR [oF 0] [(8, vI 0), (7, vP b12 0), (6, vI (IntKind.i64.wrap ((q_0.length : Int) - 1))), (0, vP b_q 0)] [8, 7, 6, 0] (by kernel_rfl) ?_
   refine ops_nil ?_
   refine fin_then ?_
   refine st_block ?_
   obtain ⟨r2, hl2, hk2⟩ := obind hp
   refine st_loopP (σ := (List queue_item_int) × Int) (ρ := (List queue_item_int)) (γ := (List Value)) hl2 y74 (fun s_ g_ => match s_, g_ with | (l79, i82), y80 => [(0, vP b_q 0), (6, vI (IntKind.i64.wrap ((q_0.length : Int) - 1))), (7, vP b12 0), (8, vI i82)]) (fun s_ g_ => match s_, g_ with | (l79, i82), y80 => Mem w0 (.blk b_q [.slice (some ⟨g10, 0, none⟩) l79.length c_q_0, vI q_1] 98 :: orow (some ⟨g10, 0, none⟩) l79.length c_q_0 105 3 y80 :: .blk b12 [vI x2.v, vI x2.rank, vI x2.came] 105 :: Fz F W :: cs)) (fun s_ g_ => match s_, g_ with | (l79, i82), y80 => (RepL R_queue_item_int F W l79 y80)) h72 (look_has ⟨rfl, rfl, rfl, rfl, trivial⟩) (fun w_ hM => hM.pick 4 [1, 2, 0, 3] (by kernel_rfl) (by decide) rfl) ?_
   rintro ⟨l79, i82⟩ y80 o2 h81 hs_ hd2
   have hp : (queue_Queue_int_Take_l2 q_0 q_1) l79 i82 = some o2 := hs_
   clear hs_
   unfold queue_Queue_int_Take_l2 at hp
   refine st_conv (l' := [(0, vP b_q 0), (6, vI (IntKind.i64.wrap ((q_0.length : Int) - 1))), (7, vP b12 0), (8, vI i82)]) (M' := Mem w0 (.blk b_q [.slice (some ⟨g10, 0, none⟩) l79.length c_q_0, vI q_1] 98 :: orow (some ⟨g10, 0, none⟩) l79.length c_q_0 105 3 y80 :: .blk b12 [vI x2.v, vI x2.rank, vI x2.came] 105 :: Fz F W :: cs)) rfl (fun _ h => h) ?_
   refine st_block ?_
   refine st_seq ?_
   refine st_region [oF 0, oF 1, oF 2, oF 3] (by rfl) ?_
   refine oR [oF 0, oF 1, oF 2, oF 3] [(9, vI (IntKind.i64.wrap (IntKind.i64.wrap (2 * i82) + 1))), (0, vP b_q 0), (6, vI (IntKind.i64.wrap ((q_0.length : Int) - 1))), (7, vP b12 0), (8, vI i82)] [9, 0, 6, 7, 8] (by kernel_rfl) ?_
   refine ops_nil ?_
   refine fin_then ?_
   refine st_join1 (σ := (List Value) × Int) (L := fun x_ => match x_ with | (y83, i85) => [(0, vP b_q 0), (6, vI (IntKind.i64.wrap ((q_0.length : Int) - 1))), (7, vP b12 0), (8, vI i82), (9, vI i85)]) (N := fun x_ => match x_ with | (y83, i85) => Mem w0 (.blk b_q [.slice (some ⟨g10, 0, none⟩) l79.length c_q_0, vI q_1] 98 :: orow (some ⟨g10, 0, none⟩) l79.length c_q_0 105 3 y83 :: .blk b12 [vI x2.v, vI x2.rank, vI x2.came] 105 :: Fz F W :: cs)) (I := fun x_ => match x_ with | (y83, i85) => ((queue_Queue_int_Take_j3 q_0 l79 q_1 i82) i85 = some o2) ∧ (RepL R_queue_item_int F W l79 y83)) ?_ ?_
   · --
    rintro ⟨y83, i85⟩ ⟨hp, h84⟩
    refine st_conv (l' := [(0, vP b_q 0), (6, vI (IntKind.i64.wrap ((q_0.length : Int) - 1))), (7, vP b12 0), (8, vI i82), (9, vI i85)]) (M' := Mem w0 (.blk b_q [.slice (some ⟨g10, 0, none⟩) l79.length c_q_0, vI q_1] 98 :: orow (some ⟨g10, 0, none⟩) l79.length c_q_0 105 3 y83 :: .blk b12 [vI x2.v, vI x2.rank, vI x2.came] 105 :: Fz F W :: cs)) rfl (fun _ h => h) ?_
    unfold queue_Queue_int_Take_j3 at hp
    refine st_seq ?_
    refine st_seq ?_
    refine st_region [oF 0, oF 1, oF 2, oF 3, oF 4, oF 5, oF 6, oF 7, oF 8] (by rfl) ?_
    refine oR [oF 0, oF 1, oF 2, oF 3] [(72, .bool (decide (IntKind.i64.wrap ((q_0.length : Int) - 1) ≤ i85))), (0, vP b_q 0), (6, vI (IntKind.i64.wrap ((q_0.length : Int) - 1))), (7, vP b12 0), (8, vI i82), (9, vI i85)] [72, 0, 6, 7, 8, 9] (by kernel_rfl) ?_
    refine ops_bool (t := decide (IntKind.i64.wrap ((q_0.length : Int) - 1) ≤ i85)) (l1 := [(72, .bool true), (0, vP b_q 0), (6, vI (IntKind.i64.wrap ((q_0.length : Int) - 1))), (7, vP b12 0), (8, vI i82), (9, vI i85)]) (l2 := [(72, .bool false), (0, vP b_q 0), (6, vI (IntKind.i64.wrap ((q_0.length : Int) - 1))), (7, vP b12 0), (8, vI i82), (9, vI i85)]) (fun h => by rw [h]) (fun h => by rw [h]) (fun hc86 => ?_) (fun hc86 => ?_)
    · --
     have hp := cnd_t hc86 hp
     refine oR [oF 4, oF 5, oF 6, oF 7, oF 8] [(77, .bool true), (0, vP b_q 0), (6, vI (IntKind.i64.wrap ((q_0.length : Int) - 1))), (7, vP b12 0), (8, vI i82), (9, vI i85)] [77, 0, 6, 7, 8, 9] (by kernel_rfl) ?_
     refine ops_nil ?_
     refine fin_then ?_
     refine st_true rfl ?_
     refine st_exit ?_
     refine fin_exit_then ?_
     refine fin_exit_ne (by rfl) ?_
     refine fin_exit_then ?_
     refine fin_exit ?_
     obtain hq_ := Option.some.inj hp
     subst hq_
     obtain hq_ := hd2 _ rfl
     subst hq_
     have hp : (queue_Queue_int_Take_j1 x2) l79 = some (i9001, i9002, i9003, l9004) := hk2
     exact fin_join HJ1 (l79, y83) ⟨hp, h84⟩ (look_has ⟨rfl, trivial⟩) (fun w_ hM => hM.pick 4 [2, 0, 1, 3] (by kernel_rfl) (by decide) rfl)
    · --
     have hp := cnd_f hc86 hp
     refine oR [oF 4, oF 5, oF 6] [(75, vI i85), (74, vI i82), (73, vP b_q 0), (72, .bool false), (0, vP b_q 0), (6, vI (IntKind.i64.wrap ((q_0.length : Int) - 1))), (7, vP b12 0), (8, vI i82), (9, vI i85)] [75, 74, 73, 72, 0, 6, 7, 8, 9] (by kernel_rfl) ?_
     obtain ⟨x87, hv88, hp⟩ := obind hp
     refine ops_callI (σ := (List Value)) (d := some 76) (f := 77) (args := #[vP b_q 0, vI i82, vI i85]) (v := (fun x_ => match x_ with | y89 => .bool x87)) (I := (fun x_ => match x_ with | y89 => (RepL R_queue_item_int F W l79 y89))) (M' := (fun x_ => match x_ with | y89 => Mem w0 (.blk b_q [.slice (some ⟨g10, 0, none⟩) l79.length c_q_0, vI q_1] 98 :: orow (some ⟨g10, 0, none⟩) l79.length c_q_0 105 3 y89 :: .blk b12 [vI x2.v, vI x2.rank, vI x2.came] 105 :: Fz F W :: cs))) ⟨by kernel_rfl⟩ (fun w_ hM hS => (queue_Queue_int_before_ok w0 w_ (.blk b12 [vI x2.v, vI x2.rank, vI x2.came] 105 :: cs) F W b_q (some ⟨g10, 0, none⟩) c_q_0 l79 y83 q_1 i82 i85 (hM.pick 4 [0, 1, 3, 2] (by kernel_rfl) (by decide) rfl) h84 x87 hv88).mono (by rintro e w' ⟨y89, h90, rfl, h'⟩; have h' : Mem w0 (.blk b_q [.slice (some ⟨g10, 0, none⟩) l79.length c_q_0, vI q_1] 98 :: orow (some ⟨g10, 0, none⟩) l79.length c_q_0 105 3 y89 :: .blk b12 [vI x2.v, vI x2.rank, vI x2.came] 105 :: Fz F W :: cs) w' := (h'.pick 4 [0, 1, 3, 2] (by kernel_rfl) (by decide) rfl); exact ⟨y89, h90, rfl, h', trivial⟩)) ?_
     rintro y89 h90
     refine ops_conv (l' := [(76, .bool x87), (75, vI i85), (74, vI i82), (73, vP b_q 0), (72, .bool false), (0, vP b_q 0), (6, vI (IntKind.i64.wrap ((q_0.length : Int) - 1))), (7, vP b12 0), (8, vI i82), (9, vI i85)]) (M' := Mem w0 (.blk b_q [.slice (some ⟨g10, 0, none⟩) l79.length c_q_0, vI q_1] 98 :: orow (some ⟨g10, 0, none⟩) l79.length c_q_0 105 3 y89 :: .blk b12 [vI x2.v, vI x2.rank, vI x2.came] 105 :: Fz F W :: cs)) rfl (fun _ h => h) ?_
     refine oR [oF 8] [(77, .bool x87), (0, vP b_q 0), (6, vI (IntKind.i64.wrap ((q_0.length : Int) - 1))), (7, vP b12 0), (8, vI i82), (9, vI i85)] [77, 0, 6, 7, 8, 9] (by kernel_rfl) ?_
     refine ops_nil ?_
     refine fin_then ?_
     refine st_if (b := x87) rfl (fun hc91 => ?_) (fun hc91 => ?_)
     · --
      have hp := cnd_t hc91 hp
      refine st_exit ?_
      refine fin_exit_then ?_
      refine fin_exit_ne (by rfl) ?_
      refine fin_exit_then ?_
      refine fin_exit ?_
      obtain hq_ := Option.some.inj hp
      subst hq_
      obtain hq_ := hd2 _ rfl
      subst hq_
      have hp : (queue_Queue_int_Take_j1 x2) l79 = some (i9001, i9002, i9003, l9004) := hk2
      exact fin_join HJ1 (l79, y89) ⟨hp, h90⟩ (look_has ⟨rfl, trivial⟩) (fun w_ hM => hM.pick 4 [2, 0, 1, 3] (by kernel_rfl) (by decide) rfl)
     · --
      have hp := cnd_f hc91 hp
      refine st_skip ?_
      refine fin_then ?_
      refine st_join1 (σ := (List queue_item_int) × (List Value)) (L := fun x_ => match x_ with | (l92, y93) => [(0, vP b_q 0), (6, vI (IntKind.i64.wrap ((q_0.length : Int) - 1))), (7, vP b12 0), (9, vI i85)]) (N := fun x_ => match x_ with | (l92, y93) => Mem w0 (.blk b_q [.slice (some ⟨g10, 0, none⟩) l92.length c_q_0, vI q_1] 98 :: orow (some ⟨g10, 0, none⟩) l92.length c_q_0 105 3 y93 :: .blk b12 [vI x2.v, vI x2.rank, vI x2.came] 105 :: Fz F W :: cs)) (I := fun x_ => match x_ with | (l92, y93) => ((queue_Queue_int_Take_j4 i85) l92 = some o2) ∧ (RepL R_queue_item_int F W l92 y93)) ?_ ?_
      · --
       rintro ⟨l92, y93⟩ ⟨hp, h94⟩
       refine st_conv (l' := [(0, vP b_q 0), (6, vI (IntKind.i64.wrap ((q_0.length : Int) - 1))), (7, vP b12 0), (9, vI i85)]) (M' := Mem w0 (.blk b_q [.slice (some ⟨g10, 0, none⟩) l92.length c_q_0, vI q_1] 98 :: orow (some ⟨g10, 0, none⟩) l92.length c_q_0 105 3 y93 :: .blk b12 [vI x2.v, vI x2.rank, vI x2.came] 105 :: Fz F W :: cs)) rfl (fun _ h => h) ?_
       unfold queue_Queue_int_Take_j4 at hp
       refine st_region [oF 0, oF 1] (by rfl) ?_
       refine oR [oF 0, oF 1] [(8, vI i85), (0, vP b_q 0), (6, vI (IntKind.i64.wrap ((q_0.length : Int) - 1))), (7, vP b12 0)] [8, 0, 6, 7] (by kernel_rfl) ?_
       refine ops_nil ?_
       refine fin_block ?_
       exact fin_again (l92, i85) y93 (Option.some.inj hp).symm h94 (look_has ⟨rfl, rfl, rfl, rfl, trivial⟩) (fun w_ hM => hM)
      · --
       intro HJ4
       refine st_seq ?_
       obtain ⟨x95, hv96, hp⟩ := obind hp
       obtain ⟨x104, hv105, hp⟩ := obind hp
       obtain ⟨x113, hv114, hp⟩ := obind hp
       obtain ⟨l122, hv123, hp⟩ := obind hp
       obtain ⟨x133, hv134, hp⟩ := obind hp
       obtain ⟨l142, hv143, hp⟩ := obind hp
       refine st_region_tree (.node [oT 0, oT 1, oT 2, oT 3, oT 4, oT 5, oT 6, oT 7, oT 8, oT 9, oT 10, oT 11, oT 12, oT 13, oT 14, oT 15, oT 17, oT 18, oT 19, oT 20, oT 21, oT 22] (.leaf [oF 16, oF 23, oT 24, oF 25, oT 26, oF 27]) (.leaf [oF 23, oF 16, oT 24, oF 25, oT 26, oF 27])) (Mem w0 (.blk b_q [.slice (some ⟨g10, 0, none⟩) l79.length c_q_0, vI q_1] 98 :: .blk b12 [vI x2.v, vI x2.rank, vI x2.came] 105 :: Fz F W :: cs)) (by kernel_rfl) (by kernel_rfl) (by kernel_rfl) (fun _ d _ _ _ h => by cases d <;> exact h) (M' := Mem w0 (.blk b_q [.slice (some ⟨g10, 0, none⟩) l79.length c_q_0, vI q_1] 98 :: orow (some ⟨g10, 0, none⟩) l79.length c_q_0 105 3 y89 :: .blk b12 [vI x2.v, vI x2.rank, vI x2.came] 105 :: Fz F W :: cs)) (fun w_ hM => ⟨hM.drew, hM.drew.sub (.cons_cons _ (.cons _ (.cons_cons _ (.cons_cons _ (.refl _)))))⟩) ?_
       refine tree_node ?_
       refine oR [oT 0, oT 1, oT 2] [(80, vP b_q 0), (0, vP b_q 0), (6, vI (IntKind.i64.wrap ((q_0.length : Int) - 1))), (7, vP b12 0), (8, vI i82), (9, vI i85)] [80, 0, 6, 7, 8, 9] (by kernel_rfl) ?_
       refine ops_load (d := some 81) (an := [.v (.slice (some ⟨g10, 0, none⟩) l79.length c_q_0)]) (evs := [.load ⟨b_q, 0, none⟩ (.slice (some ⟨g10, 0, none⟩) l79.length c_q_0)]) (v := .slice (some ⟨g10, 0, none⟩) l79.length c_q_0) ⟨by kernel_rfl⟩ (fun w_ hM => ⟨hM.cell 0 rfl rfl, rfl⟩) ?_
       refine oR [oT 4, oT 5, oT 6, oT 7] [(85, vP b_q 0), (82, vI i82), (81, .slice (some ⟨g10, 0, none⟩) l79.length c_q_0), (0, vP b_q 0), (6, vI (IntKind.i64.wrap ((q_0.length : Int) - 1))), (7, vP b12 0), (8, vI i82), (9, vI i85)] [85, 82, 81, 0, 6, 7, 8, 9] (by kernel_rfl) ?_
       refine ops_load (d := some 86) (an := [.v (.slice (some ⟨g10, 0, none⟩) l79.length c_q_0)]) (evs := [.load ⟨b_q, 0, none⟩ (.slice (some ⟨g10, 0, none⟩) l79.length c_q_0)]) (v := .slice (some ⟨g10, 0, none⟩) l79.length c_q_0) ⟨by kernel_rfl⟩ (fun w_ hM => ⟨hM.cell 0 rfl rfl, rfl⟩) ?_
       refine oR [oT 9, oT 10, oT 11, oT 12] [(90, vP b_q 0), (87, vI i85), (86, .slice (some ⟨g10, 0, none⟩) l79.length c_q_0), (82, vI i82), (81, .slice (some ⟨g10, 0, none⟩) l79.length c_q_0), (0, vP b_q 0), (6, vI (IntKind.i64.wrap ((q_0.length : Int) - 1))), (7, vP b12 0), (8, vI i82), (9, vI i85)] [90, 87, 86, 82, 81, 0, 6, 7, 8, 9] (by kernel_rfl) ?_
       refine ops_load (d := some 91) (an := [.v (.slice (some ⟨g10, 0, none⟩) l79.length c_q_0)]) (evs := [.load ⟨b_q, 0, none⟩ (.slice (some ⟨g10, 0, none⟩) l79.length c_q_0)]) (v := .slice (some ⟨g10, 0, none⟩) l79.length c_q_0) ⟨by kernel_rfl⟩ (fun w_ hM => ⟨hM.cell 0 rfl rfl, rfl⟩) ?_
       refine oR [oT 14] [(92, vI i85), (91, .slice (some ⟨g10, 0, none⟩) l79.length c_q_0), (87, vI i85), (86, .slice (some ⟨g10, 0, none⟩) l79.length c_q_0), (82, vI i82), (81, .slice (some ⟨g10, 0, none⟩) l79.length c_q_0), (0, vP b_q 0), (6, vI (IntKind.i64.wrap ((q_0.length : Int) - 1))), (7, vP b12 0), (8, vI i82), (9, vI i85)] [92, 91, 87, 86, 82, 81, 0, 6, 7, 8, 9] (by kernel_rfl) ?_
       obtain ⟨m144, hm145, hx146⟩ := idx_some hv96
       have hl149 := (List.getElem?_eq_some_iff.1 hx146).1
       obtain ⟨vs147, hr148, hq150⟩ := h90.at_ m144 x95 hx146
       obtain rfl := dec_queue_item_int hr148
       refine ops_val (op := (Go.Op.indexAddr 96 (Go.Operand.tmp 91) (Go.Operand.tmp 92))) (d := some 93) (v := vP g10 (m144 * 3)) ⟨by kernel_rfl⟩ (run_indexRow Try.underlying96 (z := 3) (by kernel_rfl) rfl rfl hm145 hl149 rfl) ?_
       refine oR [oT 17, oT 18, oT 19] [(97, vP b_q 0), (93, vP g10 (m144 * 3)), (87, vI i85), (86, .slice (some ⟨g10, 0, none⟩) l79.length c_q_0), (82, vI i82), (81, .slice (some ⟨g10, 0, none⟩) l79.length c_q_0), (0, vP b_q 0), (6, vI (IntKind.i64.wrap ((q_0.length : Int) - 1))), (7, vP b12 0), (8, vI i82), (9, vI i85)] [97, 93, 87, 86, 82, 81, 0, 6, 7, 8, 9] (by kernel_rfl) ?_
       refine ops_load (d := some 98) (an := [.v (.slice (some ⟨g10, 0, none⟩) l79.length c_q_0)]) (evs := [.load ⟨b_q, 0, none⟩ (.slice (some ⟨g10, 0, none⟩) l79.length c_q_0)]) (v := .slice (some ⟨g10, 0, none⟩) l79.length c_q_0) ⟨by kernel_rfl⟩ (fun w_ hM => ⟨hM.cell 0 rfl rfl, rfl⟩) ?_
       refine oR [oT 21] [(99, vI i82), (98, .slice (some ⟨g10, 0, none⟩) l79.length c_q_0), (93, vP g10 (m144 * 3)), (87, vI i85), (86, .slice (some ⟨g10, 0, none⟩) l79.length c_q_0), (82, vI i82), (81, .slice (some ⟨g10, 0, none⟩) l79.length c_q_0), (0, vP b_q 0), (6, vI (IntKind.i64.wrap ((q_0.length : Int) - 1))), (7, vP b12 0), (9, vI i85)] [99, 98, 93, 87, 86, 82, 81, 0, 6, 7, 9] (by kernel_rfl) ?_
       obtain ⟨m151, hm152, hx153⟩ := idx_some hv105
       have hl156 := (List.getElem?_eq_some_iff.1 hx153).1
       obtain ⟨vs154, hr155, hq157⟩ := h90.at_ m151 x104 hx153
       obtain rfl := dec_queue_item_int hr155
       refine ops_val (op := (Go.Op.indexAddr 96 (Go.Operand.tmp 98) (Go.Operand.tmp 99))) (d := some 100) (v := vP g10 (m151 * 3)) ⟨by kernel_rfl⟩ (run_indexRow Try.underlying96 (z := 3) (by kernel_rfl) rfl rfl hm152 hl156 rfl) ?_
       refine oR [] [(100, vP g10 (m151 * 3)), (93, vP g10 (m144 * 3)), (87, vI i85), (86, .slice (some ⟨g10, 0, none⟩) l79.length c_q_0), (82, vI i82), (81, .slice (some ⟨g10, 0, none⟩) l79.length c_q_0), (0, vP b_q 0), (6, vI (IntKind.i64.wrap ((q_0.length : Int) - 1))), (7, vP b12 0), (9, vI i85)] [100, 93, 87, 86, 82, 81, 0, 6, 7, 9] (by kernel_rfl) ?_
       refine ops_nil ?_
       refine tree_both ?_ ?_
       · --
        refine tree_leaf ?_
        refine ops_mem (d := some 94) (an := [.v (vI x95.v), .v (vI x95.rank), .v (vI x95.came)]) (evs := [.load ⟨g10, m144 * 3, none⟩ (vI x95.v), .load ⟨g10, m144 * 3 + 1, none⟩ (vI x95.rank), .load ⟨g10, m144 * 3 + 2, none⟩ (vI x95.came)]) (v := .agg #[vI x95.v, vI x95.rank, vI x95.came]) (M' := Mem w0 (.blk b_q [.slice (some ⟨g10, 0, none⟩) l79.length c_q_0, vI q_1] 98 :: orow (some ⟨g10, 0, none⟩) l79.length c_q_0 105 3 y89 :: .blk b12 [vI x2.v, vI x2.rank, vI x2.came] 105 :: Fz F W :: cs)) ⟨by kernel_rfl⟩ (fun w_ hM hS => ⟨w_, ⟨hM.ocell 1 rfl (hq150 0 _ rfl), hM.ocell 1 rfl (hq150 1 _ rfl), hM.ocell 1 rfl (hq150 2 _ rfl), rfl⟩, hM, hS⟩) ?_
        refine oR [] [(94, .agg #[vI x95.v, vI x95.rank, vI x95.came]), (100, vP g10 (m151 * 3)), (87, vI i85), (86, .slice (some ⟨g10, 0, none⟩) l79.length c_q_0), (82, vI i82), (81, .slice (some ⟨g10, 0, none⟩) l79.length c_q_0), (0, vP b_q 0), (6, vI (IntKind.i64.wrap ((q_0.length : Int) - 1))), (7, vP b12 0), (9, vI i85)] [94, 100, 87, 86, 82, 81, 0, 6, 7, 9] (by kernel_rfl) ?_
        refine ops_mem (d := some 101) (an := [.v (vI x104.v), .v (vI x104.rank), .v (vI x104.came)]) (evs := [.load ⟨g10, m151 * 3, none⟩ (vI x104.v), .load ⟨g10, m151 * 3 + 1, none⟩ (vI x104.rank), .load ⟨g10, m151 * 3 + 2, none⟩ (vI x104.came)]) (v := .agg #[vI x104.v, vI x104.rank, vI x104.came]) (M' := Mem w0 (.blk b_q [.slice (some ⟨g10, 0, none⟩) l79.length c_q_0, vI q_1] 98 :: orow (some ⟨g10, 0, none⟩) l79.length c_q_0 105 3 y89 :: .blk b12 [vI x2.v, vI x2.rank, vI x2.came] 105 :: Fz F W :: cs)) ⟨by kernel_rfl⟩ (fun w_ hM hS => ⟨w_, ⟨hM.ocell 1 rfl (hq157 0 _ rfl), hM.ocell 1 rfl (hq157 1 _ rfl), hM.ocell 1 rfl (hq157 2 _ rfl), rfl⟩, hM, hS⟩) ?_
        refine oR [] [(101, .agg #[vI x104.v, vI x104.rank, vI x104.came]), (94, .agg #[vI x95.v, vI x95.rank, vI x95.came]), (87, vI i85), (86, .slice (some ⟨g10, 0, none⟩) l79.length c_q_0), (82, vI i82), (81, .slice (some ⟨g10, 0, none⟩) l79.length c_q_0), (0, vP b_q 0), (6, vI (IntKind.i64.wrap ((q_0.length : Int) - 1))), (7, vP b12 0), (9, vI i85)] [101, 94, 87, 86, 82, 81, 0, 6, 7, 9] (by kernel_rfl) ?_
        obtain ⟨m158, hm159, hx160⟩ := idx_some hv114
        have hl163 := (List.getElem?_eq_some_iff.1 hx160).1
        obtain ⟨vs161, hr162, hq164⟩ := h90.at_ m158 x113 hx160
        obtain rfl := dec_queue_item_int hr162
        refine ops_val (op := (Go.Op.indexAddr 96 (Go.Operand.tmp 81) (Go.Operand.tmp 82))) (d := some 102) (v := vP g10 (m158 * 3)) ⟨by kernel_rfl⟩ (run_indexRow Try.underlying96 (z := 3) (by kernel_rfl) rfl rfl hm159 hl163 rfl) ?_
        refine oR [] [(102, vP g10 (m158 * 3)), (101, .agg #[vI x104.v, vI x104.rank, vI x104.came]), (94, .agg #[vI x95.v, vI x95.rank, vI x95.came]), (87, vI i85), (86, .slice (some ⟨g10, 0, none⟩) l79.length c_q_0), (0, vP b_q 0), (6, vI (IntKind.i64.wrap ((q_0.length : Int) - 1))), (7, vP b12 0), (9, vI i85)] [102, 101, 94, 87, 86, 0, 6, 7, 9] (by kernel_rfl) ?_
        obtain ⟨m165, hm166, hl167, he168⟩ := upd_some hv123
        obtain rfl : m158 = m165 := by have := hm159; omega
        have hl169 : l79.length = l122.length := by rw [he168, List.length_set]
        obtain ⟨y170, hy171⟩ : ∃ y_, setAll y89 (m158 * 3 + 0) [vI x95.v, vI x95.rank, vI x95.came] = y_ := ⟨_, rfl⟩
        have h172 : RepL R_queue_item_int F W l122 y170 := by rw [he168, ← hy171]; exact RepL.set h90 (List.getElem?_eq_getElem hl167) (fun vs_ hr_ _ => by obtain rfl := dec_queue_item_int hr_; exact ⟨(enc_queue_item_int), Nat.le_of_ble_eq_true rfl⟩)
        refine ops_store (an := []) (evs := [.store ⟨g10, m158 * 3, none⟩ (vI x95.v), .store ⟨g10, m158 * 3 + 1, none⟩ (vI x95.rank), .store ⟨g10, m158 * 3 + 2, none⟩ (vI x95.came)]) (M' := Mem w0 (.blk b_q [.slice (some ⟨g10, 0, none⟩) l79.length c_q_0, vI q_1] 98 :: orow (some ⟨g10, 0, none⟩) l122.length c_q_0 105 3 y170 :: .blk b12 [vI x2.v, vI x2.rank, vI x2.came] 105 :: Fz F W :: cs)) ⟨by kernel_rfl⟩ (fun w_ hM hS => let ⟨w', he, h'⟩ := hM.ostore' 1 rfl (m158 * 3 + 0) [vI x95.v, vI x95.rank, vI x95.came] (by have z_ : y89.length = l79.length * 3 := h90.len; have y_ : (m158 + 1) * 3 ≤ l79.length * 3 := Nat.mul_le_mul_right _ hl167; rw [Nat.add_mul] at y_; simp only [List.length_cons, List.length_nil]; omega) hl169 hy171; ⟨w', he, h', (by exact h'.sub (.cons_cons _ (.cons _ (.cons_cons _ (.cons_cons _ (.refl _))))))⟩) ?_
        refine ops_conv (l' := [(102, vP g10 (m158 * 3)), (101, .agg #[vI x104.v, vI x104.rank, vI x104.came]), (94, .agg #[vI x95.v, vI x95.rank, vI x95.came]), (87, vI i85), (86, .slice (some ⟨g10, 0, none⟩) l122.length c_q_0), (0, vP b_q 0), (6, vI (IntKind.i64.wrap ((q_0.length : Int) - 1))), (7, vP b12 0), (9, vI i85)]) (M' := Mem w0 (.blk b_q [.slice (some ⟨g10, 0, none⟩) l122.length c_q_0, vI q_1] 98 :: orow (some ⟨g10, 0, none⟩) l122.length c_q_0 105 3 y170 :: .blk b12 [vI x2.v, vI x2.rank, vI x2.came] 105 :: Fz F W :: cs)) (by first | rfl | rw [hl169]) (fun w_ hM => by first | exact hM | (rw [hl169] at hM; exact hM)) ?_
        refine oR [] [(101, .agg #[vI x104.v, vI x104.rank, vI x104.came]), (87, vI i85), (86, .slice (some ⟨g10, 0, none⟩) l122.length c_q_0), (0, vP b_q 0), (6, vI (IntKind.i64.wrap ((q_0.length : Int) - 1))), (7, vP b12 0), (9, vI i85)] [101, 87, 86, 0, 6, 7, 9] (by kernel_rfl) ?_
        obtain ⟨m174, hm175, hx176⟩ := idx_some hv134
        have hl179 := (List.getElem?_eq_some_iff.1 hx176).1
        obtain ⟨vs177, hr178, hq180⟩ := h172.at_ m174 x133 hx176
        obtain rfl := dec_queue_item_int hr178
        refine ops_val (op := (Go.Op.indexAddr 96 (Go.Operand.tmp 86) (Go.Operand.tmp 87))) (d := some 103) (v := vP g10 (m174 * 3)) ⟨by kernel_rfl⟩ (run_indexRow Try.underlying96 (z := 3) (by kernel_rfl) rfl rfl hm175 hl179 rfl) ?_
        refine oR [] [(103, vP g10 (m174 * 3)), (101, .agg #[vI x104.v, vI x104.rank, vI x104.came]), (0, vP b_q 0), (6, vI (IntKind.i64.wrap ((q_0.length : Int) - 1))), (7, vP b12 0), (9, vI i85)] [103, 101, 0, 6, 7, 9] (by kernel_rfl) ?_
        obtain ⟨m181, hm182, hl183, he184⟩ := upd_some hv143
        obtain rfl : m174 = m181 := by have := hm175; omega
        have hl185 : l122.length = l142.length := by rw [he184, List.length_set]
        obtain ⟨y186, hy187⟩ : ∃ y_, setAll y170 (m174 * 3 + 0) [vI x104.v, vI x104.rank, vI x104.came] = y_ := ⟨_, rfl⟩
        have h188 : RepL R_queue_item_int F W l142 y186 := by rw [he184, ← hy187]; exact RepL.set h172 (List.getElem?_eq_getElem hl183) (fun vs_ hr_ _ => by obtain rfl := dec_queue_item_int hr_; exact ⟨(enc_queue_item_int), Nat.le_of_ble_eq_true rfl⟩)
        refine ops_store (an := []) (evs := [.store ⟨g10, m174 * 3, none⟩ (vI x104.v), .store ⟨g10, m174 * 3 + 1, none⟩ (vI x104.rank), .store ⟨g10, m174 * 3 + 2, none⟩ (vI x104.came)]) (M' := Mem w0 (.blk b_q [.slice (some ⟨g10, 0, none⟩) l122.length c_q_0, vI q_1] 98 :: orow (some ⟨g10, 0, none⟩) l142.length c_q_0 105 3 y186 :: .blk b12 [vI x2.v, vI x2.rank, vI x2.came] 105 :: Fz F W :: cs)) ⟨by kernel_rfl⟩ (fun w_ hM hS => let ⟨w', he, h'⟩ := hM.ostore' 1 rfl (m174 * 3 + 0) [vI x104.v, vI x104.rank, vI x104.came] (by have z_ : y170.length = l122.length * 3 := h172.len; have y_ : (m174 + 1) * 3 ≤ l122.length * 3 := Nat.mul_le_mul_right _ hl183; rw [Nat.add_mul] at y_; simp only [List.length_cons, List.length_nil]; omega) hl185 hy187; ⟨w', he, h', (by first | (refine h'.sub ?_; simp; done) | ((try simp only [← hl185] at h'); (try simp only [← hl169] at h'); (try simp only [← hl148] at h'); (try simp only [← hl128] at h'); (try simp only [← hl214] at h'); (try simp only [← hl198] at h'); exact h'.sub (by simp)))⟩) ?_
        refine ops_conv (l' := [(103, vP g10 (m174 * 3)), (101, .agg #[vI x104.v, vI x104.rank, vI x104.came]), (0, vP b_q 0), (6, vI (IntKind.i64.wrap ((q_0.length : Int) - 1))), (7, vP b12 0), (9, vI i85)]) (M' := Mem w0 (.blk b_q [.slice (some ⟨g10, 0, none⟩) l142.length c_q_0, vI q_1] 98 :: orow (some ⟨g10, 0, none⟩) l142.length c_q_0 105 3 y186 :: .blk b12 [vI x2.v, vI x2.rank, vI x2.came] 105 :: Fz F W :: cs)) (by first | rfl | rw [hl185]) (fun w_ hM => by first | exact hM | (rw [hl185] at hM; exact hM)) ?_
        refine oR [] [(0, vP b_q 0), (6, vI (IntKind.i64.wrap ((q_0.length : Int) - 1))), (7, vP b12 0), (9, vI i85)] [0, 6, 7, 9] (by kernel_rfl) ?_
        refine ops_nil ?_
        exact fin_join HJ4 (l142, y186) ⟨hp, h188⟩ (look_has ⟨rfl, rfl, rfl, rfl, trivial⟩) (fun w_ hM => hM)
       · --
        refine tree_leaf ?_
        refine ops_mem (d := some 101) (an := [.v (vI x104.v), .v (vI x104.rank), .v (vI x104.came)]) (evs := [.load ⟨g10, m151 * 3, none⟩ (vI x104.v), .load ⟨g10, m151 * 3 + 1, none⟩ (vI x104.rank), .load ⟨g10, m151 * 3 + 2, none⟩ (vI x104.came)]) (v := .agg #[vI x104.v, vI x104.rank, vI x104.came]) (M' := Mem w0 (.blk b_q [.slice (some ⟨g10, 0, none⟩) l79.length c_q_0, vI q_1] 98 :: orow (some ⟨g10, 0, none⟩) l79.length c_q_0 105 3 y89 :: .blk b12 [vI x2.v, vI x2.rank, vI x2.came] 105 :: Fz F W :: cs)) ⟨by kernel_rfl⟩ (fun w_ hM hS => ⟨w_, ⟨hM.ocell 1 rfl (hq157 0 _ rfl), hM.ocell 1 rfl (hq157 1 _ rfl), hM.ocell 1 rfl (hq157 2 _ rfl), rfl⟩, hM, hS⟩) ?_
        refine oR [] [(101, .agg #[vI x104.v, vI x104.rank, vI x104.came]), (93, vP g10 (m144 * 3)), (87, vI i85), (86, .slice (some ⟨g10, 0, none⟩) l79.length c_q_0), (82, vI i82), (81, .slice (some ⟨g10, 0, none⟩) l79.length c_q_0), (0, vP b_q 0), (6, vI (IntKind.i64.wrap ((q_0.length : Int) - 1))), (7, vP b12 0), (9, vI i85)] [101, 93, 87, 86, 82, 81, 0, 6, 7, 9] (by kernel_rfl) ?_
        refine ops_mem (d := some 94) (an := [.v (vI x95.v), .v (vI x95.rank), .v (vI x95.came)]) (evs := [.load ⟨g10, m144 * 3, none⟩ (vI x95.v), .load ⟨g10, m144 * 3 + 1, none⟩ (vI x95.rank), .load ⟨g10, m144 * 3 + 2, none⟩ (vI x95.came)]) (v := .agg #[vI x95.v, vI x95.rank, vI x95.came]) (M' := Mem w0 (.blk b_q [.slice (some ⟨g10, 0, none⟩) l79.length c_q_0, vI q_1] 98 :: orow (some ⟨g10, 0, none⟩) l79.length c_q_0 105 3 y89 :: .blk b12 [vI x2.v, vI x2.rank, vI x2.came] 105 :: Fz F W :: cs)) ⟨by kernel_rfl⟩ (fun w_ hM hS => ⟨w_, ⟨hM.ocell 1 rfl (hq150 0 _ rfl), hM.ocell 1 rfl (hq150 1 _ rfl), hM.ocell 1 rfl (hq150 2 _ rfl), rfl⟩, hM, hS⟩) ?_
        refine oR [] [(94, .agg #[vI x95.v, vI x95.rank, vI x95.came]), (101, .agg #[vI x104.v, vI x104.rank, vI x104.came]), (87, vI i85), (86, .slice (some ⟨g10, 0, none⟩) l79.length c_q_0), (82, vI i82), (81, .slice (some ⟨g10, 0, none⟩) l79.length c_q_0), (0, vP b_q 0), (6, vI (IntKind.i64.wrap ((q_0.length : Int) - 1))), (7, vP b12 0), (9, vI i85)] [94, 101, 87, 86, 82, 81, 0, 6, 7, 9] (by kernel_rfl) ?_
        obtain ⟨m190, hm191, hx192⟩ := idx_some hv114
        have hl195 := (List.getElem?_eq_some_iff.1 hx192).1
        obtain ⟨vs193, hr194, hq196⟩ := h90.at_ m190 x113 hx192
        obtain rfl := dec_queue_item_int hr194
        refine ops_val (op := (Go.Op.indexAddr 96 (Go.Operand.tmp 81) (Go.Operand.tmp 82))) (d := some 102) (v := vP g10 (m190 * 3)) ⟨by kernel_rfl⟩ (run_indexRow Try.underlying96 (z := 3) (by kernel_rfl) rfl rfl hm191 hl195 rfl) ?_
        refine oR [] [(102, vP g10 (m190 * 3)), (94, .agg #[vI x95.v, vI x95.rank, vI x95.came]), (101, .agg #[vI x104.v, vI x104.rank, vI x104.came]), (87, vI i85), (86, .slice (some ⟨g10, 0, none⟩) l79.length c_q_0), (0, vP b_q 0), (6, vI (IntKind.i64.wrap ((q_0.length : Int) - 1))), (7, vP b12 0), (9, vI i85)] [102, 94, 101, 87, 86, 0, 6, 7, 9] (by kernel_rfl) ?_
        obtain ⟨m197, hm198, hl199, he200⟩ := upd_some hv123
        obtain rfl : m190 = m197 := by have := hm191; omega
        have hl201 : l79.length = l122.length := by rw [he200, List.length_set]
        obtain ⟨y202, hy203⟩ : ∃ y_, setAll y89 (m190 * 3 + 0) [vI x95.v, vI x95.rank, vI x95.came] = y_ := ⟨_, rfl⟩
        have h204 : RepL R_queue_item_int F W l122 y202 := by rw [he200, ← hy203]; exact RepL.set h90 (List.getElem?_eq_getElem hl199) (fun vs_ hr_ _ => by obtain rfl := dec_queue_item_int hr_; exact ⟨(enc_queue_item_int), Nat.le_of_ble_eq_true rfl⟩)
        refine ops_store (an := []) (evs := [.store ⟨g10, m190 * 3, none⟩ (vI x95.v), .store ⟨g10, m190 * 3 + 1, none⟩ (vI x95.rank), .store ⟨g10, m190 * 3 + 2, none⟩ (vI x95.came)]) (M' := Mem w0 (.blk b_q [.slice (some ⟨g10, 0, none⟩) l79.length c_q_0, vI q_1] 98 :: orow (some ⟨g10, 0, none⟩) l122.length c_q_0 105 3 y202 :: .blk b12 [vI x2.v, vI x2.rank, vI x2.came] 105 :: Fz F W :: cs)) ⟨by kernel_rfl⟩ (fun w_ hM hS => let ⟨w', he, h'⟩ := hM.ostore' 1 rfl (m190 * 3 + 0) [vI x95.v, vI x95.rank, vI x95.came] (by have z_ : y89.length = l79.length * 3 := h90.len; have y_ : (m190 + 1) * 3 ≤ l79.length * 3 := Nat.mul_le_mul_right _ hl199; rw [Nat.add_mul] at y_; simp only [List.length_cons, List.length_nil]; omega) hl201 hy203; ⟨w', he, h', (by exact h'.sub (.cons_cons _ (.cons _ (.cons_cons _ (.cons_cons _ (.refl _))))))⟩) ?_
        refine ops_conv (l' := [(102, vP g10 (m190 * 3)), (94, .agg #[vI x95.v, vI x95.rank, vI x95.came]), (101, .agg #[vI x104.v, vI x104.rank, vI x104.came]), (87, vI i85), (86, .slice (some ⟨g10, 0, none⟩) l122.length c_q_0), (0, vP b_q 0), (6, vI (IntKind.i64.wrap ((q_0.length : Int) - 1))), (7, vP b12 0), (9, vI i85)]) (M' := Mem w0 (.blk b_q [.slice (some ⟨g10, 0, none⟩) l122.length c_q_0, vI q_1] 98 :: orow (some ⟨g10, 0, none⟩) l122.length c_q_0 105 3 y202 :: .blk b12 [vI x2.v, vI x2.rank, vI x2.came] 105 :: Fz F W :: cs)) (by first | rfl | rw [hl201]) (fun w_ hM => by first | exact hM | (rw [hl201] at hM; exact hM)) ?_
        refine oR [] [(101, .agg #[vI x104.v, vI x104.rank, vI x104.came]), (87, vI i85), (86, .slice (some ⟨g10, 0, none⟩) l122.length c_q_0), (0, vP b_q 0), (6, vI (IntKind.i64.wrap ((q_0.length : Int) - 1))), (7, vP b12 0), (9, vI i85)] [101, 87, 86, 0, 6, 7, 9] (by kernel_rfl) ?_
        obtain ⟨m206, hm207, hx208⟩ := idx_some hv134
        have hl211 := (List.getElem?_eq_some_iff.1 hx208).1
        obtain ⟨vs209, hr210, hq212⟩ := h204.at_ m206 x133 hx208
        obtain rfl := dec_queue_item_int hr210
        refine ops_val (op := (Go.Op.indexAddr 96 (Go.Operand.tmp 86) (Go.Operand.tmp 87))) (d := some 103) (v := vP g10 (m206 * 3)) ⟨by kernel_rfl⟩ (run_indexRow Try.underlying96 (z := 3) (by kernel_rfl) rfl rfl hm207 hl211 rfl) ?_
        refine oR [] [(103, vP g10 (m206 * 3)), (101, .agg #[vI x104.v, vI x104.rank, vI x104.came]), (0, vP b_q 0), (6, vI (IntKind.i64.wrap ((q_0.length : Int) - 1))), (7, vP b12 0), (9, vI i85)] [103, 101, 0, 6, 7, 9] (by kernel_rfl) ?_
        obtain ⟨m213, hm214, hl215, he216⟩ := upd_some hv143
        obtain rfl : m206 = m213 := by have := hm207; omega
        have hl217 : l122.length = l142.length := by rw [he216, List.length_set]
        obtain ⟨y218, hy219⟩ : ∃ y_, setAll y202 (m206 * 3 + 0) [vI x104.v, vI x104.rank, vI x104.came] = y_ := ⟨_, rfl⟩
        have h220 : RepL R_queue_item_int F W l142 y218 := by rw [he216, ← hy219]; exact RepL.set h204 (List.getElem?_eq_getElem hl215) (fun vs_ hr_ _ => by obtain rfl := dec_queue_item_int hr_; exact ⟨(enc_queue_item_int), Nat.le_of_ble_eq_true rfl⟩)
        refine ops_store (an := []) (evs := [.store ⟨g10, m206 * 3, none⟩ (vI x104.v), .store ⟨g10, m206 * 3 + 1, none⟩ (vI x104.rank), .store ⟨g10, m206 * 3 + 2, none⟩ (vI x104.came)]) (M' := Mem w0 (.blk b_q [.slice (some ⟨g10, 0, none⟩) l122.length c_q_0, vI q_1] 98 :: orow (some ⟨g10, 0, none⟩) l142.length c_q_0 105 3 y218 :: .blk b12 [vI x2.v, vI x2.rank, vI x2.came] 105 :: Fz F W :: cs)) ⟨by kernel_rfl⟩ (fun w_ hM hS => let ⟨w', he, h'⟩ := hM.ostore' 1 rfl (m206 * 3 + 0) [vI x104.v, vI x104.rank, vI x104.came] (by have z_ : y202.length = l122.length * 3 := h204.len; have y_ : (m206 + 1) * 3 ≤ l122.length * 3 := Nat.mul_le_mul_right _ hl215; rw [Nat.add_mul] at y_; simp only [List.length_cons, List.length_nil]; omega) hl217 hy219; ⟨w', he, h', (by first | (refine h'.sub ?_; simp; done) | ((try simp only [← hl217] at h'); (try simp only [← hl201] at h'); (try simp only [← hl185] at h'); (try simp only [← hl169] at h'); (try simp only [← hl148] at h'); (try simp only [← hl128] at h'); exact h'.sub (by simp)))⟩) ?_
        refine ops_conv (l' := [(103, vP g10 (m206 * 3)), (101, .agg #[vI x104.v, vI x104.rank, vI x104.came]), (0, vP b_q 0), (6, vI (IntKind.i64.wrap ((q_0.length : Int) - 1))), (7, vP b12 0), (9, vI i85)]) (M' := Mem w0 (.blk b_q [.slice (some ⟨g10, 0, none⟩) l142.length c_q_0, vI q_1] 98 :: orow (some ⟨g10, 0, none⟩) l142.length c_q_0 105 3 y218 :: .blk b12 [vI x2.v, vI x2.rank, vI x2.came] 105 :: Fz F W :: cs)) (by first | rfl | rw [hl217]) (fun w_ hM => by first | exact hM | (rw [hl217] at hM; exact hM)) ?_
        refine oR [] [(0, vP b_q 0), (6, vI (IntKind.i64.wrap ((q_0.length : Int) - 1))), (7, vP b12 0), (9, vI i85)] [0, 6, 7, 9] (by kernel_rfl) ?_
        refine ops_nil ?_
        exact fin_join HJ4 (l142, y218) ⟨hp, h220⟩ (look_has ⟨rfl, rfl, rfl, rfl, trivial⟩) (fun w_ hM => hM)
   · --
    intro HJ3
    refine st_seq ?_
    refine st_seq ?_
    refine st_region [oF 0, oF 1, oF 2, oF 3, oF 4, oF 5, oF 6, oF 7, oF 8, oF 9, oF 10] (by rfl) ?_
    refine oR [oF 0, oF 1, oF 2, oF 3, oF 4] [(60, .bool (decide (IntKind.i64.wrap (IntKind.i64.wrap (IntKind.i64.wrap (2 * i82) + 1) + 1) < IntKind.i64.wrap ((q_0.length : Int) - 1)))), (9, vI (IntKind.i64.wrap (IntKind.i64.wrap (2 * i82) + 1))), (0, vP b_q 0), (6, vI (IntKind.i64.wrap ((q_0.length : Int) - 1))), (7, vP b12 0), (8, vI i82)] [60, 9, 0, 6, 7, 8] (by kernel_rfl) ?_
    refine ops_bool (t := decide (IntKind.i64.wrap (IntKind.i64.wrap (IntKind.i64.wrap (2 * i82) + 1) + 1) < IntKind.i64.wrap ((q_0.length : Int) - 1))) (l1 := [(60, .bool true), (9, vI (IntKind.i64.wrap (IntKind.i64.wrap (2 * i82) + 1))), (0, vP b_q 0), (6, vI (IntKind.i64.wrap ((q_0.length : Int) - 1))), (7, vP b12 0), (8, vI i82)]) (l2 := [(60, .bool false), (9, vI (IntKind.i64.wrap (IntKind.i64.wrap (2 * i82) + 1))), (0, vP b_q 0), (6, vI (IntKind.i64.wrap ((q_0.length : Int) - 1))), (7, vP b12 0), (8, vI i82)]) (fun h => by rw [h]) (fun h => by rw [h]) (fun hc222 => ?_) (fun hc222 => ?_)
    · --
     have hp := cnd_t hc222 hp
     refine oR [oF 5, oF 6, oF 7, oF 8] [(64, vI (IntKind.i64.wrap (IntKind.i64.wrap (2 * i82) + 1))), (63, vI (IntKind.i64.wrap (IntKind.i64.wrap (IntKind.i64.wrap (2 * i82) + 1) + 1))), (61, vP b_q 0), (60, .bool true), (9, vI (IntKind.i64.wrap (IntKind.i64.wrap (2 * i82) + 1))), (0, vP b_q 0), (6, vI (IntKind.i64.wrap ((q_0.length : Int) - 1))), (7, vP b12 0), (8, vI i82)] [64, 63, 61, 60, 9, 0, 6, 7, 8] (by kernel_rfl) ?_
     obtain ⟨x223, hv224, hp⟩ := obind hp
     refine ops_conv (l' := [(64, vI (IntKind.i64.wrap (IntKind.i64.wrap (2 * i82) + 1))), (63, vI x223), (61, vP b_q 0), (60, .bool true), (9, vI (IntKind.i64.wrap (IntKind.i64.wrap (2 * i82) + 1))), (0, vP b_q 0), (6, vI (IntKind.i64.wrap ((q_0.length : Int) - 1))), (7, vP b12 0), (8, vI i82)]) (by rw [← Option.some.inj hv224]) (fun _ h => h) ?_
     obtain ⟨x225, hv226, hp⟩ := obind hp
     refine ops_callI (σ := (List Value)) (d := some 65) (f := 77) (args := #[vP b_q 0, vI x223, vI (IntKind.i64.wrap (IntKind.i64.wrap (2 * i82) + 1))]) (v := (fun x_ => match x_ with | y227 => .bool x225)) (I := (fun x_ => match x_ with | y227 => (RepL R_queue_item_int F W l79 y227))) (M' := (fun x_ => match x_ with | y227 => Mem w0 (.blk b_q [.slice (some ⟨g10, 0, none⟩) l79.length c_q_0, vI q_1] 98 :: orow (some ⟨g10, 0, none⟩) l79.length c_q_0 105 3 y227 :: .blk b12 [vI x2.v, vI x2.rank, vI x2.came] 105 :: Fz F W :: cs))) ⟨by kernel_rfl⟩ (fun w_ hM hS => (queue_Queue_int_before_ok w0 w_ (.blk b12 [vI x2.v, vI x2.rank, vI x2.came] 105 :: cs) F W b_q (some ⟨g10, 0, none⟩) c_q_0 l79 y80 q_1 x223 (IntKind.i64.wrap (IntKind.i64.wrap (2 * i82) + 1)) (hM.pick 4 [0, 1, 3, 2] (by kernel_rfl) (by decide) rfl) h81 x225 hv226).mono (by rintro e w' ⟨y227, h228, rfl, h'⟩; have h' : Mem w0 (.blk b_q [.slice (some ⟨g10, 0, none⟩) l79.length c_q_0, vI q_1] 98 :: orow (some ⟨g10, 0, none⟩) l79.length c_q_0 105 3 y227 :: .blk b12 [vI x2.v, vI x2.rank, vI x2.came] 105 :: Fz F W :: cs) w' := (h'.pick 4 [0, 1, 3, 2] (by kernel_rfl) (by decide) rfl); exact ⟨y227, h228, rfl, h', trivial⟩)) ?_
     rintro y227 h228
     refine ops_conv (l' := [(65, .bool x225), (64, vI (IntKind.i64.wrap (IntKind.i64.wrap (2 * i82) + 1))), (63, vI x223), (61, vP b_q 0), (60, .bool true), (9, vI (IntKind.i64.wrap (IntKind.i64.wrap (2 * i82) + 1))), (0, vP b_q 0), (6, vI (IntKind.i64.wrap ((q_0.length : Int) - 1))), (7, vP b12 0), (8, vI i82)]) (M' := Mem w0 (.blk b_q [.slice (some ⟨g10, 0, none⟩) l79.length c_q_0, vI q_1] 98 :: orow (some ⟨g10, 0, none⟩) l79.length c_q_0 105 3 y227 :: .blk b12 [vI x2.v, vI x2.rank, vI x2.came] 105 :: Fz F W :: cs)) rfl (fun _ h => h) ?_
     refine oR [oF 10] [(66, .bool x225), (9, vI (IntKind.i64.wrap (IntKind.i64.wrap (2 * i82) + 1))), (0, vP b_q 0), (6, vI (IntKind.i64.wrap ((q_0.length : Int) - 1))), (7, vP b12 0), (8, vI i82)] [66, 9, 0, 6, 7, 8] (by kernel_rfl) ?_
     refine ops_nil ?_
     refine fin_then ?_
     refine st_if (b := x225) rfl (fun hc229 => ?_) (fun hc229 => ?_)
     · --
      have hp := cnd_t hc229 hp
      refine st_region [oF 0, oF 1, oF 2] (by rfl) ?_
      refine oR [oF 0, oF 1, oF 2] [(9, vI (IntKind.i64.wrap (IntKind.i64.wrap (IntKind.i64.wrap (2 * i82) + 1) + 1))), (0, vP b_q 0), (6, vI (IntKind.i64.wrap ((q_0.length : Int) - 1))), (7, vP b12 0), (8, vI i82)] [9, 0, 6, 7, 8] (by kernel_rfl) ?_
      obtain ⟨x230, hv231, hp⟩ := obind hp
      refine ops_conv (l' := [(9, vI x230), (0, vP b_q 0), (6, vI (IntKind.i64.wrap ((q_0.length : Int) - 1))), (7, vP b12 0), (8, vI i82)]) (by rw [← Option.some.inj hv231]) (fun _ h => h) ?_
      refine ops_nil ?_
      exact fin_join HJ3 (y227, x230) ⟨hp, h228⟩ (look_has ⟨rfl, rfl, rfl, rfl, rfl, trivial⟩) (fun w_ hM => hM)
     · --
      have hp := cnd_f hc229 hp
      refine st_skip ?_
      exact fin_join HJ3 (y227, IntKind.i64.wrap (IntKind.i64.wrap (2 * i82) + 1)) ⟨hp, h228⟩ (look_has ⟨rfl, rfl, rfl, rfl, rfl, trivial⟩) (fun w_ hM => hM)
    · --
     have hp := cnd_f hc222 hp
     refine oR [oF 5, oF 6, oF 7, oF 8, oF 9, oF 10] [(66, .bool false), (9, vI (IntKind.i64.wrap (IntKind.i64.wrap (2 * i82) + 1))), (0, vP b_q 0), (6, vI (IntKind.i64.wrap ((q_0.length : Int) - 1))), (7, vP b12 0), (8, vI i82)] [66, 9, 0, 6, 7, 8] (by kernel_rfl) ?_
     refine ops_nil ?_
     refine fin_then ?_
     refine st_false rfl ?_
     refine st_skip ?_
     exact fin_join HJ3 (y80, IntKind.i64.wrap (IntKind.i64.wrap (2 * i82) + 1)) ⟨hp, h81⟩ (look_has ⟨rfl, rfl, rfl, rfl, rfl, trivial⟩) (fun w_ hM => hM)
set_option maxHeartbeats 4000000 in
set_option maxRecDepth 100000 in
theorem queue_Sort_ok (w0 w : World) (cs : List Chunk) (F : Nat → Prop) (W : World) (A_ranks : Option Addr) (c_ranks : Nat) (ranks : List Int) (hM0 : Mem w0 (Fz F W :: cs) w) (h_ranks : RdS (Rep.int .i64) F W A_ranks c_ranks ranks) (l9003 : List Int) (i9006 : Int) (hp : queue_Sort ranks = some (l9003, i9006)) : Calls Try.prog 50 #[.slice A_ranks ranks.length c_ranks] w fun e w' => ∃ (A9001 : Option Addr), ∃ (c9002 : Nat), ∃ (y9004 : List Value), ((RepL (Rep.int .i64) F W l9003 y9004)) ∧ e = .returned (.tuple #[.slice A9001 l9003.length c9002, vI i9006]) ∧ Mem w0 (orow A9001 l9003.length c9002 3 1 y9004 :: Fz F W :: cs) w' := by
 unfold queue_Sort at hp
 refine sx_calls Try.func50 rfl (n := 37) (by kernel_rfl) (l := [(0, .slice A_ranks ranks.length c_ranks)]) rfl (by rfl) hM0 ?_
 refine st_seq ?_
 refine st_region [oF 0, oF 1] (by rfl) ?_
 refine oR [oF 0, oF 1] [(0, .slice A_ranks ranks.length c_ranks)] [0] (by kernel_rfl) ?_
 refine ops_nil ?_
 refine fin_then ?_
 refine st_seq ?_
 refine st_seq ?_
 refine st_region [oF 0, oF 1, oF 2] (by rfl) ?_
 refine oR [oF 0, oF 1, oF 2] [(13, .bool (decide (4096 < (ranks.length : Int)))), (0, .slice A_ranks ranks.length c_ranks)] [13, 0] (by kernel_rfl) ?_
 refine ops_nil ?_
 refine fin_then ?_
 refine st_if (b := decide (4096 < (ranks.length : Int))) rfl (fun hc1 => ?_) (fun hc1 => ?_)
 · --
  have hp := cnd_t hc1 hp
  refine st_seq ?_
  refine st_region [oF 0, oF 1] (by rfl) ?_
  refine oR [oF 0, oF 1] [(3, vI 2), (2, .slice none 0 0)] [3, 2] (by kernel_rfl) ?_
  refine ops_nil ?_
  refine fin_then ?_
  refine st_ret ?_
  refine fin_ret_then ?_
  refine fin_conv (l' := [(3, vI 2), (2, .slice none 0 0)]) (M' := Mem w0 (orow none ([] : List Int).length 0 3 1 [] :: Fz F W :: cs)) rfl (fun w_ h => h.onil none 3 1) ?_
  refine fin_conv (l' := [(3, vI 2), (2, .slice none ([] : List Int).length 0)]) (M' := Mem w0 (orow none ([] : List Int).length 0 3 1 [] :: Fz F W :: cs)) rfl (fun _ h => h) ?_
  have hq_ := Option.some.inj hp
  obtain ⟨hr0_, hq_⟩ := Prod.mk.inj hq_
  have hr1_ := hq_
  subst hr0_
  subst hr1_
  refine fin_ret [.tmp 2, .tmp 3] [.slice none ([] : List Int).length 0, vI 2] rfl rfl (fun w_ hM => (.tmp rfl (.tmp rfl .nil))) (fun w_ hM => ?_)
  exact ⟨none, 0, [], (RepL.nil (R := (Rep.int .i64))), rfl, hM⟩
 · --
  have hp := cnd_f hc1 hp
  refine st_skip ?_
  refine fin_then ?_
  refine st_seq ?_
  refine st_region [oF 0] (by rfl) ?_
  refine oR [] [(0, .slice A_ranks ranks.length c_ranks)] [0] (by kernel_rfl) ?_
  refine ops_new (d := some 4) (o := .cells #[.slice none 0 0, vI 0] 98) (v := fun b2 => vP b2 0) (M' := fun b2 => Mem w0 (.blk b2 [.slice none 0 0, vI 0] 98 :: Fz F W :: cs)) (fun b2 => ⟨by kernel_rfl⟩) (fun w_ hM hS => ⟨hM.blk [.slice none 0 0, vI 0] 98, trivial⟩) (fun b2 => ?_)
  refine ops_nil ?_
  refine fin_then ?_
  refine st_join1 (σ := (Option Addr) × Nat × (List queue_item_int) × (List Value) × Int) (L := fun x_ => match x_ with | (A3, c4, l5, y6, i8) => [(4, vP b2 0)]) (N := fun x_ => match x_ with | (A3, c4, l5, y6, i8) => Mem w0 (.blk b2 [.slice A3 l5.length c4, vI i8] 98 :: orow A3 l5.length c4 105 3 y6 :: Fz F W :: cs)) (I := fun x_ => match x_ with | (A3, c4, l5, y6, i8) => (queue_Sort_j1 l5 i8 = some (l9003, i9006)) ∧ (RepL R_queue_item_int F W l5 y6)) ?_ ?_
  · --
   rintro ⟨A3, c4, l5, y6, i8⟩ ⟨hp, h7⟩
   refine st_conv (l' := [(4, vP b2 0)]) (M' := Mem w0 (.blk b2 [.slice A3 l5.length c4, vI i8] 98 :: orow A3 l5.length c4 105 3 y6 :: Fz F W :: cs)) rfl (fun _ h => h) ?_
   unfold queue_Sort_j1 at hp
   refine st_seq ?_
   refine st_region [oF 0] (by rfl) ?_
   refine oR [oF 0] [(7, .slice none 0 0), (4, vP b2 0)] [7, 4] (by kernel_rfl) ?_
   refine ops_nil ?_
   refine fin_then ?_
   refine st_join1 (σ := (Option Addr) × Nat × (List Int) × (List Value)) (L := fun x_ => match x_ with | (A9, c10, l11, y12) => [(7, .slice A9 l11.length c10)]) (N := fun x_ => match x_ with | (A9, c10, l11, y12) => Mem w0 (orow A9 l11.length c10 3 1 y12 :: Fz F W :: cs)) (I := fun x_ => match x_ with | (A9, c10, l11, y12) => (queue_Sort_j2 l11 = some (l9003, i9006)) ∧ (RepL (Rep.int .i64) F W l11 y12)) ?_ ?_
   · --
    rintro ⟨A9, c10, l11, y12⟩ ⟨hp, h13⟩
    refine st_conv (l' := [(7, .slice A9 l11.length c10)]) (M' := Mem w0 (orow A9 l11.length c10 3 1 y12 :: Fz F W :: cs)) rfl (fun _ h => h) ?_
    unfold queue_Sort_j2 at hp
    refine st_seq ?_
    refine st_region [oF 0, oF 1, oF 2] (by rfl) ?_
    refine oR [oF 0, oF 1, oF 2] [(3, vI 0), (2, .slice A9 l11.length c10)] [3, 2] (by kernel_rfl) ?_
    refine ops_nil ?_
    refine fin_then ?_
    refine st_ret ?_
    have hq_ := Option.some.inj hp
    obtain ⟨hr0_, hq_⟩ := Prod.mk.inj hq_
    have hr1_ := hq_
    subst hr0_
    subst hr1_
    refine fin_ret [.tmp 2, .tmp 3] [.slice A9 l11.length c10, vI 0] rfl rfl (fun w_ hM => (.tmp rfl (.tmp rfl .nil))) (fun w_ hM => ?_)
    exact ⟨A9, c10, y12, h13, rfl, hM⟩
   · --
    intro HJ2
    refine st_seq ?_
    refine st_block ?_
    refine st_conv (l' := [(7, .slice none 0 0), (4, vP b2 0)]) (M' := Mem w0 (orow none ([] : List Int).length 0 3 1 [] :: .blk b2 [.slice A3 l5.length c4, vI i8] 98 :: orow A3 l5.length c4 105 3 y6 :: Fz F W :: cs)) rfl (fun w_ h => h.onil none 3 1) ?_
    refine st_conv (l' := [(7, .slice none ([] : List Int).length 0), (4, vP b2 0)]) (M' := Mem w0 (orow none ([] : List Int).length 0 3 1 [] :: .blk b2 [.slice A3 l5.length c4, vI i8] 98 :: orow A3 l5.length c4 105 3 y6 :: Fz F W :: cs)) rfl (fun _ h => h) ?_
    obtain ⟨r3, hl3, hk3⟩ := obind hp
    refine st_loopP (σ := (List queue_item_int) × (List Int)) (ρ := (List Int)) (γ := (List Value) × (Option Addr) × Nat × (List Value)) hl3 (y6, none, 0, []) (fun s_ g_ => match s_, g_ with | (l14, l19), (y15, A17, c18, y20) => [(4, vP b2 0), (7, .slice A17 l19.length c18)]) (fun s_ g_ => match s_, g_ with | (l14, l19), (y15, A17, c18, y20) => Mem w0 (.blk b2 [.slice A3 l14.length c4, vI i8] 98 :: orow A3 l14.length c4 105 3 y15 :: orow A17 l19.length c18 3 1 y20 :: Fz F W :: cs)) (fun s_ g_ => match s_, g_ with | (l14, l19), (y15, A17, c18, y20) => (RepL R_queue_item_int F W l14 y15) ∧ (RepL (Rep.int .i64) F W l19 y20)) ⟨h7, (RepL.nil (R := (Rep.int .i64)))⟩ (look_has ⟨rfl, rfl, trivial⟩) (fun w_ hM => hM.pick 4 [1, 2, 0, 3] (by kernel_rfl) (by decide) rfl) ?_
    rintro ⟨l14, l19⟩ ⟨y15, A17, c18, y20⟩ o3 ⟨h16, h21⟩ hs_ hd3
    have hp : (queue_Sort_l3 i8) l14 l19 = some o3 := hs_
    clear hs_
    unfold queue_Sort_l3 at hp
    refine st_conv (l' := [(4, vP b2 0), (7, .slice A17 l19.length c18)]) (M' := Mem w0 (.blk b2 [.slice A3 l14.length c4, vI i8] 98 :: orow A3 l14.length c4 105 3 y15 :: orow A17 l19.length c18 3 1 y20 :: Fz F W :: cs)) rfl (fun _ h => h) ?_
    refine st_seq ?_
    refine st_seq ?_
    refine st_region [oF 0, oF 1] (by rfl) ?_
    obtain ⟨x22, hv23, hp⟩ := obind hp
    refine ops_callI (σ := (List Value)) (d := some 25) (f := 72) (args := #[vP b2 0]) (v := (fun x_ => match x_ with | y24 => vI x22)) (I := (fun x_ => match x_ with | y24 => (RepL R_queue_item_int F W l14 y24))) (M' := (fun x_ => match x_ with | y24 => Mem w0 (.blk b2 [.slice A3 l14.length c4, vI i8] 98 :: orow A3 l14.length c4 105 3 y24 :: orow A17 l19.length c18 3 1 y20 :: Fz F W :: cs))) ⟨by kernel_rfl⟩ (fun w_ hM hS => (queue_Queue_int_Len_ok w0 w_ (orow A17 l19.length c18 3 1 y20 :: cs) F W b2 A3 c4 l14 y15 i8 (hM.pick 4 [0, 1, 3, 2] (by kernel_rfl) (by decide) rfl) h16 x22 hv23).mono (by rintro e w' ⟨y24, h25, rfl, h'⟩; have h' : Mem w0 (.blk b2 [.slice A3 l14.length c4, vI i8] 98 :: orow A3 l14.length c4 105 3 y24 :: orow A17 l19.length c18 3 1 y20 :: Fz F W :: cs) w' := (h'.pick 4 [0, 1, 3, 2] (by kernel_rfl) (by decide) rfl); exact ⟨y24, h25, rfl, h', trivial⟩)) ?_
    rintro y24 h25
    refine ops_conv (l' := [(25, vI x22), (4, vP b2 0), (7, .slice A17 l19.length c18)]) (M' := Mem w0 (.blk b2 [.slice A3 l14.length c4, vI i8] 98 :: orow A3 l14.length c4 105 3 y24 :: orow A17 l19.length c18 3 1 y20 :: Fz F W :: cs)) rfl (fun _ h => h) ?_
    refine oR [oF 1] [(26, .bool (decide (0 < x22))), (4, vP b2 0), (7, .slice A17 l19.length c18)] [26, 4, 7] (by kernel_rfl) ?_
    refine ops_nil ?_
    refine fin_then ?_
    refine st_if (b := decide (0 < x22)) rfl (fun hc26 => ?_) (fun hc26 => ?_)
    · --
     have hp := cnd_t hc26 hp
     refine st_skip ?_
     refine fin_then ?_
     refine st_block ?_
     refine st_seq ?_
     refine st_region [oF 0, oF 1, oF 2, oF 3, oF 4, oF 5, oF 6, oF 7] (by rfl) ?_
     refine oR [] [(4, vP b2 0), (7, .slice A17 l19.length c18)] [4, 7] (by kernel_rfl) ?_
     obtain ⟨x27, x28, x29, x30, hv31, hp⟩ := obind4 hp
     refine ops_callI (σ := (List Value)) (d := some 28) (f := 73) (args := #[vP b2 0]) (v := (fun x_ => match x_ with | y32 => .tuple #[vI x27, vI x28, vI x29])) (I := (fun x_ => match x_ with | y32 => (RepL R_queue_item_int F W x30 y32))) (M' := (fun x_ => match x_ with | y32 => Mem w0 (.blk b2 [.slice A3 x30.length c4, vI i8] 98 :: orow A3 x30.length c4 105 3 y32 :: orow A17 l19.length c18 3 1 y20 :: Fz F W :: cs))) ⟨by kernel_rfl⟩ (fun w_ hM hS => (queue_Queue_int_Take_ok w0 w_ (orow A17 l19.length c18 3 1 y20 :: cs) F W b2 A3 c4 l14 y24 i8 (hM.pick 4 [0, 1, 3, 2] (by kernel_rfl) (by decide) rfl) h25 x27 x28 x29 x30 hv31).mono (by rintro e w' ⟨y32, h33, rfl, h'⟩; have h' : Mem w0 (.blk b2 [.slice A3 x30.length c4, vI i8] 98 :: orow A3 x30.length c4 105 3 y32 :: orow A17 l19.length c18 3 1 y20 :: Fz F W :: cs) w' := (h'.pick 4 [0, 1, 3, 2] (by kernel_rfl) (by decide) rfl); exact ⟨y32, h33, rfl, h', trivial⟩)) ?_
     rintro y32 h33
     refine ops_conv (l' := [(28, .tuple #[vI x27, vI x28, vI x29]), (4, vP b2 0), (7, .slice A17 l19.length c18)]) (M' := Mem w0 (.blk b2 [.slice A3 x30.length c4, vI i8] 98 :: orow A3 x30.length c4 105 3 y32 :: orow A17 l19.length c18 3 1 y20 :: Fz F W :: cs)) rfl (fun _ h => h) ?_
     refine oR [oF 1, oF 2, oF 3, oF 4, oF 5, oF 6, oF 7] [(8, vI x27), (4, vP b2 0), (7, .slice A17 l19.length c18)] [8, 4, 7] (by kernel_rfl) ?_
     refine ops_nil ?_
     refine fin_then ?_
     refine st_region [oF 0, oF 1, oF 2, oF 3, oF 4] (by rfl) ?_
     refine oR [oF 0, oF 1] [(33, vI x27), (32, .slice A17 l19.length c18), (4, vP b2 0), (7, .slice A17 l19.length c18)] [33, 32, 4, 7] (by kernel_rfl) ?_
     have h34 : RepL (Rep.int .i64) F W ([x27] : List Int) ([vI x27]) := (RepL.cons (R := (Rep.int .i64)) (F := F) (w := W) (vs := [vI x27]) (ys := []) rfl RepL.nil)
     refine ops_new (d := some 34) (o := .cells ([vI x27]).toArray 3) (v := fun g35 => .slice (some ⟨g35, 0, none⟩) ([x27] : List Int).length 1) (M' := fun g35 => Mem w0 (orow (some ⟨g35, 0, none⟩) ([x27] : List Int).length 1 3 1 ([vI x27]) :: .blk b2 [.slice A3 x30.length c4, vI i8] 98 :: orow A3 x30.length c4 105 3 y32 :: orow A17 l19.length c18 3 1 y20 :: Fz F W :: cs)) (fun g35 => ⟨by kernel_rfl⟩) (fun w_ hM hS => ⟨hM.onew [vI x27] 3 1 1 rfl (by decide), trivial⟩) (fun g35 => ?_)
     refine oR [] [(34, .slice (some ⟨g35, 0, none⟩) ([x27] : List Int).length 1), (32, .slice A17 l19.length c18), (4, vP b2 0), (7, .slice A17 l19.length c18)] [34, 32, 4, 7] (by kernel_rfl) ?_
     obtain ⟨l36, hv37, hp⟩ := obind hp
     obtain ⟨he38, hb39⟩ := app_some hv37
     obtain ⟨y40, hy41⟩ : ∃ y_, y20 ++ ([vI x27]) = y_ := ⟨_, rfl⟩
     have h42 : RepL (Rep.int .i64) F W l36 y40 := by rw [he38, ← hy41]; exact RepL.app h21 h34
     refine ops_appendO (x := (Go.Operand.tmp 32)) (y := (Go.Operand.tmp 34)) (t := 32) (e := 3) (d := some 35) (n' := l36.length) (z := 1) (m := ([x27] : List Int).length) (bytes := 8) (xs' := y40) (news := ([vI x27])) (zv := vI 0) 3 ⟨by kernel_rfl⟩ rfl rfl Try.underlying32 (by kernel_rfl) (by rfl) rfl (fun w_ hM => hM.srcO 0 rfl) h34.len h34.one hb39 (by have z_ := congrArg List.length he38; rw [List.length_append] at z_; exact z_.symm) hy41 (fun _ _ _ _ hS h' => trivial) ?_
     rintro ⟨A43, c44⟩
     refine ops_conv (l' := [(35, .slice A43 l36.length c44), (34, .slice (some ⟨g35, 0, none⟩) ([x27] : List Int).length 1), (32, .slice A17 l19.length c18), (4, vP b2 0), (7, .slice A17 l19.length c18)]) (M' := Mem w0 (orow (some ⟨g35, 0, none⟩) ([x27] : List Int).length 1 3 1 ([vI x27]) :: .blk b2 [.slice A3 x30.length c4, vI i8] 98 :: orow A3 x30.length c4 105 3 y32 :: orow A43 l36.length c44 3 1 y40 :: Fz F W :: cs)) rfl (fun _ h => h) ?_
     refine oR [oF 4] [(7, .slice A43 l36.length c44), (4, vP b2 0)] [7, 4] (by kernel_rfl) ?_
     refine ops_nil ?_
     refine fin_block ?_
     exact fin_again (x30, l36) (y32, A43, c44, y40) (Option.some.inj hp).symm ⟨h33, h42⟩ (look_has ⟨rfl, rfl, trivial⟩) (fun w_ hM => hM.pick 5 [1, 2, 3, 4] (by kernel_rfl) (by decide) rfl)
    · --
     have hp := cnd_f hc26 hp
     refine st_exit ?_
     refine fin_exit_then ?_
     refine fin_exit_then ?_
     refine fin_exit ?_
     obtain hq_ := Option.some.inj hp
     subst hq_
     obtain hq_ := hd3 _ rfl
     subst hq_
     have hp : queue_Sort_j2 l19 = some (l9003, i9006) := hk3
     exact fin_join HJ2 (A17, c18, l19, y20) ⟨hp, h21⟩ (look_has ⟨rfl, trivial⟩) (fun w_ hM => hM.pick 4 [2, 3] (by kernel_rfl) (by decide) rfl)
  · --
   intro HJ1
   refine st_seq ?_
   refine st_seq ?_
   refine st_region [oF 0, oF 1, oF 2] (by rfl) ?_
   refine oR [oF 0, oF 1, oF 2] [(16, vI 0), (15, vI (ranks.length : Int)), (14, .slice A_ranks ranks.length c_ranks), (4, vP b2 0)] [16, 15, 14, 4] (by kernel_rfl) ?_
   refine ops_nil ?_
   refine fin_then ?_
   refine st_block ?_
   refine st_conv (l' := [(16, vI 0), (15, vI (ranks.length : Int)), (14, .slice A_ranks ranks.length c_ranks), (4, vP b2 0)]) (M' := Mem w0 (orow none ([] : List queue_item_int).length 0 105 3 [] :: .blk b2 [.slice none 0 0, vI 0] 98 :: Fz F W :: cs)) rfl (fun w_ h => h.onil none 105 3) ?_
   refine st_conv (l' := [(16, vI 0), (15, vI (ranks.length : Int)), (14, .slice A_ranks ranks.length c_ranks), (4, vP b2 0)]) (M' := Mem w0 (orow none ([] : List queue_item_int).length 0 105 3 [] :: .blk b2 [.slice none ([] : List queue_item_int).length 0, vI 0] 98 :: Fz F W :: cs)) rfl (fun _ h => h) ?_
   obtain ⟨r4, hl4, hk4⟩ := obind hp
   refine st_loopP (σ := (List queue_item_int) × Int × Int) (ρ := (List queue_item_int) × Int) (γ := (Option Addr) × Nat × (List Value)) hl4 (none, 0, []) (fun s_ g_ => match s_, g_ with | (l51, i54, i55), (A49, c50, y52) => [(4, vP b2 0), (14, .slice A_ranks ranks.length c_ranks), (15, vI (ranks.length : Int)), (16, vI i55)]) (fun s_ g_ => match s_, g_ with | (l51, i54, i55), (A49, c50, y52) => Mem w0 (.blk b2 [.slice A49 l51.length c50, vI i54] 98 :: orow A49 l51.length c50 105 3 y52 :: Fz F W :: cs)) (fun s_ g_ => match s_, g_ with | (l51, i54, i55), (A49, c50, y52) => (RepL R_queue_item_int F W l51 y52)) (RepL.nil (R := R_queue_item_int)) (look_has ⟨rfl, rfl, rfl, rfl, trivial⟩) (fun w_ hM => hM.pick 3 [1, 0, 2] (by kernel_rfl) (by decide) rfl) ?_
   rintro ⟨l51, i54, i55⟩ ⟨A49, c50, y52⟩ o4 h53 hs_ hd4
   have hp : (queue_Sort_l4 ranks) l51 i54 i55 = some o4 := hs_
   clear hs_
   unfold queue_Sort_l4 at hp
   refine st_conv (l' := [(4, vP b2 0), (14, .slice A_ranks ranks.length c_ranks), (15, vI (ranks.length : Int)), (16, vI i55)]) (M' := Mem w0 (.blk b2 [.slice A49 l51.length c50, vI i54] 98 :: orow A49 l51.length c50 105 3 y52 :: Fz F W :: cs)) rfl (fun _ h => h) ?_
   refine st_seq ?_
   refine st_region [oF 0] (by rfl) ?_
   refine oR [oF 0] [(17, .bool (decide (i55 < (ranks.length : Int)))), (4, vP b2 0), (14, .slice A_ranks ranks.length c_ranks), (15, vI (ranks.length : Int)), (16, vI i55)] [17, 4, 14, 15, 16] (by kernel_rfl) ?_
   refine ops_nil ?_
   refine fin_then ?_
   refine st_seq ?_
   refine st_if (b := decide (i55 < (ranks.length : Int))) rfl (fun hc56 => ?_) (fun hc56 => ?_)
   · --
    have hp := cnd_t hc56 hp
    refine st_skip ?_
    refine fin_then ?_
    refine st_seq ?_
    refine st_block ?_
    refine st_seq ?_
    refine st_region [oF 0, oF 1, oF 2, oF 3, oF 4] (by rfl) ?_
    refine oR [oF 0] [(18, vI i55), (4, vP b2 0), (14, .slice A_ranks ranks.length c_ranks), (15, vI (ranks.length : Int)), (16, vI i55)] [18, 4, 14, 15, 16] (by kernel_rfl) ?_
    obtain ⟨x57, hv58, hp⟩ := obind hp
    obtain ⟨m59, hm60, hx61⟩ := idx_some hv58
    have hl64 := (List.getElem?_eq_some_iff.1 hx61).1
    obtain ⟨ad65, vs62, hA66, hr63, hq67⟩ := RdS.el h_ranks hx61
    obtain rfl := hr63
    refine ops_val (op := (Go.Op.indexAddr 32 (Go.Operand.tmp 14) (Go.Operand.tmp 16))) (d := some 19) (v := .pointer (some (ad65.add (m59 * 1)))) ⟨by kernel_rfl⟩ (run_indexA hA66 Try.underlying32 (z := 1) (by kernel_rfl) rfl rfl hm60 hl64) ?_
    refine ops_mem (d := some 20) (an := [.v (vI x57)]) (evs := [.load (ad65.add (m59 * 1)) (vI x57)]) (v := vI x57) (M' := Mem w0 (.blk b2 [.slice A49 l51.length c50, vI i54] 98 :: orow A49 l51.length c50 105 3 y52 :: Fz F W :: cs)) ⟨by kernel_rfl⟩ (fun w_ hM hS => ⟨w_, ⟨hM.elcell 2 rfl hq67 0 rfl, rfl⟩, hM, trivial⟩) ?_
    refine oR [oF 3, oF 4] [(6, vI x57), (5, vI i55), (4, vP b2 0), (14, .slice A_ranks ranks.length c_ranks), (15, vI (ranks.length : Int)), (16, vI i55)] [6, 5, 4, 14, 15, 16] (by kernel_rfl) ?_
    refine ops_nil ?_
    refine fin_then ?_
    refine st_region [oF 0, oF 1, oF 2] (by rfl) ?_
    refine oR [oF 0, oF 1] [(22, vI x57), (21, vI i55), (4, vP b2 0), (14, .slice A_ranks ranks.length c_ranks), (15, vI (ranks.length : Int)), (16, vI i55)] [22, 21, 4, 14, 15, 16] (by kernel_rfl) ?_
    obtain ⟨x68, x69, x70, hv71, hp⟩ := obind3 hp
    refine ops_callI (σ := (Option Addr) × Nat × (List Value)) (d := some 23) (f := 71) (args := #[vP b2 0, vI i55, vI x57]) (v := (fun x_ => match x_ with | (A72, c73, y74) => vI x68)) (I := (fun x_ => match x_ with | (A72, c73, y74) => (RepL R_queue_item_int F W x69 y74))) (M' := (fun x_ => match x_ with | (A72, c73, y74) => Mem w0 (orow A72 x69.length c73 105 3 y74 :: .blk b2 [.slice A72 x69.length c73, vI x70] 98 :: Fz F W :: cs))) ⟨by kernel_rfl⟩ (fun w_ hM hS => (queue_Queue_int_Put_ok w0 w_ (cs) F W b2 A49 c50 l51 y52 i54 i55 x57 hM h53 x68 x69 x70 hv71).mono (by rintro e w' ⟨A72, c73, y74, h75, rfl, h'⟩; have h' : Mem w0 (orow A72 x69.length c73 105 3 y74 :: .blk b2 [.slice A72 x69.length c73, vI x70] 98 :: Fz F W :: cs) w' := (h'.pick 3 [1, 0, 2] (by kernel_rfl) (by decide) rfl); exact ⟨(A72, c73, y74), h75, rfl, h', trivial⟩)) ?_
    rintro ⟨A72, c73, y74⟩ h75
    refine ops_conv (l' := [(23, vI x68), (22, vI x57), (21, vI i55), (4, vP b2 0), (14, .slice A_ranks ranks.length c_ranks), (15, vI (ranks.length : Int)), (16, vI i55)]) (M' := Mem w0 (orow A72 x69.length c73 105 3 y74 :: .blk b2 [.slice A72 x69.length c73, vI x70] 98 :: Fz F W :: cs)) rfl (fun _ h => h) ?_
    refine oR [] [(4, vP b2 0), (14, .slice A_ranks ranks.length c_ranks), (15, vI (ranks.length : Int)), (16, vI i55)] [4, 14, 15, 16] (by kernel_rfl) ?_
    refine ops_nil ?_
    refine fin_block ?_
    refine fin_then ?_
    refine st_region [oF 0, oF 1] (by rfl) ?_
    refine oR [oF 0, oF 1] [(16, vI (IntKind.i64.wrap (i55 + 1))), (4, vP b2 0), (14, .slice A_ranks ranks.length c_ranks), (15, vI (ranks.length : Int))] [16, 4, 14, 15] (by kernel_rfl) ?_
    refine ops_nil ?_
    exact fin_again (x69, x70, IntKind.i64.wrap (i55 + 1)) (A72, c73, y74) (Option.some.inj hp).symm h75 (look_has ⟨rfl, rfl, rfl, rfl, trivial⟩) (fun w_ hM => hM.pick 3 [1, 0, 2] (by kernel_rfl) (by decide) rfl)
   · --
    have hp := cnd_f hc56 hp
    refine st_exit ?_
    refine fin_exit_then ?_
    refine fin_exit_then ?_
    refine fin_exit ?_
    obtain hq_ := Option.some.inj hp
    subst hq_
    obtain hq_ := hd4 _ rfl
    subst hq_
    have hp : queue_Sort_j1 l51 i54 = some (l9003, i9006) := hk4
    exact fin_join HJ1 (A49, c50, l51, y52, i54) ⟨hp, h53⟩ (look_has ⟨rfl, trivial⟩) (fun w_ hM => hM)
set_option maxHeartbeats 4000000 in
set_option maxRecDepth 100000 in
theorem slices_Equal_int_int_ok (w0 w : World) (cs : List Chunk) (F : Nat → Prop) (W : World) (A_s1 : Option Addr) (c_s1 : Nat) (s1_1 : List Int) (A_s2 : Option Addr) (c_s2 : Nat) (s2_1 : List Int) (hM0 : Mem w0 (Fz F W :: cs) w) (h_s1 : RdS (Rep.int .i64) F W A_s1 c_s1 s1_1) (h_s2 : RdS (Rep.int .i64) F W A_s2 c_s2 s2_1) (t9001 : Bool) (hp : slices_Equal_int_int s1_1 s2_1 = some t9001) : Calls Try.prog 14 #[.slice A_s1 s1_1.length c_s1, .slice A_s2 s2_1.length c_s2] w fun e w' => (True) ∧ e = .returned (.bool t9001) ∧ Mem w0 (Fz F W :: cs) w' := by
 unfold slices_Equal_int_int at hp
 refine sx_calls Try.func14 rfl (n := 26) (by kernel_rfl) (l := [(0, .slice A_s1 s1_1.length c_s1), (1, .slice A_s2 s2_1.length c_s2)]) rfl (by rfl) hM0 ?_
 refine st_seq ?_
 refine st_region [oF 0] (by rfl) ?_
 refine oR [oF 0] [(0, .slice A_s1 s1_1.length c_s1), (1, .slice A_s2 s2_1.length c_s2)] [0, 1] (by kernel_rfl) ?_
 refine ops_nil ?_
 refine fin_then ?_
 refine st_seq ?_
 refine st_seq ?_
 refine st_region [oF 0, oF 1, oF 2, oF 3, oF 4] (by rfl) ?_
 refine oR [oF 0, oF 1, oF 2, oF 3, oF 4] [(10, .bool (!((s1_1.length : Int) == (s2_1.length : Int)))), (0, .slice A_s1 s1_1.length c_s1), (1, .slice A_s2 s2_1.length c_s2)] [10, 0, 1] (by kernel_rfl) ?_
 refine ops_nil ?_
 refine fin_then ?_
 refine st_if (b := !((s1_1.length : Int) == (s2_1.length : Int))) rfl (fun hc1 => ?_) (fun hc1 => ?_)
 · --
  have hp := cnd_t hc1 hp
  refine st_seq ?_
  refine st_region [oF 0] (by rfl) ?_
  refine oR [oF 0] [(4, .bool false)] [4] (by kernel_rfl) ?_
  refine ops_nil ?_
  refine fin_then ?_
  refine st_ret ?_
  refine fin_ret_then ?_
  have hq_ := Option.some.inj hp
  have hr0_ := hq_
  subst hr0_
  refine fin_ret [.tmp 4] [.bool false] rfl rfl (fun w_ hM => (.tmp rfl .nil)) (fun w_ hM => ?_)
  exact ⟨trivial, rfl, hM⟩
 · --
  have hp := cnd_f hc1 hp
  refine st_skip ?_
  refine fin_then ?_
  refine st_join1 (σ := Unit) (L := fun _ => []) (N := fun _ => Mem w0 (Fz F W :: cs)) (I := fun _ => (slices_Equal_int_int_j1 = some t9001)) ?_ ?_
  · --
   rintro _ hp
   refine st_conv (l' := []) (M' := Mem w0 (Fz F W :: cs)) rfl (fun _ h => h) ?_
   unfold slices_Equal_int_int_j1 at hp
   refine st_seq ?_
   refine st_region [oF 0] (by rfl) ?_
   refine oR [oF 0] [(4, .bool true)] [4] (by kernel_rfl) ?_
   refine ops_nil ?_
   refine fin_then ?_
   refine st_ret ?_
   have hq_ := Option.some.inj hp
   have hr0_ := hq_
   subst hr0_
   refine fin_ret [.tmp 4] [.bool true] rfl rfl (fun w_ hM => (.tmp rfl .nil)) (fun w_ hM => ?_)
   exact ⟨trivial, rfl, hM⟩
  · --
   intro HJ1
   refine st_seq ?_
   refine st_seq ?_
   refine st_region [oF 0, oF 1, oF 2] (by rfl) ?_
   refine oR [oF 0, oF 1, oF 2] [(13, vI 0), (12, vI (s1_1.length : Int)), (0, .slice A_s1 s1_1.length c_s1), (1, .slice A_s2 s2_1.length c_s2)] [13, 12, 0, 1] (by kernel_rfl) ?_
   refine ops_nil ?_
   refine fin_then ?_
   refine st_block ?_
   obtain ⟨r2, hl2, hk2⟩ := obind hp
   refine st_loopP (σ := Int) (ρ := (Bool ⊕ Unit)) (γ := Unit) hl2 () (fun s_ g_ => match s_, g_ with | i2, _ => [(0, .slice A_s1 s1_1.length c_s1), (1, .slice A_s2 s2_1.length c_s2), (12, vI (s1_1.length : Int)), (13, vI i2)]) (fun s_ g_ => match s_, g_ with | i2, _ => Mem w0 (Fz F W :: cs)) (fun s_ g_ => match s_, g_ with | i2, _ => True) trivial (look_has ⟨rfl, rfl, rfl, rfl, trivial⟩) (fun w_ hM => hM) ?_
   rintro i2 _ o2 - hs_ hd2
   have hp : (slices_Equal_int_int_l2 s1_1 s2_1) i2 = some o2 := hs_
   clear hs_
   unfold slices_Equal_int_int_l2 at hp
   refine st_conv (l' := [(0, .slice A_s1 s1_1.length c_s1), (1, .slice A_s2 s2_1.length c_s2), (12, vI (s1_1.length : Int)), (13, vI i2)]) (M' := Mem w0 (Fz F W :: cs)) rfl (fun _ h => h) ?_
   refine st_seq ?_
   refine st_region [oF 0] (by rfl) ?_
   refine oR [oF 0] [(14, .bool (decide (i2 < (s1_1.length : Int)))), (0, .slice A_s1 s1_1.length c_s1), (1, .slice A_s2 s2_1.length c_s2), (12, vI (s1_1.length : Int)), (13, vI i2)] [14, 0, 1, 12, 13] (by kernel_rfl) ?_
   refine ops_nil ?_
   refine fin_then ?_
   refine st_seq ?_
   refine st_if (b := decide (i2 < (s1_1.length : Int))) rfl (fun hc3 => ?_) (fun hc3 => ?_)
   · --
    have hp := cnd_t hc3 hp
    refine st_skip ?_
    refine fin_then ?_
    refine st_seq ?_
    refine st_block ?_
    refine st_seq ?_
    refine st_region [oF 0, oF 1] (by rfl) ?_
    refine oR [oF 0, oF 1] [(5, vI i2), (0, .slice A_s1 s1_1.length c_s1), (1, .slice A_s2 s2_1.length c_s2), (12, vI (s1_1.length : Int)), (13, vI i2)] [5, 0, 1, 12, 13] (by kernel_rfl) ?_
    refine ops_nil ?_
    refine fin_then ?_
    refine st_seq ?_
    refine st_region_draw [oT 0, oT 1, oT 2, oT 3, oT 4, oT 5, oT 6, oT 7, oT 8] (Mem w0 (Fz F W :: cs)) (by kernel_rfl) (by kernel_rfl) (by kernel_rfl) (fun _ d _ _ _ h => by cases d <;> exact h) (M' := Mem w0 (Fz F W :: cs)) (fun w_ hM => ⟨hM.drew, hM.drew.sub (.cons_cons _ (.refl _))⟩) ?_
    refine oR [oT 0, oT 1] [(17, vI i2), (16, .slice A_s1 s1_1.length c_s1), (5, vI i2), (0, .slice A_s1 s1_1.length c_s1), (1, .slice A_s2 s2_1.length c_s2), (12, vI (s1_1.length : Int)), (13, vI i2)] [17, 16, 5, 0, 1, 12, 13] (by kernel_rfl) ?_
    obtain ⟨x4, hv5, hp⟩ := obind hp
    obtain ⟨m6, hm7, hx8⟩ := idx_some hv5
    have hl11 := (List.getElem?_eq_some_iff.1 hx8).1
    obtain ⟨ad12, vs9, hA13, hr10, hq14⟩ := RdS.el h_s1 hx8
    obtain rfl := hr10
    refine ops_val (op := (Go.Op.indexAddr 32 (Go.Operand.tmp 16) (Go.Operand.tmp 17))) (d := some 18) (v := .pointer (some (ad12.add (m6 * 1)))) ⟨by kernel_rfl⟩ (run_indexA hA13 Try.underlying32 (z := 1) (by kernel_rfl) rfl rfl hm7 hl11) ?_
    refine oR [] [(18, .pointer (some (ad12.add (m6 * 1)))), (5, vI i2), (0, .slice A_s1 s1_1.length c_s1), (1, .slice A_s2 s2_1.length c_s2), (12, vI (s1_1.length : Int)), (13, vI i2)] [18, 5, 0, 1, 12, 13] (by kernel_rfl) ?_
    refine ops_load (d := some 19) (an := [.v (vI x4)]) (evs := [.load (ad12.add (m6 * 1)) (vI x4)]) (v := vI x4) ⟨by kernel_rfl⟩ (fun w_ hM => ⟨hM.elcell 0 rfl hq14 0 rfl, rfl⟩) ?_
    refine oR [oT 4, oT 5] [(21, vI i2), (20, .slice A_s2 s2_1.length c_s2), (19, vI x4), (0, .slice A_s1 s1_1.length c_s1), (1, .slice A_s2 s2_1.length c_s2), (12, vI (s1_1.length : Int)), (13, vI i2)] [21, 20, 19, 0, 1, 12, 13] (by kernel_rfl) ?_
    obtain ⟨x15, hv16, hp⟩ := obind hp
    obtain ⟨m17, hm18, hx19⟩ := idx_some hv16
    have hl22 := (List.getElem?_eq_some_iff.1 hx19).1
    obtain ⟨ad23, vs20, hA24, hr21, hq25⟩ := RdS.el h_s2 hx19
    obtain rfl := hr21
    refine ops_val (op := (Go.Op.indexAddr 32 (Go.Operand.tmp 20) (Go.Operand.tmp 21))) (d := some 22) (v := .pointer (some (ad23.add (m17 * 1)))) ⟨by kernel_rfl⟩ (run_indexA hA24 Try.underlying32 (z := 1) (by kernel_rfl) rfl rfl hm18 hl22) ?_
    refine oR [] [(22, .pointer (some (ad23.add (m17 * 1)))), (19, vI x4), (0, .slice A_s1 s1_1.length c_s1), (1, .slice A_s2 s2_1.length c_s2), (12, vI (s1_1.length : Int)), (13, vI i2)] [22, 19, 0, 1, 12, 13] (by kernel_rfl) ?_
    refine ops_load (d := some 23) (an := [.v (vI x15)]) (evs := [.load (ad23.add (m17 * 1)) (vI x15)]) (v := vI x15) ⟨by kernel_rfl⟩ (fun w_ hM => ⟨hM.elcell 0 rfl hq25 0 rfl, rfl⟩) ?_
    refine oR [oT 8] [(24, .bool (!(x4 == x15))), (0, .slice A_s1 s1_1.length c_s1), (1, .slice A_s2 s2_1.length c_s2), (12, vI (s1_1.length : Int)), (13, vI i2)] [24, 0, 1, 12, 13] (by kernel_rfl) ?_
    refine ops_nil ?_
    refine fin_then ?_
    refine st_if (b := !(x4 == x15)) rfl (fun hc26 => ?_) (fun hc26 => ?_)
    · --
     have hp := cnd_t hc26 hp
     refine st_seq ?_
     refine st_region [oF 0] (by rfl) ?_
     refine oR [oF 0] [(4, .bool false)] [4] (by kernel_rfl) ?_
     refine ops_nil ?_
     refine fin_then ?_
     refine st_ret ?_
     refine fin_ret_block ?_
     refine fin_ret_then ?_
     refine fin_ret_then ?_
     refine fin_ret_block ?_
     refine fin_ret_then ?_
     obtain hq_ := Option.some.inj hp
     subst hq_
     obtain hq_ := hd2 _ rfl
     subst hq_
     have hp : some false = some t9001 := hk2
     have hq_ := Option.some.inj hp
     have hr0_ := hq_
     subst hr0_
     refine fin_ret [.tmp 4] [.bool false] rfl rfl (fun w_ hM => (.tmp rfl .nil)) (fun w_ hM => ?_)
     exact ⟨trivial, rfl, hM⟩
    · --
     have hp := cnd_f hc26 hp
     refine st_skip ?_
     refine fin_block ?_
     refine fin_then ?_
     refine st_region [oF 0, oF 1] (by rfl) ?_
     refine oR [oF 0, oF 1] [(13, vI (IntKind.i64.wrap (i2 + 1))), (0, .slice A_s1 s1_1.length c_s1), (1, .slice A_s2 s2_1.length c_s2), (12, vI (s1_1.length : Int))] [13, 0, 1, 12] (by kernel_rfl) ?_
     refine ops_nil ?_
     exact fin_again (IntKind.i64.wrap (i2 + 1)) () (Option.some.inj hp).symm trivial (look_has ⟨rfl, rfl, rfl, rfl, trivial⟩) (fun w_ hM => hM)
   · --
    have hp := cnd_f hc3 hp
    refine st_exit ?_
    refine fin_exit_then ?_
    refine fin_exit_then ?_
    refine fin_exit ?_
    obtain hq_ := Option.some.inj hp
    subst hq_
    obtain hq_ := hd2 _ rfl
    subst hq_
    have hp : slices_Equal_int_int_j1 = some t9001 := hk2
    exact fin_join HJ1 () hp (look_has trivial) (fun w_ hM => hM)
end Go.Proofs.Ytnognpmkhkkkeaa.X
