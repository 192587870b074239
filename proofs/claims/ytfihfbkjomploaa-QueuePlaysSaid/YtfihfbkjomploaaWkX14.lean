/- The Go functions come to what the plain functions tell. No condition. -/
import Derived.Test.YtfihfbkjomploaaProg
import Derived.Test.YtfihfbkjomploaaFnX
import Derived.Test.YtfihfbkjomploaaWkX13
namespace Go.Proofs.Ytfihfbkjomploaa.X
open Go Go.RowKit Go.Proofs.Ytfihfbkjomploaa.Sx
set_option linter.unusedVariables false
set_option maxHeartbeats 4000000 in
set_option maxRecDepth 100000 in
theorem queue_Queue_string_Take_ok (w0 w : World) (cs : List Chunk) (F : Nat → Prop) (W : World) (b_q : Nat) (A_q_0 : Option Addr) (c_q_0 : Nat) (q_0 : List queue_item_string) (y_q_0 : List Value) (q_1 : Int) (hM0 : Mem w0 (.blk b_q [.slice A_q_0 q_0.length c_q_0, vI q_1] 145 :: orow A_q_0 q_0.length c_q_0 170 3 y_q_0 :: Fz F W :: cs) w) (h_q_0 : RepL R_queue_item_string F W q_0 y_q_0) (u9001 : ByteArray) (i9002 : Int) (i9003 : Int) (l9005 : List queue_item_string) (hp : queue_Queue_string_Take q_0 q_1 = some (u9001, i9002, i9003, l9005)) : Calls Try.prog 113 #[vP b_q 0] w fun e w' => ∃ (A9004 : Option Addr), ∃ (y9006 : List Value), ((RepL R_queue_item_string F W l9005 y9006)) ∧ e = .returned (.tuple #[.string u9001, vI i9002, vI i9003]) ∧ Mem w0 (.blk b_q [.slice A9004 l9005.length c_q_0, vI q_1] 145 :: orow A9004 l9005.length c_q_0 170 3 y9006 :: Fz F W :: cs) w' := by
 unfold queue_Queue_string_Take at hp
 refine sx_calls Try.func113 rfl (n := 109) (by kernel_rfl) (l := [(0, vP b_q 0)]) rfl (by rfl) hM0 ?_
 refine st_seq ?_
 refine st_region [oF 0, oF 1, oF 2] (by rfl) ?_
 refine oR [oF 0, oF 1, oF 2] [(0, vP b_q 0)] [0] (by kernel_rfl) ?_
 refine ops_nil ?_
 refine fin_then ?_
 refine st_seq ?_
 refine st_region [oF 0] (by rfl) ?_
 refine oR [oF 0] [(5, .string (⟨#[]⟩)), (0, vP b_q 0)] [5, 0] (by kernel_rfl) ?_
 refine ops_nil ?_
 refine fin_then ?_
 refine st_seq ?_
 refine st_region [oF 0, oF 1, oF 2, oF 3, oF 4, oF 5, oF 6] (by rfl) ?_
 refine oR [oF 0, oF 1, oF 2] [(12, vP b_q 0), (5, .string (⟨#[]⟩)), (0, vP b_q 0)] [12, 5, 0] (by kernel_rfl) ?_
 refine ops_mem (d := some 13) (an := [.v (.slice A_q_0 q_0.length c_q_0)]) (evs := [.load ⟨b_q, 0, none⟩ (.slice A_q_0 q_0.length c_q_0)]) (v := .slice A_q_0 q_0.length c_q_0) (M' := Mem w0 (.blk b_q [.slice A_q_0 q_0.length c_q_0, vI q_1] 145 :: orow A_q_0 q_0.length c_q_0 170 3 y_q_0 :: Fz F W :: cs)) ⟨by kernel_rfl⟩ (fun w_ hM hS => ⟨w_, ⟨hM.cell 0 rfl rfl, rfl⟩, hM, trivial⟩) ?_
 refine oR [oF 4, oF 5, oF 6] [(6, vI (IntKind.i64.wrap ((q_0.length : Int) - 1))), (5, .string (⟨#[]⟩)), (0, vP b_q 0)] [6, 5, 0] (by kernel_rfl) ?_
 refine ops_nil ?_
 refine fin_then ?_
 refine st_seq ?_
 refine st_seq ?_
 refine st_region [oF 0, oF 1] (by rfl) ?_
 refine oR [oF 0, oF 1] [(17, .bool (decide (IntKind.i64.wrap ((q_0.length : Int) - 1) < 0))), (6, vI (IntKind.i64.wrap ((q_0.length : Int) - 1))), (5, .string (⟨#[]⟩)), (0, vP b_q 0)] [17, 6, 5, 0] (by kernel_rfl) ?_
 refine ops_nil ?_
 refine fin_then ?_
 refine st_if (b := decide (IntKind.i64.wrap ((q_0.length : Int) - 1) < 0)) rfl (fun hc1 => ?_) (fun hc1 => ?_)
 · --
  have hp := cnd_t hc1 hp
  refine st_seq ?_
  refine st_region [oF 0, oF 1, oF 2, oF 3] (by rfl) ?_
  refine oR [oF 0, oF 1, oF 2, oF 3] [(4, vI 4), (3, vI 0), (2, .string (⟨#[]⟩))] [4, 3, 2] (by kernel_rfl) ?_
  refine ops_nil ?_
  refine fin_then ?_
  refine st_ret ?_
  refine fin_ret_then ?_
  have hq_ := Option.some.inj hp
  obtain ⟨hr0_, hq_⟩ := Prod.mk.inj hq_
  obtain ⟨hr1_, hq_⟩ := Prod.mk.inj hq_
  obtain ⟨hr2_, hq_⟩ := Prod.mk.inj hq_
  have hr3_ := hq_
  subst hr0_
  subst hr1_
  subst hr2_
  subst hr3_
  refine fin_ret [.tmp 2, .tmp 3, .tmp 4] [.string (⟨#[]⟩), vI 0, vI 4] rfl rfl (fun w_ hM => (.tmp rfl (.tmp rfl (.tmp rfl .nil)))) (fun w_ hM => ?_)
  exact ⟨A_q_0, y_q_0, h_q_0, rfl, hM⟩
 · --
  have hp := cnd_f hc1 hp
  refine st_skip ?_
  refine fin_then ?_
  refine st_seq ?_
  refine st_region [oF 0, oF 1, oF 2, oF 3, oF 4, oF 5, oF 6, oF 7] (by rfl) ?_
  refine oR [oF 0, oF 1, oF 2] [(21, vP b_q 0), (6, vI (IntKind.i64.wrap ((q_0.length : Int) - 1))), (0, vP b_q 0)] [21, 6, 0] (by kernel_rfl) ?_
  refine ops_mem (d := some 22) (an := [.v (.slice A_q_0 q_0.length c_q_0)]) (evs := [.load ⟨b_q, 0, none⟩ (.slice A_q_0 q_0.length c_q_0)]) (v := .slice A_q_0 q_0.length c_q_0) (M' := Mem w0 (.blk b_q [.slice A_q_0 q_0.length c_q_0, vI q_1] 145 :: orow A_q_0 q_0.length c_q_0 170 3 y_q_0 :: Fz F W :: cs)) ⟨by kernel_rfl⟩ (fun w_ hM hS => ⟨w_, ⟨hM.cell 0 rfl rfl, rfl⟩, hM, trivial⟩) ?_
  refine oR [] [(22, .slice A_q_0 q_0.length c_q_0), (6, vI (IntKind.i64.wrap ((q_0.length : Int) - 1))), (0, vP b_q 0)] [22, 6, 0] (by kernel_rfl) ?_
  obtain ⟨x2, hv3, hp⟩ := obind hp
  obtain ⟨m4, hm5, hx6⟩ := idx_some hv3
  have hl9 := (List.getElem?_eq_some_iff.1 hx6).1
  refine ops_fact (fun w_ hM => hM.orowSome 1 rfl (Nat.lt_of_le_of_lt (Nat.zero_le _) hl9)) ?_
  rintro ⟨g10, rfl, -⟩
  obtain ⟨vs7, hr8, hq11⟩ := h_q_0.at_ m4 x2 hx6
  obtain rfl := dec_queue_item_string hr8
  refine ops_val (op := (Go.Op.indexAddr 143 (Go.Operand.tmp 22) (Go.Operand.const (Go.Value.int Go.IntKind.i64 0)))) (d := some 23) (v := vP g10 (m4 * 3)) ⟨by kernel_rfl⟩ (run_indexRow Try.underlying143 (z := 3) (by kernel_rfl) rfl rfl hm5 hl9 rfl) ?_
  refine oR [] [(23, vP g10 (m4 * 3)), (6, vI (IntKind.i64.wrap ((q_0.length : Int) - 1))), (0, vP b_q 0)] [23, 6, 0] (by kernel_rfl) ?_
  refine ops_mem (d := some 24) (an := [.v (.string x2.v), .v (vI x2.rank), .v (vI x2.came)]) (evs := [.load ⟨g10, m4 * 3, none⟩ (.string x2.v), .load ⟨g10, m4 * 3 + 1, none⟩ (vI x2.rank), .load ⟨g10, m4 * 3 + 2, none⟩ (vI x2.came)]) (v := .agg #[.string x2.v, vI x2.rank, vI x2.came]) (M' := Mem w0 (.blk b_q [.slice (some ⟨g10, 0, none⟩) q_0.length c_q_0, vI q_1] 145 :: orow (some ⟨g10, 0, none⟩) q_0.length c_q_0 170 3 y_q_0 :: Fz F W :: cs)) ⟨by kernel_rfl⟩ (fun w_ hM hS => ⟨w_, ⟨hM.ocell 1 rfl (hq11 0 _ rfl), hM.ocell 1 rfl (hq11 1 _ rfl), hM.ocell 1 rfl (hq11 2 _ rfl), rfl⟩, hM, trivial⟩) ?_
  refine oR [] [(24, .agg #[.string x2.v, vI x2.rank, vI x2.came]), (6, vI (IntKind.i64.wrap ((q_0.length : Int) - 1))), (0, vP b_q 0)] [24, 6, 0] (by kernel_rfl) ?_
  refine ops_new (d := some 7) (o := .cells #[.string ByteArray.empty, vI 0, vI 0] 170) (v := fun b12 => vP b12 0) (M' := fun b12 => Mem w0 (.blk b12 [.string ByteArray.empty, vI 0, vI 0] 170 :: .blk b_q [.slice (some ⟨g10, 0, none⟩) q_0.length c_q_0, vI q_1] 145 :: orow (some ⟨g10, 0, none⟩) q_0.length c_q_0 170 3 y_q_0 :: Fz F W :: cs)) (fun b12 => ⟨by kernel_rfl⟩) (fun w_ hM hS => ⟨hM.blk [.string ByteArray.empty, vI 0, vI 0] 170, trivial⟩) (fun b12 => ?_)
  refine ops_store (an := []) (evs := [.store ⟨b12, 0, none⟩ (.string x2.v), .store ⟨b12, 1, none⟩ (vI x2.rank), .store ⟨b12, 2, none⟩ (vI x2.came)]) (M' := Mem w0 (.blk b12 [.string x2.v, vI x2.rank, vI x2.came] 170 :: .blk b_q [.slice (some ⟨g10, 0, none⟩) q_0.length c_q_0, vI q_1] 145 :: orow (some ⟨g10, 0, none⟩) q_0.length c_q_0 170 3 y_q_0 :: Fz F W :: cs)) ⟨by kernel_rfl⟩ (fun w_ hM hS => let ⟨w', he, h'⟩ := hM.evs_stores [.string x2.v, vI x2.rank, vI x2.came] 0 rfl 0 (Nat.le_of_ble_eq_true rfl); ⟨w', he, h', trivial⟩) ?_
  refine oR [] [(7, vP b12 0), (6, vI (IntKind.i64.wrap ((q_0.length : Int) - 1))), (0, vP b_q 0)] [7, 6, 0] (by kernel_rfl) ?_
  refine ops_nil ?_
  refine fin_then ?_
  refine st_seq ?_
  refine st_region_draw [oT 0, oT 1, oT 2, oT 3, oT 4, oT 5, oT 6, oT 7, oT 8, oT 9, oF 10, oT 11, oF 12] (Mem w0 (.blk b12 [.string x2.v, vI x2.rank, vI x2.came] 170 :: .blk b_q [.slice (some ⟨g10, 0, none⟩) q_0.length c_q_0, vI q_1] 145 :: Fz F W :: cs)) (by kernel_rfl) (by kernel_rfl) (by kernel_rfl) (fun _ d _ _ _ h => by cases d <;> exact h) (M' := Mem w0 (.blk b12 [.string x2.v, vI x2.rank, vI x2.came] 170 :: .blk b_q [.slice (some ⟨g10, 0, none⟩) q_0.length c_q_0, vI q_1] 145 :: orow (some ⟨g10, 0, none⟩) q_0.length c_q_0 170 3 y_q_0 :: Fz F W :: cs)) (fun w_ hM => ⟨hM.drew, hM.drew.sub (.cons_cons _ (.cons_cons _ (.cons _ (.cons_cons _ (.refl _)))))⟩) ?_
  refine oR [oT 0, oT 1, oT 2] [(27, vP b_q 0), (7, vP b12 0), (6, vI (IntKind.i64.wrap ((q_0.length : Int) - 1))), (0, vP b_q 0)] [27, 7, 6, 0] (by kernel_rfl) ?_
  refine ops_load (d := some 28) (an := [.v (.slice (some ⟨g10, 0, none⟩) q_0.length c_q_0)]) (evs := [.load ⟨b_q, 0, none⟩ (.slice (some ⟨g10, 0, none⟩) q_0.length c_q_0)]) (v := .slice (some ⟨g10, 0, none⟩) q_0.length c_q_0) ⟨by kernel_rfl⟩ (fun w_ hM => ⟨hM.cell 1 rfl rfl, rfl⟩) ?_
  refine oR [oT 4, oT 5, oT 6] [(31, vP b_q 0), (28, .slice (some ⟨g10, 0, none⟩) q_0.length c_q_0), (7, vP b12 0), (6, vI (IntKind.i64.wrap ((q_0.length : Int) - 1))), (0, vP b_q 0)] [31, 28, 7, 6, 0] (by kernel_rfl) ?_
  refine ops_load (d := some 32) (an := [.v (.slice (some ⟨g10, 0, none⟩) q_0.length c_q_0)]) (evs := [.load ⟨b_q, 0, none⟩ (.slice (some ⟨g10, 0, none⟩) q_0.length c_q_0)]) (v := .slice (some ⟨g10, 0, none⟩) q_0.length c_q_0) ⟨by kernel_rfl⟩ (fun w_ hM => ⟨hM.cell 1 rfl rfl, rfl⟩) ?_
  refine oR [oT 8] [(33, vI (IntKind.i64.wrap ((q_0.length : Int) - 1))), (32, .slice (some ⟨g10, 0, none⟩) q_0.length c_q_0), (28, .slice (some ⟨g10, 0, none⟩) q_0.length c_q_0), (7, vP b12 0), (6, vI (IntKind.i64.wrap ((q_0.length : Int) - 1))), (0, vP b_q 0)] [33, 32, 28, 7, 6, 0] (by kernel_rfl) ?_
  obtain ⟨x13, hv14, hp⟩ := obind hp
  obtain ⟨m15, hm16, hx17⟩ := idx_some hv14
  have hl20 := (List.getElem?_eq_some_iff.1 hx17).1
  obtain ⟨vs18, hr19, hq21⟩ := h_q_0.at_ m15 x13 hx17
  obtain rfl := dec_queue_item_string hr19
  refine ops_val (op := (Go.Op.indexAddr 143 (Go.Operand.tmp 32) (Go.Operand.tmp 33))) (d := some 34) (v := vP g10 (m15 * 3)) ⟨by kernel_rfl⟩ (run_indexRow Try.underlying143 (z := 3) (by kernel_rfl) rfl rfl hm16 hl20 rfl) ?_
  refine oR [] [(34, vP g10 (m15 * 3)), (28, .slice (some ⟨g10, 0, none⟩) q_0.length c_q_0), (7, vP b12 0), (6, vI (IntKind.i64.wrap ((q_0.length : Int) - 1))), (0, vP b_q 0)] [34, 28, 7, 6, 0] (by kernel_rfl) ?_
  refine ops_mem (d := some 35) (an := [.v (.string x13.v), .v (vI x13.rank), .v (vI x13.came)]) (evs := [.load ⟨g10, m15 * 3, none⟩ (.string x13.v), .load ⟨g10, m15 * 3 + 1, none⟩ (vI x13.rank), .load ⟨g10, m15 * 3 + 2, none⟩ (vI x13.came)]) (v := .agg #[.string x13.v, vI x13.rank, vI x13.came]) (M' := Mem w0 (.blk b12 [.string x2.v, vI x2.rank, vI x2.came] 170 :: .blk b_q [.slice (some ⟨g10, 0, none⟩) q_0.length c_q_0, vI q_1] 145 :: orow (some ⟨g10, 0, none⟩) q_0.length c_q_0 170 3 y_q_0 :: Fz F W :: cs)) ⟨by kernel_rfl⟩ (fun w_ hM hS => ⟨w_, ⟨hM.ocell 2 rfl (hq21 0 _ rfl), hM.ocell 2 rfl (hq21 1 _ rfl), hM.ocell 2 rfl (hq21 2 _ rfl), rfl⟩, hM, hS⟩) ?_
  refine oR [] [(35, .agg #[.string x13.v, vI x13.rank, vI x13.came]), (28, .slice (some ⟨g10, 0, none⟩) q_0.length c_q_0), (7, vP b12 0), (6, vI (IntKind.i64.wrap ((q_0.length : Int) - 1))), (0, vP b_q 0)] [35, 28, 7, 6, 0] (by kernel_rfl) ?_
  obtain ⟨x22, hv23, hp⟩ := obind hp
  obtain ⟨m24, hm25, hx26⟩ := idx_some hv23
  have hl29 := (List.getElem?_eq_some_iff.1 hx26).1
  obtain ⟨vs27, hr28, hq30⟩ := h_q_0.at_ m24 x22 hx26
  obtain rfl := dec_queue_item_string hr28
  refine ops_val (op := (Go.Op.indexAddr 143 (Go.Operand.tmp 28) (Go.Operand.const (Go.Value.int Go.IntKind.i64 0)))) (d := some 36) (v := vP g10 (m24 * 3)) ⟨by kernel_rfl⟩ (run_indexRow Try.underlying143 (z := 3) (by kernel_rfl) rfl rfl hm25 hl29 rfl) ?_
  refine oR [] [(36, vP g10 (m24 * 3)), (35, .agg #[.string x13.v, vI x13.rank, vI x13.came]), (7, vP b12 0), (6, vI (IntKind.i64.wrap ((q_0.length : Int) - 1))), (0, vP b_q 0)] [36, 35, 7, 6, 0] (by kernel_rfl) ?_
  obtain ⟨l31, hv32, hp⟩ := obind hp
  obtain ⟨m33, hm34, hl35, he36⟩ := upd_some hv32
  obtain rfl : m24 = m33 := by have := hm25; omega
  have hl37 : q_0.length = l31.length := by rw [he36, List.length_set]
  obtain ⟨y38, hy39⟩ : ∃ y_, setAll y_q_0 (m24 * 3 + 0) [.string x13.v, vI x13.rank, vI x13.came] = y_ := ⟨_, rfl⟩
  have h40 : RepL R_queue_item_string F W l31 y38 := by rw [he36, ← hy39]; exact RepL.set h_q_0 (List.getElem?_eq_getElem hl35) (fun vs_ hr_ _ => by obtain rfl := dec_queue_item_string hr_; exact ⟨(enc_queue_item_string), Nat.le_of_ble_eq_true rfl⟩)
  refine ops_store (an := []) (evs := [.store ⟨g10, m24 * 3, none⟩ (.string x13.v), .store ⟨g10, m24 * 3 + 1, none⟩ (vI x13.rank), .store ⟨g10, m24 * 3 + 2, none⟩ (vI x13.came)]) (M' := Mem w0 (.blk b12 [.string x2.v, vI x2.rank, vI x2.came] 170 :: .blk b_q [.slice (some ⟨g10, 0, none⟩) q_0.length c_q_0, vI q_1] 145 :: orow (some ⟨g10, 0, none⟩) l31.length c_q_0 170 3 y38 :: Fz F W :: cs)) ⟨by kernel_rfl⟩ (fun w_ hM hS => let ⟨w', he, h'⟩ := hM.ostore' 2 rfl (m24 * 3 + 0) [.string x13.v, vI x13.rank, vI x13.came] (by have z_ : y_q_0.length = q_0.length * 3 := h_q_0.len; have y_ : (m24 + 1) * 3 ≤ q_0.length * 3 := Nat.mul_le_mul_right _ hl35; rw [Nat.add_mul] at y_; simp only [List.length_cons, List.length_nil]; omega) hl37 hy39; ⟨w', he, h', (by exact h'.sub (.cons_cons _ (.cons_cons _ (.cons _ (.cons_cons _ (.refl _))))))⟩) ?_
  refine ops_conv (l' := [(36, vP g10 (m24 * 3)), (35, .agg #[.string x13.v, vI x13.rank, vI x13.came]), (7, vP b12 0), (6, vI (IntKind.i64.wrap ((q_0.length : Int) - 1))), (0, vP b_q 0)]) (M' := Mem w0 (.blk b12 [.string x2.v, vI x2.rank, vI x2.came] 170 :: .blk b_q [.slice (some ⟨g10, 0, none⟩) l31.length c_q_0, vI q_1] 145 :: orow (some ⟨g10, 0, none⟩) l31.length c_q_0 170 3 y38 :: Fz F W :: cs)) (by first | rfl | rw [hl37]) (fun w_ hM => by first | exact hM | (rw [hl37] at hM; exact hM)) ?_
  refine oR [] [(7, vP b12 0), (6, vI (IntKind.i64.wrap ((q_0.length : Int) - 1))), (0, vP b_q 0)] [7, 6, 0] (by kernel_rfl) ?_
  refine ops_nil ?_
  refine fin_then ?_
  refine st_seq ?_
  refine st_region [oF 0, oF 1, oF 2, oF 3, oF 4, oF 5, oF 6, oF 7] (by rfl) ?_
  refine oR [oF 0, oF 1, oF 2] [(39, vP b_q 0), (7, vP b12 0), (6, vI (IntKind.i64.wrap ((q_0.length : Int) - 1))), (0, vP b_q 0)] [39, 7, 6, 0] (by kernel_rfl) ?_
  refine ops_mem (d := some 40) (an := [.v (.slice (some ⟨g10, 0, none⟩) l31.length c_q_0)]) (evs := [.load ⟨b_q, 0, none⟩ (.slice (some ⟨g10, 0, none⟩) l31.length c_q_0)]) (v := .slice (some ⟨g10, 0, none⟩) l31.length c_q_0) (M' := Mem w0 (.blk b12 [.string x2.v, vI x2.rank, vI x2.came] 170 :: .blk b_q [.slice (some ⟨g10, 0, none⟩) l31.length c_q_0, vI q_1] 145 :: orow (some ⟨g10, 0, none⟩) l31.length c_q_0 170 3 y38 :: Fz F W :: cs)) ⟨by kernel_rfl⟩ (fun w_ hM hS => ⟨w_, ⟨hM.cell 1 rfl rfl, rfl⟩, hM, trivial⟩) ?_
  refine oR [oF 4, oF 5] [(42, .agg #[.string ByteArray.empty, vI 0, vI 0]), (41, vI (IntKind.i64.wrap ((q_0.length : Int) - 1))), (40, .slice (some ⟨g10, 0, none⟩) l31.length c_q_0), (7, vP b12 0), (6, vI (IntKind.i64.wrap ((q_0.length : Int) - 1))), (0, vP b_q 0)] [42, 41, 40, 7, 6, 0] (by kernel_rfl) ?_
  obtain ⟨x42, hv43, hp⟩ := obind hp
  obtain ⟨m44, hm45, hx46⟩ := idx_some hv43
  have hl49 := (List.getElem?_eq_some_iff.1 hx46).1
  obtain ⟨vs47, hr48, hq50⟩ := h40.at_ m44 x42 hx46
  obtain rfl := dec_queue_item_string hr48
  refine ops_val (op := (Go.Op.indexAddr 143 (Go.Operand.tmp 40) (Go.Operand.tmp 41))) (d := some 43) (v := vP g10 (m44 * 3)) ⟨by kernel_rfl⟩ (run_indexRow Try.underlying143 (z := 3) (by kernel_rfl) rfl rfl hm45 hl49 rfl) ?_
  refine oR [] [(43, vP g10 (m44 * 3)), (42, .agg #[.string ByteArray.empty, vI 0, vI 0]), (7, vP b12 0), (6, vI (IntKind.i64.wrap ((q_0.length : Int) - 1))), (0, vP b_q 0)] [43, 42, 7, 6, 0] (by kernel_rfl) ?_
  obtain ⟨l51, hv52, hp⟩ := obind hp
  obtain ⟨m53, hm54, hl55, he56⟩ := upd_some hv52
  obtain rfl : m44 = m53 := by have := hm45; omega
  have hl57 : l31.length = l51.length := by rw [he56, List.length_set]
  obtain ⟨y58, hy59⟩ : ∃ y_, setAll y38 (m44 * 3 + 0) [.string ByteArray.empty, vI 0, vI 0] = y_ := ⟨_, rfl⟩
  have h60 : RepL R_queue_item_string F W l51 y58 := by rw [he56, ← hy59]; exact RepL.set h40 (List.getElem?_eq_getElem hl55) (fun vs_ hr_ _ => by obtain rfl := dec_queue_item_string hr_; exact ⟨(enc_queue_item_string), Nat.le_of_ble_eq_true rfl⟩)
  refine ops_store (an := []) (evs := [.store ⟨g10, m44 * 3, none⟩ (.string ByteArray.empty), .store ⟨g10, m44 * 3 + 1, none⟩ (vI 0), .store ⟨g10, m44 * 3 + 2, none⟩ (vI 0)]) (M' := Mem w0 (.blk b12 [.string x2.v, vI x2.rank, vI x2.came] 170 :: .blk b_q [.slice (some ⟨g10, 0, none⟩) l31.length c_q_0, vI q_1] 145 :: orow (some ⟨g10, 0, none⟩) l51.length c_q_0 170 3 y58 :: Fz F W :: cs)) ⟨by kernel_rfl⟩ (fun w_ hM hS => let ⟨w', he, h'⟩ := hM.ostore' 2 rfl (m44 * 3 + 0) [.string ByteArray.empty, vI 0, vI 0] (by have z_ : y38.length = l31.length * 3 := h40.len; have y_ : (m44 + 1) * 3 ≤ l31.length * 3 := Nat.mul_le_mul_right _ hl55; rw [Nat.add_mul] at y_; simp only [List.length_cons, List.length_nil]; omega) hl57 hy59; ⟨w', he, h', trivial⟩) ?_
  refine ops_conv (l' := [(43, vP g10 (m44 * 3)), (42, .agg #[.string ByteArray.empty, vI 0, vI 0]), (7, vP b12 0), (6, vI (IntKind.i64.wrap ((q_0.length : Int) - 1))), (0, vP b_q 0)]) (M' := Mem w0 (.blk b12 [.string x2.v, vI x2.rank, vI x2.came] 170 :: .blk b_q [.slice (some ⟨g10, 0, none⟩) l51.length c_q_0, vI q_1] 145 :: orow (some ⟨g10, 0, none⟩) l51.length c_q_0 170 3 y58 :: Fz F W :: cs)) (by first | rfl | rw [hl57]) (fun w_ hM => by first | exact hM | (rw [hl57] at hM; exact hM)) ?_
  refine oR [] [(7, vP b12 0), (6, vI (IntKind.i64.wrap ((q_0.length : Int) - 1))), (0, vP b_q 0)] [7, 6, 0] (by kernel_rfl) ?_
  refine ops_nil ?_
  refine fin_then ?_
  refine st_seq ?_
  refine st_region [oF 0, oF 1, oF 2, oF 3, oF 4, oF 5, oF 6, oF 7, oF 8, oF 9] (by rfl) ?_
  refine oR [oF 0, oF 1, oF 2, oF 3] [(47, vP b_q 0), (44, vP b_q 0), (7, vP b12 0), (6, vI (IntKind.i64.wrap ((q_0.length : Int) - 1))), (0, vP b_q 0)] [47, 44, 7, 6, 0] (by kernel_rfl) ?_
  refine ops_mem (d := some 48) (an := [.v (.slice (some ⟨g10, 0, none⟩) l51.length c_q_0)]) (evs := [.load ⟨b_q, 0, none⟩ (.slice (some ⟨g10, 0, none⟩) l51.length c_q_0)]) (v := .slice (some ⟨g10, 0, none⟩) l51.length c_q_0) (M' := Mem w0 (.blk b12 [.string x2.v, vI x2.rank, vI x2.came] 170 :: .blk b_q [.slice (some ⟨g10, 0, none⟩) l51.length c_q_0, vI q_1] 145 :: orow (some ⟨g10, 0, none⟩) l51.length c_q_0 170 3 y58 :: Fz F W :: cs)) ⟨by kernel_rfl⟩ (fun w_ hM hS => ⟨w_, ⟨hM.cell 1 rfl rfl, rfl⟩, hM, trivial⟩) ?_
  refine oR [oF 5] [(49, vI (IntKind.i64.wrap ((q_0.length : Int) - 1))), (48, .slice (some ⟨g10, 0, none⟩) l51.length c_q_0), (44, vP b_q 0), (7, vP b12 0), (6, vI (IntKind.i64.wrap ((q_0.length : Int) - 1))), (0, vP b_q 0)] [49, 48, 44, 7, 6, 0] (by kernel_rfl) ?_
  obtain ⟨l62, hv63, hp⟩ := obind hp
  obtain ⟨m64, n65, hm66, hn67, h68, h69, he70⟩ := cut_some hv63
  have hl71 := cut_len he70 h68 h69
  obtain rfl : m64 = 0 := by omega
  refine ops_fact (fun w_ hM => (hM.rowCap 2 rfl).1) (fun hc73 => ?_)
  obtain ⟨y74, hy75⟩ : ∃ y_, y58.take (l62.length * 3) = y_ := ⟨_, rfl⟩
  have h72 : RepL R_queue_item_string F W l62 y74 := by rw [← hy75, hl71, he70, List.drop_zero, Nat.sub_zero]; exact h60.take _
  refine ops_val (op := (Go.Op.slice 143 (Go.Operand.tmp 48) none (some (Go.Operand.tmp 49)) none)) (d := some 50) (v := .slice (some ⟨g10, 0, none⟩) l62.length c_q_0) ⟨by kernel_rfl⟩ (run_cutH0 (by kernel_rfl) (z := 3) (by kernel_rfl) rfl rfl hn67 (Nat.le_trans h69 hc73) (by omega)) ?_
  refine ops_conv (l' := [(50, .slice (some ⟨g10, 0, none⟩) l62.length c_q_0), (49, vI (IntKind.i64.wrap ((q_0.length : Int) - 1))), (48, .slice (some ⟨g10, 0, none⟩) l51.length c_q_0), (44, vP b_q 0), (7, vP b12 0), (6, vI (IntKind.i64.wrap ((q_0.length : Int) - 1))), (0, vP b_q 0)]) (M' := Mem w0 (.blk b12 [.string x2.v, vI x2.rank, vI x2.came] 170 :: .blk b_q [.slice (some ⟨g10, 0, none⟩) l51.length c_q_0, vI q_1] 145 :: orow (some ⟨g10, 0, none⟩) l62.length c_q_0 170 3 y74 :: Fz F W :: cs)) rfl (fun w_ h => h.otake' 2 rfl (by omega) hy75) ?_
  refine oR [oF 7, oF 8] [(52, vP b_q 0), (50, .slice (some ⟨g10, 0, none⟩) l62.length c_q_0), (7, vP b12 0), (6, vI (IntKind.i64.wrap ((q_0.length : Int) - 1))), (0, vP b_q 0)] [52, 50, 7, 6, 0] (by kernel_rfl) ?_
  refine ops_store (an := []) (evs := [.store ⟨b_q, 0, none⟩ (.slice (some ⟨g10, 0, none⟩) l62.length c_q_0)]) (M' := Mem w0 (.blk b12 [.string x2.v, vI x2.rank, vI x2.came] 170 :: .blk b_q [.slice (some ⟨g10, 0, none⟩) l62.length c_q_0, vI q_1] 145 :: orow (some ⟨g10, 0, none⟩) l62.length c_q_0 170 3 y74 :: Fz F W :: cs)) ⟨by kernel_rfl⟩ (fun w_ hM hS => let ⟨w', he, h'⟩ := hM.evs_stores [.slice (some ⟨g10, 0, none⟩) l62.length c_q_0] 1 rfl 0 (Nat.le_of_ble_eq_true rfl); ⟨w', he, h', trivial⟩) ?_
  refine oR [] [(7, vP b12 0), (6, vI (IntKind.i64.wrap ((q_0.length : Int) - 1))), (0, vP b_q 0)] [7, 6, 0] (by kernel_rfl) ?_
  refine ops_nil ?_
  refine fin_then ?_
  refine st_join1 (σ := (Option Addr) × (List queue_item_string) × (List Value)) (L := fun x_ => match x_ with | (A76, l77, y78) => [(7, vP b12 0)]) (N := fun x_ => match x_ with | (A76, l77, y78) => Mem w0 (.blk b12 [.string x2.v, vI x2.rank, vI x2.came] 170 :: .blk b_q [.slice A76 l77.length c_q_0, vI q_1] 145 :: orow A76 l77.length c_q_0 170 3 y78 :: Fz F W :: cs)) (I := fun x_ => match x_ with | (A76, l77, y78) => ((queue_Queue_string_Take_j1 x2) l77 = some (u9001, i9002, i9003, l9005)) ∧ (RepL R_queue_item_string F W l77 y78)) ?_ ?_
  · --
   rintro ⟨A76, l77, y78⟩ ⟨hp, h79⟩
   refine st_conv (l' := [(7, vP b12 0)]) (M' := Mem w0 (.blk b12 [.string x2.v, vI x2.rank, vI x2.came] 170 :: .blk b_q [.slice A76 l77.length c_q_0, vI q_1] 145 :: orow A76 l77.length c_q_0 170 3 y78 :: Fz F W :: cs)) rfl (fun _ h => h) ?_
   unfold queue_Queue_string_Take_j1 at hp
   refine st_seq ?_
   refine st_region_draw [oT 0, oT 1, oT 2, oT 3, oT 4, oT 5, oT 6] (Mem w0 (.blk b12 [.string x2.v, vI x2.rank, vI x2.came] 170 :: .blk b_q [.slice A76 l77.length c_q_0, vI q_1] 145 :: orow A76 l77.length c_q_0 170 3 y78 :: Fz F W :: cs)) (by kernel_rfl) (by kernel_rfl) (by kernel_rfl) (fun _ d _ _ _ h => by cases d <;> exact h) (M' := Mem w0 (.blk b12 [.string x2.v, vI x2.rank, vI x2.came] 170 :: .blk b_q [.slice A76 l77.length c_q_0, vI q_1] 145 :: orow A76 l77.length c_q_0 170 3 y78 :: Fz F W :: cs)) (fun w_ hM => ⟨hM.drew, hM.drew.sub (.cons_cons _ (.cons_cons _ (.cons_cons _ (.cons_cons _ (.refl _)))))⟩) ?_
   refine oR [oT 0] [(105, vP b12 0), (7, vP b12 0)] [105, 7] (by kernel_rfl) ?_
   refine ops_load (d := some 106) (an := [.v (.string x2.v)]) (evs := [.load ⟨b12, 0, none⟩ (.string x2.v)]) (v := .string x2.v) ⟨by kernel_rfl⟩ (fun w_ hM => ⟨hM.cell 0 rfl rfl, rfl⟩) ?_
   refine oR [oT 2] [(107, vP b12 1), (106, .string x2.v)] [107, 106] (by kernel_rfl) ?_
   refine ops_load (d := some 108) (an := [.v (vI x2.rank)]) (evs := [.load ⟨b12, 1, none⟩ (vI x2.rank)]) (v := vI x2.rank) ⟨by kernel_rfl⟩ (fun w_ hM => ⟨hM.cell 0 rfl rfl, rfl⟩) ?_
   refine oR [oT 4, oT 5, oT 6] [(4, vI 0), (3, vI x2.rank), (2, .string x2.v)] [4, 3, 2] (by kernel_rfl) ?_
   refine ops_nil ?_
   refine fin_then ?_
   refine st_ret ?_
   have hq_ := Option.some.inj hp
   obtain ⟨hr0_, hq_⟩ := Prod.mk.inj hq_
   obtain ⟨hr1_, hq_⟩ := Prod.mk.inj hq_
   obtain ⟨hr2_, hq_⟩ := Prod.mk.inj hq_
   have hr3_ := hq_
   subst hr0_
   subst hr1_
   subst hr2_
   subst hr3_
   refine fin_ret [.tmp 2, .tmp 3, .tmp 4] [.string x2.v, vI x2.rank, vI 0] rfl rfl (fun w_ hM => (.tmp rfl (.tmp rfl (.tmp rfl .nil)))) (fun w_ hM => ?_)
   exact ⟨A76, y78, h79, rfl, hM.pick 4 [1, 2, 3] (by kernel_rfl) (by decide) rfl⟩
  · --
   intro HJ1
   refine st_seq ?_
   refine st_seq ?_
   refine st_region [oF 0] (by rfl) ?_
   refine oR [oF 0] [(8, vI 0), (7, vP b12 0), (6, vI (IntKind.i64.wrap ((q_0.length : Int) - 1))), (0, vP b_q 0)] [8, 7, 6, 0] (by kernel_rfl) ?_
   refine ops_nil ?_
   refine fin_then ?_
   refine st_block ?_
   obtain ⟨r2, hl2, hk2⟩ := obind hp
   refine st_loopP (σ := (List queue_item_string) × Int) (ρ := (List queue_item_string)) (γ := (Option Addr) × (List Value)) hl2 ((some ⟨g10, 0, none⟩), y74) (fun s_ g_ => match s_, g_ with | (l81, i84), (A80, y82) => [(0, vP b_q 0), (6, vI (IntKind.i64.wrap ((q_0.length : Int) - 1))), (7, vP b12 0), (8, vI i84)]) (fun s_ g_ => match s_, g_ with | (l81, i84), (A80, y82) => Mem w0 (.blk b_q [.slice A80 l81.length c_q_0, vI q_1] 145 :: orow A80 l81.length c_q_0 170 3 y82 :: .blk b12 [.string x2.v, vI x2.rank, vI x2.came] 170 :: Fz F W :: cs)) (fun s_ g_ => match s_, g_ with | (l81, i84), (A80, y82) => (RepL R_queue_item_string F W l81 y82)) h72 (look_has ⟨rfl, rfl, rfl, rfl, trivial⟩) (fun w_ hM => hM.pick 4 [1, 2, 0, 3] (by kernel_rfl) (by decide) rfl) ?_
   rintro ⟨l81, i84⟩ ⟨A80, y82⟩ o2 h83 hs_ hd2
   have hp : (queue_Queue_string_Take_l2 q_0 q_1) l81 i84 = some o2 := hs_
   clear hs_
   unfold queue_Queue_string_Take_l2 at hp
   refine st_conv (l' := [(0, vP b_q 0), (6, vI (IntKind.i64.wrap ((q_0.length : Int) - 1))), (7, vP b12 0), (8, vI i84)]) (M' := Mem w0 (.blk b_q [.slice A80 l81.length c_q_0, vI q_1] 145 :: orow A80 l81.length c_q_0 170 3 y82 :: .blk b12 [.string x2.v, vI x2.rank, vI x2.came] 170 :: Fz F W :: cs)) rfl (fun _ h => h) ?_
   refine st_block ?_
   refine st_seq ?_
   refine st_region [oF 0, oF 1, oF 2, oF 3] (by rfl) ?_
   refine oR [oF 0, oF 1, oF 2, oF 3] [(9, vI (IntKind.i64.wrap (IntKind.i64.wrap (2 * i84) + 1))), (0, vP b_q 0), (6, vI (IntKind.i64.wrap ((q_0.length : Int) - 1))), (7, vP b12 0), (8, vI i84)] [9, 0, 6, 7, 8] (by kernel_rfl) ?_
   refine ops_nil ?_
   refine fin_then ?_
   refine st_join1 (σ := (Option Addr) × (List Value) × Int) (L := fun x_ => match x_ with | (A85, y86, i88) => [(0, vP b_q 0), (6, vI (IntKind.i64.wrap ((q_0.length : Int) - 1))), (7, vP b12 0), (8, vI i84), (9, vI i88)]) (N := fun x_ => match x_ with | (A85, y86, i88) => Mem w0 (.blk b_q [.slice A85 l81.length c_q_0, vI q_1] 145 :: orow A85 l81.length c_q_0 170 3 y86 :: .blk b12 [.string x2.v, vI x2.rank, vI x2.came] 170 :: Fz F W :: cs)) (I := fun x_ => match x_ with | (A85, y86, i88) => ((queue_Queue_string_Take_j3 q_0 l81 q_1 i84) i88 = some o2) ∧ (RepL R_queue_item_string F W l81 y86)) ?_ ?_
   · --
    rintro ⟨A85, y86, i88⟩ ⟨hp, h87⟩
    refine st_conv (l' := [(0, vP b_q 0), (6, vI (IntKind.i64.wrap ((q_0.length : Int) - 1))), (7, vP b12 0), (8, vI i84), (9, vI i88)]) (M' := Mem w0 (.blk b_q [.slice A85 l81.length c_q_0, vI q_1] 145 :: orow A85 l81.length c_q_0 170 3 y86 :: .blk b12 [.string x2.v, vI x2.rank, vI x2.came] 170 :: Fz F W :: cs)) rfl (fun _ h => h) ?_
    unfold queue_Queue_string_Take_j3 at hp
    refine st_seq ?_
    refine st_seq ?_
    refine st_region [oF 0, oF 1, oF 2, oF 3, oF 4, oF 5, oF 6, oF 7, oF 8] (by rfl) ?_
    refine oR [oF 0, oF 1, oF 2, oF 3] [(72, .bool (decide (IntKind.i64.wrap ((q_0.length : Int) - 1) ≤ i88))), (0, vP b_q 0), (6, vI (IntKind.i64.wrap ((q_0.length : Int) - 1))), (7, vP b12 0), (8, vI i84), (9, vI i88)] [72, 0, 6, 7, 8, 9] (by kernel_rfl) ?_
    refine ops_bool (t := decide (IntKind.i64.wrap ((q_0.length : Int) - 1) ≤ i88)) (l1 := [(72, .bool true), (0, vP b_q 0), (6, vI (IntKind.i64.wrap ((q_0.length : Int) - 1))), (7, vP b12 0), (8, vI i84), (9, vI i88)]) (l2 := [(72, .bool false), (0, vP b_q 0), (6, vI (IntKind.i64.wrap ((q_0.length : Int) - 1))), (7, vP b12 0), (8, vI i84), (9, vI i88)]) (fun h => by rw [h]) (fun h => by rw [h]) (fun hc89 => ?_) (fun hc89 => ?_)
    · --
     have hp := cnd_t hc89 hp
     refine oR [oF 4, oF 5, oF 6, oF 7, oF 8] [(77, .bool true), (0, vP b_q 0), (6, vI (IntKind.i64.wrap ((q_0.length : Int) - 1))), (7, vP b12 0), (8, vI i84), (9, vI i88)] [77, 0, 6, 7, 8, 9] (by kernel_rfl) ?_
     refine ops_nil ?_
     refine fin_then ?_
     refine st_true rfl ?_
     refine st_exit ?_
     refine fin_exit_then ?_
     refine fin_exit_ne (by rfl) ?_
     refine fin_exit_then ?_
     refine fin_exit ?_
     obtain hq_ := Option.some.inj hp
     subst hq_
     obtain hq_ := hd2 _ rfl
     subst hq_
     have hp : (queue_Queue_string_Take_j1 x2) l81 = some (u9001, i9002, i9003, l9005) := hk2
     exact fin_join HJ1 (A85, l81, y86) ⟨hp, h87⟩ (look_has ⟨rfl, trivial⟩) (fun w_ hM => hM.pick 4 [2, 0, 1, 3] (by kernel_rfl) (by decide) rfl)
    · --
     have hp := cnd_f hc89 hp
     refine oR [oF 4, oF 5, oF 6] [(75, vI i88), (74, vI i84), (73, vP b_q 0), (72, .bool false), (0, vP b_q 0), (6, vI (IntKind.i64.wrap ((q_0.length : Int) - 1))), (7, vP b12 0), (8, vI i84), (9, vI i88)] [75, 74, 73, 72, 0, 6, 7, 8, 9] (by kernel_rfl) ?_
     obtain ⟨x90, hv91, hp⟩ := obind hp
     refine ops_callI (σ := (Option Addr) × (List Value)) (d := some 76) (f := 136) (args := #[vP b_q 0, vI i84, vI i88]) (v := (fun x_ => match x_ with | (A92, y93) => .bool x90)) (I := (fun x_ => match x_ with | (A92, y93) => (RepL R_queue_item_string F W l81 y93))) (M' := (fun x_ => match x_ with | (A92, y93) => Mem w0 (orow A92 l81.length c_q_0 170 3 y93 :: .blk b_q [.slice A92 l81.length c_q_0, vI q_1] 145 :: .blk b12 [.string x2.v, vI x2.rank, vI x2.came] 170 :: Fz F W :: cs))) ⟨by kernel_rfl⟩ (fun w_ hM hS => (queue_Queue_string_before_ok w0 w_ (.blk b12 [.string x2.v, vI x2.rank, vI x2.came] 170 :: cs) F W b_q A85 c_q_0 l81 y86 q_1 i84 i88 (hM.pick 4 [0, 1, 3, 2] (by kernel_rfl) (by decide) rfl) h87 x90 hv91).mono (by rintro e w' ⟨A92, y93, h94, rfl, h'⟩; have h' : Mem w0 (orow A92 l81.length c_q_0 170 3 y93 :: .blk b_q [.slice A92 l81.length c_q_0, vI q_1] 145 :: .blk b12 [.string x2.v, vI x2.rank, vI x2.came] 170 :: Fz F W :: cs) w' := (h'.pick 4 [1, 0, 3, 2] (by kernel_rfl) (by decide) rfl); exact ⟨(A92, y93), h94, rfl, h', trivial⟩)) ?_
     rintro ⟨A92, y93⟩ h94
     refine ops_conv (l' := [(76, .bool x90), (75, vI i88), (74, vI i84), (73, vP b_q 0), (72, .bool false), (0, vP b_q 0), (6, vI (IntKind.i64.wrap ((q_0.length : Int) - 1))), (7, vP b12 0), (8, vI i84), (9, vI i88)]) (M' := Mem w0 (orow A92 l81.length c_q_0 170 3 y93 :: .blk b_q [.slice A92 l81.length c_q_0, vI q_1] 145 :: .blk b12 [.string x2.v, vI x2.rank, vI x2.came] 170 :: Fz F W :: cs)) rfl (fun _ h => h) ?_
     refine oR [oF 8] [(77, .bool x90), (0, vP b_q 0), (6, vI (IntKind.i64.wrap ((q_0.length : Int) - 1))), (7, vP b12 0), (8, vI i84), (9, vI i88)] [77, 0, 6, 7, 8, 9] (by kernel_rfl) ?_
     refine ops_nil ?_
     refine fin_then ?_
     refine st_if (b := x90) rfl (fun hc95 => ?_) (fun hc95 => ?_)
     · --
      have hp := cnd_t hc95 hp
      refine st_exit ?_
      refine fin_exit_then ?_
      refine fin_exit_ne (by rfl) ?_
      refine fin_exit_then ?_
      refine fin_exit ?_
      obtain hq_ := Option.some.inj hp
      subst hq_
      obtain hq_ := hd2 _ rfl
      subst hq_
      have hp : (queue_Queue_string_Take_j1 x2) l81 = some (u9001, i9002, i9003, l9005) := hk2
      exact fin_join HJ1 (A92, l81, y93) ⟨hp, h94⟩ (look_has ⟨rfl, trivial⟩) (fun w_ hM => hM.pick 4 [2, 1, 0, 3] (by kernel_rfl) (by decide) rfl)
     · --
      have hp := cnd_f hc95 hp
      refine st_skip ?_
      refine fin_then ?_
      refine st_join1 (σ := (Option Addr) × (List queue_item_string) × (List Value)) (L := fun x_ => match x_ with | (A96, l97, y98) => [(0, vP b_q 0), (6, vI (IntKind.i64.wrap ((q_0.length : Int) - 1))), (7, vP b12 0), (9, vI i88)]) (N := fun x_ => match x_ with | (A96, l97, y98) => Mem w0 (.blk b_q [.slice A96 l97.length c_q_0, vI q_1] 145 :: orow A96 l97.length c_q_0 170 3 y98 :: .blk b12 [.string x2.v, vI x2.rank, vI x2.came] 170 :: Fz F W :: cs)) (I := fun x_ => match x_ with | (A96, l97, y98) => ((queue_Queue_string_Take_j4 i88) l97 = some o2) ∧ (RepL R_queue_item_string F W l97 y98)) ?_ ?_
      · --
       rintro ⟨A96, l97, y98⟩ ⟨hp, h99⟩
       refine st_conv (l' := [(0, vP b_q 0), (6, vI (IntKind.i64.wrap ((q_0.length : Int) - 1))), (7, vP b12 0), (9, vI i88)]) (M' := Mem w0 (.blk b_q [.slice A96 l97.length c_q_0, vI q_1] 145 :: orow A96 l97.length c_q_0 170 3 y98 :: .blk b12 [.string x2.v, vI x2.rank, vI x2.came] 170 :: Fz F W :: cs)) rfl (fun _ h => h) ?_
       unfold queue_Queue_string_Take_j4 at hp
       refine st_region [oF 0, oF 1] (by rfl) ?_
       refine oR [oF 0, oF 1] [(8, vI i88), (0, vP b_q 0), (6, vI (IntKind.i64.wrap ((q_0.length : Int) - 1))), (7, vP b12 0)] [8, 0, 6, 7] (by kernel_rfl) ?_
       refine ops_nil ?_
       refine fin_block ?_
       exact fin_again (l97, i88) (A96, y98) (Option.some.inj hp).symm h99 (look_has ⟨rfl, rfl, rfl, rfl, trivial⟩) (fun w_ hM => hM)
      · --
       intro HJ4
       refine st_seq ?_
       obtain ⟨x100, hv101, hp⟩ := obind hp
       obtain ⟨x110, hv111, hp⟩ := obind hp
       obtain ⟨x119, hv120, hp⟩ := obind hp
       obtain ⟨l128, hv129, hp⟩ := obind hp
       obtain ⟨x139, hv140, hp⟩ := obind hp
       obtain ⟨l148, hv149, hp⟩ := obind hp
       refine st_region_tree (.node [oT 0, oT 1, oT 2, oT 3, oT 4, oT 5, oT 6, oT 7, oT 8, oT 9, oT 10, oT 11, oT 12, oT 13, oT 14, oT 15, oT 17, oT 18, oT 19, oT 20, oT 21, oT 22] (.leaf [oF 16, oF 23, oT 24, oF 25, oT 26, oF 27]) (.leaf [oF 23, oF 16, oT 24, oF 25, oT 26, oF 27])) (Mem w0 (.blk b_q [.slice A92 l81.length c_q_0, vI q_1] 145 :: .blk b12 [.string x2.v, vI x2.rank, vI x2.came] 170 :: Fz F W :: cs)) (by kernel_rfl) (by kernel_rfl) (by kernel_rfl) (fun _ d _ _ _ h => by cases d <;> exact h) (M' := Mem w0 (orow A92 l81.length c_q_0 170 3 y93 :: .blk b_q [.slice A92 l81.length c_q_0, vI q_1] 145 :: .blk b12 [.string x2.v, vI x2.rank, vI x2.came] 170 :: Fz F W :: cs)) (fun w_ hM => ⟨hM.drew, hM.drew.sub (.cons _ (.cons_cons _ (.cons_cons _ (.cons_cons _ (.refl _)))))⟩) ?_
       refine tree_node ?_
       refine oR [oT 0, oT 1, oT 2] [(80, vP b_q 0), (0, vP b_q 0), (6, vI (IntKind.i64.wrap ((q_0.length : Int) - 1))), (7, vP b12 0), (8, vI i84), (9, vI i88)] [80, 0, 6, 7, 8, 9] (by kernel_rfl) ?_
       refine ops_load (d := some 81) (an := [.v (.slice A92 l81.length c_q_0)]) (evs := [.load ⟨b_q, 0, none⟩ (.slice A92 l81.length c_q_0)]) (v := .slice A92 l81.length c_q_0) ⟨by kernel_rfl⟩ (fun w_ hM => ⟨hM.cell 0 rfl rfl, rfl⟩) ?_
       refine oR [oT 4, oT 5, oT 6, oT 7] [(85, vP b_q 0), (82, vI i84), (81, .slice A92 l81.length c_q_0), (0, vP b_q 0), (6, vI (IntKind.i64.wrap ((q_0.length : Int) - 1))), (7, vP b12 0), (8, vI i84), (9, vI i88)] [85, 82, 81, 0, 6, 7, 8, 9] (by kernel_rfl) ?_
       refine ops_load (d := some 86) (an := [.v (.slice A92 l81.length c_q_0)]) (evs := [.load ⟨b_q, 0, none⟩ (.slice A92 l81.length c_q_0)]) (v := .slice A92 l81.length c_q_0) ⟨by kernel_rfl⟩ (fun w_ hM => ⟨hM.cell 0 rfl rfl, rfl⟩) ?_
       refine oR [oT 9, oT 10, oT 11, oT 12] [(90, vP b_q 0), (87, vI i88), (86, .slice A92 l81.length c_q_0), (82, vI i84), (81, .slice A92 l81.length c_q_0), (0, vP b_q 0), (6, vI (IntKind.i64.wrap ((q_0.length : Int) - 1))), (7, vP b12 0), (8, vI i84), (9, vI i88)] [90, 87, 86, 82, 81, 0, 6, 7, 8, 9] (by kernel_rfl) ?_
       refine ops_load (d := some 91) (an := [.v (.slice A92 l81.length c_q_0)]) (evs := [.load ⟨b_q, 0, none⟩ (.slice A92 l81.length c_q_0)]) (v := .slice A92 l81.length c_q_0) ⟨by kernel_rfl⟩ (fun w_ hM => ⟨hM.cell 0 rfl rfl, rfl⟩) ?_
       refine oR [oT 14] [(92, vI i88), (91, .slice A92 l81.length c_q_0), (87, vI i88), (86, .slice A92 l81.length c_q_0), (82, vI i84), (81, .slice A92 l81.length c_q_0), (0, vP b_q 0), (6, vI (IntKind.i64.wrap ((q_0.length : Int) - 1))), (7, vP b12 0), (8, vI i84), (9, vI i88)] [92, 91, 87, 86, 82, 81, 0, 6, 7, 8, 9] (by kernel_rfl) ?_
       obtain ⟨m150, hm151, hx152⟩ := idx_some hv101
       have hl155 := (List.getElem?_eq_some_iff.1 hx152).1
       refine ops_fact (fun w_ hM => hM.orowSome 0 rfl (Nat.lt_of_le_of_lt (Nat.zero_le _) hl155)) ?_
       rintro ⟨g156, rfl, -⟩
       obtain ⟨vs153, hr154, hq157⟩ := h94.at_ m150 x100 hx152
       obtain rfl := dec_queue_item_string hr154
       refine ops_val (op := (Go.Op.indexAddr 143 (Go.Operand.tmp 91) (Go.Operand.tmp 92))) (d := some 93) (v := vP g156 (m150 * 3)) ⟨by kernel_rfl⟩ (run_indexRow Try.underlying143 (z := 3) (by kernel_rfl) rfl rfl hm151 hl155 rfl) ?_
       refine oR [oT 17, oT 18, oT 19] [(97, vP b_q 0), (93, vP g156 (m150 * 3)), (87, vI i88), (86, .slice (some ⟨g156, 0, none⟩) l81.length c_q_0), (82, vI i84), (81, .slice (some ⟨g156, 0, none⟩) l81.length c_q_0), (0, vP b_q 0), (6, vI (IntKind.i64.wrap ((q_0.length : Int) - 1))), (7, vP b12 0), (8, vI i84), (9, vI i88)] [97, 93, 87, 86, 82, 81, 0, 6, 7, 8, 9] (by kernel_rfl) ?_
       refine ops_load (d := some 98) (an := [.v (.slice (some ⟨g156, 0, none⟩) l81.length c_q_0)]) (evs := [.load ⟨b_q, 0, none⟩ (.slice (some ⟨g156, 0, none⟩) l81.length c_q_0)]) (v := .slice (some ⟨g156, 0, none⟩) l81.length c_q_0) ⟨by kernel_rfl⟩ (fun w_ hM => ⟨hM.cell 0 rfl rfl, rfl⟩) ?_
       refine oR [oT 21] [(99, vI i84), (98, .slice (some ⟨g156, 0, none⟩) l81.length c_q_0), (93, vP g156 (m150 * 3)), (87, vI i88), (86, .slice (some ⟨g156, 0, none⟩) l81.length c_q_0), (82, vI i84), (81, .slice (some ⟨g156, 0, none⟩) l81.length c_q_0), (0, vP b_q 0), (6, vI (IntKind.i64.wrap ((q_0.length : Int) - 1))), (7, vP b12 0), (9, vI i88)] [99, 98, 93, 87, 86, 82, 81, 0, 6, 7, 9] (by kernel_rfl) ?_
       obtain ⟨m158, hm159, hx160⟩ := idx_some hv111
       have hl163 := (List.getElem?_eq_some_iff.1 hx160).1
       obtain ⟨vs161, hr162, hq164⟩ := h94.at_ m158 x110 hx160
       obtain rfl := dec_queue_item_string hr162
       refine ops_val (op := (Go.Op.indexAddr 143 (Go.Operand.tmp 98) (Go.Operand.tmp 99))) (d := some 100) (v := vP g156 (m158 * 3)) ⟨by kernel_rfl⟩ (run_indexRow Try.underlying143 (z := 3) (by kernel_rfl) rfl rfl hm159 hl163 rfl) ?_
       refine oR [] [(100, vP g156 (m158 * 3)), (93, vP g156 (m150 * 3)), (87, vI i88), (86, .slice (some ⟨g156, 0, none⟩) l81.length c_q_0), (82, vI i84), (81, .slice (some ⟨g156, 0, none⟩) l81.length c_q_0), (0, vP b_q 0), (6, vI (IntKind.i64.wrap ((q_0.length : Int) - 1))), (7, vP b12 0), (9, vI i88)] [100, 93, 87, 86, 82, 81, 0, 6, 7, 9] (by kernel_rfl) ?_
       refine ops_nil ?_
       refine tree_both ?_ ?_
       · --
        refine tree_leaf ?_
        refine ops_mem (d := some 94) (an := [.v (.string x100.v), .v (vI x100.rank), .v (vI x100.came)]) (evs := [.load ⟨g156, m150 * 3, none⟩ (.string x100.v), .load ⟨g156, m150 * 3 + 1, none⟩ (vI x100.rank), .load ⟨g156, m150 * 3 + 2, none⟩ (vI x100.came)]) (v := .agg #[.string x100.v, vI x100.rank, vI x100.came]) (M' := Mem w0 (orow (some ⟨g156, 0, none⟩) l81.length c_q_0 170 3 y93 :: .blk b_q [.slice (some ⟨g156, 0, none⟩) l81.length c_q_0, vI q_1] 145 :: .blk b12 [.string x2.v, vI x2.rank, vI x2.came] 170 :: Fz F W :: cs)) ⟨by kernel_rfl⟩ (fun w_ hM hS => ⟨w_, ⟨hM.ocell 0 rfl (hq157 0 _ rfl), hM.ocell 0 rfl (hq157 1 _ rfl), hM.ocell 0 rfl (hq157 2 _ rfl), rfl⟩, hM, hS⟩) ?_
        refine oR [] [(94, .agg #[.string x100.v, vI x100.rank, vI x100.came]), (100, vP g156 (m158 * 3)), (87, vI i88), (86, .slice (some ⟨g156, 0, none⟩) l81.length c_q_0), (82, vI i84), (81, .slice (some ⟨g156, 0, none⟩) l81.length c_q_0), (0, vP b_q 0), (6, vI (IntKind.i64.wrap ((q_0.length : Int) - 1))), (7, vP b12 0), (9, vI i88)] [94, 100, 87, 86, 82, 81, 0, 6, 7, 9] (by kernel_rfl) ?_
        refine ops_mem (d := some 101) (an := [.v (.string x110.v), .v (vI x110.rank), .v (vI x110.came)]) (evs := [.load ⟨g156, m158 * 3, none⟩ (.string x110.v), .load ⟨g156, m158 * 3 + 1, none⟩ (vI x110.rank), .load ⟨g156, m158 * 3 + 2, none⟩ (vI x110.came)]) (v := .agg #[.string x110.v, vI x110.rank, vI x110.came]) (M' := Mem w0 (orow (some ⟨g156, 0, none⟩) l81.length c_q_0 170 3 y93 :: .blk b_q [.slice (some ⟨g156, 0, none⟩) l81.length c_q_0, vI q_1] 145 :: .blk b12 [.string x2.v, vI x2.rank, vI x2.came] 170 :: Fz F W :: cs)) ⟨by kernel_rfl⟩ (fun w_ hM hS => ⟨w_, ⟨hM.ocell 0 rfl (hq164 0 _ rfl), hM.ocell 0 rfl (hq164 1 _ rfl), hM.ocell 0 rfl (hq164 2 _ rfl), rfl⟩, hM, hS⟩) ?_
        refine oR [] [(101, .agg #[.string x110.v, vI x110.rank, vI x110.came]), (94, .agg #[.string x100.v, vI x100.rank, vI x100.came]), (87, vI i88), (86, .slice (some ⟨g156, 0, none⟩) l81.length c_q_0), (82, vI i84), (81, .slice (some ⟨g156, 0, none⟩) l81.length c_q_0), (0, vP b_q 0), (6, vI (IntKind.i64.wrap ((q_0.length : Int) - 1))), (7, vP b12 0), (9, vI i88)] [101, 94, 87, 86, 82, 81, 0, 6, 7, 9] (by kernel_rfl) ?_
        obtain ⟨m165, hm166, hx167⟩ := idx_some hv120
        have hl170 := (List.getElem?_eq_some_iff.1 hx167).1
        obtain ⟨vs168, hr169, hq171⟩ := h94.at_ m165 x119 hx167
        obtain rfl := dec_queue_item_string hr169
        refine ops_val (op := (Go.Op.indexAddr 143 (Go.Operand.tmp 81) (Go.Operand.tmp 82))) (d := some 102) (v := vP g156 (m165 * 3)) ⟨by kernel_rfl⟩ (run_indexRow Try.underlying143 (z := 3) (by kernel_rfl) rfl rfl hm166 hl170 rfl) ?_
        refine oR [] [(102, vP g156 (m165 * 3)), (101, .agg #[.string x110.v, vI x110.rank, vI x110.came]), (94, .agg #[.string x100.v, vI x100.rank, vI x100.came]), (87, vI i88), (86, .slice (some ⟨g156, 0, none⟩) l81.length c_q_0), (0, vP b_q 0), (6, vI (IntKind.i64.wrap ((q_0.length : Int) - 1))), (7, vP b12 0), (9, vI i88)] [102, 101, 94, 87, 86, 0, 6, 7, 9] (by kernel_rfl) ?_
        obtain ⟨m172, hm173, hl174, he175⟩ := upd_some hv129
        obtain rfl : m165 = m172 := by have := hm166; omega
        have hl176 : l81.length = l128.length := by rw [he175, List.length_set]
        obtain ⟨y177, hy178⟩ : ∃ y_, setAll y93 (m165 * 3 + 0) [.string x100.v, vI x100.rank, vI x100.came] = y_ := ⟨_, rfl⟩
        have h179 : RepL R_queue_item_string F W l128 y177 := by rw [he175, ← hy178]; exact RepL.set h94 (List.getElem?_eq_getElem hl174) (fun vs_ hr_ _ => by obtain rfl := dec_queue_item_string hr_; exact ⟨(enc_queue_item_string), Nat.le_of_ble_eq_true rfl⟩)
        refine ops_store (an := []) (evs := [.store ⟨g156, m165 * 3, none⟩ (.string x100.v), .store ⟨g156, m165 * 3 + 1, none⟩ (vI x100.rank), .store ⟨g156, m165 * 3 + 2, none⟩ (vI x100.came)]) (M' := Mem w0 (orow (some ⟨g156, 0, none⟩) l128.length c_q_0 170 3 y177 :: .blk b_q [.slice (some ⟨g156, 0, none⟩) l81.length c_q_0, vI q_1] 145 :: .blk b12 [.string x2.v, vI x2.rank, vI x2.came] 170 :: Fz F W :: cs)) ⟨by kernel_rfl⟩ (fun w_ hM hS => let ⟨w', he, h'⟩ := hM.ostore' 0 rfl (m165 * 3 + 0) [.string x100.v, vI x100.rank, vI x100.came] (by have z_ : y93.length = l81.length * 3 := h94.len; have y_ : (m165 + 1) * 3 ≤ l81.length * 3 := Nat.mul_le_mul_right _ hl174; rw [Nat.add_mul] at y_; simp only [List.length_cons, List.length_nil]; omega) hl176 hy178; ⟨w', he, h', (by exact h'.sub (.cons _ (.cons_cons _ (.cons_cons _ (.cons_cons _ (.refl _))))))⟩) ?_
        refine ops_conv (l' := [(102, vP g156 (m165 * 3)), (101, .agg #[.string x110.v, vI x110.rank, vI x110.came]), (94, .agg #[.string x100.v, vI x100.rank, vI x100.came]), (87, vI i88), (86, .slice (some ⟨g156, 0, none⟩) l128.length c_q_0), (0, vP b_q 0), (6, vI (IntKind.i64.wrap ((q_0.length : Int) - 1))), (7, vP b12 0), (9, vI i88)]) (M' := Mem w0 (orow (some ⟨g156, 0, none⟩) l128.length c_q_0 170 3 y177 :: .blk b_q [.slice (some ⟨g156, 0, none⟩) l128.length c_q_0, vI q_1] 145 :: .blk b12 [.string x2.v, vI x2.rank, vI x2.came] 170 :: Fz F W :: cs)) (by first | rfl | rw [hl176]) (fun w_ hM => by first | exact hM | (rw [hl176] at hM; exact hM)) ?_
        refine oR [] [(101, .agg #[.string x110.v, vI x110.rank, vI x110.came]), (87, vI i88), (86, .slice (some ⟨g156, 0, none⟩) l128.length c_q_0), (0, vP b_q 0), (6, vI (IntKind.i64.wrap ((q_0.length : Int) - 1))), (7, vP b12 0), (9, vI i88)] [101, 87, 86, 0, 6, 7, 9] (by kernel_rfl) ?_
        obtain ⟨m181, hm182, hx183⟩ := idx_some hv140
        have hl186 := (List.getElem?_eq_some_iff.1 hx183).1
        obtain ⟨vs184, hr185, hq187⟩ := h179.at_ m181 x139 hx183
        obtain rfl := dec_queue_item_string hr185
        refine ops_val (op := (Go.Op.indexAddr 143 (Go.Operand.tmp 86) (Go.Operand.tmp 87))) (d := some 103) (v := vP g156 (m181 * 3)) ⟨by kernel_rfl⟩ (run_indexRow Try.underlying143 (z := 3) (by kernel_rfl) rfl rfl hm182 hl186 rfl) ?_
        refine oR [] [(103, vP g156 (m181 * 3)), (101, .agg #[.string x110.v, vI x110.rank, vI x110.came]), (0, vP b_q 0), (6, vI (IntKind.i64.wrap ((q_0.length : Int) - 1))), (7, vP b12 0), (9, vI i88)] [103, 101, 0, 6, 7, 9] (by kernel_rfl) ?_
        obtain ⟨m188, hm189, hl190, he191⟩ := upd_some hv149
        obtain rfl : m181 = m188 := by have := hm182; omega
        have hl192 : l128.length = l148.length := by rw [he191, List.length_set]
        obtain ⟨y193, hy194⟩ : ∃ y_, setAll y177 (m181 * 3 + 0) [.string x110.v, vI x110.rank, vI x110.came] = y_ := ⟨_, rfl⟩
        have h195 : RepL R_queue_item_string F W l148 y193 := by rw [he191, ← hy194]; exact RepL.set h179 (List.getElem?_eq_getElem hl190) (fun vs_ hr_ _ => by obtain rfl := dec_queue_item_string hr_; exact ⟨(enc_queue_item_string), Nat.le_of_ble_eq_true rfl⟩)
        refine ops_store (an := []) (evs := [.store ⟨g156, m181 * 3, none⟩ (.string x110.v), .store ⟨g156, m181 * 3 + 1, none⟩ (vI x110.rank), .store ⟨g156, m181 * 3 + 2, none⟩ (vI x110.came)]) (M' := Mem w0 (orow (some ⟨g156, 0, none⟩) l148.length c_q_0 170 3 y193 :: .blk b_q [.slice (some ⟨g156, 0, none⟩) l128.length c_q_0, vI q_1] 145 :: .blk b12 [.string x2.v, vI x2.rank, vI x2.came] 170 :: Fz F W :: cs)) ⟨by kernel_rfl⟩ (fun w_ hM hS => let ⟨w', he, h'⟩ := hM.ostore' 0 rfl (m181 * 3 + 0) [.string x110.v, vI x110.rank, vI x110.came] (by have z_ : y177.length = l128.length * 3 := h179.len; have y_ : (m181 + 1) * 3 ≤ l128.length * 3 := Nat.mul_le_mul_right _ hl190; rw [Nat.add_mul] at y_; simp only [List.length_cons, List.length_nil]; omega) hl192 hy194; ⟨w', he, h', (by first | (refine h'.sub ?_; simp; done) | ((try simp only [← hl192] at h'); (try simp only [← hl176] at h'); (try simp only [← hl154] at h'); (try simp only [← hl134] at h'); (try simp only [← hl220] at h'); (try simp only [← hl204] at h'); exact h'.sub (by simp)))⟩) ?_
        refine ops_conv (l' := [(103, vP g156 (m181 * 3)), (101, .agg #[.string x110.v, vI x110.rank, vI x110.came]), (0, vP b_q 0), (6, vI (IntKind.i64.wrap ((q_0.length : Int) - 1))), (7, vP b12 0), (9, vI i88)]) (M' := Mem w0 (orow (some ⟨g156, 0, none⟩) l148.length c_q_0 170 3 y193 :: .blk b_q [.slice (some ⟨g156, 0, none⟩) l148.length c_q_0, vI q_1] 145 :: .blk b12 [.string x2.v, vI x2.rank, vI x2.came] 170 :: Fz F W :: cs)) (by first | rfl | rw [hl192]) (fun w_ hM => by first | exact hM | (rw [hl192] at hM; exact hM)) ?_
        refine oR [] [(0, vP b_q 0), (6, vI (IntKind.i64.wrap ((q_0.length : Int) - 1))), (7, vP b12 0), (9, vI i88)] [0, 6, 7, 9] (by kernel_rfl) ?_
        refine ops_nil ?_
        exact fin_join HJ4 ((some ⟨g156, 0, none⟩), l148, y193) ⟨hp, h195⟩ (look_has ⟨rfl, rfl, rfl, rfl, trivial⟩) (fun w_ hM => hM.pick 4 [1, 0, 2, 3] (by kernel_rfl) (by decide) rfl)
       · --
        refine tree_leaf ?_
        refine ops_mem (d := some 101) (an := [.v (.string x110.v), .v (vI x110.rank), .v (vI x110.came)]) (evs := [.load ⟨g156, m158 * 3, none⟩ (.string x110.v), .load ⟨g156, m158 * 3 + 1, none⟩ (vI x110.rank), .load ⟨g156, m158 * 3 + 2, none⟩ (vI x110.came)]) (v := .agg #[.string x110.v, vI x110.rank, vI x110.came]) (M' := Mem w0 (orow (some ⟨g156, 0, none⟩) l81.length c_q_0 170 3 y93 :: .blk b_q [.slice (some ⟨g156, 0, none⟩) l81.length c_q_0, vI q_1] 145 :: .blk b12 [.string x2.v, vI x2.rank, vI x2.came] 170 :: Fz F W :: cs)) ⟨by kernel_rfl⟩ (fun w_ hM hS => ⟨w_, ⟨hM.ocell 0 rfl (hq164 0 _ rfl), hM.ocell 0 rfl (hq164 1 _ rfl), hM.ocell 0 rfl (hq164 2 _ rfl), rfl⟩, hM, hS⟩) ?_
        refine oR [] [(101, .agg #[.string x110.v, vI x110.rank, vI x110.came]), (93, vP g156 (m150 * 3)), (87, vI i88), (86, .slice (some ⟨g156, 0, none⟩) l81.length c_q_0), (82, vI i84), (81, .slice (some ⟨g156, 0, none⟩) l81.length c_q_0), (0, vP b_q 0), (6, vI (IntKind.i64.wrap ((q_0.length : Int) - 1))), (7, vP b12 0), (9, vI i88)] [101, 93, 87, 86, 82, 81, 0, 6, 7, 9] (by kernel_rfl) ?_
        refine ops_mem (d := some 94) (an := [.v (.string x100.v), .v (vI x100.rank), .v (vI x100.came)]) (evs := [.load ⟨g156, m150 * 3, none⟩ (.string x100.v), .load ⟨g156, m150 * 3 + 1, none⟩ (vI x100.rank), .load ⟨g156, m150 * 3 + 2, none⟩ (vI x100.came)]) (v := .agg #[.string x100.v, vI x100.rank, vI x100.came]) (M' := Mem w0 (orow (some ⟨g156, 0, none⟩) l81.length c_q_0 170 3 y93 :: .blk b_q [.slice (some ⟨g156, 0, none⟩) l81.length c_q_0, vI q_1] 145 :: .blk b12 [.string x2.v, vI x2.rank, vI x2.came] 170 :: Fz F W :: cs)) ⟨by kernel_rfl⟩ (fun w_ hM hS => ⟨w_, ⟨hM.ocell 0 rfl (hq157 0 _ rfl), hM.ocell 0 rfl (hq157 1 _ rfl), hM.ocell 0 rfl (hq157 2 _ rfl), rfl⟩, hM, hS⟩) ?_
        refine oR [] [(94, .agg #[.string x100.v, vI x100.rank, vI x100.came]), (101, .agg #[.string x110.v, vI x110.rank, vI x110.came]), (87, vI i88), (86, .slice (some ⟨g156, 0, none⟩) l81.length c_q_0), (82, vI i84), (81, .slice (some ⟨g156, 0, none⟩) l81.length c_q_0), (0, vP b_q 0), (6, vI (IntKind.i64.wrap ((q_0.length : Int) - 1))), (7, vP b12 0), (9, vI i88)] [94, 101, 87, 86, 82, 81, 0, 6, 7, 9] (by kernel_rfl) ?_
        obtain ⟨m197, hm198, hx199⟩ := idx_some hv120
        have hl202 := (List.getElem?_eq_some_iff.1 hx199).1
        obtain ⟨vs200, hr201, hq203⟩ := h94.at_ m197 x119 hx199
        obtain rfl := dec_queue_item_string hr201
        refine ops_val (op := (Go.Op.indexAddr 143 (Go.Operand.tmp 81) (Go.Operand.tmp 82))) (d := some 102) (v := vP g156 (m197 * 3)) ⟨by kernel_rfl⟩ (run_indexRow Try.underlying143 (z := 3) (by kernel_rfl) rfl rfl hm198 hl202 rfl) ?_
        refine oR [] [(102, vP g156 (m197 * 3)), (94, .agg #[.string x100.v, vI x100.rank, vI x100.came]), (101, .agg #[.string x110.v, vI x110.rank, vI x110.came]), (87, vI i88), (86, .slice (some ⟨g156, 0, none⟩) l81.length c_q_0), (0, vP b_q 0), (6, vI (IntKind.i64.wrap ((q_0.length : Int) - 1))), (7, vP b12 0), (9, vI i88)] [102, 94, 101, 87, 86, 0, 6, 7, 9] (by kernel_rfl) ?_
        obtain ⟨m204, hm205, hl206, he207⟩ := upd_some hv129
        obtain rfl : m197 = m204 := by have := hm198; omega
        have hl208 : l81.length = l128.length := by rw [he207, List.length_set]
        obtain ⟨y209, hy210⟩ : ∃ y_, setAll y93 (m197 * 3 + 0) [.string x100.v, vI x100.rank, vI x100.came] = y_ := ⟨_, rfl⟩
        have h211 : RepL R_queue_item_string F W l128 y209 := by rw [he207, ← hy210]; exact RepL.set h94 (List.getElem?_eq_getElem hl206) (fun vs_ hr_ _ => by obtain rfl := dec_queue_item_string hr_; exact ⟨(enc_queue_item_string), Nat.le_of_ble_eq_true rfl⟩)
        refine ops_store (an := []) (evs := [.store ⟨g156, m197 * 3, none⟩ (.string x100.v), .store ⟨g156, m197 * 3 + 1, none⟩ (vI x100.rank), .store ⟨g156, m197 * 3 + 2, none⟩ (vI x100.came)]) (M' := Mem w0 (orow (some ⟨g156, 0, none⟩) l128.length c_q_0 170 3 y209 :: .blk b_q [.slice (some ⟨g156, 0, none⟩) l81.length c_q_0, vI q_1] 145 :: .blk b12 [.string x2.v, vI x2.rank, vI x2.came] 170 :: Fz F W :: cs)) ⟨by kernel_rfl⟩ (fun w_ hM hS => let ⟨w', he, h'⟩ := hM.ostore' 0 rfl (m197 * 3 + 0) [.string x100.v, vI x100.rank, vI x100.came] (by have z_ : y93.length = l81.length * 3 := h94.len; have y_ : (m197 + 1) * 3 ≤ l81.length * 3 := Nat.mul_le_mul_right _ hl206; rw [Nat.add_mul] at y_; simp only [List.length_cons, List.length_nil]; omega) hl208 hy210; ⟨w', he, h', (by exact h'.sub (.cons _ (.cons_cons _ (.cons_cons _ (.cons_cons _ (.refl _))))))⟩) ?_
        refine ops_conv (l' := [(102, vP g156 (m197 * 3)), (94, .agg #[.string x100.v, vI x100.rank, vI x100.came]), (101, .agg #[.string x110.v, vI x110.rank, vI x110.came]), (87, vI i88), (86, .slice (some ⟨g156, 0, none⟩) l128.length c_q_0), (0, vP b_q 0), (6, vI (IntKind.i64.wrap ((q_0.length : Int) - 1))), (7, vP b12 0), (9, vI i88)]) (M' := Mem w0 (orow (some ⟨g156, 0, none⟩) l128.length c_q_0 170 3 y209 :: .blk b_q [.slice (some ⟨g156, 0, none⟩) l128.length c_q_0, vI q_1] 145 :: .blk b12 [.string x2.v, vI x2.rank, vI x2.came] 170 :: Fz F W :: cs)) (by first | rfl | rw [hl208]) (fun w_ hM => by first | exact hM | (rw [hl208] at hM; exact hM)) ?_
        refine oR [] [(101, .agg #[.string x110.v, vI x110.rank, vI x110.came]), (87, vI i88), (86, .slice (some ⟨g156, 0, none⟩) l128.length c_q_0), (0, vP b_q 0), (6, vI (IntKind.i64.wrap ((q_0.length : Int) - 1))), (7, vP b12 0), (9, vI i88)] [101, 87, 86, 0, 6, 7, 9] (by kernel_rfl) ?_
        obtain ⟨m213, hm214, hx215⟩ := idx_some hv140
        have hl218 := (List.getElem?_eq_some_iff.1 hx215).1
        obtain ⟨vs216, hr217, hq219⟩ := h211.at_ m213 x139 hx215
        obtain rfl := dec_queue_item_string hr217
        refine ops_val (op := (Go.Op.indexAddr 143 (Go.Operand.tmp 86) (Go.Operand.tmp 87))) (d := some 103) (v := vP g156 (m213 * 3)) ⟨by kernel_rfl⟩ (run_indexRow Try.underlying143 (z := 3) (by kernel_rfl) rfl rfl hm214 hl218 rfl) ?_
        refine oR [] [(103, vP g156 (m213 * 3)), (101, .agg #[.string x110.v, vI x110.rank, vI x110.came]), (0, vP b_q 0), (6, vI (IntKind.i64.wrap ((q_0.length : Int) - 1))), (7, vP b12 0), (9, vI i88)] [103, 101, 0, 6, 7, 9] (by kernel_rfl) ?_
        obtain ⟨m220, hm221, hl222, he223⟩ := upd_some hv149
        obtain rfl : m213 = m220 := by have := hm214; omega
        have hl224 : l128.length = l148.length := by rw [he223, List.length_set]
        obtain ⟨y225, hy226⟩ : ∃ y_, setAll y209 (m213 * 3 + 0) [.string x110.v, vI x110.rank, vI x110.came] = y_ := ⟨_, rfl⟩
        have h227 : RepL R_queue_item_string F W l148 y225 := by rw [he223, ← hy226]; exact RepL.set h211 (List.getElem?_eq_getElem hl222) (fun vs_ hr_ _ => by obtain rfl := dec_queue_item_string hr_; exact ⟨(enc_queue_item_string), Nat.le_of_ble_eq_true rfl⟩)
        refine ops_store (an := []) (evs := [.store ⟨g156, m213 * 3, none⟩ (.string x110.v), .store ⟨g156, m213 * 3 + 1, none⟩ (vI x110.rank), .store ⟨g156, m213 * 3 + 2, none⟩ (vI x110.came)]) (M' := Mem w0 (orow (some ⟨g156, 0, none⟩) l148.length c_q_0 170 3 y225 :: .blk b_q [.slice (some ⟨g156, 0, none⟩) l128.length c_q_0, vI q_1] 145 :: .blk b12 [.string x2.v, vI x2.rank, vI x2.came] 170 :: Fz F W :: cs)) ⟨by kernel_rfl⟩ (fun w_ hM hS => let ⟨w', he, h'⟩ := hM.ostore' 0 rfl (m213 * 3 + 0) [.string x110.v, vI x110.rank, vI x110.came] (by have z_ : y209.length = l128.length * 3 := h211.len; have y_ : (m213 + 1) * 3 ≤ l128.length * 3 := Nat.mul_le_mul_right _ hl222; rw [Nat.add_mul] at y_; simp only [List.length_cons, List.length_nil]; omega) hl224 hy226; ⟨w', he, h', (by first | (refine h'.sub ?_; simp; done) | ((try simp only [← hl224] at h'); (try simp only [← hl208] at h'); (try simp only [← hl192] at h'); (try simp only [← hl176] at h'); (try simp only [← hl154] at h'); (try simp only [← hl134] at h'); exact h'.sub (by simp)))⟩) ?_
        refine ops_conv (l' := [(103, vP g156 (m213 * 3)), (101, .agg #[.string x110.v, vI x110.rank, vI x110.came]), (0, vP b_q 0), (6, vI (IntKind.i64.wrap ((q_0.length : Int) - 1))), (7, vP b12 0), (9, vI i88)]) (M' := Mem w0 (orow (some ⟨g156, 0, none⟩) l148.length c_q_0 170 3 y225 :: .blk b_q [.slice (some ⟨g156, 0, none⟩) l148.length c_q_0, vI q_1] 145 :: .blk b12 [.string x2.v, vI x2.rank, vI x2.came] 170 :: Fz F W :: cs)) (by first | rfl | rw [hl224]) (fun w_ hM => by first | exact hM | (rw [hl224] at hM; exact hM)) ?_
        refine oR [] [(0, vP b_q 0), (6, vI (IntKind.i64.wrap ((q_0.length : Int) - 1))), (7, vP b12 0), (9, vI i88)] [0, 6, 7, 9] (by kernel_rfl) ?_
        refine ops_nil ?_
        exact fin_join HJ4 ((some ⟨g156, 0, none⟩), l148, y225) ⟨hp, h227⟩ (look_has ⟨rfl, rfl, rfl, rfl, trivial⟩) (fun w_ hM => hM.pick 4 [1, 0, 2, 3] (by kernel_rfl) (by decide) rfl)
   · --
    intro HJ3
    refine st_seq ?_
    refine st_seq ?_
    refine st_region [oF 0, oF 1, oF 2, oF 3, oF 4, oF 5, oF 6, oF 7, oF 8, oF 9, oF 10] (by rfl) ?_
    refine oR [oF 0, oF 1, oF 2, oF 3, oF 4] [(60, .bool (decide (IntKind.i64.wrap (IntKind.i64.wrap (IntKind.i64.wrap (2 * i84) + 1) + 1) < IntKind.i64.wrap ((q_0.length : Int) - 1)))), (9, vI (IntKind.i64.wrap (IntKind.i64.wrap (2 * i84) + 1))), (0, vP b_q 0), (6, vI (IntKind.i64.wrap ((q_0.length : Int) - 1))), (7, vP b12 0), (8, vI i84)] [60, 9, 0, 6, 7, 8] (by kernel_rfl) ?_
    refine ops_bool (t := decide (IntKind.i64.wrap (IntKind.i64.wrap (IntKind.i64.wrap (2 * i84) + 1) + 1) < IntKind.i64.wrap ((q_0.length : Int) - 1))) (l1 := [(60, .bool true), (9, vI (IntKind.i64.wrap (IntKind.i64.wrap (2 * i84) + 1))), (0, vP b_q 0), (6, vI (IntKind.i64.wrap ((q_0.length : Int) - 1))), (7, vP b12 0), (8, vI i84)]) (l2 := [(60, .bool false), (9, vI (IntKind.i64.wrap (IntKind.i64.wrap (2 * i84) + 1))), (0, vP b_q 0), (6, vI (IntKind.i64.wrap ((q_0.length : Int) - 1))), (7, vP b12 0), (8, vI i84)]) (fun h => by rw [h]) (fun h => by rw [h]) (fun hc229 => ?_) (fun hc229 => ?_)
    · --
     have hp := cnd_t hc229 hp
     refine oR [oF 5, oF 6, oF 7, oF 8] [(64, vI (IntKind.i64.wrap (IntKind.i64.wrap (2 * i84) + 1))), (63, vI (IntKind.i64.wrap (IntKind.i64.wrap (IntKind.i64.wrap (2 * i84) + 1) + 1))), (61, vP b_q 0), (60, .bool true), (9, vI (IntKind.i64.wrap (IntKind.i64.wrap (2 * i84) + 1))), (0, vP b_q 0), (6, vI (IntKind.i64.wrap ((q_0.length : Int) - 1))), (7, vP b12 0), (8, vI i84)] [64, 63, 61, 60, 9, 0, 6, 7, 8] (by kernel_rfl) ?_
     obtain ⟨x230, hv231, hp⟩ := obind hp
     refine ops_conv (l' := [(64, vI (IntKind.i64.wrap (IntKind.i64.wrap (2 * i84) + 1))), (63, vI x230), (61, vP b_q 0), (60, .bool true), (9, vI (IntKind.i64.wrap (IntKind.i64.wrap (2 * i84) + 1))), (0, vP b_q 0), (6, vI (IntKind.i64.wrap ((q_0.length : Int) - 1))), (7, vP b12 0), (8, vI i84)]) (by rw [← Option.some.inj hv231]) (fun _ h => h) ?_
     obtain ⟨x232, hv233, hp⟩ := obind hp
     refine ops_callI (σ := (Option Addr) × (List Value)) (d := some 65) (f := 136) (args := #[vP b_q 0, vI x230, vI (IntKind.i64.wrap (IntKind.i64.wrap (2 * i84) + 1))]) (v := (fun x_ => match x_ with | (A234, y235) => .bool x232)) (I := (fun x_ => match x_ with | (A234, y235) => (RepL R_queue_item_string F W l81 y235))) (M' := (fun x_ => match x_ with | (A234, y235) => Mem w0 (orow A234 l81.length c_q_0 170 3 y235 :: .blk b_q [.slice A234 l81.length c_q_0, vI q_1] 145 :: .blk b12 [.string x2.v, vI x2.rank, vI x2.came] 170 :: Fz F W :: cs))) ⟨by kernel_rfl⟩ (fun w_ hM hS => (queue_Queue_string_before_ok w0 w_ (.blk b12 [.string x2.v, vI x2.rank, vI x2.came] 170 :: cs) F W b_q A80 c_q_0 l81 y82 q_1 x230 (IntKind.i64.wrap (IntKind.i64.wrap (2 * i84) + 1)) (hM.pick 4 [0, 1, 3, 2] (by kernel_rfl) (by decide) rfl) h83 x232 hv233).mono (by rintro e w' ⟨A234, y235, h236, rfl, h'⟩; have h' : Mem w0 (orow A234 l81.length c_q_0 170 3 y235 :: .blk b_q [.slice A234 l81.length c_q_0, vI q_1] 145 :: .blk b12 [.string x2.v, vI x2.rank, vI x2.came] 170 :: Fz F W :: cs) w' := (h'.pick 4 [1, 0, 3, 2] (by kernel_rfl) (by decide) rfl); exact ⟨(A234, y235), h236, rfl, h', trivial⟩)) ?_
     rintro ⟨A234, y235⟩ h236
     refine ops_conv (l' := [(65, .bool x232), (64, vI (IntKind.i64.wrap (IntKind.i64.wrap (2 * i84) + 1))), (63, vI x230), (61, vP b_q 0), (60, .bool true), (9, vI (IntKind.i64.wrap (IntKind.i64.wrap (2 * i84) + 1))), (0, vP b_q 0), (6, vI (IntKind.i64.wrap ((q_0.length : Int) - 1))), (7, vP b12 0), (8, vI i84)]) (M' := Mem w0 (orow A234 l81.length c_q_0 170 3 y235 :: .blk b_q [.slice A234 l81.length c_q_0, vI q_1] 145 :: .blk b12 [.string x2.v, vI x2.rank, vI x2.came] 170 :: Fz F W :: cs)) rfl (fun _ h => h) ?_
     refine oR [oF 10] [(66, .bool x232), (9, vI (IntKind.i64.wrap (IntKind.i64.wrap (2 * i84) + 1))), (0, vP b_q 0), (6, vI (IntKind.i64.wrap ((q_0.length : Int) - 1))), (7, vP b12 0), (8, vI i84)] [66, 9, 0, 6, 7, 8] (by kernel_rfl) ?_
     refine ops_nil ?_
     refine fin_then ?_
     refine st_if (b := x232) rfl (fun hc237 => ?_) (fun hc237 => ?_)
     · --
      have hp := cnd_t hc237 hp
      refine st_region [oF 0, oF 1, oF 2] (by rfl) ?_
      refine oR [oF 0, oF 1, oF 2] [(9, vI (IntKind.i64.wrap (IntKind.i64.wrap (IntKind.i64.wrap (2 * i84) + 1) + 1))), (0, vP b_q 0), (6, vI (IntKind.i64.wrap ((q_0.length : Int) - 1))), (7, vP b12 0), (8, vI i84)] [9, 0, 6, 7, 8] (by kernel_rfl) ?_
      obtain ⟨x238, hv239, hp⟩ := obind hp
      refine ops_conv (l' := [(9, vI x238), (0, vP b_q 0), (6, vI (IntKind.i64.wrap ((q_0.length : Int) - 1))), (7, vP b12 0), (8, vI i84)]) (by rw [← Option.some.inj hv239]) (fun _ h => h) ?_
      refine ops_nil ?_
      exact fin_join HJ3 (A234, y235, x238) ⟨hp, h236⟩ (look_has ⟨rfl, rfl, rfl, rfl, rfl, trivial⟩) (fun w_ hM => hM.pick 4 [1, 0, 2, 3] (by kernel_rfl) (by decide) rfl)
     · --
      have hp := cnd_f hc237 hp
      refine st_skip ?_
      exact fin_join HJ3 (A234, y235, IntKind.i64.wrap (IntKind.i64.wrap (2 * i84) + 1)) ⟨hp, h236⟩ (look_has ⟨rfl, rfl, rfl, rfl, rfl, trivial⟩) (fun w_ hM => hM.pick 4 [1, 0, 2, 3] (by kernel_rfl) (by decide) rfl)
    · --
     have hp := cnd_f hc229 hp
     refine oR [oF 5, oF 6, oF 7, oF 8, oF 9, oF 10] [(66, .bool false), (9, vI (IntKind.i64.wrap (IntKind.i64.wrap (2 * i84) + 1))), (0, vP b_q 0), (6, vI (IntKind.i64.wrap ((q_0.length : Int) - 1))), (7, vP b12 0), (8, vI i84)] [66, 9, 0, 6, 7, 8] (by kernel_rfl) ?_
     refine ops_nil ?_
     refine fin_then ?_
     refine st_false rfl ?_
     refine st_skip ?_
     exact fin_join HJ3 (A80, y82, IntKind.i64.wrap (IntKind.i64.wrap (2 * i84) + 1)) ⟨hp, h83⟩ (look_has ⟨rfl, rfl, rfl, rfl, rfl, trivial⟩) (fun w_ hM => hM)
set_option maxHeartbeats 4000000 in
set_option maxRecDepth 100000 in
theorem queue_Queue_string_Len_ok (w0 w : World) (cs : List Chunk) (F : Nat → Prop) (W : World) (b_q : Nat) (A_q_0 : Option Addr) (c_q_0 : Nat) (q_0 : List queue_item_string) (y_q_0 : List Value) (q_1 : Int) (hM0 : Mem w0 (.blk b_q [.slice A_q_0 q_0.length c_q_0, vI q_1] 145 :: orow A_q_0 q_0.length c_q_0 170 3 y_q_0 :: Fz F W :: cs) w) (h_q_0 : RepL R_queue_item_string F W q_0 y_q_0) (i9001 : Int) (hp : queue_Queue_string_Len q_0 q_1 = some i9001) : Calls Try.prog 114 #[vP b_q 0] w fun e w' => ∃ (y9002 : List Value), ((RepL R_queue_item_string F W q_0 y9002)) ∧ e = .returned (vI i9001) ∧ Mem w0 (.blk b_q [.slice A_q_0 q_0.length c_q_0, vI q_1] 145 :: orow A_q_0 q_0.length c_q_0 170 3 y9002 :: Fz F W :: cs) w' := by
 unfold queue_Queue_string_Len at hp
 refine sx_calls Try.func114 rfl (n := 8) (by kernel_rfl) (l := [(0, vP b_q 0)]) rfl (by rfl) hM0 ?_
 refine st_seq ?_
 refine st_region [oF 0] (by rfl) ?_
 refine oR [oF 0] [(0, vP b_q 0)] [0] (by kernel_rfl) ?_
 refine ops_nil ?_
 refine fin_then ?_
 refine st_seq ?_
 refine st_region [oF 0, oF 1, oF 2, oF 3, oF 4, oF 5] (by rfl) ?_
 refine oR [oF 0, oF 1, oF 2] [(5, vP b_q 0)] [5] (by kernel_rfl) ?_
 refine ops_mem (d := some 6) (an := [.v (.slice A_q_0 q_0.length c_q_0)]) (evs := [.load ⟨b_q, 0, none⟩ (.slice A_q_0 q_0.length c_q_0)]) (v := .slice A_q_0 q_0.length c_q_0) (M' := Mem w0 (.blk b_q [.slice A_q_0 q_0.length c_q_0, vI q_1] 145 :: orow A_q_0 q_0.length c_q_0 170 3 y_q_0 :: Fz F W :: cs)) ⟨by kernel_rfl⟩ (fun w_ hM hS => ⟨w_, ⟨hM.cell 0 rfl rfl, rfl⟩, hM, trivial⟩) ?_
 refine oR [oF 4, oF 5] [(2, vI (q_0.length : Int))] [2] (by kernel_rfl) ?_
 refine ops_nil ?_
 refine fin_then ?_
 refine st_ret ?_
 have hq_ := Option.some.inj hp
 have hr0_ := hq_
 subst hr0_
 refine fin_ret [.tmp 2] [vI (q_0.length : Int)] rfl rfl (fun w_ hM => (.tmp rfl .nil)) (fun w_ hM => ?_)
 exact ⟨y_q_0, h_q_0, rfl, hM⟩
set_option maxHeartbeats 4000000 in
set_option maxRecDepth 100000 in
theorem tourlaw1_queueBegun_ok (w0 w : World) (cs : List Chunk) (F : Nat → Prop) (W : World) (hM0 : Mem w0 (Fz F W :: cs) w) (t9001 : Bool) (hp : tourlaw1_queueBegun = some t9001) : Calls Try.prog 52 #[] w fun e w' => (True) ∧ e = .returned (.bool t9001) ∧ Mem w0 (Fz F W :: cs) w' := by
 unfold tourlaw1_queueBegun at hp
 refine sx_calls Try.func52 rfl (n := 26) (by kernel_rfl) (l := []) rfl (by rfl) hM0 ?_
 refine st_seq ?_
 refine st_region [oF 0] (by rfl) ?_
 refine oR [oF 0] [] [] (by kernel_rfl) ?_
 refine ops_nil ?_
 refine fin_then ?_
 refine st_seq ?_
 refine st_region [oF 0] (by rfl) ?_
 refine ops_new (d := some 1) (o := .cells #[.slice none 0 0, vI 0] 145) (v := fun b1 => vP b1 0) (M' := fun b1 => Mem w0 (.blk b1 [.slice none 0 0, vI 0] 145 :: Fz F W :: cs)) (fun b1 => ⟨by kernel_rfl⟩) (fun w_ hM hS => ⟨hM.blk [.slice none 0 0, vI 0] 145, trivial⟩) (fun b1 => ?_)
 refine ops_nil ?_
 refine fin_then ?_
 refine st_seq ?_
 refine st_region [oF 0] (by rfl) ?_
 refine ops_conv (l' := [(1, vP b1 0)]) (M' := Mem w0 (orow none ([] : List queue_item_string).length 0 170 3 [] :: .blk b1 [.slice none 0 0, vI 0] 145 :: Fz F W :: cs)) rfl (fun w_ h => h.onil none 170 3) ?_
 refine ops_conv (l' := [(1, vP b1 0)]) (M' := Mem w0 (orow none ([] : List queue_item_string).length 0 170 3 [] :: .blk b1 [.slice none ([] : List queue_item_string).length 0, vI 0] 145 :: Fz F W :: cs)) rfl (fun _ h => h) ?_
 obtain ⟨x2, x3, x4, hv5, hp⟩ := obind3 hp
 refine ops_callI (σ := (Option Addr) × Nat × (List Value)) (d := some 5) (f := 112) (args := #[vP b1 0, .string (⟨#[98]⟩), vI 2]) (v := (fun x_ => match x_ with | (A6, c7, y8) => vI x2)) (I := (fun x_ => match x_ with | (A6, c7, y8) => (RepL R_queue_item_string F W x3 y8))) (M' := (fun x_ => match x_ with | (A6, c7, y8) => Mem w0 (orow A6 x3.length c7 170 3 y8 :: .blk b1 [.slice A6 x3.length c7, vI x4] 145 :: Fz F W :: cs))) ⟨by kernel_rfl⟩ (fun w_ hM hS => (queue_Queue_string_Put_ok w0 w_ (cs) F W b1 none 0 ([] : List queue_item_string) [] 0 (⟨#[98]⟩) 2 (hM.pick 3 [1, 0, 2] (by kernel_rfl) (by decide) rfl) (RepL.nil (R := R_queue_item_string)) x2 x3 x4 hv5).mono (by rintro e w' ⟨A6, c7, y8, h9, rfl, h'⟩; have h' : Mem w0 (orow A6 x3.length c7 170 3 y8 :: .blk b1 [.slice A6 x3.length c7, vI x4] 145 :: Fz F W :: cs) w' := (h'.pick 3 [1, 0, 2] (by kernel_rfl) (by decide) rfl); exact ⟨(A6, c7, y8), h9, rfl, h', trivial⟩)) ?_
 rintro ⟨A6, c7, y8⟩ h9
 refine ops_conv (l' := [(5, vI x2), (1, vP b1 0)]) (M' := Mem w0 (orow A6 x3.length c7 170 3 y8 :: .blk b1 [.slice A6 x3.length c7, vI x4] 145 :: Fz F W :: cs)) rfl (fun _ h => h) ?_
 refine oR [] [(1, vP b1 0)] [1] (by kernel_rfl) ?_
 refine ops_nil ?_
 refine fin_then ?_
 refine st_seq ?_
 refine st_region [oF 0] (by rfl) ?_
 obtain ⟨x10, x11, x12, hv13, hp⟩ := obind3 hp
 refine ops_callI (σ := (Option Addr) × Nat × (List Value)) (d := some 6) (f := 112) (args := #[vP b1 0, .string (⟨#[97]⟩), vI 1]) (v := (fun x_ => match x_ with | (A14, c15, y16) => vI x10)) (I := (fun x_ => match x_ with | (A14, c15, y16) => (RepL R_queue_item_string F W x11 y16))) (M' := (fun x_ => match x_ with | (A14, c15, y16) => Mem w0 (orow A14 x11.length c15 170 3 y16 :: .blk b1 [.slice A14 x11.length c15, vI x12] 145 :: Fz F W :: cs))) ⟨by kernel_rfl⟩ (fun w_ hM hS => (queue_Queue_string_Put_ok w0 w_ (cs) F W b1 A6 c7 x3 y8 x4 (⟨#[97]⟩) 1 (hM.pick 3 [1, 0, 2] (by kernel_rfl) (by decide) rfl) h9 x10 x11 x12 hv13).mono (by rintro e w' ⟨A14, c15, y16, h17, rfl, h'⟩; have h' : Mem w0 (orow A14 x11.length c15 170 3 y16 :: .blk b1 [.slice A14 x11.length c15, vI x12] 145 :: Fz F W :: cs) w' := (h'.pick 3 [1, 0, 2] (by kernel_rfl) (by decide) rfl); exact ⟨(A14, c15, y16), h17, rfl, h', trivial⟩)) ?_
 rintro ⟨A14, c15, y16⟩ h17
 refine ops_conv (l' := [(6, vI x10), (1, vP b1 0)]) (M' := Mem w0 (orow A14 x11.length c15 170 3 y16 :: .blk b1 [.slice A14 x11.length c15, vI x12] 145 :: Fz F W :: cs)) rfl (fun _ h => h) ?_
 refine oR [] [(1, vP b1 0)] [1] (by kernel_rfl) ?_
 refine ops_nil ?_
 refine fin_then ?_
 refine st_seq ?_
 refine st_region [oF 0, oF 1, oF 2, oF 3, oF 4, oF 5, oF 6, oF 7] (by rfl) ?_
 obtain ⟨x18, x19, x20, x21, hv22, hp⟩ := obind4 hp
 refine ops_callI (σ := (Option Addr) × (List Value)) (d := some 8) (f := 113) (args := #[vP b1 0]) (v := (fun x_ => match x_ with | (A23, y24) => .tuple #[.string x18, vI x19, vI x20])) (I := (fun x_ => match x_ with | (A23, y24) => (RepL R_queue_item_string F W x21 y24))) (M' := (fun x_ => match x_ with | (A23, y24) => Mem w0 (orow A23 x21.length c15 170 3 y24 :: .blk b1 [.slice A23 x21.length c15, vI x12] 145 :: Fz F W :: cs))) ⟨by kernel_rfl⟩ (fun w_ hM hS => (queue_Queue_string_Take_ok w0 w_ (cs) F W b1 A14 c15 x11 y16 x12 (hM.pick 3 [1, 0, 2] (by kernel_rfl) (by decide) rfl) h17 x18 x19 x20 x21 hv22).mono (by rintro e w' ⟨A23, y24, h25, rfl, h'⟩; have h' : Mem w0 (orow A23 x21.length c15 170 3 y24 :: .blk b1 [.slice A23 x21.length c15, vI x12] 145 :: Fz F W :: cs) w' := (h'.pick 3 [1, 0, 2] (by kernel_rfl) (by decide) rfl); exact ⟨(A23, y24), h25, rfl, h', trivial⟩)) ?_
 rintro ⟨A23, y24⟩ h25
 refine ops_conv (l' := [(8, .tuple #[.string x18, vI x19, vI x20]), (1, vP b1 0)]) (M' := Mem w0 (orow A23 x21.length c15 170 3 y24 :: .blk b1 [.slice A23 x21.length c15, vI x12] 145 :: Fz F W :: cs)) rfl (fun _ h => h) ?_
 refine oR [oF 1, oF 2, oF 3, oF 4, oF 5, oF 6, oF 7] [(4, vI x20), (3, vI x19), (2, .string x18), (1, vP b1 0)] [4, 3, 2, 1] (by kernel_rfl) ?_
 refine ops_nil ?_
 refine fin_then ?_
 refine st_join1 (σ := Bool) (L := fun x_ => match x_ with | t26 => [(0, .bool t26)]) (N := fun x_ => match x_ with | t26 => Mem w0 (Fz F W :: cs)) (I := fun x_ => match x_ with | t26 => (tourlaw1_queueBegun_j1 t26 = some t9001)) ?_ ?_
 · --
  rintro t26 hp
  refine st_conv (l' := [(0, .bool t26)]) (M' := Mem w0 (Fz F W :: cs)) rfl (fun _ h => h) ?_
  unfold tourlaw1_queueBegun_j1 at hp
  refine st_ret ?_
  have hq_ := Option.some.inj hp
  have hr0_ := hq_
  subst hr0_
  refine fin_ret [.tmp 0] [.bool t26] rfl rfl (fun w_ hM => (.tmp rfl .nil)) (fun w_ hM => ?_)
  exact ⟨trivial, rfl, hM⟩
 · --
  intro HJ1
  refine st_seq ?_
  refine st_region [oF 0, oF 1, oF 2, oF 3, oF 4, oF 5, oF 6, oF 7, oF 8, oF 9, oF 10, oF 11, oF 12, oF 13, oF 14] (by rfl) ?_
  refine oR [oF 0, oF 1, oF 2] [(14, .bool (x18.toList == (⟨#[97]⟩ : ByteArray).toList)), (4, vI x20), (3, vI x19), (1, vP b1 0)] [14, 4, 3, 1] (by kernel_rfl) ?_
  refine ops_bool (t := (x18.toList == (⟨#[97]⟩ : ByteArray).toList)) (l1 := [(14, .bool true), (4, vI x20), (3, vI x19), (1, vP b1 0)]) (l2 := [(14, .bool false), (4, vI x20), (3, vI x19), (1, vP b1 0)]) (fun h => by rw [h]) (fun h => by rw [h]) (fun hc27 => ?_) (fun hc27 => ?_)
  · --
   have hp := cnd_t hc27 hp
   refine oR [oF 3, oF 4, oF 5, oF 6] [(18, .bool (x19 == 1)), (4, vI x20), (1, vP b1 0)] [18, 4, 1] (by kernel_rfl) ?_
   refine ops_bool (t := (x19 == 1)) (l1 := [(18, .bool true), (4, vI x20), (1, vP b1 0)]) (l2 := [(18, .bool false), (4, vI x20), (1, vP b1 0)]) (fun h => by rw [h]) (fun h => by rw [h]) (fun hc28 => ?_) (fun hc28 => ?_)
   · --
    have hp := cnd_t hc28 hp
    refine oR [oF 7, oF 8, oF 9, oF 10] [(22, .bool (x20 == 0)), (1, vP b1 0)] [22, 1] (by kernel_rfl) ?_
    refine ops_bool (t := (x20 == 0)) (l1 := [(22, .bool true), (1, vP b1 0)]) (l2 := [(22, .bool false), (1, vP b1 0)]) (fun h => by rw [h]) (fun h => by rw [h]) (fun hc29 => ?_) (fun hc29 => ?_)
    · --
     have hp := cnd_t hc29 hp
     obtain ⟨x30, hv31, hp⟩ := obind hp
     refine ops_callI (σ := (List Value)) (d := some 23) (f := 114) (args := #[vP b1 0]) (v := (fun x_ => match x_ with | y32 => vI x30)) (I := (fun x_ => match x_ with | y32 => (RepL R_queue_item_string F W x21 y32))) (M' := (fun x_ => match x_ with | y32 => Mem w0 (orow A23 x21.length c15 170 3 y32 :: .blk b1 [.slice A23 x21.length c15, vI x12] 145 :: Fz F W :: cs))) ⟨by kernel_rfl⟩ (fun w_ hM hS => (queue_Queue_string_Len_ok w0 w_ (cs) F W b1 A23 c15 x21 y24 x12 (hM.pick 3 [1, 0, 2] (by kernel_rfl) (by decide) rfl) h25 x30 hv31).mono (by rintro e w' ⟨y32, h33, rfl, h'⟩; have h' : Mem w0 (orow A23 x21.length c15 170 3 y32 :: .blk b1 [.slice A23 x21.length c15, vI x12] 145 :: Fz F W :: cs) w' := (h'.pick 3 [1, 0, 2] (by kernel_rfl) (by decide) rfl); exact ⟨y32, h33, rfl, h', trivial⟩)) ?_
     rintro y32 h33
     refine ops_conv (l' := [(23, vI x30), (22, .bool true), (1, vP b1 0)]) (M' := Mem w0 (orow A23 x21.length c15 170 3 y32 :: .blk b1 [.slice A23 x21.length c15, vI x12] 145 :: Fz F W :: cs)) rfl (fun _ h => h) ?_
     refine oR [oF 12, oF 13, oF 14] [(0, .bool (x30 == 1))] [0] (by kernel_rfl) ?_
     refine ops_nil ?_
     exact fin_join HJ1 (x30 == 1) hp (look_has ⟨rfl, trivial⟩) (fun w_ hM => hM.pick 3 [2] (by kernel_rfl) (by decide) rfl)
    · --
     have hp := cnd_f hc29 hp
     refine oR [oF 11, oF 12, oF 13, oF 14] [(0, .bool false)] [0] (by kernel_rfl) ?_
     refine ops_nil ?_
     exact fin_join HJ1 false hp (look_has ⟨rfl, trivial⟩) (fun w_ hM => hM.pick 3 [2] (by kernel_rfl) (by decide) rfl)
   · --
    have hp := cnd_f hc28 hp
    refine oR [oF 7, oF 8, oF 9, oF 10, oF 11, oF 12, oF 13, oF 14] [(0, .bool false)] [0] (by kernel_rfl) ?_
    refine ops_nil ?_
    exact fin_join HJ1 false hp (look_has ⟨rfl, trivial⟩) (fun w_ hM => hM.pick 3 [2] (by kernel_rfl) (by decide) rfl)
  · --
   have hp := cnd_f hc27 hp
   refine oR [oF 3, oF 4, oF 5, oF 6, oF 7, oF 8, oF 9, oF 10, oF 11, oF 12, oF 13, oF 14] [(0, .bool false)] [0] (by kernel_rfl) ?_
   refine ops_nil ?_
   exact fin_join HJ1 false hp (look_has ⟨rfl, trivial⟩) (fun w_ hM => hM.pick 3 [2] (by kernel_rfl) (by decide) rfl)
set_option maxHeartbeats 4000000 in
set_option maxRecDepth 100000 in
theorem queue_Queue_int_before_ok (w0 w : World) (cs : List Chunk) (F : Nat → Prop) (W : World) (b_q : Nat) (A_q_0 : Option Addr) (c_q_0 : Nat) (q_0 : List queue_item_int) (y_q_0 : List Value) (q_1 : Int) (i : Int) (k : Int) (hM0 : Mem w0 (.blk b_q [.slice A_q_0 q_0.length c_q_0, vI q_1] 78 :: orow A_q_0 q_0.length c_q_0 151 3 y_q_0 :: Fz F W :: cs) w) (h_q_0 : RepL R_queue_item_int F W q_0 y_q_0) (t9001 : Bool) (hp : queue_Queue_int_before q_0 q_1 i k = some t9001) : Calls Try.prog 115 #[vP b_q 0, vI i, vI k] w fun e w' => ∃ (A9002 : Option Addr), ∃ (y9003 : List Value), ((RepL R_queue_item_int F W q_0 y9003)) ∧ e = .returned (.bool t9001) ∧ Mem w0 (.blk b_q [.slice A9002 q_0.length c_q_0, vI q_1] 78 :: orow A9002 q_0.length c_q_0 151 3 y9003 :: Fz F W :: cs) w' := by
 unfold queue_Queue_int_before at hp
 refine sx_calls Try.func115 rfl (n := 38) (by kernel_rfl) (l := [(0, vP b_q 0), (1, vI i), (2, vI k)]) rfl (by rfl) hM0 ?_
 refine st_seq ?_
 refine st_region [oF 0] (by rfl) ?_
 refine oR [oF 0] [(0, vP b_q 0), (1, vI i), (2, vI k)] [0, 1, 2] (by kernel_rfl) ?_
 refine ops_nil ?_
 refine fin_then ?_
 refine st_join1 (σ := Nat × Int × Int × Int × Nat × Int × Int × Int × (Option Addr) × (List Value)) (L := fun x_ => match x_ with | (b1, i2, i3, i4, b5, i6, i7, i8, A9, y10) => [(7, vP b1 0), (8, vP b5 0)]) (N := fun x_ => match x_ with | (b1, i2, i3, i4, b5, i6, i7, i8, A9, y10) => Mem w0 (.blk b1 [vI i2, vI i3, vI i4] 151 :: .blk b5 [vI i6, vI i7, vI i8] 151 :: .blk b_q [.slice A9 q_0.length c_q_0, vI q_1] 78 :: orow A9 q_0.length c_q_0 151 3 y10 :: Fz F W :: cs)) (I := fun x_ => match x_ with | (b1, i2, i3, i4, b5, i6, i7, i8, A9, y10) => (queue_Queue_int_before_j1 i2 i3 i4 i6 i7 i8 = some t9001) ∧ (RepL R_queue_item_int F W q_0 y10)) ?_ ?_
 · --
  rintro ⟨b1, i2, i3, i4, b5, i6, i7, i8, A9, y10⟩ ⟨hp, h11⟩
  refine st_conv (l' := [(7, vP b1 0), (8, vP b5 0)]) (M' := Mem w0 (.blk b1 [vI i2, vI i3, vI i4] 151 :: .blk b5 [vI i6, vI i7, vI i8] 151 :: .blk b_q [.slice A9 q_0.length c_q_0, vI q_1] 78 :: orow A9 q_0.length c_q_0 151 3 y10 :: Fz F W :: cs)) rfl (fun _ h => h) ?_
  unfold queue_Queue_int_before_j1 at hp
  refine st_seq ?_
  refine st_seq ?_
  refine st_region [oF 0, oF 1, oF 2, oF 3, oF 4] (by rfl) ?_
  refine oR [oF 0] [(23, vP b1 1), (7, vP b1 0), (8, vP b5 0)] [23, 7, 8] (by kernel_rfl) ?_
  refine ops_mem (d := some 24) (an := [.v (vI i3)]) (evs := [.load ⟨b1, 1, none⟩ (vI i3)]) (v := vI i3) (M' := Mem w0 (.blk b1 [vI i2, vI i3, vI i4] 151 :: .blk b5 [vI i6, vI i7, vI i8] 151 :: .blk b_q [.slice A9 q_0.length c_q_0, vI q_1] 78 :: orow A9 q_0.length c_q_0 151 3 y10 :: Fz F W :: cs)) ⟨by kernel_rfl⟩ (fun w_ hM hS => ⟨w_, ⟨hM.cell 0 rfl rfl, rfl⟩, hM, trivial⟩) ?_
  refine oR [oF 2] [(25, vP b5 1), (24, vI i3), (7, vP b1 0), (8, vP b5 0)] [25, 24, 7, 8] (by kernel_rfl) ?_
  refine ops_mem (d := some 26) (an := [.v (vI i7)]) (evs := [.load ⟨b5, 1, none⟩ (vI i7)]) (v := vI i7) (M' := Mem w0 (.blk b1 [vI i2, vI i3, vI i4] 151 :: .blk b5 [vI i6, vI i7, vI i8] 151 :: .blk b_q [.slice A9 q_0.length c_q_0, vI q_1] 78 :: orow A9 q_0.length c_q_0 151 3 y10 :: Fz F W :: cs)) ⟨by kernel_rfl⟩ (fun w_ hM hS => ⟨w_, ⟨hM.cell 1 rfl rfl, rfl⟩, hM, trivial⟩) ?_
  refine oR [oF 4] [(27, .bool (!(i3 == i7))), (7, vP b1 0), (8, vP b5 0)] [27, 7, 8] (by kernel_rfl) ?_
  refine ops_nil ?_
  refine fin_then ?_
  refine st_if (b := !(i3 == i7)) rfl (fun hc12 => ?_) (fun hc12 => ?_)
  · --
   have hp := cnd_t hc12 hp
   refine st_seq ?_
   refine st_region [oF 0, oF 1, oF 2, oF 3, oF 4, oF 5] (by rfl) ?_
   refine oR [oF 0] [(28, vP b1 1), (8, vP b5 0)] [28, 8] (by kernel_rfl) ?_
   refine ops_mem (d := some 29) (an := [.v (vI i3)]) (evs := [.load ⟨b1, 1, none⟩ (vI i3)]) (v := vI i3) (M' := Mem w0 (.blk b1 [vI i2, vI i3, vI i4] 151 :: .blk b5 [vI i6, vI i7, vI i8] 151 :: .blk b_q [.slice A9 q_0.length c_q_0, vI q_1] 78 :: orow A9 q_0.length c_q_0 151 3 y10 :: Fz F W :: cs)) ⟨by kernel_rfl⟩ (fun w_ hM hS => ⟨w_, ⟨hM.cell 0 rfl rfl, rfl⟩, hM, trivial⟩) ?_
   refine oR [oF 2] [(30, vP b5 1), (29, vI i3)] [30, 29] (by kernel_rfl) ?_
   refine ops_mem (d := some 31) (an := [.v (vI i7)]) (evs := [.load ⟨b5, 1, none⟩ (vI i7)]) (v := vI i7) (M' := Mem w0 (.blk b1 [vI i2, vI i3, vI i4] 151 :: .blk b5 [vI i6, vI i7, vI i8] 151 :: .blk b_q [.slice A9 q_0.length c_q_0, vI q_1] 78 :: orow A9 q_0.length c_q_0 151 3 y10 :: Fz F W :: cs)) ⟨by kernel_rfl⟩ (fun w_ hM hS => ⟨w_, ⟨hM.cell 1 rfl rfl, rfl⟩, hM, trivial⟩) ?_
   refine oR [oF 4, oF 5] [(6, .bool (decide (i3 < i7)))] [6] (by kernel_rfl) ?_
   refine ops_nil ?_
   refine fin_then ?_
   refine st_ret ?_
   refine fin_ret_then ?_
   have hq_ := Option.some.inj hp
   have hr0_ := hq_
   subst hr0_
   refine fin_ret [.tmp 6] [.bool (decide (i3 < i7))] rfl rfl (fun w_ hM => (.tmp rfl .nil)) (fun w_ hM => ?_)
   exact ⟨A9, y10, h11, rfl, hM.pick 5 [2, 3, 4] (by kernel_rfl) (by decide) rfl⟩
  · --
   have hp := cnd_f hc12 hp
   refine st_skip ?_
   refine fin_then ?_
   refine st_seq ?_
   refine st_region [oF 0, oF 1, oF 2, oF 3, oF 4, oF 5] (by rfl) ?_
   refine oR [oF 0] [(33, vP b1 2), (8, vP b5 0)] [33, 8] (by kernel_rfl) ?_
   refine ops_mem (d := some 34) (an := [.v (vI i4)]) (evs := [.load ⟨b1, 2, none⟩ (vI i4)]) (v := vI i4) (M' := Mem w0 (.blk b1 [vI i2, vI i3, vI i4] 151 :: .blk b5 [vI i6, vI i7, vI i8] 151 :: .blk b_q [.slice A9 q_0.length c_q_0, vI q_1] 78 :: orow A9 q_0.length c_q_0 151 3 y10 :: Fz F W :: cs)) ⟨by kernel_rfl⟩ (fun w_ hM hS => ⟨w_, ⟨hM.cell 0 rfl rfl, rfl⟩, hM, trivial⟩) ?_
   refine oR [oF 2] [(35, vP b5 2), (34, vI i4)] [35, 34] (by kernel_rfl) ?_
   refine ops_mem (d := some 36) (an := [.v (vI i8)]) (evs := [.load ⟨b5, 2, none⟩ (vI i8)]) (v := vI i8) (M' := Mem w0 (.blk b1 [vI i2, vI i3, vI i4] 151 :: .blk b5 [vI i6, vI i7, vI i8] 151 :: .blk b_q [.slice A9 q_0.length c_q_0, vI q_1] 78 :: orow A9 q_0.length c_q_0 151 3 y10 :: Fz F W :: cs)) ⟨by kernel_rfl⟩ (fun w_ hM hS => ⟨w_, ⟨hM.cell 1 rfl rfl, rfl⟩, hM, trivial⟩) ?_
   refine oR [oF 4, oF 5] [(6, .bool (decide (i4 < i8)))] [6] (by kernel_rfl) ?_
   refine ops_nil ?_
   refine fin_then ?_
   refine st_ret ?_
   have hq_ := Option.some.inj hp
   have hr0_ := hq_
   subst hr0_
   refine fin_ret [.tmp 6] [.bool (decide (i4 < i8))] rfl rfl (fun w_ hM => (.tmp rfl .nil)) (fun w_ hM => ?_)
   exact ⟨A9, y10, h11, rfl, hM.pick 5 [2, 3, 4] (by kernel_rfl) (by decide) rfl⟩
 · --
  intro HJ1
  refine st_seq ?_
  obtain ⟨x13, hv14, hp⟩ := obind hp
  obtain ⟨x23, hv24, hp⟩ := obind hp
  refine st_region_tree (.node [oT 0, oT 1, oT 2, oT 3, oT 4, oT 5, oT 6, oT 7, oT 8, oT 9, oT 10, oT 11, oT 12, oT 13] (.leaf [oF 14, oF 15, oF 16, oF 17]) (.leaf [oF 15, oF 14, oF 16, oF 17])) (Mem w0 (.blk b_q [.slice A_q_0 q_0.length c_q_0, vI q_1] 78 :: orow A_q_0 q_0.length c_q_0 151 3 y_q_0 :: Fz F W :: cs)) (by kernel_rfl) (by kernel_rfl) (by kernel_rfl) (fun _ d _ _ _ h => by cases d <;> exact h) (M' := Mem w0 (.blk b_q [.slice A_q_0 q_0.length c_q_0, vI q_1] 78 :: orow A_q_0 q_0.length c_q_0 151 3 y_q_0 :: Fz F W :: cs)) (fun w_ hM => ⟨hM.drew, hM.drew.sub (.cons_cons _ (.cons_cons _ (.cons_cons _ (.refl _))))⟩) ?_
  refine tree_node ?_
  refine oR [oT 0, oT 1, oT 2] [(11, vP b_q 0), (0, vP b_q 0), (1, vI i), (2, vI k)] [11, 0, 1, 2] (by kernel_rfl) ?_
  refine ops_load (d := some 12) (an := [.v (.slice A_q_0 q_0.length c_q_0)]) (evs := [.load ⟨b_q, 0, none⟩ (.slice A_q_0 q_0.length c_q_0)]) (v := .slice A_q_0 q_0.length c_q_0) ⟨by kernel_rfl⟩ (fun w_ hM => ⟨hM.cell 0 rfl rfl, rfl⟩) ?_
  refine oR [oT 4] [(13, vI i), (12, .slice A_q_0 q_0.length c_q_0), (0, vP b_q 0), (2, vI k)] [13, 12, 0, 2] (by kernel_rfl) ?_
  obtain ⟨m25, hm26, hx27⟩ := idx_some hv14
  have hl30 := (List.getElem?_eq_some_iff.1 hx27).1
  refine ops_fact (fun w_ hM => hM.orowSome 1 rfl (Nat.lt_of_le_of_lt (Nat.zero_le _) hl30)) ?_
  rintro ⟨g31, rfl, -⟩
  obtain ⟨vs28, hr29, hq32⟩ := h_q_0.at_ m25 x13 hx27
  obtain rfl := dec_queue_item_int hr29
  refine ops_val (op := (Go.Op.indexAddr 76 (Go.Operand.tmp 12) (Go.Operand.tmp 13))) (d := some 14) (v := vP g31 (m25 * 3)) ⟨by kernel_rfl⟩ (run_indexRow Try.underlying76 (z := 3) (by kernel_rfl) rfl rfl hm26 hl30 rfl) ?_
  refine oR [] [(14, vP g31 (m25 * 3)), (0, vP b_q 0), (2, vI k)] [14, 0, 2] (by kernel_rfl) ?_
  refine ops_load (d := some 15) (an := [.v (vI x13.v), .v (vI x13.rank), .v (vI x13.came)]) (evs := [.load ⟨g31, m25 * 3, none⟩ (vI x13.v), .load ⟨g31, m25 * 3 + 1, none⟩ (vI x13.rank), .load ⟨g31, m25 * 3 + 2, none⟩ (vI x13.came)]) (v := .agg #[vI x13.v, vI x13.rank, vI x13.came]) ⟨by kernel_rfl⟩ (fun w_ hM => ⟨hM.ocell 1 rfl (hq32 0 _ rfl), hM.ocell 1 rfl (hq32 1 _ rfl), hM.ocell 1 rfl (hq32 2 _ rfl), rfl⟩) ?_
  refine oR [oT 7, oT 8, oT 9] [(18, vP b_q 0), (15, .agg #[vI x13.v, vI x13.rank, vI x13.came]), (2, vI k)] [18, 15, 2] (by kernel_rfl) ?_
  refine ops_load (d := some 19) (an := [.v (.slice (some ⟨g31, 0, none⟩) q_0.length c_q_0)]) (evs := [.load ⟨b_q, 0, none⟩ (.slice (some ⟨g31, 0, none⟩) q_0.length c_q_0)]) (v := .slice (some ⟨g31, 0, none⟩) q_0.length c_q_0) ⟨by kernel_rfl⟩ (fun w_ hM => ⟨hM.cell 0 rfl rfl, rfl⟩) ?_
  refine oR [oT 11] [(20, vI k), (19, .slice (some ⟨g31, 0, none⟩) q_0.length c_q_0), (15, .agg #[vI x13.v, vI x13.rank, vI x13.came])] [20, 19, 15] (by kernel_rfl) ?_
  obtain ⟨m33, hm34, hx35⟩ := idx_some hv24
  have hl38 := (List.getElem?_eq_some_iff.1 hx35).1
  obtain ⟨vs36, hr37, hq39⟩ := h_q_0.at_ m33 x23 hx35
  obtain rfl := dec_queue_item_int hr37
  refine ops_val (op := (Go.Op.indexAddr 76 (Go.Operand.tmp 19) (Go.Operand.tmp 20))) (d := some 21) (v := vP g31 (m33 * 3)) ⟨by kernel_rfl⟩ (run_indexRow Try.underlying76 (z := 3) (by kernel_rfl) rfl rfl hm34 hl38 rfl) ?_
  refine oR [] [(21, vP g31 (m33 * 3)), (15, .agg #[vI x13.v, vI x13.rank, vI x13.came])] [21, 15] (by kernel_rfl) ?_
  refine ops_load (d := some 22) (an := [.v (vI x23.v), .v (vI x23.rank), .v (vI x23.came)]) (evs := [.load ⟨g31, m33 * 3, none⟩ (vI x23.v), .load ⟨g31, m33 * 3 + 1, none⟩ (vI x23.rank), .load ⟨g31, m33 * 3 + 2, none⟩ (vI x23.came)]) (v := .agg #[vI x23.v, vI x23.rank, vI x23.came]) ⟨by kernel_rfl⟩ (fun w_ hM => ⟨hM.ocell 1 rfl (hq39 0 _ rfl), hM.ocell 1 rfl (hq39 1 _ rfl), hM.ocell 1 rfl (hq39 2 _ rfl), rfl⟩) ?_
  refine oR [] [(22, .agg #[vI x23.v, vI x23.rank, vI x23.came]), (15, .agg #[vI x13.v, vI x13.rank, vI x13.came])] [22, 15] (by kernel_rfl) ?_
  refine ops_nil ?_
  refine tree_both ?_ ?_
  · --
   refine tree_leaf ?_
   refine ops_new (d := some 7) (o := .cells #[vI 0, vI 0, vI 0] 151) (v := fun b40 => vP b40 0) (M' := fun b40 => Mem w0 (.blk b40 [vI 0, vI 0, vI 0] 151 :: .blk b_q [.slice (some ⟨g31, 0, none⟩) q_0.length c_q_0, vI q_1] 78 :: orow (some ⟨g31, 0, none⟩) q_0.length c_q_0 151 3 y_q_0 :: Fz F W :: cs)) (fun b40 => ⟨by kernel_rfl⟩) (fun w_ hM hS => ⟨hM.blk [vI 0, vI 0, vI 0] 151, hS.alloc _⟩) (fun b40 => ?_)
   refine ops_new (d := some 8) (o := .cells #[vI 0, vI 0, vI 0] 151) (v := fun b41 => vP b41 0) (M' := fun b41 => Mem w0 (.blk b41 [vI 0, vI 0, vI 0] 151 :: .blk b40 [vI 0, vI 0, vI 0] 151 :: .blk b_q [.slice (some ⟨g31, 0, none⟩) q_0.length c_q_0, vI q_1] 78 :: orow (some ⟨g31, 0, none⟩) q_0.length c_q_0 151 3 y_q_0 :: Fz F W :: cs)) (fun b41 => ⟨by kernel_rfl⟩) (fun w_ hM hS => ⟨hM.blk [vI 0, vI 0, vI 0] 151, hS.alloc _⟩) (fun b41 => ?_)
   refine ops_store (an := []) (evs := [.store ⟨b40, 0, none⟩ (vI x13.v), .store ⟨b40, 1, none⟩ (vI x13.rank), .store ⟨b40, 2, none⟩ (vI x13.came)]) (M' := Mem w0 (.blk b41 [vI 0, vI 0, vI 0] 151 :: .blk b40 [vI x13.v, vI x13.rank, vI x13.came] 151 :: .blk b_q [.slice (some ⟨g31, 0, none⟩) q_0.length c_q_0, vI q_1] 78 :: orow (some ⟨g31, 0, none⟩) q_0.length c_q_0 151 3 y_q_0 :: Fz F W :: cs)) ⟨by kernel_rfl⟩ (fun w_ hM hS => let ⟨w', he, h'⟩ := hM.evs_stores [vI x13.v, vI x13.rank, vI x13.came] 1 rfl 0 (Nat.le_of_ble_eq_true rfl); ⟨w', he, h', (by exact h'.sub (.cons _ (.cons _ (.cons_cons _ (.cons_cons _ (.cons_cons _ (.refl _)))))))⟩) ?_
   refine oR [] [(8, vP b41 0), (7, vP b40 0), (22, .agg #[vI x23.v, vI x23.rank, vI x23.came])] [8, 7, 22] (by kernel_rfl) ?_
   refine ops_store (an := []) (evs := [.store ⟨b41, 0, none⟩ (vI x23.v), .store ⟨b41, 1, none⟩ (vI x23.rank), .store ⟨b41, 2, none⟩ (vI x23.came)]) (M' := Mem w0 (.blk b41 [vI x23.v, vI x23.rank, vI x23.came] 151 :: .blk b40 [vI x13.v, vI x13.rank, vI x13.came] 151 :: .blk b_q [.slice (some ⟨g31, 0, none⟩) q_0.length c_q_0, vI q_1] 78 :: orow (some ⟨g31, 0, none⟩) q_0.length c_q_0 151 3 y_q_0 :: Fz F W :: cs)) ⟨by kernel_rfl⟩ (fun w_ hM hS => let ⟨w', he, h'⟩ := hM.evs_stores [vI x23.v, vI x23.rank, vI x23.came] 0 rfl 0 (Nat.le_of_ble_eq_true rfl); ⟨w', he, h', (by exact h'.sub (.cons _ (.cons _ (.cons_cons _ (.cons_cons _ (.cons_cons _ (.refl _)))))))⟩) ?_
   refine oR [] [(8, vP b41 0), (7, vP b40 0)] [8, 7] (by kernel_rfl) ?_
   refine ops_nil ?_
   exact fin_join HJ1 (b40, x13.v, x13.rank, x13.came, b41, x23.v, x23.rank, x23.came, (some ⟨g31, 0, none⟩), y_q_0) ⟨hp, h_q_0⟩ (look_has ⟨rfl, rfl, trivial⟩) (fun w_ hM => hM.pick 5 [1, 0, 2, 3, 4] (by kernel_rfl) (by decide) rfl)
  · --
   refine tree_leaf ?_
   refine ops_new (d := some 8) (o := .cells #[vI 0, vI 0, vI 0] 151) (v := fun b42 => vP b42 0) (M' := fun b42 => Mem w0 (.blk b42 [vI 0, vI 0, vI 0] 151 :: .blk b_q [.slice (some ⟨g31, 0, none⟩) q_0.length c_q_0, vI q_1] 78 :: orow (some ⟨g31, 0, none⟩) q_0.length c_q_0 151 3 y_q_0 :: Fz F W :: cs)) (fun b42 => ⟨by kernel_rfl⟩) (fun w_ hM hS => ⟨hM.blk [vI 0, vI 0, vI 0] 151, hS.alloc _⟩) (fun b42 => ?_)
   refine ops_new (d := some 7) (o := .cells #[vI 0, vI 0, vI 0] 151) (v := fun b43 => vP b43 0) (M' := fun b43 => Mem w0 (.blk b43 [vI 0, vI 0, vI 0] 151 :: .blk b42 [vI 0, vI 0, vI 0] 151 :: .blk b_q [.slice (some ⟨g31, 0, none⟩) q_0.length c_q_0, vI q_1] 78 :: orow (some ⟨g31, 0, none⟩) q_0.length c_q_0 151 3 y_q_0 :: Fz F W :: cs)) (fun b43 => ⟨by kernel_rfl⟩) (fun w_ hM hS => ⟨hM.blk [vI 0, vI 0, vI 0] 151, hS.alloc _⟩) (fun b43 => ?_)
   refine ops_store (an := []) (evs := [.store ⟨b43, 0, none⟩ (vI x13.v), .store ⟨b43, 1, none⟩ (vI x13.rank), .store ⟨b43, 2, none⟩ (vI x13.came)]) (M' := Mem w0 (.blk b43 [vI x13.v, vI x13.rank, vI x13.came] 151 :: .blk b42 [vI 0, vI 0, vI 0] 151 :: .blk b_q [.slice (some ⟨g31, 0, none⟩) q_0.length c_q_0, vI q_1] 78 :: orow (some ⟨g31, 0, none⟩) q_0.length c_q_0 151 3 y_q_0 :: Fz F W :: cs)) ⟨by kernel_rfl⟩ (fun w_ hM hS => let ⟨w', he, h'⟩ := hM.evs_stores [vI x13.v, vI x13.rank, vI x13.came] 0 rfl 0 (Nat.le_of_ble_eq_true rfl); ⟨w', he, h', (by exact h'.sub (.cons _ (.cons _ (.cons_cons _ (.cons_cons _ (.cons_cons _ (.refl _)))))))⟩) ?_
   refine oR [] [(7, vP b43 0), (8, vP b42 0), (22, .agg #[vI x23.v, vI x23.rank, vI x23.came])] [7, 8, 22] (by kernel_rfl) ?_
   refine ops_store (an := []) (evs := [.store ⟨b42, 0, none⟩ (vI x23.v), .store ⟨b42, 1, none⟩ (vI x23.rank), .store ⟨b42, 2, none⟩ (vI x23.came)]) (M' := Mem w0 (.blk b43 [vI x13.v, vI x13.rank, vI x13.came] 151 :: .blk b42 [vI x23.v, vI x23.rank, vI x23.came] 151 :: .blk b_q [.slice (some ⟨g31, 0, none⟩) q_0.length c_q_0, vI q_1] 78 :: orow (some ⟨g31, 0, none⟩) q_0.length c_q_0 151 3 y_q_0 :: Fz F W :: cs)) ⟨by kernel_rfl⟩ (fun w_ hM hS => let ⟨w', he, h'⟩ := hM.evs_stores [vI x23.v, vI x23.rank, vI x23.came] 1 rfl 0 (Nat.le_of_ble_eq_true rfl); ⟨w', he, h', (by exact h'.sub (.cons _ (.cons _ (.cons_cons _ (.cons_cons _ (.cons_cons _ (.refl _)))))))⟩) ?_
   refine oR [] [(7, vP b43 0), (8, vP b42 0)] [7, 8] (by kernel_rfl) ?_
   refine ops_nil ?_
   exact fin_join HJ1 (b43, x13.v, x13.rank, x13.came, b42, x23.v, x23.rank, x23.came, (some ⟨g31, 0, none⟩), y_q_0) ⟨hp, h_q_0⟩ (look_has ⟨rfl, rfl, trivial⟩) (fun w_ hM => hM)
end Go.Proofs.Ytfihfbkjomploaa.X
