/- The Go functions come to what the plain functions tell. No condition. -/
import Derived.Test.YtnognpmkhkkkeaaProg
import Derived.Test.YtnognpmkhkkkeaaFnX
namespace Go.Proofs.Ytnognpmkhkkkeaa.X
open Go Go.RowKit Go.Proofs.Ytnognpmkhkkkeaa.Sx
set_option linter.unusedVariables false
set_option maxHeartbeats 4000000 in
set_option maxRecDepth 100000 in
theorem tourlaw1_QueueSorts_1_ok (w0 w : World) (cs : List Chunk) (F : Nat → Prop) (W : World) (a : Int) (b : Int) (b_p2 : Nat) (A_p2_0 : Option Addr) (c_p2_0 : Nat) (p2_0 : List Int) (hM0 : Mem w0 (.blk b_p2 [.slice A_p2_0 p2_0.length c_p2_0] 32 :: Fz F W :: cs) w) (h_p2_0 : RdS (Rep.int .i64) F W A_p2_0 c_p2_0 p2_0) (i9001 : Int) (hp : tourlaw1_QueueSorts_1 a b p2_0 = some i9001) : Calls Try.prog 52 #[vI a, vI b, vP b_p2 0] w fun e w' => ((RdS (Rep.int .i64) F W A_p2_0 c_p2_0 p2_0)) ∧ e = .returned (vI i9001) ∧ Mem w0 (.blk b_p2 [.slice A_p2_0 p2_0.length c_p2_0] 32 :: Fz F W :: cs) w' := by
 unfold tourlaw1_QueueSorts_1 at hp
 refine sx_calls Try.func52 rfl (n := 26) (by kernel_rfl) (l := [(0, vI a), (1, vI b), (2, vP b_p2 0)]) rfl (by rfl) hM0 ?_
 refine st_seq ?_
 refine st_region [oF 0] (by rfl) ?_
 refine oR [oF 0] [(0, vI a), (1, vI b), (2, vP b_p2 0)] [0, 1, 2] (by kernel_rfl) ?_
 refine ops_nil ?_
 refine fin_then ?_
 refine st_seq ?_
 refine st_block ?_
 refine st_seq ?_
 refine st_region_draw [oT 0, oT 1, oT 2, oT 3, oT 4, oT 5, oT 6, oT 7, oT 8, oT 9] (Mem w0 (.blk b_p2 [.slice A_p2_0 p2_0.length c_p2_0] 32 :: Fz F W :: cs)) (by kernel_rfl) (by kernel_rfl) (by kernel_rfl) (fun _ d _ _ _ h => by cases d <;> exact h) (M' := Mem w0 (.blk b_p2 [.slice A_p2_0 p2_0.length c_p2_0] 32 :: Fz F W :: cs)) (fun w_ hM => ⟨hM.drew, hM.drew.sub (.cons_cons _ (.cons_cons _ (.refl _)))⟩) ?_
 refine ops_load (d := some 7) (an := [.v (.slice A_p2_0 p2_0.length c_p2_0)]) (evs := [.load ⟨b_p2, 0, none⟩ (.slice A_p2_0 p2_0.length c_p2_0)]) (v := .slice A_p2_0 p2_0.length c_p2_0) ⟨by kernel_rfl⟩ (fun w_ hM => ⟨hM.cell 0 rfl rfl, rfl⟩) ?_
 refine oR [oT 1] [(8, vI a), (7, .slice A_p2_0 p2_0.length c_p2_0), (0, vI a), (1, vI b), (2, vP b_p2 0)] [8, 7, 0, 1, 2] (by kernel_rfl) ?_
 obtain ⟨x1, hv2, hp⟩ := obind hp
 obtain ⟨m3, hm4, hx5⟩ := idx_some hv2
 have hl8 := (List.getElem?_eq_some_iff.1 hx5).1
 obtain ⟨ad9, vs6, hA10, hr7, hq11⟩ := RdS.el h_p2_0 hx5
 obtain rfl := hr7
 refine ops_val (op := (Go.Op.indexAddr 32 (Go.Operand.tmp 7) (Go.Operand.tmp 8))) (d := some 9) (v := .pointer (some (ad9.add (m3 * 1)))) ⟨by kernel_rfl⟩ (run_indexA hA10 Try.underlying32 (z := 1) (by kernel_rfl) rfl rfl hm4 hl8) ?_
 refine oR [] [(9, .pointer (some (ad9.add (m3 * 1)))), (0, vI a), (1, vI b), (2, vP b_p2 0)] [9, 0, 1, 2] (by kernel_rfl) ?_
 refine ops_load (d := some 10) (an := [.v (vI x1)]) (evs := [.load (ad9.add (m3 * 1)) (vI x1)]) (v := vI x1) ⟨by kernel_rfl⟩ (fun w_ hM => ⟨hM.elcell 1 rfl hq11 0 rfl, rfl⟩) ?_
 refine oR [] [(10, vI x1), (0, vI a), (1, vI b), (2, vP b_p2 0)] [10, 0, 1, 2] (by kernel_rfl) ?_
 refine ops_load (d := some 11) (an := [.v (.slice A_p2_0 p2_0.length c_p2_0)]) (evs := [.load ⟨b_p2, 0, none⟩ (.slice A_p2_0 p2_0.length c_p2_0)]) (v := .slice A_p2_0 p2_0.length c_p2_0) ⟨by kernel_rfl⟩ (fun w_ hM => ⟨hM.cell 0 rfl rfl, rfl⟩) ?_
 refine oR [oT 5] [(12, vI b), (11, .slice A_p2_0 p2_0.length c_p2_0), (10, vI x1), (0, vI a), (1, vI b), (2, vP b_p2 0)] [12, 11, 10, 0, 1, 2] (by kernel_rfl) ?_
 obtain ⟨x12, hv13, hp⟩ := obind hp
 obtain ⟨m14, hm15, hx16⟩ := idx_some hv13
 have hl19 := (List.getElem?_eq_some_iff.1 hx16).1
 obtain ⟨ad20, vs17, hA21, hr18, hq22⟩ := RdS.el h_p2_0 hx16
 obtain rfl := hr18
 refine ops_val (op := (Go.Op.indexAddr 32 (Go.Operand.tmp 11) (Go.Operand.tmp 12))) (d := some 13) (v := .pointer (some (ad20.add (m14 * 1)))) ⟨by kernel_rfl⟩ (run_indexA hA21 Try.underlying32 (z := 1) (by kernel_rfl) rfl rfl hm15 hl19) ?_
 refine oR [] [(13, .pointer (some (ad20.add (m14 * 1)))), (10, vI x1), (0, vI a), (1, vI b), (2, vP b_p2 0)] [13, 10, 0, 1, 2] (by kernel_rfl) ?_
 refine ops_load (d := some 14) (an := [.v (vI x12)]) (evs := [.load (ad20.add (m14 * 1)) (vI x12)]) (v := vI x12) ⟨by kernel_rfl⟩ (fun w_ hM => ⟨hM.elcell 1 rfl hq22 0 rfl, rfl⟩) ?_
 refine oR [oT 8, oT 9] [(6, .bool (decide (x1 < x12))), (0, vI a), (1, vI b), (2, vP b_p2 0)] [6, 0, 1, 2] (by kernel_rfl) ?_
 refine ops_nil ?_
 refine fin_then ?_
 refine st_if (b := decide (x1 < x12)) rfl (fun hc23 => ?_) (fun hc23 => ?_)
 · --
  have hp := cnd_t hc23 hp
  refine st_seq ?_
  refine st_region [oF 0] (by rfl) ?_
  refine oR [oF 0] [(5, vI (-1))] [5] (by kernel_rfl) ?_
  refine ops_nil ?_
  refine fin_then ?_
  refine st_ret ?_
  refine fin_ret_block ?_
  refine fin_ret_then ?_
  have hq_ := Option.some.inj hp
  have hr0_ := hq_
  subst hr0_
  refine fin_ret [.tmp 5] [vI (-1)] rfl rfl (fun w_ hM => (.tmp rfl .nil)) (fun w_ hM => ?_)
  exact ⟨h_p2_0, rfl, hM⟩
 · --
  have hp := cnd_f hc23 hp
  refine st_seq ?_
  refine st_region_draw [oT 0, oT 1, oT 2, oT 3, oT 4, oT 5, oT 6, oT 7, oT 8, oT 9] (Mem w0 (.blk b_p2 [.slice A_p2_0 p2_0.length c_p2_0] 32 :: Fz F W :: cs)) (by kernel_rfl) (by kernel_rfl) (by kernel_rfl) (fun _ d _ _ _ h => by cases d <;> exact h) (M' := Mem w0 (.blk b_p2 [.slice A_p2_0 p2_0.length c_p2_0] 32 :: Fz F W :: cs)) (fun w_ hM => ⟨hM.drew, hM.drew.sub (.cons_cons _ (.cons_cons _ (.refl _)))⟩) ?_
  refine oR [] [(0, vI a), (1, vI b), (2, vP b_p2 0)] [0, 1, 2] (by kernel_rfl) ?_
  refine ops_load (d := some 17) (an := [.v (.slice A_p2_0 p2_0.length c_p2_0)]) (evs := [.load ⟨b_p2, 0, none⟩ (.slice A_p2_0 p2_0.length c_p2_0)]) (v := .slice A_p2_0 p2_0.length c_p2_0) ⟨by kernel_rfl⟩ (fun w_ hM => ⟨hM.cell 0 rfl rfl, rfl⟩) ?_
  refine oR [oT 1] [(18, vI a), (17, .slice A_p2_0 p2_0.length c_p2_0), (1, vI b), (2, vP b_p2 0)] [18, 17, 1, 2] (by kernel_rfl) ?_
  obtain ⟨x24, hv25, hp⟩ := obind hp
  obtain ⟨m26, hm27, hx28⟩ := idx_some hv25
  have hl31 := (List.getElem?_eq_some_iff.1 hx28).1
  obtain ⟨ad32, vs29, hA33, hr30, hq34⟩ := RdS.el h_p2_0 hx28
  obtain rfl := hr30
  refine ops_val (op := (Go.Op.indexAddr 32 (Go.Operand.tmp 17) (Go.Operand.tmp 18))) (d := some 19) (v := .pointer (some (ad32.add (m26 * 1)))) ⟨by kernel_rfl⟩ (run_indexA hA33 Try.underlying32 (z := 1) (by kernel_rfl) rfl rfl hm27 hl31) ?_
  refine oR [] [(19, .pointer (some (ad32.add (m26 * 1)))), (1, vI b), (2, vP b_p2 0)] [19, 1, 2] (by kernel_rfl) ?_
  refine ops_load (d := some 20) (an := [.v (vI x24)]) (evs := [.load (ad32.add (m26 * 1)) (vI x24)]) (v := vI x24) ⟨by kernel_rfl⟩ (fun w_ hM => ⟨hM.elcell 1 rfl hq34 0 rfl, rfl⟩) ?_
  refine oR [] [(20, vI x24), (1, vI b), (2, vP b_p2 0)] [20, 1, 2] (by kernel_rfl) ?_
  refine ops_load (d := some 21) (an := [.v (.slice A_p2_0 p2_0.length c_p2_0)]) (evs := [.load ⟨b_p2, 0, none⟩ (.slice A_p2_0 p2_0.length c_p2_0)]) (v := .slice A_p2_0 p2_0.length c_p2_0) ⟨by kernel_rfl⟩ (fun w_ hM => ⟨hM.cell 0 rfl rfl, rfl⟩) ?_
  refine oR [oT 5] [(22, vI b), (21, .slice A_p2_0 p2_0.length c_p2_0), (20, vI x24)] [22, 21, 20] (by kernel_rfl) ?_
  obtain ⟨x35, hv36, hp⟩ := obind hp
  obtain ⟨m37, hm38, hx39⟩ := idx_some hv36
  have hl42 := (List.getElem?_eq_some_iff.1 hx39).1
  obtain ⟨ad43, vs40, hA44, hr41, hq45⟩ := RdS.el h_p2_0 hx39
  obtain rfl := hr41
  refine ops_val (op := (Go.Op.indexAddr 32 (Go.Operand.tmp 21) (Go.Operand.tmp 22))) (d := some 23) (v := .pointer (some (ad43.add (m37 * 1)))) ⟨by kernel_rfl⟩ (run_indexA hA44 Try.underlying32 (z := 1) (by kernel_rfl) rfl rfl hm38 hl42) ?_
  refine oR [] [(23, .pointer (some (ad43.add (m37 * 1)))), (20, vI x24)] [23, 20] (by kernel_rfl) ?_
  refine ops_load (d := some 24) (an := [.v (vI x35)]) (evs := [.load (ad43.add (m37 * 1)) (vI x35)]) (v := vI x35) ⟨by kernel_rfl⟩ (fun w_ hM => ⟨hM.elcell 1 rfl hq45 0 rfl, rfl⟩) ?_
  refine oR [oT 8, oT 9] [(16, .bool (decide (x35 < x24)))] [16] (by kernel_rfl) ?_
  refine ops_nil ?_
  refine fin_then ?_
  refine st_if (b := decide (x35 < x24)) rfl (fun hc46 => ?_) (fun hc46 => ?_)
  · --
   have hp := cnd_t hc46 hp
   refine st_seq ?_
   refine st_region [oF 0] (by rfl) ?_
   refine oR [oF 0] [(5, vI 1)] [5] (by kernel_rfl) ?_
   refine ops_nil ?_
   refine fin_then ?_
   refine st_ret ?_
   refine fin_ret_block ?_
   refine fin_ret_then ?_
   have hq_ := Option.some.inj hp
   have hr0_ := hq_
   subst hr0_
   refine fin_ret [.tmp 5] [vI 1] rfl rfl (fun w_ hM => (.tmp rfl .nil)) (fun w_ hM => ?_)
   exact ⟨h_p2_0, rfl, hM⟩
  · --
   have hp := cnd_f hc46 hp
   refine st_skip ?_
   refine fin_block ?_
   refine fin_then ?_
   refine st_seq ?_
   refine st_region [oF 0] (by rfl) ?_
   refine oR [oF 0] [(5, vI 0)] [5] (by kernel_rfl) ?_
   refine ops_nil ?_
   refine fin_then ?_
   refine st_ret ?_
   have hq_ := Option.some.inj hp
   have hr0_ := hq_
   subst hr0_
   refine fin_ret [.tmp 5] [vI 0] rfl rfl (fun w_ hM => (.tmp rfl .nil)) (fun w_ hM => ?_)
   exact ⟨h_p2_0, rfl, hM⟩
def slices_insertionSortCmpFunc_int__t0 : List Row := [⟨0, 262144, 512⟩, ⟨0, 524288, 2⟩, ⟨3, 1048576, 786432⟩, ⟨4, 2097152, 1048576⟩, ⟨8, 4194304, 2097160⟩, ⟨8, 8388608, 2097153⟩, ⟨8, 16777216, 2097664⟩, ⟨104, 33554432, 27262976⟩, ⟨136, 67108864, 35651584⟩, ⟨8, 134217728, 2097153⟩, ⟨8, 268435456, 2097664⟩, ⟨1032, 536870912, 270532608⟩, ⟨2568, 1073741824, 673185792⟩, ⟨4104, 2147483648, 1075838976⟩, ⟨8472, 4294967296, 2220883968⟩, ⟨16392, 8589934592, 4297064448⟩, ⟨32776, 17179869184, 8592031744⟩]
set_option maxHeartbeats 4000000 in
set_option maxRecDepth 100000 in
theorem slices_insertionSortCmpFunc_int_ok (w0 w : World) (cs : List Chunk) (F : Nat → Prop) (W : World) (A_data : Option Addr) (c_data : Nat) (data : List Int) (y_data : List Value) (a : Int) (b : Int) (b_cmp_c0 : Nat) (A_cmp_c0_0 : Option Addr) (c_cmp_c0_0 : Nat) (cmp_c0_0 : List Int) (hM0 : Mem w0 (orow A_data data.length c_data 3 1 y_data :: .blk b_cmp_c0 [.slice A_cmp_c0_0 cmp_c0_0.length c_cmp_c0_0] 32 :: Fz F W :: cs) w) (h_data : RepL (Rep.int .i64) F W data y_data) (h_cmp_c0_0 : RdS (Rep.int .i64) F W A_cmp_c0_0 c_cmp_c0_0 cmp_c0_0) (l9001 : List Int) (hp : slices_insertionSortCmpFunc_int data a b cmp_c0_0 = some l9001) : Calls Try.prog 78 #[.slice A_data data.length c_data, vI a, vI b, .func (.func 52) #[] #[vP b_cmp_c0 0]] w fun e w' => ∃ (y9002 : List Value), ((RepL (Rep.int .i64) F W l9001 y9002) ∧ (l9001.length = data.length) ∧ (RdS (Rep.int .i64) F W A_cmp_c0_0 c_cmp_c0_0 cmp_c0_0)) ∧ e = .returned (.tuple #[]) ∧ Mem w0 (orow A_data l9001.length c_data 3 1 y9002 :: .blk b_cmp_c0 [.slice A_cmp_c0_0 cmp_c0_0.length c_cmp_c0_0] 32 :: Fz F W :: cs) w' := by
 unfold slices_insertionSortCmpFunc_int at hp
 refine sx_calls Try.func78 rfl (n := 53) (by kernel_rfl) (l := [(0, .slice A_data data.length c_data), (1, vI a), (2, vI b), (3, .func (.func 52) #[] #[vP b_cmp_c0 0])]) rfl (by rfl) hM0 ?_
 refine st_seq ?_
 refine st_region [oF 0, oF 1, oF 2] (by rfl) ?_
 refine oR [oF 0, oF 1, oF 2] [(8, vI (IntKind.i64.wrap (a + 1))), (0, .slice A_data data.length c_data), (1, vI a), (2, vI b), (3, .func (.func 52) #[] #[vP b_cmp_c0 0])] [8, 0, 1, 2, 3] (by kernel_rfl) ?_
 refine ops_nil ?_
 refine fin_then ?_
 refine st_block ?_
 obtain ⟨r1, hl1, hk1⟩ := obind hp
 refine st_loopP (σ := (List Int) × Int) (ρ := (List Int)) (γ := (List Value)) hl1 y_data (fun s_ g_ => match s_, g_ with | (l1, i6), y2 => [(0, .slice A_data l1.length c_data), (1, vI a), (2, vI b), (3, .func (.func 52) #[] #[vP b_cmp_c0 0]), (8, vI i6)]) (fun s_ g_ => match s_, g_ with | (l1, i6), y2 => Mem w0 (orow A_data l1.length c_data 3 1 y2 :: .blk b_cmp_c0 [.slice A_cmp_c0_0 cmp_c0_0.length c_cmp_c0_0] 32 :: Fz F W :: cs)) (fun s_ g_ => match s_, g_ with | (l1, i6), y2 => (RepL (Rep.int .i64) F W l1 y2) ∧ (l1.length = data.length) ∧ (RdS (Rep.int .i64) F W A_cmp_c0_0 c_cmp_c0_0 cmp_c0_0)) ⟨h_data, rfl, h_cmp_c0_0⟩ (look_has ⟨rfl, rfl, rfl, rfl, rfl, trivial⟩) (fun w_ hM => hM) ?_
 rintro ⟨l1, i6⟩ y2 o1 ⟨h3, hl4, h5⟩ hs_ hd1
 have hp : (slices_insertionSortCmpFunc_int_l1 b a cmp_c0_0) l1 i6 = some o1 := hs_
 clear hs_
 unfold slices_insertionSortCmpFunc_int_l1 at hp
 refine st_conv (l' := [(0, .slice A_data l1.length c_data), (1, vI a), (2, vI b), (3, .func (.func 52) #[] #[vP b_cmp_c0 0]), (8, vI i6)]) (M' := Mem w0 (orow A_data l1.length c_data 3 1 y2 :: .blk b_cmp_c0 [.slice A_cmp_c0_0 cmp_c0_0.length c_cmp_c0_0] 32 :: Fz F W :: cs)) rfl (fun _ h => h) ?_
 refine st_seq ?_
 refine st_seq ?_
 refine st_region [oF 0, oF 1, oF 2] (by rfl) ?_
 refine oR [oF 0, oF 1, oF 2] [(14, .bool (decide (i6 < b))), (0, .slice A_data l1.length c_data), (1, vI a), (2, vI b), (3, .func (.func 52) #[] #[vP b_cmp_c0 0]), (8, vI i6)] [14, 0, 1, 2, 3, 8] (by kernel_rfl) ?_
 refine ops_nil ?_
 refine fin_then ?_
 refine st_if (b := decide (i6 < b)) rfl (fun hc7 => ?_) (fun hc7 => ?_)
 · --
  have hp := cnd_t hc7 hp
  refine st_skip ?_
  refine fin_then ?_
  refine st_join1 (σ := (List Int) × (List Value)) (L := fun x_ => match x_ with | (l8, y9) => [(0, .slice A_data l8.length c_data), (1, vI a), (2, vI b), (3, .func (.func 52) #[] #[vP b_cmp_c0 0]), (8, vI i6)]) (N := fun x_ => match x_ with | (l8, y9) => Mem w0 (orow A_data l8.length c_data 3 1 y9 :: .blk b_cmp_c0 [.slice A_cmp_c0_0 cmp_c0_0.length c_cmp_c0_0] 32 :: Fz F W :: cs)) (I := fun x_ => match x_ with | (l8, y9) => ((slices_insertionSortCmpFunc_int_j2 i6) l8 = some o1) ∧ (RepL (Rep.int .i64) F W l8 y9) ∧ (l8.length = data.length) ∧ (RdS (Rep.int .i64) F W A_cmp_c0_0 c_cmp_c0_0 cmp_c0_0)) ?_ ?_
  · --
   rintro ⟨l8, y9⟩ ⟨hp, h10, hl11, h12⟩
   refine st_conv (l' := [(0, .slice A_data l8.length c_data), (1, vI a), (2, vI b), (3, .func (.func 52) #[] #[vP b_cmp_c0 0]), (8, vI i6)]) (M' := Mem w0 (orow A_data l8.length c_data 3 1 y9 :: .blk b_cmp_c0 [.slice A_cmp_c0_0 cmp_c0_0.length c_cmp_c0_0] 32 :: Fz F W :: cs)) rfl (fun _ h => h) ?_
   unfold slices_insertionSortCmpFunc_int_j2 at hp
   refine st_region [oF 0, oF 1, oF 2] (by rfl) ?_
   refine oR [oF 0, oF 1, oF 2] [(8, vI (IntKind.i64.wrap (i6 + 1))), (0, .slice A_data l8.length c_data), (1, vI a), (2, vI b), (3, .func (.func 52) #[] #[vP b_cmp_c0 0])] [8, 0, 1, 2, 3] (by kernel_rfl) ?_
   refine ops_nil ?_
   exact fin_again (l8, IntKind.i64.wrap (i6 + 1)) y9 (Option.some.inj hp).symm ⟨h10, hl11, h12⟩ (look_has ⟨rfl, rfl, rfl, rfl, rfl, trivial⟩) (fun w_ hM => hM)
  · --
   intro HJ2
   refine st_seq ?_
   refine st_block ?_
   refine st_seq ?_
   refine st_region [oF 0, oF 1] (by rfl) ?_
   refine oR [oF 0, oF 1] [(9, vI i6), (0, .slice A_data l1.length c_data), (1, vI a), (2, vI b), (3, .func (.func 52) #[] #[vP b_cmp_c0 0]), (8, vI i6)] [9, 0, 1, 2, 3, 8] (by kernel_rfl) ?_
   refine ops_nil ?_
   refine fin_then ?_
   refine st_block ?_
   obtain ⟨r3, hl3, hk3⟩ := obind hp
   refine st_loopP (σ := (List Int) × Int) (ρ := (List Int)) (γ := (List Value)) hl3 y2 (fun s_ g_ => match s_, g_ with | (l13, i18), y14 => [(0, .slice A_data l13.length c_data), (1, vI a), (2, vI b), (3, .func (.func 52) #[] #[vP b_cmp_c0 0]), (8, vI i6), (9, vI i18)]) (fun s_ g_ => match s_, g_ with | (l13, i18), y14 => Mem w0 (orow A_data l13.length c_data 3 1 y14 :: .blk b_cmp_c0 [.slice A_cmp_c0_0 cmp_c0_0.length c_cmp_c0_0] 32 :: Fz F W :: cs)) (fun s_ g_ => match s_, g_ with | (l13, i18), y14 => (RepL (Rep.int .i64) F W l13 y14) ∧ (l13.length = data.length) ∧ (RdS (Rep.int .i64) F W A_cmp_c0_0 c_cmp_c0_0 cmp_c0_0)) ⟨h3, hl4, h5⟩ (look_has ⟨rfl, rfl, rfl, rfl, rfl, rfl, trivial⟩) (fun w_ hM => hM) ?_
   rintro ⟨l13, i18⟩ y14 o3 ⟨h15, hl16, h17⟩ hs_ hd3
   have hp : (slices_insertionSortCmpFunc_int_l3 a cmp_c0_0) l13 i18 = some o3 := hs_
   clear hs_
   unfold slices_insertionSortCmpFunc_int_l3 at hp
   refine st_conv (l' := [(0, .slice A_data l13.length c_data), (1, vI a), (2, vI b), (3, .func (.func 52) #[] #[vP b_cmp_c0 0]), (8, vI i6), (9, vI i18)]) (M' := Mem w0 (orow A_data l13.length c_data 3 1 y14 :: .blk b_cmp_c0 [.slice A_cmp_c0_0 cmp_c0_0.length c_cmp_c0_0] 32 :: Fz F W :: cs)) rfl (fun _ h => h) ?_
   refine st_seq ?_
   refine st_seq ?_
   refine st_region_fast slices_insertionSortCmpFunc_int__t0 [oT 0, oT 1, oT 2, oT 3, oT 4, oT 5, oT 6, oT 7, oT 8, oT 9, oT 10, oT 11, oT 12, oT 13, oF 14, oT 15, oT 16] (Mem w0 (orow A_data l13.length c_data 3 1 y14 :: .blk b_cmp_c0 [.slice A_cmp_c0_0 cmp_c0_0.length c_cmp_c0_0] 32 :: Fz F W :: cs)) (by kernel_rfl) (by kernel_rfl) (by kernel_rfl) (by kernel_rfl) (by kernel_rfl) (fun _ d _ _ _ h => by cases d <;> exact h) (M' := Mem w0 (orow A_data l13.length c_data 3 1 y14 :: .blk b_cmp_c0 [.slice A_cmp_c0_0 cmp_c0_0.length c_cmp_c0_0] 32 :: Fz F W :: cs)) (fun w_ hM => ⟨hM.drew, hM.drew.sub (.cons_cons _ (.cons_cons _ (.cons_cons _ (.refl _))))⟩) ?_
   refine oR [oT 0, oT 1, oT 2, oT 3] [(21, .bool (decide (a < i18))), (0, .slice A_data l13.length c_data), (1, vI a), (2, vI b), (3, .func (.func 52) #[] #[vP b_cmp_c0 0]), (8, vI i6), (9, vI i18)] [21, 0, 1, 2, 3, 8, 9] (by kernel_rfl) ?_
   refine ops_bool (t := decide (a < i18)) (l1 := [(21, .bool true), (0, .slice A_data l13.length c_data), (1, vI a), (2, vI b), (3, .func (.func 52) #[] #[vP b_cmp_c0 0]), (8, vI i6), (9, vI i18)]) (l2 := [(21, .bool false), (0, .slice A_data l13.length c_data), (1, vI a), (2, vI b), (3, .func (.func 52) #[] #[vP b_cmp_c0 0]), (8, vI i6), (9, vI i18)]) (fun h => by rw [h]) (fun h => by rw [h]) (fun hc19 => ?_) (fun hc19 => ?_)
   · --
    have hp := cnd_t hc19 hp
    refine oR [oT 4, oT 5, oT 6] [(24, vI i18), (23, .slice A_data l13.length c_data), (22, .func (.func 52) #[] #[vP b_cmp_c0 0]), (21, .bool true), (0, .slice A_data l13.length c_data), (1, vI a), (2, vI b), (3, .func (.func 52) #[] #[vP b_cmp_c0 0]), (8, vI i6), (9, vI i18)] [24, 23, 22, 21, 0, 1, 2, 3, 8, 9] (by kernel_rfl) ?_
    obtain ⟨x20, hv21, hp⟩ := obind hp
    obtain ⟨m22, hm23, hx24⟩ := idx_some hv21
    have hl27 := (List.getElem?_eq_some_iff.1 hx24).1
    refine ops_fact (fun w_ hM => hM.orowSome 0 rfl (Nat.lt_of_le_of_lt (Nat.zero_le _) hl27)) ?_
    rintro ⟨g28, rfl, -⟩
    obtain ⟨vs25, hr26, hq29⟩ := h15.at_ m22 x20 hx24
    obtain rfl := hr26
    refine ops_val (op := (Go.Op.indexAddr 32 (Go.Operand.tmp 23) (Go.Operand.tmp 24))) (d := some 25) (v := vP g28 (m22 * 1)) ⟨by kernel_rfl⟩ (run_indexRow Try.underlying32 (z := 1) (by kernel_rfl) rfl rfl hm23 hl27 rfl) ?_
    refine oR [] [(25, vP g28 (m22 * 1)), (22, .func (.func 52) #[] #[vP b_cmp_c0 0]), (21, .bool true), (0, .slice (some ⟨g28, 0, none⟩) l13.length c_data), (1, vI a), (2, vI b), (3, .func (.func 52) #[] #[vP b_cmp_c0 0]), (8, vI i6), (9, vI i18)] [25, 22, 21, 0, 1, 2, 3, 8, 9] (by kernel_rfl) ?_
    refine ops_load (d := some 26) (an := [.v (vI x20)]) (evs := [.load ⟨g28, m22 * 1, none⟩ (vI x20)]) (v := vI x20) ⟨by kernel_rfl⟩ (fun w_ hM => ⟨hM.ocell 0 rfl (hq29 0 _ rfl), rfl⟩) ?_
    refine oR [oT 9, oT 10, oT 11] [(29, vI (IntKind.i64.wrap (i18 - 1))), (27, .slice (some ⟨g28, 0, none⟩) l13.length c_data), (26, vI x20), (22, .func (.func 52) #[] #[vP b_cmp_c0 0]), (21, .bool true), (0, .slice (some ⟨g28, 0, none⟩) l13.length c_data), (1, vI a), (2, vI b), (3, .func (.func 52) #[] #[vP b_cmp_c0 0]), (8, vI i6), (9, vI i18)] [29, 27, 26, 22, 21, 0, 1, 2, 3, 8, 9] (by kernel_rfl) ?_
    obtain ⟨x30, hv31, hp⟩ := obind hp
    obtain ⟨m32, hm33, hx34⟩ := idx_some hv31
    have hl37 := (List.getElem?_eq_some_iff.1 hx34).1
    obtain ⟨vs35, hr36, hq38⟩ := h15.at_ m32 x30 hx34
    obtain rfl := hr36
    refine ops_val (op := (Go.Op.indexAddr 32 (Go.Operand.tmp 27) (Go.Operand.tmp 29))) (d := some 30) (v := vP g28 (m32 * 1)) ⟨by kernel_rfl⟩ (run_indexRow Try.underlying32 (z := 1) (by kernel_rfl) rfl rfl hm33 hl37 rfl) ?_
    refine oR [] [(30, vP g28 (m32 * 1)), (26, vI x20), (22, .func (.func 52) #[] #[vP b_cmp_c0 0]), (21, .bool true), (0, .slice (some ⟨g28, 0, none⟩) l13.length c_data), (1, vI a), (2, vI b), (3, .func (.func 52) #[] #[vP b_cmp_c0 0]), (8, vI i6), (9, vI i18)] [30, 26, 22, 21, 0, 1, 2, 3, 8, 9] (by kernel_rfl) ?_
    refine ops_load (d := some 31) (an := [.v (vI x30)]) (evs := [.load ⟨g28, m32 * 1, none⟩ (vI x30)]) (v := vI x30) ⟨by kernel_rfl⟩ (fun w_ hM => ⟨hM.ocell 0 rfl (hq38 0 _ rfl), rfl⟩) ?_
    refine oR [] [(31, vI x30), (26, vI x20), (22, .func (.func 52) #[] #[vP b_cmp_c0 0]), (21, .bool true), (0, .slice (some ⟨g28, 0, none⟩) l13.length c_data), (1, vI a), (2, vI b), (3, .func (.func 52) #[] #[vP b_cmp_c0 0]), (8, vI i6), (9, vI i18)] [31, 26, 22, 21, 0, 1, 2, 3, 8, 9] (by kernel_rfl) ?_
    obtain ⟨x39, hv40, hp⟩ := obind hp
    refine ops_callI (σ := Unit) (d := some 32) (f := 52) (args := #[vI x20, vI x30, vP b_cmp_c0 0]) (v := (fun _ => vI x39)) (I := (fun _ => (RdS (Rep.int .i64) F W A_cmp_c0_0 c_cmp_c0_0 cmp_c0_0))) (M' := (fun _ => Mem w0 (orow (some ⟨g28, 0, none⟩) l13.length c_data 3 1 y14 :: .blk b_cmp_c0 [.slice A_cmp_c0_0 cmp_c0_0.length c_cmp_c0_0] 32 :: Fz F W :: cs))) ⟨by kernel_rfl⟩ (fun w_ hM hS => (tourlaw1_QueueSorts_1_ok w0 w_ (orow (some ⟨g28, 0, none⟩) l13.length c_data 3 1 y14 :: cs) F W x20 x30 b_cmp_c0 A_cmp_c0_0 c_cmp_c0_0 cmp_c0_0 (hM.pick 3 [1, 2, 0] (by kernel_rfl) (by decide) rfl) h17 x39 hv40).mono (by rintro e w' ⟨h41, rfl, h'⟩; have h' : Mem w0 (orow (some ⟨g28, 0, none⟩) l13.length c_data 3 1 y14 :: .blk b_cmp_c0 [.slice A_cmp_c0_0 cmp_c0_0.length c_cmp_c0_0] 32 :: Fz F W :: cs) w' := (h'.pick 3 [2, 0, 1] (by kernel_rfl) (by decide) rfl); exact ⟨(), h41, rfl, h', (by exact h'.sub (.cons_cons _ (.cons_cons _ (.cons_cons _ (.refl _)))))⟩)) ?_
    rintro _ h41
    refine ops_conv (l' := [(32, vI x39), (31, vI x30), (26, vI x20), (22, .func (.func 52) #[] #[vP b_cmp_c0 0]), (21, .bool true), (0, .slice (some ⟨g28, 0, none⟩) l13.length c_data), (1, vI a), (2, vI b), (3, .func (.func 52) #[] #[vP b_cmp_c0 0]), (8, vI i6), (9, vI i18)]) (M' := Mem w0 (orow (some ⟨g28, 0, none⟩) l13.length c_data 3 1 y14 :: .blk b_cmp_c0 [.slice A_cmp_c0_0 cmp_c0_0.length c_cmp_c0_0] 32 :: Fz F W :: cs)) rfl (fun _ h => h) ?_
    refine oR [oT 15, oT 16] [(34, .bool (decide (x39 < 0))), (0, .slice (some ⟨g28, 0, none⟩) l13.length c_data), (1, vI a), (2, vI b), (3, .func (.func 52) #[] #[vP b_cmp_c0 0]), (8, vI i6), (9, vI i18)] [34, 0, 1, 2, 3, 8, 9] (by kernel_rfl) ?_
    refine ops_nil ?_
    refine fin_then ?_
    refine st_if (b := decide (x39 < 0)) rfl (fun hc42 => ?_) (fun hc42 => ?_)
    · --
     have hp := cnd_t hc42 hp
     refine st_skip ?_
     refine fin_then ?_
     refine st_join1 (σ := (List Int) × (List Value)) (L := fun x_ => match x_ with | (l43, y44) => [(0, .slice (some ⟨g28, 0, none⟩) l43.length c_data), (1, vI a), (2, vI b), (3, .func (.func 52) #[] #[vP b_cmp_c0 0]), (8, vI i6), (9, vI i18)]) (N := fun x_ => match x_ with | (l43, y44) => Mem w0 (orow (some ⟨g28, 0, none⟩) l43.length c_data 3 1 y44 :: .blk b_cmp_c0 [.slice A_cmp_c0_0 cmp_c0_0.length c_cmp_c0_0] 32 :: Fz F W :: cs)) (I := fun x_ => match x_ with | (l43, y44) => ((slices_insertionSortCmpFunc_int_j4 i18) l43 = some o3) ∧ (RepL (Rep.int .i64) F W l43 y44) ∧ (l43.length = data.length)) ?_ ?_
     · --
      rintro ⟨l43, y44⟩ ⟨hp, h45, hl46⟩
      refine st_conv (l' := [(0, .slice (some ⟨g28, 0, none⟩) l43.length c_data), (1, vI a), (2, vI b), (3, .func (.func 52) #[] #[vP b_cmp_c0 0]), (8, vI i6), (9, vI i18)]) (M' := Mem w0 (orow (some ⟨g28, 0, none⟩) l43.length c_data 3 1 y44 :: .blk b_cmp_c0 [.slice A_cmp_c0_0 cmp_c0_0.length c_cmp_c0_0] 32 :: Fz F W :: cs)) rfl (fun _ h => h) ?_
      unfold slices_insertionSortCmpFunc_int_j4 at hp
      refine st_region [oF 0, oF 1, oF 2] (by rfl) ?_
      refine oR [oF 0, oF 1, oF 2] [(9, vI (IntKind.i64.wrap (i18 - 1))), (0, .slice (some ⟨g28, 0, none⟩) l43.length c_data), (1, vI a), (2, vI b), (3, .func (.func 52) #[] #[vP b_cmp_c0 0]), (8, vI i6)] [9, 0, 1, 2, 3, 8] (by kernel_rfl) ?_
      refine ops_nil ?_
      exact fin_again (l43, IntKind.i64.wrap (i18 - 1)) y44 (Option.some.inj hp).symm ⟨h45, hl46, h41⟩ (look_has ⟨rfl, rfl, rfl, rfl, rfl, rfl, trivial⟩) (fun w_ hM => hM)
     · --
      intro HJ4
      refine st_seq ?_
      refine st_block ?_
      obtain ⟨x47, hv48, hp⟩ := obind hp
      obtain ⟨x56, hv57, hp⟩ := obind hp
      obtain ⟨x65, hv66, hp⟩ := obind hp
      obtain ⟨l74, hv75, hp⟩ := obind hp
      obtain ⟨x85, hv86, hp⟩ := obind hp
      obtain ⟨l94, hv95, hp⟩ := obind hp
      refine st_region_tree (.node [oT 0, oT 1, oT 2, oT 3, oT 4, oT 5, oT 6, oT 7, oT 8, oT 10, oT 11, oT 12] (.leaf [oF 9, oF 13, oT 14, oF 15, oT 16, oF 17]) (.leaf [oF 13, oF 9, oT 14, oF 15, oT 16, oF 17])) (Mem w0 (.blk b_cmp_c0 [.slice A_cmp_c0_0 cmp_c0_0.length c_cmp_c0_0] 32 :: Fz F W :: cs)) (by kernel_rfl) (by kernel_rfl) (by kernel_rfl) (fun _ d _ _ _ h => by cases d <;> exact h) (M' := Mem w0 (orow (some ⟨g28, 0, none⟩) l13.length c_data 3 1 y14 :: .blk b_cmp_c0 [.slice A_cmp_c0_0 cmp_c0_0.length c_cmp_c0_0] 32 :: Fz F W :: cs)) (fun w_ hM => ⟨hM.drew, hM.drew.sub (.cons _ (.cons_cons _ (.cons_cons _ (.refl _))))⟩) ?_
      refine tree_node ?_
      refine oR [oT 0, oT 1, oT 2, oT 3, oT 4, oT 5, oT 6, oT 7] [(44, vI (IntKind.i64.wrap (i18 - 1))), (42, .slice (some ⟨g28, 0, none⟩) l13.length c_data), (41, vI (IntKind.i64.wrap (i18 - 1))), (39, .slice (some ⟨g28, 0, none⟩) l13.length c_data), (38, vI i18), (37, .slice (some ⟨g28, 0, none⟩) l13.length c_data), (0, .slice (some ⟨g28, 0, none⟩) l13.length c_data), (1, vI a), (2, vI b), (3, .func (.func 52) #[] #[vP b_cmp_c0 0]), (8, vI i6), (9, vI i18)] [44, 42, 41, 39, 38, 37, 0, 1, 2, 3, 8, 9] (by kernel_rfl) ?_
      obtain ⟨m96, hm97, hx98⟩ := idx_some hv48
      have hl101 := (List.getElem?_eq_some_iff.1 hx98).1
      obtain ⟨vs99, hr100, hq102⟩ := h15.at_ m96 x47 hx98
      obtain rfl := hr100
      refine ops_val (op := (Go.Op.indexAddr 32 (Go.Operand.tmp 42) (Go.Operand.tmp 44))) (d := some 45) (v := vP g28 (m96 * 1)) ⟨by kernel_rfl⟩ (run_indexRow Try.underlying32 (z := 1) (by kernel_rfl) rfl rfl hm97 hl101 rfl) ?_
      refine oR [oT 10, oT 11] [(48, vI i18), (47, .slice (some ⟨g28, 0, none⟩) l13.length c_data), (45, vP g28 (m96 * 1)), (41, vI (IntKind.i64.wrap (i18 - 1))), (39, .slice (some ⟨g28, 0, none⟩) l13.length c_data), (38, vI i18), (37, .slice (some ⟨g28, 0, none⟩) l13.length c_data), (0, .slice (some ⟨g28, 0, none⟩) l13.length c_data), (1, vI a), (2, vI b), (3, .func (.func 52) #[] #[vP b_cmp_c0 0]), (8, vI i6), (9, vI i18)] [48, 47, 45, 41, 39, 38, 37, 0, 1, 2, 3, 8, 9] (by kernel_rfl) ?_
      obtain ⟨m103, hm104, hx105⟩ := idx_some hv57
      have hl108 := (List.getElem?_eq_some_iff.1 hx105).1
      obtain ⟨vs106, hr107, hq109⟩ := h15.at_ m103 x56 hx105
      obtain rfl := hr107
      refine ops_val (op := (Go.Op.indexAddr 32 (Go.Operand.tmp 47) (Go.Operand.tmp 48))) (d := some 49) (v := vP g28 (m103 * 1)) ⟨by kernel_rfl⟩ (run_indexRow Try.underlying32 (z := 1) (by kernel_rfl) rfl rfl hm104 hl108 rfl) ?_
      refine oR [] [(49, vP g28 (m103 * 1)), (45, vP g28 (m96 * 1)), (41, vI (IntKind.i64.wrap (i18 - 1))), (39, .slice (some ⟨g28, 0, none⟩) l13.length c_data), (38, vI i18), (37, .slice (some ⟨g28, 0, none⟩) l13.length c_data), (0, .slice (some ⟨g28, 0, none⟩) l13.length c_data), (1, vI a), (2, vI b), (3, .func (.func 52) #[] #[vP b_cmp_c0 0]), (8, vI i6), (9, vI i18)] [49, 45, 41, 39, 38, 37, 0, 1, 2, 3, 8, 9] (by kernel_rfl) ?_
      refine ops_nil ?_
      refine tree_both ?_ ?_
      · --
       refine tree_leaf ?_
       refine ops_mem (d := some 46) (an := [.v (vI x47)]) (evs := [.load ⟨g28, m96 * 1, none⟩ (vI x47)]) (v := vI x47) (M' := Mem w0 (orow (some ⟨g28, 0, none⟩) l13.length c_data 3 1 y14 :: .blk b_cmp_c0 [.slice A_cmp_c0_0 cmp_c0_0.length c_cmp_c0_0] 32 :: Fz F W :: cs)) ⟨by kernel_rfl⟩ (fun w_ hM hS => ⟨w_, ⟨hM.ocell 0 rfl (hq102 0 _ rfl), rfl⟩, hM, hS⟩) ?_
       refine oR [] [(46, vI x47), (49, vP g28 (m103 * 1)), (41, vI (IntKind.i64.wrap (i18 - 1))), (39, .slice (some ⟨g28, 0, none⟩) l13.length c_data), (38, vI i18), (37, .slice (some ⟨g28, 0, none⟩) l13.length c_data), (0, .slice (some ⟨g28, 0, none⟩) l13.length c_data), (1, vI a), (2, vI b), (3, .func (.func 52) #[] #[vP b_cmp_c0 0]), (8, vI i6), (9, vI i18)] [46, 49, 41, 39, 38, 37, 0, 1, 2, 3, 8, 9] (by kernel_rfl) ?_
       refine ops_mem (d := some 50) (an := [.v (vI x56)]) (evs := [.load ⟨g28, m103 * 1, none⟩ (vI x56)]) (v := vI x56) (M' := Mem w0 (orow (some ⟨g28, 0, none⟩) l13.length c_data 3 1 y14 :: .blk b_cmp_c0 [.slice A_cmp_c0_0 cmp_c0_0.length c_cmp_c0_0] 32 :: Fz F W :: cs)) ⟨by kernel_rfl⟩ (fun w_ hM hS => ⟨w_, ⟨hM.ocell 0 rfl (hq109 0 _ rfl), rfl⟩, hM, hS⟩) ?_
       refine oR [] [(50, vI x56), (46, vI x47), (41, vI (IntKind.i64.wrap (i18 - 1))), (39, .slice (some ⟨g28, 0, none⟩) l13.length c_data), (38, vI i18), (37, .slice (some ⟨g28, 0, none⟩) l13.length c_data), (0, .slice (some ⟨g28, 0, none⟩) l13.length c_data), (1, vI a), (2, vI b), (3, .func (.func 52) #[] #[vP b_cmp_c0 0]), (8, vI i6), (9, vI i18)] [50, 46, 41, 39, 38, 37, 0, 1, 2, 3, 8, 9] (by kernel_rfl) ?_
       obtain ⟨m110, hm111, hx112⟩ := idx_some hv66
       have hl115 := (List.getElem?_eq_some_iff.1 hx112).1
       obtain ⟨vs113, hr114, hq116⟩ := h15.at_ m110 x65 hx112
       obtain rfl := hr114
       refine ops_val (op := (Go.Op.indexAddr 32 (Go.Operand.tmp 37) (Go.Operand.tmp 38))) (d := some 51) (v := vP g28 (m110 * 1)) ⟨by kernel_rfl⟩ (run_indexRow Try.underlying32 (z := 1) (by kernel_rfl) rfl rfl hm111 hl115 rfl) ?_
       refine oR [] [(51, vP g28 (m110 * 1)), (50, vI x56), (46, vI x47), (41, vI (IntKind.i64.wrap (i18 - 1))), (39, .slice (some ⟨g28, 0, none⟩) l13.length c_data), (0, .slice (some ⟨g28, 0, none⟩) l13.length c_data), (1, vI a), (2, vI b), (3, .func (.func 52) #[] #[vP b_cmp_c0 0]), (8, vI i6), (9, vI i18)] [51, 50, 46, 41, 39, 0, 1, 2, 3, 8, 9] (by kernel_rfl) ?_
       obtain ⟨m117, hm118, hl119, he120⟩ := upd_some hv75
       obtain rfl : m110 = m117 := by have := hm111; omega
       have hl121 : l13.length = l74.length := by rw [he120, List.length_set]
       obtain ⟨y122, hy123⟩ : ∃ y_, setAll y14 (m110 * 1 + 0) [vI x47] = y_ := ⟨_, rfl⟩
       have h124 : RepL (Rep.int .i64) F W l74 y122 := by rw [he120, ← hy123]; exact RepL.set h15 (List.getElem?_eq_getElem hl119) (fun vs_ hr_ _ => by obtain rfl := hr_; exact ⟨rfl, Nat.le_of_ble_eq_true rfl⟩)
       refine ops_store (an := []) (evs := [.store ⟨g28, m110 * 1, none⟩ (vI x47)]) (M' := Mem w0 (orow (some ⟨g28, 0, none⟩) l74.length c_data 3 1 y122 :: .blk b_cmp_c0 [.slice A_cmp_c0_0 cmp_c0_0.length c_cmp_c0_0] 32 :: Fz F W :: cs)) ⟨by kernel_rfl⟩ (fun w_ hM hS => let ⟨w', he, h'⟩ := hM.ostore' 0 rfl (m110 * 1 + 0) [vI x47] (by have z_ : y14.length = l13.length * 1 := h15.len; have y_ : (m110 + 1) * 1 ≤ l13.length * 1 := Nat.mul_le_mul_right _ hl119; rw [Nat.add_mul] at y_; simp only [List.length_cons, List.length_nil]; omega) hl121 hy123; ⟨w', he, h', (by exact h'.sub (.cons _ (.cons_cons _ (.cons_cons _ (.refl _)))))⟩) ?_
       refine ops_conv (l' := [(51, vP g28 (m110 * 1)), (50, vI x56), (46, vI x47), (41, vI (IntKind.i64.wrap (i18 - 1))), (39, .slice (some ⟨g28, 0, none⟩) l74.length c_data), (0, .slice (some ⟨g28, 0, none⟩) l74.length c_data), (1, vI a), (2, vI b), (3, .func (.func 52) #[] #[vP b_cmp_c0 0]), (8, vI i6), (9, vI i18)]) (M' := Mem w0 (orow (some ⟨g28, 0, none⟩) l74.length c_data 3 1 y122 :: .blk b_cmp_c0 [.slice A_cmp_c0_0 cmp_c0_0.length c_cmp_c0_0] 32 :: Fz F W :: cs)) (by first | rfl | rw [hl121]) (fun w_ hM => by first | exact hM | (rw [hl121] at hM; exact hM)) ?_
       refine oR [] [(50, vI x56), (41, vI (IntKind.i64.wrap (i18 - 1))), (39, .slice (some ⟨g28, 0, none⟩) l74.length c_data), (0, .slice (some ⟨g28, 0, none⟩) l74.length c_data), (1, vI a), (2, vI b), (3, .func (.func 52) #[] #[vP b_cmp_c0 0]), (8, vI i6), (9, vI i18)] [50, 41, 39, 0, 1, 2, 3, 8, 9] (by kernel_rfl) ?_
       obtain ⟨m126, hm127, hx128⟩ := idx_some hv86
       have hl131 := (List.getElem?_eq_some_iff.1 hx128).1
       obtain ⟨vs129, hr130, hq132⟩ := h124.at_ m126 x85 hx128
       obtain rfl := hr130
       refine ops_val (op := (Go.Op.indexAddr 32 (Go.Operand.tmp 39) (Go.Operand.tmp 41))) (d := some 52) (v := vP g28 (m126 * 1)) ⟨by kernel_rfl⟩ (run_indexRow Try.underlying32 (z := 1) (by kernel_rfl) rfl rfl hm127 hl131 rfl) ?_
       refine oR [] [(52, vP g28 (m126 * 1)), (50, vI x56), (0, .slice (some ⟨g28, 0, none⟩) l74.length c_data), (1, vI a), (2, vI b), (3, .func (.func 52) #[] #[vP b_cmp_c0 0]), (8, vI i6), (9, vI i18)] [52, 50, 0, 1, 2, 3, 8, 9] (by kernel_rfl) ?_
       obtain ⟨m133, hm134, hl135, he136⟩ := upd_some hv95
       obtain rfl : m126 = m133 := by have := hm127; omega
       have hl137 : l74.length = l94.length := by rw [he136, List.length_set]
       obtain ⟨y138, hy139⟩ : ∃ y_, setAll y122 (m126 * 1 + 0) [vI x56] = y_ := ⟨_, rfl⟩
       have h140 : RepL (Rep.int .i64) F W l94 y138 := by rw [he136, ← hy139]; exact RepL.set h124 (List.getElem?_eq_getElem hl135) (fun vs_ hr_ _ => by obtain rfl := hr_; exact ⟨rfl, Nat.le_of_ble_eq_true rfl⟩)
       refine ops_store (an := []) (evs := [.store ⟨g28, m126 * 1, none⟩ (vI x56)]) (M' := Mem w0 (orow (some ⟨g28, 0, none⟩) l94.length c_data 3 1 y138 :: .blk b_cmp_c0 [.slice A_cmp_c0_0 cmp_c0_0.length c_cmp_c0_0] 32 :: Fz F W :: cs)) ⟨by kernel_rfl⟩ (fun w_ hM hS => let ⟨w', he, h'⟩ := hM.ostore' 0 rfl (m126 * 1 + 0) [vI x56] (by have z_ : y122.length = l74.length * 1 := h124.len; have y_ : (m126 + 1) * 1 ≤ l74.length * 1 := Nat.mul_le_mul_right _ hl135; rw [Nat.add_mul] at y_; simp only [List.length_cons, List.length_nil]; omega) hl137 hy139; ⟨w', he, h', (by exact h'.sub (.cons _ (.cons_cons _ (.cons_cons _ (.refl _)))))⟩) ?_
       refine ops_conv (l' := [(52, vP g28 (m126 * 1)), (50, vI x56), (0, .slice (some ⟨g28, 0, none⟩) l94.length c_data), (1, vI a), (2, vI b), (3, .func (.func 52) #[] #[vP b_cmp_c0 0]), (8, vI i6), (9, vI i18)]) (M' := Mem w0 (orow (some ⟨g28, 0, none⟩) l94.length c_data 3 1 y138 :: .blk b_cmp_c0 [.slice A_cmp_c0_0 cmp_c0_0.length c_cmp_c0_0] 32 :: Fz F W :: cs)) (by first | rfl | rw [hl137]) (fun w_ hM => by first | exact hM | (rw [hl137] at hM; exact hM)) ?_
       refine oR [] [(0, .slice (some ⟨g28, 0, none⟩) l94.length c_data), (1, vI a), (2, vI b), (3, .func (.func 52) #[] #[vP b_cmp_c0 0]), (8, vI i6), (9, vI i18)] [0, 1, 2, 3, 8, 9] (by kernel_rfl) ?_
       refine ops_nil ?_
       refine fin_block ?_
       exact fin_join HJ4 (l94, y138) ⟨hp, h140, (hl137.symm.trans (hl121.symm.trans hl16))⟩ (look_has ⟨rfl, rfl, rfl, rfl, rfl, rfl, trivial⟩) (fun w_ hM => hM)
      · --
       refine tree_leaf ?_
       refine ops_mem (d := some 50) (an := [.v (vI x56)]) (evs := [.load ⟨g28, m103 * 1, none⟩ (vI x56)]) (v := vI x56) (M' := Mem w0 (orow (some ⟨g28, 0, none⟩) l13.length c_data 3 1 y14 :: .blk b_cmp_c0 [.slice A_cmp_c0_0 cmp_c0_0.length c_cmp_c0_0] 32 :: Fz F W :: cs)) ⟨by kernel_rfl⟩ (fun w_ hM hS => ⟨w_, ⟨hM.ocell 0 rfl (hq109 0 _ rfl), rfl⟩, hM, hS⟩) ?_
       refine oR [] [(50, vI x56), (45, vP g28 (m96 * 1)), (41, vI (IntKind.i64.wrap (i18 - 1))), (39, .slice (some ⟨g28, 0, none⟩) l13.length c_data), (38, vI i18), (37, .slice (some ⟨g28, 0, none⟩) l13.length c_data), (0, .slice (some ⟨g28, 0, none⟩) l13.length c_data), (1, vI a), (2, vI b), (3, .func (.func 52) #[] #[vP b_cmp_c0 0]), (8, vI i6), (9, vI i18)] [50, 45, 41, 39, 38, 37, 0, 1, 2, 3, 8, 9] (by kernel_rfl) ?_
       refine ops_mem (d := some 46) (an := [.v (vI x47)]) (evs := [.load ⟨g28, m96 * 1, none⟩ (vI x47)]) (v := vI x47) (M' := Mem w0 (orow (some ⟨g28, 0, none⟩) l13.length c_data 3 1 y14 :: .blk b_cmp_c0 [.slice A_cmp_c0_0 cmp_c0_0.length c_cmp_c0_0] 32 :: Fz F W :: cs)) ⟨by kernel_rfl⟩ (fun w_ hM hS => ⟨w_, ⟨hM.ocell 0 rfl (hq102 0 _ rfl), rfl⟩, hM, hS⟩) ?_
       refine oR [] [(46, vI x47), (50, vI x56), (41, vI (IntKind.i64.wrap (i18 - 1))), (39, .slice (some ⟨g28, 0, none⟩) l13.length c_data), (38, vI i18), (37, .slice (some ⟨g28, 0, none⟩) l13.length c_data), (0, .slice (some ⟨g28, 0, none⟩) l13.length c_data), (1, vI a), (2, vI b), (3, .func (.func 52) #[] #[vP b_cmp_c0 0]), (8, vI i6), (9, vI i18)] [46, 50, 41, 39, 38, 37, 0, 1, 2, 3, 8, 9] (by kernel_rfl) ?_
       obtain ⟨m142, hm143, hx144⟩ := idx_some hv66
       have hl147 := (List.getElem?_eq_some_iff.1 hx144).1
       obtain ⟨vs145, hr146, hq148⟩ := h15.at_ m142 x65 hx144
       obtain rfl := hr146
       refine ops_val (op := (Go.Op.indexAddr 32 (Go.Operand.tmp 37) (Go.Operand.tmp 38))) (d := some 51) (v := vP g28 (m142 * 1)) ⟨by kernel_rfl⟩ (run_indexRow Try.underlying32 (z := 1) (by kernel_rfl) rfl rfl hm143 hl147 rfl) ?_
       refine oR [] [(51, vP g28 (m142 * 1)), (46, vI x47), (50, vI x56), (41, vI (IntKind.i64.wrap (i18 - 1))), (39, .slice (some ⟨g28, 0, none⟩) l13.length c_data), (0, .slice (some ⟨g28, 0, none⟩) l13.length c_data), (1, vI a), (2, vI b), (3, .func (.func 52) #[] #[vP b_cmp_c0 0]), (8, vI i6), (9, vI i18)] [51, 46, 50, 41, 39, 0, 1, 2, 3, 8, 9] (by kernel_rfl) ?_
       obtain ⟨m149, hm150, hl151, he152⟩ := upd_some hv75
       obtain rfl : m142 = m149 := by have := hm143; omega
       have hl153 : l13.length = l74.length := by rw [he152, List.length_set]
       obtain ⟨y154, hy155⟩ : ∃ y_, setAll y14 (m142 * 1 + 0) [vI x47] = y_ := ⟨_, rfl⟩
       have h156 : RepL (Rep.int .i64) F W l74 y154 := by rw [he152, ← hy155]; exact RepL.set h15 (List.getElem?_eq_getElem hl151) (fun vs_ hr_ _ => by obtain rfl := hr_; exact ⟨rfl, Nat.le_of_ble_eq_true rfl⟩)
       refine ops_store (an := []) (evs := [.store ⟨g28, m142 * 1, none⟩ (vI x47)]) (M' := Mem w0 (orow (some ⟨g28, 0, none⟩) l74.length c_data 3 1 y154 :: .blk b_cmp_c0 [.slice A_cmp_c0_0 cmp_c0_0.length c_cmp_c0_0] 32 :: Fz F W :: cs)) ⟨by kernel_rfl⟩ (fun w_ hM hS => let ⟨w', he, h'⟩ := hM.ostore' 0 rfl (m142 * 1 + 0) [vI x47] (by have z_ : y14.length = l13.length * 1 := h15.len; have y_ : (m142 + 1) * 1 ≤ l13.length * 1 := Nat.mul_le_mul_right _ hl151; rw [Nat.add_mul] at y_; simp only [List.length_cons, List.length_nil]; omega) hl153 hy155; ⟨w', he, h', (by exact h'.sub (.cons _ (.cons_cons _ (.cons_cons _ (.refl _)))))⟩) ?_
       refine ops_conv (l' := [(51, vP g28 (m142 * 1)), (46, vI x47), (50, vI x56), (41, vI (IntKind.i64.wrap (i18 - 1))), (39, .slice (some ⟨g28, 0, none⟩) l74.length c_data), (0, .slice (some ⟨g28, 0, none⟩) l74.length c_data), (1, vI a), (2, vI b), (3, .func (.func 52) #[] #[vP b_cmp_c0 0]), (8, vI i6), (9, vI i18)]) (M' := Mem w0 (orow (some ⟨g28, 0, none⟩) l74.length c_data 3 1 y154 :: .blk b_cmp_c0 [.slice A_cmp_c0_0 cmp_c0_0.length c_cmp_c0_0] 32 :: Fz F W :: cs)) (by first | rfl | rw [hl153]) (fun w_ hM => by first | exact hM | (rw [hl153] at hM; exact hM)) ?_
       refine oR [] [(50, vI x56), (41, vI (IntKind.i64.wrap (i18 - 1))), (39, .slice (some ⟨g28, 0, none⟩) l74.length c_data), (0, .slice (some ⟨g28, 0, none⟩) l74.length c_data), (1, vI a), (2, vI b), (3, .func (.func 52) #[] #[vP b_cmp_c0 0]), (8, vI i6), (9, vI i18)] [50, 41, 39, 0, 1, 2, 3, 8, 9] (by kernel_rfl) ?_
       obtain ⟨m158, hm159, hx160⟩ := idx_some hv86
       have hl163 := (List.getElem?_eq_some_iff.1 hx160).1
       obtain ⟨vs161, hr162, hq164⟩ := h156.at_ m158 x85 hx160
       obtain rfl := hr162
       refine ops_val (op := (Go.Op.indexAddr 32 (Go.Operand.tmp 39) (Go.Operand.tmp 41))) (d := some 52) (v := vP g28 (m158 * 1)) ⟨by kernel_rfl⟩ (run_indexRow Try.underlying32 (z := 1) (by kernel_rfl) rfl rfl hm159 hl163 rfl) ?_
       refine oR [] [(52, vP g28 (m158 * 1)), (50, vI x56), (0, .slice (some ⟨g28, 0, none⟩) l74.length c_data), (1, vI a), (2, vI b), (3, .func (.func 52) #[] #[vP b_cmp_c0 0]), (8, vI i6), (9, vI i18)] [52, 50, 0, 1, 2, 3, 8, 9] (by kernel_rfl) ?_
       obtain ⟨m165, hm166, hl167, he168⟩ := upd_some hv95
       obtain rfl : m158 = m165 := by have := hm159; omega
       have hl169 : l74.length = l94.length := by rw [he168, List.length_set]
       obtain ⟨y170, hy171⟩ : ∃ y_, setAll y154 (m158 * 1 + 0) [vI x56] = y_ := ⟨_, rfl⟩
       have h172 : RepL (Rep.int .i64) F W l94 y170 := by rw [he168, ← hy171]; exact RepL.set h156 (List.getElem?_eq_getElem hl167) (fun vs_ hr_ _ => by obtain rfl := hr_; exact ⟨rfl, Nat.le_of_ble_eq_true rfl⟩)
       refine ops_store (an := []) (evs := [.store ⟨g28, m158 * 1, none⟩ (vI x56)]) (M' := Mem w0 (orow (some ⟨g28, 0, none⟩) l94.length c_data 3 1 y170 :: .blk b_cmp_c0 [.slice A_cmp_c0_0 cmp_c0_0.length c_cmp_c0_0] 32 :: Fz F W :: cs)) ⟨by kernel_rfl⟩ (fun w_ hM hS => let ⟨w', he, h'⟩ := hM.ostore' 0 rfl (m158 * 1 + 0) [vI x56] (by have z_ : y154.length = l74.length * 1 := h156.len; have y_ : (m158 + 1) * 1 ≤ l74.length * 1 := Nat.mul_le_mul_right _ hl167; rw [Nat.add_mul] at y_; simp only [List.length_cons, List.length_nil]; omega) hl169 hy171; ⟨w', he, h', (by exact h'.sub (.cons _ (.cons_cons _ (.cons_cons _ (.refl _)))))⟩) ?_
       refine ops_conv (l' := [(52, vP g28 (m158 * 1)), (50, vI x56), (0, .slice (some ⟨g28, 0, none⟩) l94.length c_data), (1, vI a), (2, vI b), (3, .func (.func 52) #[] #[vP b_cmp_c0 0]), (8, vI i6), (9, vI i18)]) (M' := Mem w0 (orow (some ⟨g28, 0, none⟩) l94.length c_data 3 1 y170 :: .blk b_cmp_c0 [.slice A_cmp_c0_0 cmp_c0_0.length c_cmp_c0_0] 32 :: Fz F W :: cs)) (by first | rfl | rw [hl169]) (fun w_ hM => by first | exact hM | (rw [hl169] at hM; exact hM)) ?_
       refine oR [] [(0, .slice (some ⟨g28, 0, none⟩) l94.length c_data), (1, vI a), (2, vI b), (3, .func (.func 52) #[] #[vP b_cmp_c0 0]), (8, vI i6), (9, vI i18)] [0, 1, 2, 3, 8, 9] (by kernel_rfl) ?_
       refine ops_nil ?_
       refine fin_block ?_
       exact fin_join HJ4 (l94, y170) ⟨hp, h172, (hl169.symm.trans (hl153.symm.trans hl16))⟩ (look_has ⟨rfl, rfl, rfl, rfl, rfl, rfl, trivial⟩) (fun w_ hM => hM)
    · --
     have hp := cnd_f hc42 hp
     refine st_exit ?_
     refine fin_exit_then ?_
     refine fin_exit_then ?_
     refine fin_exit ?_
     refine fin_block ?_
     obtain hq_ := Option.some.inj hp
     subst hq_
     obtain hq_ := hd3 _ rfl
     subst hq_
     have hp : (slices_insertionSortCmpFunc_int_j2 i6) l13 = some o1 := hk3
     exact fin_join HJ2 (l13, y14) ⟨hp, h15, hl16, h41⟩ (look_has ⟨rfl, rfl, rfl, rfl, rfl, trivial⟩) (fun w_ hM => hM)
   · --
    have hp := cnd_f hc19 hp
    refine oR [oT 4, oT 5, oT 6, oT 7, oT 8, oT 9, oT 10, oT 11, oT 12, oT 13, oF 14, oT 15, oT 16] [(34, .bool false), (0, .slice A_data l13.length c_data), (1, vI a), (2, vI b), (3, .func (.func 52) #[] #[vP b_cmp_c0 0]), (8, vI i6), (9, vI i18)] [34, 0, 1, 2, 3, 8, 9] (by kernel_rfl) ?_
    refine ops_nil ?_
    refine fin_then ?_
    refine st_false rfl ?_
    refine st_exit ?_
    refine fin_exit_then ?_
    refine fin_exit_then ?_
    refine fin_exit ?_
    refine fin_block ?_
    obtain hq_ := Option.some.inj hp
    subst hq_
    obtain hq_ := hd3 _ rfl
    subst hq_
    have hp : (slices_insertionSortCmpFunc_int_j2 i6) l13 = some o1 := hk3
    exact fin_join HJ2 (l13, y14) ⟨hp, h15, hl16, h17⟩ (look_has ⟨rfl, rfl, rfl, rfl, rfl, trivial⟩) (fun w_ hM => hM)
 · --
  have hp := cnd_f hc7 hp
  refine st_exit ?_
  refine fin_exit_then ?_
  refine fin_exit_then ?_
  refine fin_exit ?_
  obtain hq_ := Option.some.inj hp
  subst hq_
  obtain hq_ := hd1 _ rfl
  subst hq_
  have hp : some l1 = some l9001 := hk1
  have hq_ := Option.some.inj hp
  have hr0_ := hq_
  subst hr0_
  refine fin_ret [] [] rfl rfl (fun w_ hM => .nil) (fun w_ hM => ?_)
  exact ⟨y2, ⟨h3, hl4, h5⟩, rfl, hM⟩
set_option maxHeartbeats 4000000 in
set_option maxRecDepth 100000 in
theorem slices_swapRangeCmpFunc_int_ok (w0 w : World) (cs : List Chunk) (F : Nat → Prop) (W : World) (A_data : Option Addr) (c_data : Nat) (data : List Int) (y_data : List Value) (a : Int) (b : Int) (n : Int) (b_cmp_c0 : Nat) (A_cmp_c0_0 : Option Addr) (c_cmp_c0_0 : Nat) (cmp_c0_0 : List Int) (hM0 : Mem w0 (orow A_data data.length c_data 3 1 y_data :: .blk b_cmp_c0 [.slice A_cmp_c0_0 cmp_c0_0.length c_cmp_c0_0] 32 :: Fz F W :: cs) w) (h_data : RepL (Rep.int .i64) F W data y_data) (h_cmp_c0_0 : RdS (Rep.int .i64) F W A_cmp_c0_0 c_cmp_c0_0 cmp_c0_0) (l9001 : List Int) (hp : slices_swapRangeCmpFunc_int data a b n cmp_c0_0 = some l9001) : Calls Try.prog 82 #[.slice A_data data.length c_data, vI a, vI b, vI n, .func (.func 52) #[] #[vP b_cmp_c0 0]] w fun e w' => ∃ (y9002 : List Value), ((RepL (Rep.int .i64) F W l9001 y9002) ∧ (l9001.length = data.length) ∧ (RdS (Rep.int .i64) F W A_cmp_c0_0 c_cmp_c0_0 cmp_c0_0)) ∧ e = .returned (.tuple #[]) ∧ Mem w0 (orow A_data l9001.length c_data 3 1 y9002 :: .blk b_cmp_c0 [.slice A_cmp_c0_0 cmp_c0_0.length c_cmp_c0_0] 32 :: Fz F W :: cs) w' := by
 unfold slices_swapRangeCmpFunc_int at hp
 refine sx_calls Try.func82 rfl (n := 38) (by kernel_rfl) (l := [(0, .slice A_data data.length c_data), (1, vI a), (2, vI b), (3, vI n), (4, .func (.func 52) #[] #[vP b_cmp_c0 0])]) rfl (by rfl) hM0 ?_
 refine st_seq ?_
 refine st_region [oF 0] (by rfl) ?_
 refine oR [oF 0] [(10, vI 0), (0, .slice A_data data.length c_data), (1, vI a), (2, vI b), (3, vI n)] [10, 0, 1, 2, 3] (by kernel_rfl) ?_
 refine ops_nil ?_
 refine fin_then ?_
 refine st_block ?_
 obtain ⟨r1, hl1, hk1⟩ := obind hp
 refine st_loopP (σ := (List Int) × Int) (ρ := (List Int)) (γ := (List Value)) hl1 y_data (fun s_ g_ => match s_, g_ with | (l1, i5), y2 => [(0, .slice A_data l1.length c_data), (1, vI a), (2, vI b), (3, vI n), (10, vI i5)]) (fun s_ g_ => match s_, g_ with | (l1, i5), y2 => Mem w0 (orow A_data l1.length c_data 3 1 y2 :: .blk b_cmp_c0 [.slice A_cmp_c0_0 cmp_c0_0.length c_cmp_c0_0] 32 :: Fz F W :: cs)) (fun s_ g_ => match s_, g_ with | (l1, i5), y2 => (RepL (Rep.int .i64) F W l1 y2) ∧ (l1.length = data.length)) ⟨h_data, rfl⟩ (look_has ⟨rfl, rfl, rfl, rfl, rfl, trivial⟩) (fun w_ hM => hM) ?_
 rintro ⟨l1, i5⟩ y2 o1 ⟨h3, hl4⟩ hs_ hd1
 have hp : (slices_swapRangeCmpFunc_int_l1 n b a) l1 i5 = some o1 := hs_
 clear hs_
 unfold slices_swapRangeCmpFunc_int_l1 at hp
 refine st_conv (l' := [(0, .slice A_data l1.length c_data), (1, vI a), (2, vI b), (3, vI n), (10, vI i5)]) (M' := Mem w0 (orow A_data l1.length c_data 3 1 y2 :: .blk b_cmp_c0 [.slice A_cmp_c0_0 cmp_c0_0.length c_cmp_c0_0] 32 :: Fz F W :: cs)) rfl (fun _ h => h) ?_
 refine st_seq ?_
 refine st_seq ?_
 refine st_region [oF 0, oF 1, oF 2] (by rfl) ?_
 refine oR [oF 0, oF 1, oF 2] [(13, .bool (decide (i5 < n))), (0, .slice A_data l1.length c_data), (1, vI a), (2, vI b), (3, vI n), (10, vI i5)] [13, 0, 1, 2, 3, 10] (by kernel_rfl) ?_
 refine ops_nil ?_
 refine fin_then ?_
 refine st_if (b := decide (i5 < n)) rfl (fun hc6 => ?_) (fun hc6 => ?_)
 · --
  have hp := cnd_t hc6 hp
  refine st_skip ?_
  refine fin_then ?_
  refine st_join1 (σ := (List Int) × (List Value)) (L := fun x_ => match x_ with | (l7, y8) => [(0, .slice A_data l7.length c_data), (1, vI a), (2, vI b), (3, vI n), (10, vI i5)]) (N := fun x_ => match x_ with | (l7, y8) => Mem w0 (orow A_data l7.length c_data 3 1 y8 :: .blk b_cmp_c0 [.slice A_cmp_c0_0 cmp_c0_0.length c_cmp_c0_0] 32 :: Fz F W :: cs)) (I := fun x_ => match x_ with | (l7, y8) => ((slices_swapRangeCmpFunc_int_j2 i5) l7 = some o1) ∧ (RepL (Rep.int .i64) F W l7 y8) ∧ (l7.length = data.length)) ?_ ?_
  · --
   rintro ⟨l7, y8⟩ ⟨hp, h9, hl10⟩
   refine st_conv (l' := [(0, .slice A_data l7.length c_data), (1, vI a), (2, vI b), (3, vI n), (10, vI i5)]) (M' := Mem w0 (orow A_data l7.length c_data 3 1 y8 :: .blk b_cmp_c0 [.slice A_cmp_c0_0 cmp_c0_0.length c_cmp_c0_0] 32 :: Fz F W :: cs)) rfl (fun _ h => h) ?_
   unfold slices_swapRangeCmpFunc_int_j2 at hp
   refine st_region [oF 0, oF 1, oF 2] (by rfl) ?_
   refine oR [oF 0, oF 1, oF 2] [(10, vI (IntKind.i64.wrap (i5 + 1))), (0, .slice A_data l7.length c_data), (1, vI a), (2, vI b), (3, vI n)] [10, 0, 1, 2, 3] (by kernel_rfl) ?_
   refine ops_nil ?_
   exact fin_again (l7, IntKind.i64.wrap (i5 + 1)) y8 (Option.some.inj hp).symm ⟨h9, hl10⟩ (look_has ⟨rfl, rfl, rfl, rfl, rfl, trivial⟩) (fun w_ hM => hM)
  · --
   intro HJ2
   refine st_seq ?_
   refine st_block ?_
   obtain ⟨x11, hv12, hp⟩ := obind hp
   obtain ⟨x21, hv22, hp⟩ := obind hp
   obtain ⟨x30, hv31, hp⟩ := obind hp
   obtain ⟨l39, hv40, hp⟩ := obind hp
   obtain ⟨x50, hv51, hp⟩ := obind hp
   obtain ⟨l59, hv60, hp⟩ := obind hp
   refine st_region_tree (.node [oT 0, oT 1, oT 2, oT 3, oT 4, oT 5, oT 6, oT 7, oT 8, oT 9, oT 10, oT 11, oT 12, oT 14, oT 15, oT 16, oT 17, oT 18] (.leaf [oF 13, oF 19, oT 20, oF 21, oT 22, oF 23]) (.leaf [oF 19, oF 13, oT 20, oF 21, oT 22, oF 23])) (Mem w0 (.blk b_cmp_c0 [.slice A_cmp_c0_0 cmp_c0_0.length c_cmp_c0_0] 32 :: Fz F W :: cs)) (by kernel_rfl) (by kernel_rfl) (by kernel_rfl) (fun _ d _ _ _ h => by cases d <;> exact h) (M' := Mem w0 (orow A_data l1.length c_data 3 1 y2 :: .blk b_cmp_c0 [.slice A_cmp_c0_0 cmp_c0_0.length c_cmp_c0_0] 32 :: Fz F W :: cs)) (fun w_ hM => ⟨hM.drew, hM.drew.sub (.cons _ (.cons_cons _ (.cons_cons _ (.refl _))))⟩) ?_
   refine tree_node ?_
   refine oR [oT 0, oT 1, oT 2, oT 3, oT 4, oT 5, oT 6, oT 7, oT 8, oT 9, oT 10, oT 11] [(27, vI (IntKind.i64.wrap (b + i5))), (24, .slice A_data l1.length c_data), (23, vI (IntKind.i64.wrap (b + i5))), (20, .slice A_data l1.length c_data), (19, vI (IntKind.i64.wrap (a + i5))), (16, .slice A_data l1.length c_data), (0, .slice A_data l1.length c_data), (1, vI a), (2, vI b), (3, vI n), (10, vI i5)] [27, 24, 23, 20, 19, 16, 0, 1, 2, 3, 10] (by kernel_rfl) ?_
   obtain ⟨m61, hm62, hx63⟩ := idx_some hv12
   have hl66 := (List.getElem?_eq_some_iff.1 hx63).1
   refine ops_fact (fun w_ hM => hM.orowSome 0 rfl (Nat.lt_of_le_of_lt (Nat.zero_le _) hl66)) ?_
   rintro ⟨g67, rfl, -⟩
   obtain ⟨vs64, hr65, hq68⟩ := h3.at_ m61 x11 hx63
   obtain rfl := hr65
   refine ops_val (op := (Go.Op.indexAddr 32 (Go.Operand.tmp 24) (Go.Operand.tmp 27))) (d := some 28) (v := vP g67 (m61 * 1)) ⟨by kernel_rfl⟩ (run_indexRow Try.underlying32 (z := 1) (by kernel_rfl) rfl rfl hm62 hl66 rfl) ?_
   refine oR [oT 14, oT 15, oT 16, oT 17] [(33, vI (IntKind.i64.wrap (a + i5))), (30, .slice (some ⟨g67, 0, none⟩) l1.length c_data), (28, vP g67 (m61 * 1)), (23, vI (IntKind.i64.wrap (b + i5))), (20, .slice (some ⟨g67, 0, none⟩) l1.length c_data), (19, vI (IntKind.i64.wrap (a + i5))), (16, .slice (some ⟨g67, 0, none⟩) l1.length c_data), (0, .slice (some ⟨g67, 0, none⟩) l1.length c_data), (1, vI a), (2, vI b), (3, vI n), (10, vI i5)] [33, 30, 28, 23, 20, 19, 16, 0, 1, 2, 3, 10] (by kernel_rfl) ?_
   obtain ⟨m69, hm70, hx71⟩ := idx_some hv22
   have hl74 := (List.getElem?_eq_some_iff.1 hx71).1
   obtain ⟨vs72, hr73, hq75⟩ := h3.at_ m69 x21 hx71
   obtain rfl := hr73
   refine ops_val (op := (Go.Op.indexAddr 32 (Go.Operand.tmp 30) (Go.Operand.tmp 33))) (d := some 34) (v := vP g67 (m69 * 1)) ⟨by kernel_rfl⟩ (run_indexRow Try.underlying32 (z := 1) (by kernel_rfl) rfl rfl hm70 hl74 rfl) ?_
   refine oR [] [(34, vP g67 (m69 * 1)), (28, vP g67 (m61 * 1)), (23, vI (IntKind.i64.wrap (b + i5))), (20, .slice (some ⟨g67, 0, none⟩) l1.length c_data), (19, vI (IntKind.i64.wrap (a + i5))), (16, .slice (some ⟨g67, 0, none⟩) l1.length c_data), (0, .slice (some ⟨g67, 0, none⟩) l1.length c_data), (1, vI a), (2, vI b), (3, vI n), (10, vI i5)] [34, 28, 23, 20, 19, 16, 0, 1, 2, 3, 10] (by kernel_rfl) ?_
   refine ops_nil ?_
   refine tree_both ?_ ?_
   · --
    refine tree_leaf ?_
    refine ops_mem (d := some 29) (an := [.v (vI x11)]) (evs := [.load ⟨g67, m61 * 1, none⟩ (vI x11)]) (v := vI x11) (M' := Mem w0 (orow (some ⟨g67, 0, none⟩) l1.length c_data 3 1 y2 :: .blk b_cmp_c0 [.slice A_cmp_c0_0 cmp_c0_0.length c_cmp_c0_0] 32 :: Fz F W :: cs)) ⟨by kernel_rfl⟩ (fun w_ hM hS => ⟨w_, ⟨hM.ocell 0 rfl (hq68 0 _ rfl), rfl⟩, hM, hS⟩) ?_
    refine oR [] [(29, vI x11), (34, vP g67 (m69 * 1)), (23, vI (IntKind.i64.wrap (b + i5))), (20, .slice (some ⟨g67, 0, none⟩) l1.length c_data), (19, vI (IntKind.i64.wrap (a + i5))), (16, .slice (some ⟨g67, 0, none⟩) l1.length c_data), (0, .slice (some ⟨g67, 0, none⟩) l1.length c_data), (1, vI a), (2, vI b), (3, vI n), (10, vI i5)] [29, 34, 23, 20, 19, 16, 0, 1, 2, 3, 10] (by kernel_rfl) ?_
    refine ops_mem (d := some 35) (an := [.v (vI x21)]) (evs := [.load ⟨g67, m69 * 1, none⟩ (vI x21)]) (v := vI x21) (M' := Mem w0 (orow (some ⟨g67, 0, none⟩) l1.length c_data 3 1 y2 :: .blk b_cmp_c0 [.slice A_cmp_c0_0 cmp_c0_0.length c_cmp_c0_0] 32 :: Fz F W :: cs)) ⟨by kernel_rfl⟩ (fun w_ hM hS => ⟨w_, ⟨hM.ocell 0 rfl (hq75 0 _ rfl), rfl⟩, hM, hS⟩) ?_
    refine oR [] [(35, vI x21), (29, vI x11), (23, vI (IntKind.i64.wrap (b + i5))), (20, .slice (some ⟨g67, 0, none⟩) l1.length c_data), (19, vI (IntKind.i64.wrap (a + i5))), (16, .slice (some ⟨g67, 0, none⟩) l1.length c_data), (0, .slice (some ⟨g67, 0, none⟩) l1.length c_data), (1, vI a), (2, vI b), (3, vI n), (10, vI i5)] [35, 29, 23, 20, 19, 16, 0, 1, 2, 3, 10] (by kernel_rfl) ?_
    obtain ⟨m76, hm77, hx78⟩ := idx_some hv31
    have hl81 := (List.getElem?_eq_some_iff.1 hx78).1
    obtain ⟨vs79, hr80, hq82⟩ := h3.at_ m76 x30 hx78
    obtain rfl := hr80
    refine ops_val (op := (Go.Op.indexAddr 32 (Go.Operand.tmp 16) (Go.Operand.tmp 19))) (d := some 36) (v := vP g67 (m76 * 1)) ⟨by kernel_rfl⟩ (run_indexRow Try.underlying32 (z := 1) (by kernel_rfl) rfl rfl hm77 hl81 rfl) ?_
    refine oR [] [(36, vP g67 (m76 * 1)), (35, vI x21), (29, vI x11), (23, vI (IntKind.i64.wrap (b + i5))), (20, .slice (some ⟨g67, 0, none⟩) l1.length c_data), (0, .slice (some ⟨g67, 0, none⟩) l1.length c_data), (1, vI a), (2, vI b), (3, vI n), (10, vI i5)] [36, 35, 29, 23, 20, 0, 1, 2, 3, 10] (by kernel_rfl) ?_
    obtain ⟨m83, hm84, hl85, he86⟩ := upd_some hv40
    obtain rfl : m76 = m83 := by have := hm77; omega
    have hl87 : l1.length = l39.length := by rw [he86, List.length_set]
    obtain ⟨y88, hy89⟩ : ∃ y_, setAll y2 (m76 * 1 + 0) [vI x11] = y_ := ⟨_, rfl⟩
    have h90 : RepL (Rep.int .i64) F W l39 y88 := by rw [he86, ← hy89]; exact RepL.set h3 (List.getElem?_eq_getElem hl85) (fun vs_ hr_ _ => by obtain rfl := hr_; exact ⟨rfl, Nat.le_of_ble_eq_true rfl⟩)
    refine ops_store (an := []) (evs := [.store ⟨g67, m76 * 1, none⟩ (vI x11)]) (M' := Mem w0 (orow (some ⟨g67, 0, none⟩) l39.length c_data 3 1 y88 :: .blk b_cmp_c0 [.slice A_cmp_c0_0 cmp_c0_0.length c_cmp_c0_0] 32 :: Fz F W :: cs)) ⟨by kernel_rfl⟩ (fun w_ hM hS => let ⟨w', he, h'⟩ := hM.ostore' 0 rfl (m76 * 1 + 0) [vI x11] (by have z_ : y2.length = l1.length * 1 := h3.len; have y_ : (m76 + 1) * 1 ≤ l1.length * 1 := Nat.mul_le_mul_right _ hl85; rw [Nat.add_mul] at y_; simp only [List.length_cons, List.length_nil]; omega) hl87 hy89; ⟨w', he, h', (by exact h'.sub (.cons _ (.cons_cons _ (.cons_cons _ (.refl _)))))⟩) ?_
    refine ops_conv (l' := [(36, vP g67 (m76 * 1)), (35, vI x21), (29, vI x11), (23, vI (IntKind.i64.wrap (b + i5))), (20, .slice (some ⟨g67, 0, none⟩) l39.length c_data), (0, .slice (some ⟨g67, 0, none⟩) l39.length c_data), (1, vI a), (2, vI b), (3, vI n), (10, vI i5)]) (M' := Mem w0 (orow (some ⟨g67, 0, none⟩) l39.length c_data 3 1 y88 :: .blk b_cmp_c0 [.slice A_cmp_c0_0 cmp_c0_0.length c_cmp_c0_0] 32 :: Fz F W :: cs)) (by first | rfl | rw [hl87]) (fun w_ hM => by first | exact hM | (rw [hl87] at hM; exact hM)) ?_
    refine oR [] [(35, vI x21), (23, vI (IntKind.i64.wrap (b + i5))), (20, .slice (some ⟨g67, 0, none⟩) l39.length c_data), (0, .slice (some ⟨g67, 0, none⟩) l39.length c_data), (1, vI a), (2, vI b), (3, vI n), (10, vI i5)] [35, 23, 20, 0, 1, 2, 3, 10] (by kernel_rfl) ?_
    obtain ⟨m92, hm93, hx94⟩ := idx_some hv51
    have hl97 := (List.getElem?_eq_some_iff.1 hx94).1
    obtain ⟨vs95, hr96, hq98⟩ := h90.at_ m92 x50 hx94
    obtain rfl := hr96
    refine ops_val (op := (Go.Op.indexAddr 32 (Go.Operand.tmp 20) (Go.Operand.tmp 23))) (d := some 37) (v := vP g67 (m92 * 1)) ⟨by kernel_rfl⟩ (run_indexRow Try.underlying32 (z := 1) (by kernel_rfl) rfl rfl hm93 hl97 rfl) ?_
    refine oR [] [(37, vP g67 (m92 * 1)), (35, vI x21), (0, .slice (some ⟨g67, 0, none⟩) l39.length c_data), (1, vI a), (2, vI b), (3, vI n), (10, vI i5)] [37, 35, 0, 1, 2, 3, 10] (by kernel_rfl) ?_
    obtain ⟨m99, hm100, hl101, he102⟩ := upd_some hv60
    obtain rfl : m92 = m99 := by have := hm93; omega
    have hl103 : l39.length = l59.length := by rw [he102, List.length_set]
    obtain ⟨y104, hy105⟩ : ∃ y_, setAll y88 (m92 * 1 + 0) [vI x21] = y_ := ⟨_, rfl⟩
    have h106 : RepL (Rep.int .i64) F W l59 y104 := by rw [he102, ← hy105]; exact RepL.set h90 (List.getElem?_eq_getElem hl101) (fun vs_ hr_ _ => by obtain rfl := hr_; exact ⟨rfl, Nat.le_of_ble_eq_true rfl⟩)
    refine ops_store (an := []) (evs := [.store ⟨g67, m92 * 1, none⟩ (vI x21)]) (M' := Mem w0 (orow (some ⟨g67, 0, none⟩) l59.length c_data 3 1 y104 :: .blk b_cmp_c0 [.slice A_cmp_c0_0 cmp_c0_0.length c_cmp_c0_0] 32 :: Fz F W :: cs)) ⟨by kernel_rfl⟩ (fun w_ hM hS => let ⟨w', he, h'⟩ := hM.ostore' 0 rfl (m92 * 1 + 0) [vI x21] (by have z_ : y88.length = l39.length * 1 := h90.len; have y_ : (m92 + 1) * 1 ≤ l39.length * 1 := Nat.mul_le_mul_right _ hl101; rw [Nat.add_mul] at y_; simp only [List.length_cons, List.length_nil]; omega) hl103 hy105; ⟨w', he, h', (by exact h'.sub (.cons _ (.cons_cons _ (.cons_cons _ (.refl _)))))⟩) ?_
    refine ops_conv (l' := [(37, vP g67 (m92 * 1)), (35, vI x21), (0, .slice (some ⟨g67, 0, none⟩) l59.length c_data), (1, vI a), (2, vI b), (3, vI n), (10, vI i5)]) (M' := Mem w0 (orow (some ⟨g67, 0, none⟩) l59.length c_data 3 1 y104 :: .blk b_cmp_c0 [.slice A_cmp_c0_0 cmp_c0_0.length c_cmp_c0_0] 32 :: Fz F W :: cs)) (by first | rfl | rw [hl103]) (fun w_ hM => by first | exact hM | (rw [hl103] at hM; exact hM)) ?_
    refine oR [] [(0, .slice (some ⟨g67, 0, none⟩) l59.length c_data), (1, vI a), (2, vI b), (3, vI n), (10, vI i5)] [0, 1, 2, 3, 10] (by kernel_rfl) ?_
    refine ops_nil ?_
    refine fin_block ?_
    exact fin_join HJ2 (l59, y104) ⟨hp, h106, (hl103.symm.trans (hl87.symm.trans hl4))⟩ (look_has ⟨rfl, rfl, rfl, rfl, rfl, trivial⟩) (fun w_ hM => hM)
   · --
    refine tree_leaf ?_
    refine ops_mem (d := some 35) (an := [.v (vI x21)]) (evs := [.load ⟨g67, m69 * 1, none⟩ (vI x21)]) (v := vI x21) (M' := Mem w0 (orow (some ⟨g67, 0, none⟩) l1.length c_data 3 1 y2 :: .blk b_cmp_c0 [.slice A_cmp_c0_0 cmp_c0_0.length c_cmp_c0_0] 32 :: Fz F W :: cs)) ⟨by kernel_rfl⟩ (fun w_ hM hS => ⟨w_, ⟨hM.ocell 0 rfl (hq75 0 _ rfl), rfl⟩, hM, hS⟩) ?_
    refine oR [] [(35, vI x21), (28, vP g67 (m61 * 1)), (23, vI (IntKind.i64.wrap (b + i5))), (20, .slice (some ⟨g67, 0, none⟩) l1.length c_data), (19, vI (IntKind.i64.wrap (a + i5))), (16, .slice (some ⟨g67, 0, none⟩) l1.length c_data), (0, .slice (some ⟨g67, 0, none⟩) l1.length c_data), (1, vI a), (2, vI b), (3, vI n), (10, vI i5)] [35, 28, 23, 20, 19, 16, 0, 1, 2, 3, 10] (by kernel_rfl) ?_
    refine ops_mem (d := some 29) (an := [.v (vI x11)]) (evs := [.load ⟨g67, m61 * 1, none⟩ (vI x11)]) (v := vI x11) (M' := Mem w0 (orow (some ⟨g67, 0, none⟩) l1.length c_data 3 1 y2 :: .blk b_cmp_c0 [.slice A_cmp_c0_0 cmp_c0_0.length c_cmp_c0_0] 32 :: Fz F W :: cs)) ⟨by kernel_rfl⟩ (fun w_ hM hS => ⟨w_, ⟨hM.ocell 0 rfl (hq68 0 _ rfl), rfl⟩, hM, hS⟩) ?_
    refine oR [] [(29, vI x11), (35, vI x21), (23, vI (IntKind.i64.wrap (b + i5))), (20, .slice (some ⟨g67, 0, none⟩) l1.length c_data), (19, vI (IntKind.i64.wrap (a + i5))), (16, .slice (some ⟨g67, 0, none⟩) l1.length c_data), (0, .slice (some ⟨g67, 0, none⟩) l1.length c_data), (1, vI a), (2, vI b), (3, vI n), (10, vI i5)] [29, 35, 23, 20, 19, 16, 0, 1, 2, 3, 10] (by kernel_rfl) ?_
    obtain ⟨m108, hm109, hx110⟩ := idx_some hv31
    have hl113 := (List.getElem?_eq_some_iff.1 hx110).1
    obtain ⟨vs111, hr112, hq114⟩ := h3.at_ m108 x30 hx110
    obtain rfl := hr112
    refine ops_val (op := (Go.Op.indexAddr 32 (Go.Operand.tmp 16) (Go.Operand.tmp 19))) (d := some 36) (v := vP g67 (m108 * 1)) ⟨by kernel_rfl⟩ (run_indexRow Try.underlying32 (z := 1) (by kernel_rfl) rfl rfl hm109 hl113 rfl) ?_
    refine oR [] [(36, vP g67 (m108 * 1)), (29, vI x11), (35, vI x21), (23, vI (IntKind.i64.wrap (b + i5))), (20, .slice (some ⟨g67, 0, none⟩) l1.length c_data), (0, .slice (some ⟨g67, 0, none⟩) l1.length c_data), (1, vI a), (2, vI b), (3, vI n), (10, vI i5)] [36, 29, 35, 23, 20, 0, 1, 2, 3, 10] (by kernel_rfl) ?_
    obtain ⟨m115, hm116, hl117, he118⟩ := upd_some hv40
    obtain rfl : m108 = m115 := by have := hm109; omega
    have hl119 : l1.length = l39.length := by rw [he118, List.length_set]
    obtain ⟨y120, hy121⟩ : ∃ y_, setAll y2 (m108 * 1 + 0) [vI x11] = y_ := ⟨_, rfl⟩
    have h122 : RepL (Rep.int .i64) F W l39 y120 := by rw [he118, ← hy121]; exact RepL.set h3 (List.getElem?_eq_getElem hl117) (fun vs_ hr_ _ => by obtain rfl := hr_; exact ⟨rfl, Nat.le_of_ble_eq_true rfl⟩)
    refine ops_store (an := []) (evs := [.store ⟨g67, m108 * 1, none⟩ (vI x11)]) (M' := Mem w0 (orow (some ⟨g67, 0, none⟩) l39.length c_data 3 1 y120 :: .blk b_cmp_c0 [.slice A_cmp_c0_0 cmp_c0_0.length c_cmp_c0_0] 32 :: Fz F W :: cs)) ⟨by kernel_rfl⟩ (fun w_ hM hS => let ⟨w', he, h'⟩ := hM.ostore' 0 rfl (m108 * 1 + 0) [vI x11] (by have z_ : y2.length = l1.length * 1 := h3.len; have y_ : (m108 + 1) * 1 ≤ l1.length * 1 := Nat.mul_le_mul_right _ hl117; rw [Nat.add_mul] at y_; simp only [List.length_cons, List.length_nil]; omega) hl119 hy121; ⟨w', he, h', (by exact h'.sub (.cons _ (.cons_cons _ (.cons_cons _ (.refl _)))))⟩) ?_
    refine ops_conv (l' := [(36, vP g67 (m108 * 1)), (29, vI x11), (35, vI x21), (23, vI (IntKind.i64.wrap (b + i5))), (20, .slice (some ⟨g67, 0, none⟩) l39.length c_data), (0, .slice (some ⟨g67, 0, none⟩) l39.length c_data), (1, vI a), (2, vI b), (3, vI n), (10, vI i5)]) (M' := Mem w0 (orow (some ⟨g67, 0, none⟩) l39.length c_data 3 1 y120 :: .blk b_cmp_c0 [.slice A_cmp_c0_0 cmp_c0_0.length c_cmp_c0_0] 32 :: Fz F W :: cs)) (by first | rfl | rw [hl119]) (fun w_ hM => by first | exact hM | (rw [hl119] at hM; exact hM)) ?_
    refine oR [] [(35, vI x21), (23, vI (IntKind.i64.wrap (b + i5))), (20, .slice (some ⟨g67, 0, none⟩) l39.length c_data), (0, .slice (some ⟨g67, 0, none⟩) l39.length c_data), (1, vI a), (2, vI b), (3, vI n), (10, vI i5)] [35, 23, 20, 0, 1, 2, 3, 10] (by kernel_rfl) ?_
    obtain ⟨m124, hm125, hx126⟩ := idx_some hv51
    have hl129 := (List.getElem?_eq_some_iff.1 hx126).1
    obtain ⟨vs127, hr128, hq130⟩ := h122.at_ m124 x50 hx126
    obtain rfl := hr128
    refine ops_val (op := (Go.Op.indexAddr 32 (Go.Operand.tmp 20) (Go.Operand.tmp 23))) (d := some 37) (v := vP g67 (m124 * 1)) ⟨by kernel_rfl⟩ (run_indexRow Try.underlying32 (z := 1) (by kernel_rfl) rfl rfl hm125 hl129 rfl) ?_
    refine oR [] [(37, vP g67 (m124 * 1)), (35, vI x21), (0, .slice (some ⟨g67, 0, none⟩) l39.length c_data), (1, vI a), (2, vI b), (3, vI n), (10, vI i5)] [37, 35, 0, 1, 2, 3, 10] (by kernel_rfl) ?_
    obtain ⟨m131, hm132, hl133, he134⟩ := upd_some hv60
    obtain rfl : m124 = m131 := by have := hm125; omega
    have hl135 : l39.length = l59.length := by rw [he134, List.length_set]
    obtain ⟨y136, hy137⟩ : ∃ y_, setAll y120 (m124 * 1 + 0) [vI x21] = y_ := ⟨_, rfl⟩
    have h138 : RepL (Rep.int .i64) F W l59 y136 := by rw [he134, ← hy137]; exact RepL.set h122 (List.getElem?_eq_getElem hl133) (fun vs_ hr_ _ => by obtain rfl := hr_; exact ⟨rfl, Nat.le_of_ble_eq_true rfl⟩)
    refine ops_store (an := []) (evs := [.store ⟨g67, m124 * 1, none⟩ (vI x21)]) (M' := Mem w0 (orow (some ⟨g67, 0, none⟩) l59.length c_data 3 1 y136 :: .blk b_cmp_c0 [.slice A_cmp_c0_0 cmp_c0_0.length c_cmp_c0_0] 32 :: Fz F W :: cs)) ⟨by kernel_rfl⟩ (fun w_ hM hS => let ⟨w', he, h'⟩ := hM.ostore' 0 rfl (m124 * 1 + 0) [vI x21] (by have z_ : y120.length = l39.length * 1 := h122.len; have y_ : (m124 + 1) * 1 ≤ l39.length * 1 := Nat.mul_le_mul_right _ hl133; rw [Nat.add_mul] at y_; simp only [List.length_cons, List.length_nil]; omega) hl135 hy137; ⟨w', he, h', (by exact h'.sub (.cons _ (.cons_cons _ (.cons_cons _ (.refl _)))))⟩) ?_
    refine ops_conv (l' := [(37, vP g67 (m124 * 1)), (35, vI x21), (0, .slice (some ⟨g67, 0, none⟩) l59.length c_data), (1, vI a), (2, vI b), (3, vI n), (10, vI i5)]) (M' := Mem w0 (orow (some ⟨g67, 0, none⟩) l59.length c_data 3 1 y136 :: .blk b_cmp_c0 [.slice A_cmp_c0_0 cmp_c0_0.length c_cmp_c0_0] 32 :: Fz F W :: cs)) (by first | rfl | rw [hl135]) (fun w_ hM => by first | exact hM | (rw [hl135] at hM; exact hM)) ?_
    refine oR [] [(0, .slice (some ⟨g67, 0, none⟩) l59.length c_data), (1, vI a), (2, vI b), (3, vI n), (10, vI i5)] [0, 1, 2, 3, 10] (by kernel_rfl) ?_
    refine ops_nil ?_
    refine fin_block ?_
    exact fin_join HJ2 (l59, y136) ⟨hp, h138, (hl135.symm.trans (hl119.symm.trans hl4))⟩ (look_has ⟨rfl, rfl, rfl, rfl, rfl, trivial⟩) (fun w_ hM => hM)
 · --
  have hp := cnd_f hc6 hp
  refine st_exit ?_
  refine fin_exit_then ?_
  refine fin_exit_then ?_
  refine fin_exit ?_
  obtain hq_ := Option.some.inj hp
  subst hq_
  obtain hq_ := hd1 _ rfl
  subst hq_
  have hp : some l1 = some l9001 := hk1
  have hq_ := Option.some.inj hp
  have hr0_ := hq_
  subst hr0_
  refine fin_ret [] [] rfl rfl (fun w_ hM => .nil) (fun w_ hM => ?_)
  exact ⟨y2, ⟨h3, hl4, h_cmp_c0_0⟩, rfl, hM⟩
set_option maxHeartbeats 4000000 in
set_option maxRecDepth 100000 in
theorem slices_rotateCmpFunc_int_ok (w0 w : World) (cs : List Chunk) (F : Nat → Prop) (W : World) (A_data : Option Addr) (c_data : Nat) (data : List Int) (y_data : List Value) (a : Int) (m : Int) (b : Int) (b_cmp_c0 : Nat) (A_cmp_c0_0 : Option Addr) (c_cmp_c0_0 : Nat) (cmp_c0_0 : List Int) (hM0 : Mem w0 (orow A_data data.length c_data 3 1 y_data :: .blk b_cmp_c0 [.slice A_cmp_c0_0 cmp_c0_0.length c_cmp_c0_0] 32 :: Fz F W :: cs) w) (h_data : RepL (Rep.int .i64) F W data y_data) (h_cmp_c0_0 : RdS (Rep.int .i64) F W A_cmp_c0_0 c_cmp_c0_0 cmp_c0_0) (l9001 : List Int) (hp : slices_rotateCmpFunc_int data a m b cmp_c0_0 = some l9001) : Calls Try.prog 81 #[.slice A_data data.length c_data, vI a, vI m, vI b, .func (.func 52) #[] #[vP b_cmp_c0 0]] w fun e w' => ∃ (y9002 : List Value), ((RepL (Rep.int .i64) F W l9001 y9002) ∧ (l9001.length = data.length) ∧ (RdS (Rep.int .i64) F W A_cmp_c0_0 c_cmp_c0_0 cmp_c0_0)) ∧ e = .returned (.tuple #[]) ∧ Mem w0 (orow A_data l9001.length c_data 3 1 y9002 :: .blk b_cmp_c0 [.slice A_cmp_c0_0 cmp_c0_0.length c_cmp_c0_0] 32 :: Fz F W :: cs) w' := by
 unfold slices_rotateCmpFunc_int at hp
 refine sx_calls Try.func81 rfl (n := 58) (by kernel_rfl) (l := [(0, .slice A_data data.length c_data), (1, vI a), (2, vI m), (3, vI b), (4, .func (.func 52) #[] #[vP b_cmp_c0 0])]) rfl (by rfl) hM0 ?_
 refine st_seq ?_
 refine st_region [oF 0, oF 1, oF 2, oF 3] (by rfl) ?_
 refine oR [oF 0, oF 1, oF 2, oF 3] [(10, vI (IntKind.i64.wrap (m - a))), (0, .slice A_data data.length c_data), (2, vI m), (3, vI b), (4, .func (.func 52) #[] #[vP b_cmp_c0 0])] [10, 0, 2, 3, 4] (by kernel_rfl) ?_
 refine ops_nil ?_
 refine fin_then ?_
 refine st_seq ?_
 refine st_region [oF 0, oF 1, oF 2, oF 3] (by rfl) ?_
 refine oR [oF 0, oF 1, oF 2, oF 3] [(11, vI (IntKind.i64.wrap (b - m))), (10, vI (IntKind.i64.wrap (m - a))), (0, .slice A_data data.length c_data), (2, vI m), (4, .func (.func 52) #[] #[vP b_cmp_c0 0])] [11, 10, 0, 2, 4] (by kernel_rfl) ?_
 refine ops_nil ?_
 refine fin_then ?_
 refine st_join1 (σ := (List Int) × (List Value) × Int) (L := fun x_ => match x_ with | (l1, y2, i6) => [(0, .slice A_data l1.length c_data), (2, vI m), (4, .func (.func 52) #[] #[vP b_cmp_c0 0]), (10, vI i6)]) (N := fun x_ => match x_ with | (l1, y2, i6) => Mem w0 (orow A_data l1.length c_data 3 1 y2 :: .blk b_cmp_c0 [.slice A_cmp_c0_0 cmp_c0_0.length c_cmp_c0_0] 32 :: Fz F W :: cs)) (I := fun x_ => match x_ with | (l1, y2, i6) => ((slices_rotateCmpFunc_int_j1 m cmp_c0_0) l1 i6 = some l9001) ∧ (RepL (Rep.int .i64) F W l1 y2) ∧ (l1.length = data.length) ∧ (RdS (Rep.int .i64) F W A_cmp_c0_0 c_cmp_c0_0 cmp_c0_0)) ?_ ?_
 · --
  rintro ⟨l1, y2, i6⟩ ⟨hp, h3, hl4, h5⟩
  refine st_conv (l' := [(0, .slice A_data l1.length c_data), (2, vI m), (4, .func (.func 52) #[] #[vP b_cmp_c0 0]), (10, vI i6)]) (M' := Mem w0 (orow A_data l1.length c_data 3 1 y2 :: .blk b_cmp_c0 [.slice A_cmp_c0_0 cmp_c0_0.length c_cmp_c0_0] 32 :: Fz F W :: cs)) rfl (fun _ h => h) ?_
  unfold slices_rotateCmpFunc_int_j1 at hp
  refine st_region [oF 0, oF 1, oF 2, oF 3, oF 4, oF 5, oF 6, oF 7] (by rfl) ?_
  refine oR [oF 0, oF 1, oF 2, oF 3, oF 4, oF 5, oF 6] [(56, .func (.func 52) #[] #[vP b_cmp_c0 0]), (55, vI i6), (54, vI m), (53, vI (IntKind.i64.wrap (m - i6))), (50, .slice A_data l1.length c_data)] [56, 55, 54, 53, 50] (by kernel_rfl) ?_
  obtain ⟨x7, hv8, hp⟩ := obind hp
  refine ops_callI (σ := (List Value)) (d := some 57) (f := 82) (args := #[.slice A_data l1.length c_data, vI (IntKind.i64.wrap (m - i6)), vI m, vI i6, .func (.func 52) #[] #[vP b_cmp_c0 0]]) (v := (fun x_ => match x_ with | y9 => .tuple #[])) (I := (fun x_ => match x_ with | y9 => (RepL (Rep.int .i64) F W x7 y9) ∧ (x7.length = l1.length) ∧ (RdS (Rep.int .i64) F W A_cmp_c0_0 c_cmp_c0_0 cmp_c0_0))) (M' := (fun x_ => match x_ with | y9 => Mem w0 (orow A_data x7.length c_data 3 1 y9 :: .blk b_cmp_c0 [.slice A_cmp_c0_0 cmp_c0_0.length c_cmp_c0_0] 32 :: Fz F W :: cs))) ⟨by kernel_rfl⟩ (fun w_ hM hS => (slices_swapRangeCmpFunc_int_ok w0 w_ (cs) F W A_data c_data l1 y2 (IntKind.i64.wrap (m - i6)) m i6 b_cmp_c0 A_cmp_c0_0 c_cmp_c0_0 cmp_c0_0 hM h3 h5 x7 hv8).mono (by rintro e w' ⟨y9, ⟨h10, h11, h12⟩, rfl, h'⟩; have h' : Mem w0 (orow A_data x7.length c_data 3 1 y9 :: .blk b_cmp_c0 [.slice A_cmp_c0_0 cmp_c0_0.length c_cmp_c0_0] 32 :: Fz F W :: cs) w' := h'; exact ⟨y9, ⟨h10, h11, h12⟩, rfl, h', trivial⟩)) ?_
  rintro y9 ⟨h10, h11, h12⟩
  refine ops_conv (l' := [(57, .tuple #[]), (56, .func (.func 52) #[] #[vP b_cmp_c0 0]), (55, vI i6), (54, vI m), (53, vI (IntKind.i64.wrap (m - i6))), (50, .slice A_data x7.length c_data)]) (M' := Mem w0 (orow A_data x7.length c_data 3 1 y9 :: .blk b_cmp_c0 [.slice A_cmp_c0_0 cmp_c0_0.length c_cmp_c0_0] 32 :: Fz F W :: cs)) (by first | rfl | (rw [h11]; done) | (rw [h11]; rfl)) (fun _ h => h) ?_
  refine oR [] [] [] (by kernel_rfl) ?_
  refine ops_nil ?_
  have hq_ := Option.some.inj hp
  have hr0_ := hq_
  subst hr0_
  refine fin_ret [] [] rfl rfl (fun w_ hM => .nil) (fun w_ hM => ?_)
  exact ⟨y9, ⟨h10, (h11.trans hl4), h12⟩, rfl, hM⟩
 · --
  intro HJ1
  refine st_seq ?_
  refine st_block ?_
  obtain ⟨r2, hl2, hk2⟩ := obind hp
  refine st_loopP (σ := (List Int) × Int × Int) (ρ := (List Int) × Int) (γ := (List Value)) hl2 y_data (fun s_ g_ => match s_, g_ with | (l13, i18, i19), y14 => [(0, .slice A_data l13.length c_data), (2, vI m), (4, .func (.func 52) #[] #[vP b_cmp_c0 0]), (10, vI i18), (11, vI i19)]) (fun s_ g_ => match s_, g_ with | (l13, i18, i19), y14 => Mem w0 (orow A_data l13.length c_data 3 1 y14 :: .blk b_cmp_c0 [.slice A_cmp_c0_0 cmp_c0_0.length c_cmp_c0_0] 32 :: Fz F W :: cs)) (fun s_ g_ => match s_, g_ with | (l13, i18, i19), y14 => (RepL (Rep.int .i64) F W l13 y14) ∧ (l13.length = data.length) ∧ (RdS (Rep.int .i64) F W A_cmp_c0_0 c_cmp_c0_0 cmp_c0_0)) ⟨h_data, rfl, h_cmp_c0_0⟩ (look_has ⟨rfl, rfl, rfl, rfl, rfl, trivial⟩) (fun w_ hM => hM) ?_
  rintro ⟨l13, i18, i19⟩ y14 o2 ⟨h15, hl16, h17⟩ hs_ hd2
  have hp : (slices_rotateCmpFunc_int_l2 m cmp_c0_0) l13 i18 i19 = some o2 := hs_
  clear hs_
  unfold slices_rotateCmpFunc_int_l2 at hp
  refine st_conv (l' := [(0, .slice A_data l13.length c_data), (2, vI m), (4, .func (.func 52) #[] #[vP b_cmp_c0 0]), (10, vI i18), (11, vI i19)]) (M' := Mem w0 (orow A_data l13.length c_data 3 1 y14 :: .blk b_cmp_c0 [.slice A_cmp_c0_0 cmp_c0_0.length c_cmp_c0_0] 32 :: Fz F W :: cs)) rfl (fun _ h => h) ?_
  refine st_seq ?_
  refine st_seq ?_
  refine st_region [oF 0, oF 1, oF 2] (by rfl) ?_
  refine oR [oF 0, oF 1, oF 2] [(20, .bool (!(i18 == i19))), (0, .slice A_data l13.length c_data), (2, vI m), (4, .func (.func 52) #[] #[vP b_cmp_c0 0]), (10, vI i18), (11, vI i19)] [20, 0, 2, 4, 10, 11] (by kernel_rfl) ?_
  refine ops_nil ?_
  refine fin_then ?_
  refine st_if (b := !(i18 == i19)) rfl (fun hc20 => ?_) (fun hc20 => ?_)
  · --
   have hp := cnd_t hc20 hp
   refine st_skip ?_
   refine fin_then ?_
   refine st_block ?_
   refine st_seq ?_
   refine st_region [oF 0, oF 1, oF 2] (by rfl) ?_
   refine oR [oF 0, oF 1, oF 2] [(23, .bool (decide (i19 < i18))), (0, .slice A_data l13.length c_data), (2, vI m), (4, .func (.func 52) #[] #[vP b_cmp_c0 0]), (10, vI i18), (11, vI i19)] [23, 0, 2, 4, 10, 11] (by kernel_rfl) ?_
   refine ops_nil ?_
   refine fin_then ?_
   refine st_if (b := decide (i19 < i18)) rfl (fun hc21 => ?_) (fun hc21 => ?_)
   · --
    have hp := cnd_t hc21 hp
    refine st_seq ?_
    refine st_region [oF 0, oF 1, oF 2, oF 3, oF 4, oF 5, oF 6, oF 7] (by rfl) ?_
    refine oR [oF 0, oF 1, oF 2, oF 3, oF 4, oF 5, oF 6] [(30, .func (.func 52) #[] #[vP b_cmp_c0 0]), (29, vI i19), (28, vI m), (27, vI (IntKind.i64.wrap (m - i18))), (24, .slice A_data l13.length c_data), (0, .slice A_data l13.length c_data), (2, vI m), (4, .func (.func 52) #[] #[vP b_cmp_c0 0]), (10, vI i18), (11, vI i19)] [30, 29, 28, 27, 24, 0, 2, 4, 10, 11] (by kernel_rfl) ?_
    obtain ⟨x22, hv23, hp⟩ := obind hp
    refine ops_callI (σ := (List Value)) (d := some 31) (f := 82) (args := #[.slice A_data l13.length c_data, vI (IntKind.i64.wrap (m - i18)), vI m, vI i19, .func (.func 52) #[] #[vP b_cmp_c0 0]]) (v := (fun x_ => match x_ with | y24 => .tuple #[])) (I := (fun x_ => match x_ with | y24 => (RepL (Rep.int .i64) F W x22 y24) ∧ (x22.length = l13.length) ∧ (RdS (Rep.int .i64) F W A_cmp_c0_0 c_cmp_c0_0 cmp_c0_0))) (M' := (fun x_ => match x_ with | y24 => Mem w0 (orow A_data x22.length c_data 3 1 y24 :: .blk b_cmp_c0 [.slice A_cmp_c0_0 cmp_c0_0.length c_cmp_c0_0] 32 :: Fz F W :: cs))) ⟨by kernel_rfl⟩ (fun w_ hM hS => (slices_swapRangeCmpFunc_int_ok w0 w_ (cs) F W A_data c_data l13 y14 (IntKind.i64.wrap (m - i18)) m i19 b_cmp_c0 A_cmp_c0_0 c_cmp_c0_0 cmp_c0_0 hM h15 h17 x22 hv23).mono (by rintro e w' ⟨y24, ⟨h25, h26, h27⟩, rfl, h'⟩; have h' : Mem w0 (orow A_data x22.length c_data 3 1 y24 :: .blk b_cmp_c0 [.slice A_cmp_c0_0 cmp_c0_0.length c_cmp_c0_0] 32 :: Fz F W :: cs) w' := h'; exact ⟨y24, ⟨h25, h26, h27⟩, rfl, h', trivial⟩)) ?_
    rintro y24 ⟨h25, h26, h27⟩
    refine ops_conv (l' := [(31, .tuple #[]), (30, .func (.func 52) #[] #[vP b_cmp_c0 0]), (29, vI i19), (28, vI m), (27, vI (IntKind.i64.wrap (m - i18))), (24, .slice A_data x22.length c_data), (0, .slice A_data x22.length c_data), (2, vI m), (4, .func (.func 52) #[] #[vP b_cmp_c0 0]), (10, vI i18), (11, vI i19)]) (M' := Mem w0 (orow A_data x22.length c_data 3 1 y24 :: .blk b_cmp_c0 [.slice A_cmp_c0_0 cmp_c0_0.length c_cmp_c0_0] 32 :: Fz F W :: cs)) (by first | rfl | (rw [h26]; done) | (rw [h26]; rfl)) (fun _ h => h) ?_
    refine oR [] [(0, .slice A_data x22.length c_data), (2, vI m), (4, .func (.func 52) #[] #[vP b_cmp_c0 0]), (10, vI i18), (11, vI i19)] [0, 2, 4, 10, 11] (by kernel_rfl) ?_
    refine ops_nil ?_
    refine fin_then ?_
    refine st_region [oF 0, oF 1, oF 2, oF 3] (by rfl) ?_
    refine oR [oF 0, oF 1, oF 2, oF 3] [(10, vI (IntKind.i64.wrap (i18 - i19))), (0, .slice A_data x22.length c_data), (2, vI m), (4, .func (.func 52) #[] #[vP b_cmp_c0 0]), (11, vI i19)] [10, 0, 2, 4, 11] (by kernel_rfl) ?_
    refine ops_nil ?_
    refine fin_block ?_
    exact fin_again (x22, IntKind.i64.wrap (i18 - i19), i19) y24 (Option.some.inj hp).symm ⟨h25, (h26.trans hl16), h27⟩ (look_has ⟨rfl, rfl, rfl, rfl, rfl, trivial⟩) (fun w_ hM => hM)
   · --
    have hp := cnd_f hc21 hp
    refine st_seq ?_
    refine st_region [oF 0, oF 1, oF 2, oF 3, oF 4, oF 5, oF 6, oF 7, oF 8, oF 9, oF 10, oF 11] (by rfl) ?_
    refine oR [oF 0, oF 1, oF 2, oF 3, oF 4, oF 5, oF 6, oF 7, oF 8, oF 9, oF 10] [(45, .func (.func 52) #[] #[vP b_cmp_c0 0]), (44, vI i18), (43, vI (IntKind.i64.wrap (IntKind.i64.wrap (m + i19) - i18))), (38, vI (IntKind.i64.wrap (m - i18))), (35, .slice A_data l13.length c_data), (0, .slice A_data l13.length c_data), (2, vI m), (4, .func (.func 52) #[] #[vP b_cmp_c0 0]), (10, vI i18), (11, vI i19)] [45, 44, 43, 38, 35, 0, 2, 4, 10, 11] (by kernel_rfl) ?_
    obtain ⟨x28, hv29, hp⟩ := obind hp
    refine ops_callI (σ := (List Value)) (d := some 46) (f := 82) (args := #[.slice A_data l13.length c_data, vI (IntKind.i64.wrap (m - i18)), vI (IntKind.i64.wrap (IntKind.i64.wrap (m + i19) - i18)), vI i18, .func (.func 52) #[] #[vP b_cmp_c0 0]]) (v := (fun x_ => match x_ with | y30 => .tuple #[])) (I := (fun x_ => match x_ with | y30 => (RepL (Rep.int .i64) F W x28 y30) ∧ (x28.length = l13.length) ∧ (RdS (Rep.int .i64) F W A_cmp_c0_0 c_cmp_c0_0 cmp_c0_0))) (M' := (fun x_ => match x_ with | y30 => Mem w0 (orow A_data x28.length c_data 3 1 y30 :: .blk b_cmp_c0 [.slice A_cmp_c0_0 cmp_c0_0.length c_cmp_c0_0] 32 :: Fz F W :: cs))) ⟨by kernel_rfl⟩ (fun w_ hM hS => (slices_swapRangeCmpFunc_int_ok w0 w_ (cs) F W A_data c_data l13 y14 (IntKind.i64.wrap (m - i18)) (IntKind.i64.wrap (IntKind.i64.wrap (m + i19) - i18)) i18 b_cmp_c0 A_cmp_c0_0 c_cmp_c0_0 cmp_c0_0 hM h15 h17 x28 hv29).mono (by rintro e w' ⟨y30, ⟨h31, h32, h33⟩, rfl, h'⟩; have h' : Mem w0 (orow A_data x28.length c_data 3 1 y30 :: .blk b_cmp_c0 [.slice A_cmp_c0_0 cmp_c0_0.length c_cmp_c0_0] 32 :: Fz F W :: cs) w' := h'; exact ⟨y30, ⟨h31, h32, h33⟩, rfl, h', trivial⟩)) ?_
    rintro y30 ⟨h31, h32, h33⟩
    refine ops_conv (l' := [(46, .tuple #[]), (45, .func (.func 52) #[] #[vP b_cmp_c0 0]), (44, vI i18), (43, vI (IntKind.i64.wrap (IntKind.i64.wrap (m + i19) - i18))), (38, vI (IntKind.i64.wrap (m - i18))), (35, .slice A_data x28.length c_data), (0, .slice A_data x28.length c_data), (2, vI m), (4, .func (.func 52) #[] #[vP b_cmp_c0 0]), (10, vI i18), (11, vI i19)]) (M' := Mem w0 (orow A_data x28.length c_data 3 1 y30 :: .blk b_cmp_c0 [.slice A_cmp_c0_0 cmp_c0_0.length c_cmp_c0_0] 32 :: Fz F W :: cs)) (by first | rfl | (rw [h32]; done) | (rw [h32]; rfl)) (fun _ h => h) ?_
    refine oR [] [(0, .slice A_data x28.length c_data), (2, vI m), (4, .func (.func 52) #[] #[vP b_cmp_c0 0]), (10, vI i18), (11, vI i19)] [0, 2, 4, 10, 11] (by kernel_rfl) ?_
    refine ops_nil ?_
    refine fin_then ?_
    refine st_region [oF 0, oF 1, oF 2, oF 3] (by rfl) ?_
    refine oR [oF 0, oF 1, oF 2, oF 3] [(11, vI (IntKind.i64.wrap (i19 - i18))), (0, .slice A_data x28.length c_data), (2, vI m), (4, .func (.func 52) #[] #[vP b_cmp_c0 0]), (10, vI i18)] [11, 0, 2, 4, 10] (by kernel_rfl) ?_
    refine ops_nil ?_
    refine fin_block ?_
    exact fin_again (x28, i18, IntKind.i64.wrap (i19 - i18)) y30 (Option.some.inj hp).symm ⟨h31, (h32.trans hl16), h33⟩ (look_has ⟨rfl, rfl, rfl, rfl, rfl, trivial⟩) (fun w_ hM => hM)
  · --
   have hp := cnd_f hc20 hp
   refine st_exit ?_
   refine fin_exit_then ?_
   refine fin_exit_then ?_
   refine fin_exit ?_
   obtain hq_ := Option.some.inj hp
   subst hq_
   obtain hq_ := hd2 _ rfl
   subst hq_
   have hp : (slices_rotateCmpFunc_int_j1 m cmp_c0_0) l13 i18 = some l9001 := hk2
   exact fin_join HJ1 (l13, y14, i18) ⟨hp, h15, hl16, h17⟩ (look_has ⟨rfl, rfl, rfl, rfl, trivial⟩) (fun w_ hM => hM)
end Go.Proofs.Ytnognpmkhkkkeaa.X
