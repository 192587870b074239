/- The Go functions come to what the plain functions tell. No condition. -/
import Derived.Test.YtnnhijlgohlaeaaDoorProg
import Derived.Test.YtnnhijlgohlaeaaDoorFnD
import Derived.Test.YtnnhijlgohlaeaaDoorWkD4
import Derived.Test.YtnnhijlgohlaeaaDoorWkD5
import Derived.Test.YtnnhijlgohlaeaaDoorEqD
namespace Go.Proofs.YtnnhijlgohlaeaaDoor.D
open Go Go.RowKit Go.Proofs.YtnnhijlgohlaeaaDoor.Sx
set_option linter.unusedVariables false
set_option maxHeartbeats 4000000
set_option maxRecDepth 100000
theorem system_op_ok (w0 w : World) (cs : List Chunk) (F : Nat → Prop) (W : World) (A_k : Option Addr) (c_k : Nat) (k : List api_Kind) (s_0 : ByteArray) (A_s_1 : Option Addr) (c_s_1 : Nat) (s_1 : List Int) (A_s_2 : Option Addr) (c_s_2 : Nat) (s_2 : List Int) (A_s_3 : Option Addr) (c_s_3 : Nat) (s_3 : List Int) (A_s_4 : Option Addr) (c_s_4 : Nat) (s_4 : List Int) (A_s_5 : Option Addr) (c_s_5 : Nat) (s_5 : List api_Op) (A_s_6 : Option Addr) (c_s_6 : Nat) (s_6 : List api_Comp) (o_0 : Int) (o_1 : Int) (o_2 : Int) (o_3 : Bool) (o_4 : Int) (o_5 : Int) (o_6 : Int) (o_7 : Bool) (o_8 : Int) (o_9 : Int) (o_10 : Int) (hM0 : Mem w0 (Fz F W :: cs) w) (h_k : RdS R_api_Kind F W A_k c_k k) (h_s_1 : RdS (Rep.int .i64) F W A_s_1 c_s_1 s_1) (h_s_2 : RdS (Rep.int .i64) F W A_s_2 c_s_2 s_2) (h_s_3 : RdS (Rep.int .i64) F W A_s_3 c_s_3 s_3) (h_s_4 : RdS (Rep.int .i64) F W A_s_4 c_s_4 s_4) (h_s_5 : RdS R_api_Op F W A_s_5 c_s_5 s_5) (h_s_6 : RdS R_api_Comp F W A_s_6 c_s_6 s_6) (i9001 : Int) (hp : system_op k s_0 s_1 s_2 s_3 s_4 s_5 s_6 o_0 o_1 o_2 o_3 o_4 o_5 o_6 o_7 o_8 o_9 o_10 = some i9001) : Calls Tryd.prog 94 #[sl A_k k c_k, .agg #[.string s_0, sl A_s_1 s_1 c_s_1, sl A_s_2 s_2 c_s_2, sl A_s_3 s_3 c_s_3, sl A_s_4 s_4 c_s_4, sl A_s_5 s_5 c_s_5, sl A_s_6 s_6 c_s_6], .agg #[vI o_0, vI o_1, vI o_2, .bool o_3, vI o_4, vI o_5, vI o_6, .bool o_7, vI o_8, vI o_9, vI o_10]] w fun e w' => (True) ∧ e = .returned (vI i9001) ∧ Mem w0 (Fz F W :: cs) w' := by
 unfold system_op at hp
 refine sx_calls Tryd.func94 rfl (n := 201) (by kernel_rfl) (l := [(0, sl A_k k c_k), (1, .agg #[.string s_0, sl A_s_1 s_1 c_s_1, sl A_s_2 s_2 c_s_2, sl A_s_3 s_3 c_s_3, sl A_s_4 s_4 c_s_4, sl A_s_5 s_5 c_s_5, sl A_s_6 s_6 c_s_6]), (2, .agg #[vI o_0, vI o_1, vI o_2, .bool o_3, vI o_4, vI o_5, vI o_6, .bool o_7, vI o_8, vI o_9, vI o_10])]) rfl (by rfl) hM0 ?_
 refine st_seq (st_region [oF 0, oF 1, oF 2] (by rfl) ?_)
 refine ops_newB (d := some 4) [.string s_0, sl A_s_1 s_1 c_s_1, sl A_s_2 s_2 c_s_2, sl A_s_3 s_3 c_s_3, sl A_s_4 s_4 c_s_4, sl A_s_5 s_5 c_s_5, sl A_s_6 s_6 c_s_6] 96 (fun b1 => ⟨by kernel_rfl⟩) (fun w_ hM hS => trivial) (fun b1 => ?_)
 refine ops_newB (d := some 5) [vI o_0, vI o_1, vI o_2, .bool o_3, vI o_4, vI o_5, vI o_6, .bool o_7, vI o_8, vI o_9, vI o_10] 170 (fun b2 => ⟨by kernel_rfl⟩) (fun w_ hM hS => trivial) (fun b2 => ?_)
 refine oQ [oF 2] [(5, vP b2 0), (4, vP b1 0), (0, sl A_k k c_k)] (by kernel_rfl) ?_
 refine ops_nil (fin_then (st_seq (st_seq (st_region [oF 0, oF 1, oF 2, oF 3, oF 4, oF 5, oF 6, oF 7] (by rfl) ?_))))
 refine oQ [oF 0] [(15, vP b2 0), (5, vP b2 0), (4, vP b1 0), (0, sl A_k k c_k)] (by kernel_rfl) ?_
 refine ops_mem (d := some 16) (an := [.v (vI o_0)]) (evs := [ld b2 0 (vI o_0)]) (v := vI o_0) ⟨by kernel_rfl⟩ (fun w_ hM hS => ⟨w_, ⟨hM.cell 0 rfl rfl, rfl⟩, hM, trivial⟩) ?_
 refine oQ [oF 2, oF 3] [(18, .bool (decide (o_0 < 0))), (5, vP b2 0), (4, vP b1 0), (0, sl A_k k c_k)] (by kernel_rfl) ?_
 refine ops_bool (t := decide (o_0 < 0)) (l1 := [(18, .bool true), (5, vP b2 0), (4, vP b1 0), (0, sl A_k k c_k)]) (l2 := [(18, .bool false), (5, vP b2 0), (4, vP b1 0), (0, sl A_k k c_k)]) (fun h => by rw [h]) (fun h => by rw [h]) (fun hc3 => ?_) (fun hc3 => ?_)
 ·
  have hp := cnd_t hc3 hp
  refine oQ [oF 4, oF 5, oF 6, oF 7] [(22, .bool true), (5, vP b2 0), (4, vP b1 0), (0, sl A_k k c_k)] (by kernel_rfl) ?_
  refine ops_nil (fin_then (st_true rfl (st_seq (st_region [oF 0] (by rfl) ?_))))
  refine oQ [oF 0] [(6, vI 1)] (by kernel_rfl) ?_
  refine ops_nil (fin_then (st_ret (fin_ret_then ?_)))
  have hq_ := Option.some.inj hp
  have hr0_ := hq_
  subst hr0_
  refine fin_ret [.tmp 6] [vI 1] rfl rfl (fun w_ hM => (.tmp rfl .nil)) (fun w_ hM => ?_)
  exact ⟨trivial, rfl, hM.pick 3 [2] (by kernel_rfl) (by decide) rfl⟩
 ·
  have hp := cnd_f hc3 hp
  refine oQ [oF 4] [(19, vP b2 0), (18, .bool false), (5, vP b2 0), (4, vP b1 0), (0, sl A_k k c_k)] (by kernel_rfl) ?_
  refine ops_mem (d := some 20) (an := [.v (vI o_0)]) (evs := [ld b2 0 (vI o_0)]) (v := vI o_0) ⟨by kernel_rfl⟩ (fun w_ hM hS => ⟨w_, ⟨hM.cell 0 rfl rfl, rfl⟩, hM, trivial⟩) ?_
  refine oQ [oF 6, oF 7] [(22, .bool (decide (12 < o_0))), (5, vP b2 0), (4, vP b1 0), (0, sl A_k k c_k)] (by kernel_rfl) ?_
  refine ops_nil (fin_then ?_)
  refine st_if (b := decide (12 < o_0)) rfl (fun hc4 => ?_) (fun hc4 => ?_)
  ·
   have hp := cnd_t hc4 hp
   refine st_seq (st_region [oF 0] (by rfl) ?_)
   refine oQ [oF 0] [(6, vI 1)] (by kernel_rfl) ?_
   refine ops_nil (fin_then (st_ret (fin_ret_then ?_)))
   have hq_ := Option.some.inj hp
   have hr0_ := hq_
   subst hr0_
   refine fin_ret [.tmp 6] [vI 1] rfl rfl (fun w_ hM => (.tmp rfl .nil)) (fun w_ hM => ?_)
   exact ⟨trivial, rfl, hM.pick 3 [2] (by kernel_rfl) (by decide) rfl⟩
  ·
   have hp := cnd_f hc4 hp
   refine st_skip (fin_then ?_)
   refine st_join1 (σ := Unit) (L := fun _ => [(0, sl A_k k c_k), (4, vP b1 0), (5, vP b2 0)]) (N := fun _ => Mem w0 (.blk b1 [.string s_0, sl A_s_1 s_1 c_s_1, sl A_s_2 s_2 c_s_2, sl A_s_3 s_3 c_s_3, sl A_s_4 s_4 c_s_4, sl A_s_5 s_5 c_s_5, sl A_s_6 s_6 c_s_6] 96 :: .blk b2 [vI o_0, vI o_1, vI o_2, .bool o_3, vI o_4, vI o_5, vI o_6, .bool o_7, vI o_8, vI o_9, vI o_10] 170 :: Fz F W :: cs)) (I := fun _ => ((system_op_j1 o_3 o_4 o_5 o_6 o_7 o_8 o_9 o_10 o_0 o_1 o_2 k s_4 s_3) = some i9001)) ?_ ?_
   ·
    rintro _ hp
    unfold system_op_j1 at hp
    refine st_seq (st_region [oF 0, oF 1, oF 2] (by rfl) ?_)
    refine oQ [oF 0] [(58, .agg #[vI 0, vI 0]), (0, sl A_k k c_k), (4, vP b1 0), (5, vP b2 0)] (by kernel_rfl) ?_
    refine ops_newB (d := some 9) [vI 0, vI 0] 166 (fun b5 => ⟨by kernel_rfl⟩) (fun w_ hM hS => trivial) (fun b5 => ?_)
    refine ops_store (an := []) (evs := [sr b5 0 (vI 0), sr b5 1 (vI 0)]) ⟨by kernel_rfl⟩ (fun w_ hM hS => let ⟨w', he, h'⟩ := hM.evs_stores [vI 0, vI 0] 0 rfl 0 (Nat.le_of_ble_eq_true rfl); ⟨w', he, h', trivial⟩) ?_
    refine ops_nil (fin_then ?_)
    refine st_join1 (σ := Unit) (L := fun _ => [(0, sl A_k k c_k), (4, vP b1 0), (5, vP b2 0), (9, vP b5 0)]) (N := fun _ => Mem w0 (.blk b1 [.string s_0, sl A_s_1 s_1 c_s_1, sl A_s_2 s_2 c_s_2, sl A_s_3 s_3 c_s_3, sl A_s_4 s_4 c_s_4, sl A_s_5 s_5 c_s_5, sl A_s_6 s_6 c_s_6] 96 :: .blk b2 [vI o_0, vI o_1, vI o_2, .bool o_3, vI o_4, vI o_5, vI o_6, .bool o_7, vI o_8, vI o_9, vI o_10] 170 :: .blk b5 [vI 0, vI 0] 166 :: Fz F W :: cs)) (I := fun _ => ((system_op_j2 o_0 o_7 o_8 o_9 o_10 o_1 o_2 k s_4 o_3 o_4 o_5 o_6 s_3) = some i9001)) ?_ ?_
    ·
     rintro _ hp
     unfold system_op_j2 at hp
     refine st_join1 (σ := Bool) (L := fun x_ => match x_ with | t6 => [(0, sl A_k k c_k), (4, vP b1 0), (5, vP b2 0), (9, vP b5 0), (12, .bool t6)]) (N := fun x_ => match x_ with | t6 => Mem w0 (.blk b1 [.string s_0, sl A_s_1 s_1 c_s_1, sl A_s_2 s_2 c_s_2, sl A_s_3 s_3 c_s_3, sl A_s_4 s_4 c_s_4, sl A_s_5 s_5 c_s_5, sl A_s_6 s_6 c_s_6] 96 :: .blk b2 [vI o_0, vI o_1, vI o_2, .bool o_3, vI o_4, vI o_5, vI o_6, .bool o_7, vI o_8, vI o_9, vI o_10] 170 :: .blk b5 [vI 0, vI 0] 166 :: Fz F W :: cs)) (I := fun x_ => match x_ with | t6 => ((system_op_j3 o_0 o_7 o_8 o_9 o_10 o_1 o_2 k s_4 o_3 o_4 o_5 o_6 s_3) t6 = some i9001)) ?_ ?_
     ·
      rintro t6 hp
      unfold system_op_j3 at hp
      refine st_join1 (σ := Bool) (L := fun x_ => match x_ with | t7 => [(0, sl A_k k c_k), (4, vP b1 0), (5, vP b2 0), (12, .bool t7)]) (N := fun x_ => match x_ with | t7 => Mem w0 (.blk b1 [.string s_0, sl A_s_1 s_1 c_s_1, sl A_s_2 s_2 c_s_2, sl A_s_3 s_3 c_s_3, sl A_s_4 s_4 c_s_4, sl A_s_5 s_5 c_s_5, sl A_s_6 s_6 c_s_6] 96 :: .blk b2 [vI o_0, vI o_1, vI o_2, .bool o_3, vI o_4, vI o_5, vI o_6, .bool o_7, vI o_8, vI o_9, vI o_10] 170 :: Fz F W :: cs)) (I := fun x_ => match x_ with | t7 => ((system_op_j4 o_0 k o_1 o_2 s_4 o_3 o_4 o_5 o_6 o_7 o_8 o_9 o_10 s_3) t7 = some i9001)) ?_ ?_
      ·
       rintro t7 hp
       unfold system_op_j4 at hp
       refine st_join1 (σ := Unit) (L := fun _ => [(4, vP b1 0), (5, vP b2 0)]) (N := fun _ => Mem w0 (.blk b1 [.string s_0, sl A_s_1 s_1 c_s_1, sl A_s_2 s_2 c_s_2, sl A_s_3 s_3 c_s_3, sl A_s_4 s_4 c_s_4, sl A_s_5 s_5 c_s_5, sl A_s_6 s_6 c_s_6] 96 :: .blk b2 [vI o_0, vI o_1, vI o_2, .bool o_3, vI o_4, vI o_5, vI o_6, .bool o_7, vI o_8, vI o_9, vI o_10] 170 :: Fz F W :: cs)) (I := fun _ => ((system_op_j5 o_0 s_4 o_1 o_3 o_4 o_5 o_6 o_7 o_8 o_9 o_10 s_3) = some i9001)) ?_ ?_
       ·
        rintro _ hp
        unfold system_op_j5 at hp
        refine st_join1 (σ := Unit) (L := fun _ => [(4, vP b1 0), (5, vP b2 0)]) (N := fun _ => Mem w0 (.blk b1 [.string s_0, sl A_s_1 s_1 c_s_1, sl A_s_2 s_2 c_s_2, sl A_s_3 s_3 c_s_3, sl A_s_4 s_4 c_s_4, sl A_s_5 s_5 c_s_5, sl A_s_6 s_6 c_s_6] 96 :: .blk b2 [vI o_0, vI o_1, vI o_2, .bool o_3, vI o_4, vI o_5, vI o_6, .bool o_7, vI o_8, vI o_9, vI o_10] 170 :: Fz F W :: cs)) (I := fun _ => ((system_op_j6 o_3 o_4 o_5 o_6 o_7 o_8 o_9 o_10 s_3 s_4) = some i9001)) ?_ ?_
        ·
         rintro _ hp
         unfold system_op_j6 at hp
         refine st_join1 (σ := Unit) (L := fun _ => []) (N := fun _ => Mem w0 (Fz F W :: cs)) (I := fun _ => (system_op_j7 = some i9001)) ?_ ?_
         ·
          rintro _ hp
          unfold system_op_j7 at hp
          refine st_seq (st_region [oF 0] (by rfl) ?_)
          refine oQ [oF 0] [(6, vI 0)] (by kernel_rfl) ?_
          refine ops_nil (fin_then (st_ret ?_))
          have hq_ := Option.some.inj hp
          have hr0_ := hq_
          subst hr0_
          refine fin_ret [.tmp 6] [vI 0] rfl rfl (fun w_ hM => (.tmp rfl .nil)) (fun w_ hM => ?_)
          exact ⟨trivial, rfl, hM⟩
         ·
          intro HJ7
          refine st_seq (st_seq (st_region [oF 0, oF 1, oF 2, oF 3, oF 4, oF 5, oF 6] (by rfl) ?_))
          refine oQ [oF 0] [(170, vP b2 3), (4, vP b1 0), (5, vP b2 0)] (by kernel_rfl) ?_
          refine ops_mem (d := some 171) (an := [.v (.bool o_3), .v (vI o_4), .v (vI o_5), .v (vI o_6)]) (evs := [ld b2 3 (.bool o_3), ld b2 4 (vI o_4), ld b2 5 (vI o_5), ld b2 6 (vI o_6)]) (v := .agg #[.bool o_3, vI o_4, vI o_5, vI o_6]) ⟨by kernel_rfl⟩ (fun w_ hM hS => ⟨w_, ⟨hM.cell 1 rfl rfl, hM.cell 1 rfl rfl, hM.cell 1 rfl rfl, hM.cell 1 rfl rfl, rfl⟩, hM, trivial⟩) ?_
          refine oQ [oF 2] [(172, vP b2 7), (171, .agg #[.bool o_3, vI o_4, vI o_5, vI o_6]), (4, vP b1 0)] (by kernel_rfl) ?_
          refine ops_mem (d := some 173) (an := [.v (.bool o_7), .v (vI o_8), .v (vI o_9), .v (vI o_10)]) (evs := [ld b2 7 (.bool o_7), ld b2 8 (vI o_8), ld b2 9 (vI o_9), ld b2 10 (vI o_10)]) (v := .agg #[.bool o_7, vI o_8, vI o_9, vI o_10]) ⟨by kernel_rfl⟩ (fun w_ hM hS => ⟨w_, ⟨hM.cell 1 rfl rfl, hM.cell 1 rfl rfl, hM.cell 1 rfl rfl, hM.cell 1 rfl rfl, rfl⟩, hM, trivial⟩) ?_
          have h8 : RepL R_api_Arg F W ([(api_Arg.mk o_3 o_4 (api_Ref.mk o_5 o_6)), (api_Arg.mk o_7 o_8 (api_Ref.mk o_9 o_10))] : List api_Arg) ([.bool o_3, vI o_4, vI o_5, vI o_6, .bool o_7, vI o_8, vI o_9, vI o_10]) := (RepL.cons (R := R_api_Arg) (F := F) (w := W) (vs := [.bool o_3, vI o_4, vI o_5, vI o_6]) (ys := [.bool o_7, vI o_8, vI o_9, vI o_10]) (enc_api_Arg) (RepL.cons (R := R_api_Arg) (F := F) (w := W) (vs := [.bool o_7, vI o_8, vI o_9, vI o_10]) (ys := []) (enc_api_Arg) RepL.nil))
          refine ops_new (d := some 174) (o := .cells ([.bool o_3, vI o_4, vI o_5, vI o_6, .bool o_7, vI o_8, vI o_9, vI o_10] : List Value).toArray 168) (v := fun g9 => .slice (sa g9) ([(api_Arg.mk o_3 o_4 (api_Ref.mk o_5 o_6)), (api_Arg.mk o_7 o_8 (api_Ref.mk o_9 o_10))] : List api_Arg).length 2) (M' := fun g9 => Mem w0 (orow (sa g9) ([(api_Arg.mk o_3 o_4 (api_Ref.mk o_5 o_6)), (api_Arg.mk o_7 o_8 (api_Ref.mk o_9 o_10))] : List api_Arg).length 2 168 4 ([.bool o_3, vI o_4, vI o_5, vI o_6, .bool o_7, vI o_8, vI o_9, vI o_10]) :: .blk b1 [.string s_0, sl A_s_1 s_1 c_s_1, sl A_s_2 s_2 c_s_2, sl A_s_3 s_3 c_s_3, sl A_s_4 s_4 c_s_4, sl A_s_5 s_5 c_s_5, sl A_s_6 s_6 c_s_6] 96 :: .blk b2 [vI o_0, vI o_1, vI o_2, .bool o_3, vI o_4, vI o_5, vI o_6, .bool o_7, vI o_8, vI o_9, vI o_10] 170 :: Fz F W :: cs)) (fun g9 => ⟨by kernel_rfl⟩) (fun w_ hM hS => ⟨hM.onew [.bool o_3, vI o_4, vI o_5, vI o_6, .bool o_7, vI o_8, vI o_9, vI o_10] 168 2 4 rfl (by decide), trivial⟩) (fun g9 => ?_)
          refine oQ [oF 5, oF 6] [(176, vI 0), (175, vI (([(api_Arg.mk o_3 o_4 (api_Ref.mk o_5 o_6)), (api_Arg.mk o_7 o_8 (api_Ref.mk o_9 o_10))] : List api_Arg).length : Int)), (174, .slice (sa g9) ([(api_Arg.mk o_3 o_4 (api_Ref.mk o_5 o_6)), (api_Arg.mk o_7 o_8 (api_Ref.mk o_9 o_10))] : List api_Arg).length 2), (4, vP b1 0)] (by kernel_rfl) ?_
          obtain ⟨x10, hv11, hp⟩ := obind hp
          refine ops_conv (l' := [(176, vI 0), (175, vI x10), (174, .slice (sa g9) ([(api_Arg.mk o_3 o_4 (api_Ref.mk o_5 o_6)), (api_Arg.mk o_7 o_8 (api_Ref.mk o_9 o_10))] : List api_Arg).length 2), (4, vP b1 0)]) (by rw [← Option.some.inj hv11]) (fun _ h => h) ?_
          refine ops_nil (fin_then (st_block ?_))
          obtain ⟨r8, hl8, hk8⟩ := obind hp
          refine st_loopP (σ := Int) (ρ := (Int ⊕ Unit)) (γ := Unit) hl8 () (fun s_ g_ => match s_, g_ with | i12, _ => [(4, vP b1 0), (174, .slice (sa g9) ([(api_Arg.mk o_3 o_4 (api_Ref.mk o_5 o_6)), (api_Arg.mk o_7 o_8 (api_Ref.mk o_9 o_10))] : List api_Arg).length 2), (175, vI x10), (176, vI i12)]) (fun s_ g_ => match s_, g_ with | i12, _ => Mem w0 (.blk b1 [.string s_0, sl A_s_1 s_1 c_s_1, sl A_s_2 s_2 c_s_2, sl A_s_3 s_3 c_s_3, sl A_s_4 s_4 c_s_4, sl A_s_5 s_5 c_s_5, sl A_s_6 s_6 c_s_6] 96 :: orow (sa g9) ([(api_Arg.mk o_3 o_4 (api_Ref.mk o_5 o_6)), (api_Arg.mk o_7 o_8 (api_Ref.mk o_9 o_10))] : List api_Arg).length 2 168 4 ([.bool o_3, vI o_4, vI o_5, vI o_6, .bool o_7, vI o_8, vI o_9, vI o_10]) :: Fz F W :: cs)) (fun s_ g_ => match s_, g_ with | i12, _ => True) trivial (look_has ⟨rfl, rfl, rfl, rfl, trivial⟩) (fun w_ hM => hM.pick 4 [1, 0, 3] (by kernel_rfl) (by decide) rfl) ?_
          rintro i12 _ o8 - hs_ hd8
          have hp : (system_op_l8 x10 o_3 o_4 o_5 o_6 o_7 o_8 o_9 o_10 s_3 s_4) i12 = some o8 := hs_
          clear hs_
          unfold system_op_l8 at hp
          refine st_seq (st_region [oF 0] (by rfl) ?_)
          refine oQ [oF 0] [(177, .bool (decide (i12 < x10))), (4, vP b1 0), (174, .slice (sa g9) ([(api_Arg.mk o_3 o_4 (api_Ref.mk o_5 o_6)), (api_Arg.mk o_7 o_8 (api_Ref.mk o_9 o_10))] : List api_Arg).length 2), (175, vI x10), (176, vI i12)] (by kernel_rfl) ?_
          refine ops_nil (fin_then (st_seq ?_))
          refine st_if (b := decide (i12 < x10)) rfl (fun hc13 => ?_) (fun hc13 => ?_)
          ·
           have hp := cnd_t hc13 hp
           refine st_skip (fin_then ?_)
           refine st_join1 (σ := Unit) (L := fun _ => [(4, vP b1 0), (174, .slice (sa g9) ([(api_Arg.mk o_3 o_4 (api_Ref.mk o_5 o_6)), (api_Arg.mk o_7 o_8 (api_Ref.mk o_9 o_10))] : List api_Arg).length 2), (175, vI x10), (176, vI i12)]) (N := fun _ => Mem w0 (.blk b1 [.string s_0, sl A_s_1 s_1 c_s_1, sl A_s_2 s_2 c_s_2, sl A_s_3 s_3 c_s_3, sl A_s_4 s_4 c_s_4, sl A_s_5 s_5 c_s_5, sl A_s_6 s_6 c_s_6] 96 :: orow (sa g9) ([(api_Arg.mk o_3 o_4 (api_Ref.mk o_5 o_6)), (api_Arg.mk o_7 o_8 (api_Ref.mk o_9 o_10))] : List api_Arg).length 2 168 4 ([.bool o_3, vI o_4, vI o_5, vI o_6, .bool o_7, vI o_8, vI o_9, vI o_10]) :: Fz F W :: cs)) (I := fun _ => ((system_op_j9 i12) = some o8)) ?_ ?_
           ·
            rintro _ hp
            unfold system_op_j9 at hp
            refine st_region [oF 0, oF 1] (by rfl) ?_
            refine oQ [oF 0, oF 1] [(176, vI (IntKind.i64.wrap (i12 + 1))), (4, vP b1 0), (174, .slice (sa g9) ([(api_Arg.mk o_3 o_4 (api_Ref.mk o_5 o_6)), (api_Arg.mk o_7 o_8 (api_Ref.mk o_9 o_10))] : List api_Arg).length 2), (175, vI x10)] (by kernel_rfl) ?_
            refine ops_nil ?_
            exact fin_again (IntKind.i64.wrap (i12 + 1)) () (Option.some.inj hp).symm trivial (look_has ⟨rfl, rfl, rfl, rfl, trivial⟩) (fun w_ hM => hM)
           ·
            intro HJ9
            refine st_seq (st_block (st_seq (st_region [oF 0, oF 1, oF 2, oF 3] (by rfl) ?_)))
            obtain ⟨x14, hv15, hp⟩ := obind hp
            obtain ⟨m16, hm17, hx18⟩ := idx_some hv15
            have hl21 := (List.getElem?_eq_some_iff.1 hx18).1
            obtain ⟨vs19, hr20, hq22⟩ := h8.at_ m16 x14 hx18
            obtain rfl := dec_api_Arg hr20
            refine ops_val (op := (.indexAddr 221 (.tmp 174) (.tmp 176))) (d := some 178) (v := vP g9 (m16 * 4)) ⟨by kernel_rfl⟩ (run_indexRow Tryd.underlying221 (z := 4) (by kernel_rfl) rfl rfl hm17 hl21 rfl) ?_
            refine ops_mem (d := some 179) (an := [.v (.bool x14.Has), .v (vI x14.N), .v (vI x14.Ref.Kind), .v (vI x14.Ref.Field)]) (evs := [.load ⟨g9, m16 * 4, none⟩ (.bool x14.Has), .load ⟨g9, m16 * 4 + 1, none⟩ (vI x14.N), .load ⟨g9, m16 * 4 + 2, none⟩ (vI x14.Ref.Kind), .load ⟨g9, m16 * 4 + 3, none⟩ (vI x14.Ref.Field)]) (v := .agg #[.bool x14.Has, vI x14.N, vI x14.Ref.Kind, vI x14.Ref.Field]) ⟨by kernel_rfl⟩ (fun w_ hM hS => ⟨w_, ⟨hM.ocell 1 rfl (hq22 0 _ rfl), hM.ocell 1 rfl (hq22 1 _ rfl), hM.ocell 1 rfl (hq22 2 _ rfl), hM.ocell 1 rfl (hq22 3 _ rfl), rfl⟩, hM, trivial⟩) ?_
            refine ops_newB (d := some 14) [.bool false, vI 0, vI 0, vI 0] 168 (fun b23 => ⟨by kernel_rfl⟩) (fun w_ hM hS => trivial) (fun b23 => ?_)
            refine ops_store (an := []) (evs := [sr b23 0 (.bool x14.Has), sr b23 1 (vI x14.N), sr b23 2 (vI x14.Ref.Kind), sr b23 3 (vI x14.Ref.Field)]) ⟨by kernel_rfl⟩ (fun w_ hM hS => let ⟨w', he, h'⟩ := hM.evs_stores [.bool x14.Has, vI x14.N, vI x14.Ref.Kind, vI x14.Ref.Field] 0 rfl 0 (Nat.le_of_ble_eq_true rfl); ⟨w', he, h', trivial⟩) ?_
            refine ops_nil (fin_then (st_seq (st_region [oF 0, oF 1, oF 2, oF 3, oF 4, oF 5, oF 6, oF 7, oF 8, oF 9, oF 10, oF 11, oF 12, oF 13, oF 14, oF 15, oF 16, oF 17, oF 18, oF 19] (by rfl) ?_)))
            refine oQ [oF 0] [(180, vP b23 0), (14, vP b23 0), (4, vP b1 0), (174, .slice (sa g9) ([(api_Arg.mk o_3 o_4 (api_Ref.mk o_5 o_6)), (api_Arg.mk o_7 o_8 (api_Ref.mk o_9 o_10))] : List api_Arg).length 2), (175, vI x10), (176, vI i12)] (by kernel_rfl) ?_
            refine ops_mem (d := some 181) (an := [.v (.bool x14.Has)]) (evs := [ld b23 0 (.bool x14.Has)]) (v := .bool x14.Has) ⟨by kernel_rfl⟩ (fun w_ hM hS => ⟨w_, ⟨hM.cell 0 rfl rfl, rfl⟩, hM, trivial⟩) ?_
            refine oQ [oF 2] [(182, .bool x14.Has), (14, vP b23 0), (4, vP b1 0), (174, .slice (sa g9) ([(api_Arg.mk o_3 o_4 (api_Ref.mk o_5 o_6)), (api_Arg.mk o_7 o_8 (api_Ref.mk o_9 o_10))] : List api_Arg).length 2), (175, vI x10), (176, vI i12)] (by kernel_rfl) ?_
            refine ops_bool (t := x14.Has) (l1 := [(182, .bool true), (14, vP b23 0), (4, vP b1 0), (174, .slice (sa g9) ([(api_Arg.mk o_3 o_4 (api_Ref.mk o_5 o_6)), (api_Arg.mk o_7 o_8 (api_Ref.mk o_9 o_10))] : List api_Arg).length 2), (175, vI x10), (176, vI i12)]) (l2 := [(182, .bool false), (14, vP b23 0), (4, vP b1 0), (174, .slice (sa g9) ([(api_Arg.mk o_3 o_4 (api_Ref.mk o_5 o_6)), (api_Arg.mk o_7 o_8 (api_Ref.mk o_9 o_10))] : List api_Arg).length 2), (175, vI x10), (176, vI i12)]) (fun h => by rw [h]) (fun h => by rw [h]) (fun hc24 => ?_) (fun hc24 => ?_)
            ·
             have hp := cnd_t hc24 hp
             refine oQ [oF 3] [(183, vP b1 3), (182, .bool true), (14, vP b23 0), (4, vP b1 0), (174, .slice (sa g9) ([(api_Arg.mk o_3 o_4 (api_Ref.mk o_5 o_6)), (api_Arg.mk o_7 o_8 (api_Ref.mk o_9 o_10))] : List api_Arg).length 2), (175, vI x10), (176, vI i12)] (by kernel_rfl) ?_
             refine ops_mem (d := some 184) (an := [.v (sl A_s_3 s_3 c_s_3)]) (evs := [ld b1 3 (sl A_s_3 s_3 c_s_3)]) (v := sl A_s_3 s_3 c_s_3) ⟨by kernel_rfl⟩ (fun w_ hM hS => ⟨w_, ⟨hM.cell 1 rfl rfl, rfl⟩, hM, trivial⟩) ?_
             refine oQ [oF 5, oF 6] [(186, vP b23 2), (184, sl A_s_3 s_3 c_s_3), (182, .bool true), (14, vP b23 0), (4, vP b1 0), (174, .slice (sa g9) ([(api_Arg.mk o_3 o_4 (api_Ref.mk o_5 o_6)), (api_Arg.mk o_7 o_8 (api_Ref.mk o_9 o_10))] : List api_Arg).length 2), (175, vI x10), (176, vI i12)] (by kernel_rfl) ?_
             refine ops_mem (d := some 187) (an := [.v (vI x14.Ref.Kind)]) (evs := [ld b23 2 (vI x14.Ref.Kind)]) (v := vI x14.Ref.Kind) ⟨by kernel_rfl⟩ (fun w_ hM hS => ⟨w_, ⟨hM.cell 0 rfl rfl, rfl⟩, hM, trivial⟩) ?_
             obtain ⟨x25, hv26, hp⟩ := obind hp
             refine ops_callI (σ := Unit) (d := some 188) (f := 90) (args := #[sl A_s_3 s_3 c_s_3, vI x14.Ref.Kind]) (v := (fun _ => .bool x25)) (I := (fun _ => True)) (M' := (fun _ => Mem w0 (.blk b23 [.bool x14.Has, vI x14.N, vI x14.Ref.Kind, vI x14.Ref.Field] 168 :: .blk b1 [.string s_0, sl A_s_1 s_1 c_s_1, sl A_s_2 s_2 c_s_2, sl A_s_3 s_3 c_s_3, sl A_s_4 s_4 c_s_4, sl A_s_5 s_5 c_s_5, sl A_s_6 s_6 c_s_6] 96 :: orow (sa g9) ([(api_Arg.mk o_3 o_4 (api_Ref.mk o_5 o_6)), (api_Arg.mk o_7 o_8 (api_Ref.mk o_9 o_10))] : List api_Arg).length 2 168 4 ([.bool o_3, vI o_4, vI o_5, vI o_6, .bool o_7, vI o_8, vI o_9, vI o_10]) :: Fz F W :: cs))) ⟨by kernel_rfl⟩ (fun w_ hM hS => (slices_Contains_int_int_ok w0 w_ (.blk b23 [.bool x14.Has, vI x14.N, vI x14.Ref.Kind, vI x14.Ref.Field] 168 :: .blk b1 [.string s_0, sl A_s_1 s_1 c_s_1, sl A_s_2 s_2 c_s_2, sl A_s_3 s_3 c_s_3, sl A_s_4 s_4 c_s_4, sl A_s_5 s_5 c_s_5, sl A_s_6 s_6 c_s_6] 96 :: orow (sa g9) ([(api_Arg.mk o_3 o_4 (api_Ref.mk o_5 o_6)), (api_Arg.mk o_7 o_8 (api_Ref.mk o_9 o_10))] : List api_Arg).length 2 168 4 ([.bool o_3, vI o_4, vI o_5, vI o_6, .bool o_7, vI o_8, vI o_9, vI o_10]) :: cs) F W A_s_3 c_s_3 s_3 x14.Ref.Kind (hM.pick 4 [3, 0, 1, 2] (by kernel_rfl) (by decide) rfl) h_s_3 x25 hv26).mono (by rintro e w' ⟨-, rfl, h'⟩; have h' : Mem w0 (.blk b23 [.bool x14.Has, vI x14.N, vI x14.Ref.Kind, vI x14.Ref.Field] 168 :: .blk b1 [.string s_0, sl A_s_1 s_1 c_s_1, sl A_s_2 s_2 c_s_2, sl A_s_3 s_3 c_s_3, sl A_s_4 s_4 c_s_4, sl A_s_5 s_5 c_s_5, sl A_s_6 s_6 c_s_6] 96 :: orow (sa g9) ([(api_Arg.mk o_3 o_4 (api_Ref.mk o_5 o_6)), (api_Arg.mk o_7 o_8 (api_Ref.mk o_9 o_10))] : List api_Arg).length 2 168 4 ([.bool o_3, vI o_4, vI o_5, vI o_6, .bool o_7, vI o_8, vI o_9, vI o_10]) :: Fz F W :: cs) w' := (h'.pick 4 [1, 2, 3, 0] (by kernel_rfl) (by decide) rfl); exact ⟨(), trivial, rfl, h', trivial⟩)) ?_
             rintro _ -
             refine oQ [oF 9, oF 10, oF 11] [(191, .bool (!x25)), (14, vP b23 0), (4, vP b1 0), (174, .slice (sa g9) ([(api_Arg.mk o_3 o_4 (api_Ref.mk o_5 o_6)), (api_Arg.mk o_7 o_8 (api_Ref.mk o_9 o_10))] : List api_Arg).length 2), (175, vI x10), (176, vI i12)] (by kernel_rfl) ?_
             refine ops_bool (t := !x25) (l1 := [(191, .bool true), (14, vP b23 0), (4, vP b1 0), (174, .slice (sa g9) ([(api_Arg.mk o_3 o_4 (api_Ref.mk o_5 o_6)), (api_Arg.mk o_7 o_8 (api_Ref.mk o_9 o_10))] : List api_Arg).length 2), (175, vI x10), (176, vI i12)]) (l2 := [(191, .bool false), (14, vP b23 0), (4, vP b1 0), (174, .slice (sa g9) ([(api_Arg.mk o_3 o_4 (api_Ref.mk o_5 o_6)), (api_Arg.mk o_7 o_8 (api_Ref.mk o_9 o_10))] : List api_Arg).length 2), (175, vI x10), (176, vI i12)]) (fun h => by rw [h]) (fun h => by rw [h]) (fun hc27 => ?_) (fun hc27 => ?_)
             ·
              have hp := cnd_t hc27 hp
              refine oQ [oF 12] [(192, vP b1 4), (191, .bool true), (14, vP b23 0), (4, vP b1 0), (174, .slice (sa g9) ([(api_Arg.mk o_3 o_4 (api_Ref.mk o_5 o_6)), (api_Arg.mk o_7 o_8 (api_Ref.mk o_9 o_10))] : List api_Arg).length 2), (175, vI x10), (176, vI i12)] (by kernel_rfl) ?_
              refine ops_mem (d := some 193) (an := [.v (sl A_s_4 s_4 c_s_4)]) (evs := [ld b1 4 (sl A_s_4 s_4 c_s_4)]) (v := sl A_s_4 s_4 c_s_4) ⟨by kernel_rfl⟩ (fun w_ hM hS => ⟨w_, ⟨hM.cell 1 rfl rfl, rfl⟩, hM, trivial⟩) ?_
              refine oQ [oF 14, oF 15] [(195, vP b23 2), (193, sl A_s_4 s_4 c_s_4), (191, .bool true), (4, vP b1 0), (174, .slice (sa g9) ([(api_Arg.mk o_3 o_4 (api_Ref.mk o_5 o_6)), (api_Arg.mk o_7 o_8 (api_Ref.mk o_9 o_10))] : List api_Arg).length 2), (175, vI x10), (176, vI i12)] (by kernel_rfl) ?_
              refine ops_mem (d := some 196) (an := [.v (vI x14.Ref.Kind)]) (evs := [ld b23 2 (vI x14.Ref.Kind)]) (v := vI x14.Ref.Kind) ⟨by kernel_rfl⟩ (fun w_ hM hS => ⟨w_, ⟨hM.cell 0 rfl rfl, rfl⟩, hM, trivial⟩) ?_
              obtain ⟨x28, hv29, hp⟩ := obind hp
              refine ops_callI (σ := Unit) (d := some 197) (f := 90) (args := #[sl A_s_4 s_4 c_s_4, vI x14.Ref.Kind]) (v := (fun _ => .bool x28)) (I := (fun _ => True)) (M' := (fun _ => Mem w0 (.blk b23 [.bool x14.Has, vI x14.N, vI x14.Ref.Kind, vI x14.Ref.Field] 168 :: .blk b1 [.string s_0, sl A_s_1 s_1 c_s_1, sl A_s_2 s_2 c_s_2, sl A_s_3 s_3 c_s_3, sl A_s_4 s_4 c_s_4, sl A_s_5 s_5 c_s_5, sl A_s_6 s_6 c_s_6] 96 :: orow (sa g9) ([(api_Arg.mk o_3 o_4 (api_Ref.mk o_5 o_6)), (api_Arg.mk o_7 o_8 (api_Ref.mk o_9 o_10))] : List api_Arg).length 2 168 4 ([.bool o_3, vI o_4, vI o_5, vI o_6, .bool o_7, vI o_8, vI o_9, vI o_10]) :: Fz F W :: cs))) ⟨by kernel_rfl⟩ (fun w_ hM hS => (slices_Contains_int_int_ok w0 w_ (.blk b23 [.bool x14.Has, vI x14.N, vI x14.Ref.Kind, vI x14.Ref.Field] 168 :: .blk b1 [.string s_0, sl A_s_1 s_1 c_s_1, sl A_s_2 s_2 c_s_2, sl A_s_3 s_3 c_s_3, sl A_s_4 s_4 c_s_4, sl A_s_5 s_5 c_s_5, sl A_s_6 s_6 c_s_6] 96 :: orow (sa g9) ([(api_Arg.mk o_3 o_4 (api_Ref.mk o_5 o_6)), (api_Arg.mk o_7 o_8 (api_Ref.mk o_9 o_10))] : List api_Arg).length 2 168 4 ([.bool o_3, vI o_4, vI o_5, vI o_6, .bool o_7, vI o_8, vI o_9, vI o_10]) :: cs) F W A_s_4 c_s_4 s_4 x14.Ref.Kind (hM.pick 4 [3, 0, 1, 2] (by kernel_rfl) (by decide) rfl) h_s_4 x28 hv29).mono (by rintro e w' ⟨-, rfl, h'⟩; have h' : Mem w0 (.blk b23 [.bool x14.Has, vI x14.N, vI x14.Ref.Kind, vI x14.Ref.Field] 168 :: .blk b1 [.string s_0, sl A_s_1 s_1 c_s_1, sl A_s_2 s_2 c_s_2, sl A_s_3 s_3 c_s_3, sl A_s_4 s_4 c_s_4, sl A_s_5 s_5 c_s_5, sl A_s_6 s_6 c_s_6] 96 :: orow (sa g9) ([(api_Arg.mk o_3 o_4 (api_Ref.mk o_5 o_6)), (api_Arg.mk o_7 o_8 (api_Ref.mk o_9 o_10))] : List api_Arg).length 2 168 4 ([.bool o_3, vI o_4, vI o_5, vI o_6, .bool o_7, vI o_8, vI o_9, vI o_10]) :: Fz F W :: cs) w' := (h'.pick 4 [1, 2, 3, 0] (by kernel_rfl) (by decide) rfl); exact ⟨(), trivial, rfl, h', trivial⟩)) ?_
              rintro _ -
              refine oQ [oF 18, oF 19] [(199, .bool (!x28)), (4, vP b1 0), (174, .slice (sa g9) ([(api_Arg.mk o_3 o_4 (api_Ref.mk o_5 o_6)), (api_Arg.mk o_7 o_8 (api_Ref.mk o_9 o_10))] : List api_Arg).length 2), (175, vI x10), (176, vI i12)] (by kernel_rfl) ?_
              refine ops_nil (fin_then ?_)
              refine st_if (b := !x28) rfl (fun hc30 => ?_) (fun hc30 => ?_)
              ·
               have hp := cnd_t hc30 hp
               refine st_seq (st_region [oF 0] (by rfl) ?_)
               refine oQ [oF 0] [(6, vI 8)] (by kernel_rfl) ?_
               refine ops_nil (fin_then (st_ret (fin_ret_block (fin_ret_then (fin_ret_then (fin_ret_block (fin_ret_then ?_)))))))
               obtain hq_ := Option.some.inj hp
               subst hq_
               obtain hq_ := hd8 _ rfl
               subst hq_
               have hp : some 8 = some i9001 := hk8
               have hq_ := Option.some.inj hp
               have hr0_ := hq_
               subst hr0_
               refine fin_ret [.tmp 6] [vI 8] rfl rfl (fun w_ hM => (.tmp rfl .nil)) (fun w_ hM => ?_)
               exact ⟨trivial, rfl, hM.pick 4 [3] (by kernel_rfl) (by decide) rfl⟩
              ·
               have hp := cnd_f hc30 hp
               refine st_skip (fin_block ?_)
               exact fin_join HJ9 () hp (look_has ⟨rfl, rfl, rfl, rfl, trivial⟩) (fun w_ hM => hM.pick 4 [1, 2, 3] (by kernel_rfl) (by decide) rfl)
             ·
              have hp := cnd_f hc27 hp
              refine oQ [oF 12, oF 13, oF 14, oF 15, oF 16, oF 17, oF 18, oF 19] [(199, .bool false), (4, vP b1 0), (174, .slice (sa g9) ([(api_Arg.mk o_3 o_4 (api_Ref.mk o_5 o_6)), (api_Arg.mk o_7 o_8 (api_Ref.mk o_9 o_10))] : List api_Arg).length 2), (175, vI x10), (176, vI i12)] (by kernel_rfl) ?_
              refine ops_nil (fin_then (st_false rfl (st_skip (fin_block ?_))))
              exact fin_join HJ9 () hp (look_has ⟨rfl, rfl, rfl, rfl, trivial⟩) (fun w_ hM => hM.pick 4 [1, 2, 3] (by kernel_rfl) (by decide) rfl)
            ·
             have hp := cnd_f hc24 hp
             refine oQ [oF 3, oF 4, oF 5, oF 6, oF 7, oF 8, oF 9, oF 10, oF 11, oF 12, oF 13, oF 14, oF 15, oF 16, oF 17, oF 18, oF 19] [(199, .bool false), (4, vP b1 0), (174, .slice (sa g9) ([(api_Arg.mk o_3 o_4 (api_Ref.mk o_5 o_6)), (api_Arg.mk o_7 o_8 (api_Ref.mk o_9 o_10))] : List api_Arg).length 2), (175, vI x10), (176, vI i12)] (by kernel_rfl) ?_
             refine ops_nil (fin_then (st_false rfl (st_skip (fin_block ?_))))
             exact fin_join HJ9 () hp (look_has ⟨rfl, rfl, rfl, rfl, trivial⟩) (fun w_ hM => hM.pick 4 [1, 2, 3] (by kernel_rfl) (by decide) rfl)
          ·
           have hp := cnd_f hc13 hp
           refine st_exit (fin_exit_then (fin_exit_then (fin_exit ?_)))
           obtain hq_ := Option.some.inj hp
           subst hq_
           obtain hq_ := hd8 _ rfl
           subst hq_
           have hp : system_op_j7 = some i9001 := hk8
           exact fin_join HJ7 () hp (look_has trivial) (fun w_ hM => hM.pick 3 [2] (by kernel_rfl) (by decide) rfl)
        ·
         intro HJ6
         refine st_seq (st_seq (st_region [oF 0, oF 1, oF 2, oF 3, oF 4, oF 5, oF 6, oF 7, oF 8, oF 9, oF 10, oF 11] (by rfl) ?_))
         refine oQ [oF 0] [(158, vP b2 0), (4, vP b1 0), (5, vP b2 0)] (by kernel_rfl) ?_
         refine ops_mem (d := some 159) (an := [.v (vI o_0)]) (evs := [ld b2 0 (vI o_0)]) (v := vI o_0) ⟨by kernel_rfl⟩ (fun w_ hM hS => ⟨w_, ⟨hM.cell 1 rfl rfl, rfl⟩, hM, trivial⟩) ?_
         obtain ⟨x31, hv32, hp⟩ := obind hp
         refine ops_callI (σ := Unit) (d := some 160) (f := 136) (args := #[vI o_0]) (v := (fun _ => .bool x31)) (I := (fun _ => True)) (M' := (fun _ => Mem w0 (.blk b1 [.string s_0, sl A_s_1 s_1 c_s_1, sl A_s_2 s_2 c_s_2, sl A_s_3 s_3 c_s_3, sl A_s_4 s_4 c_s_4, sl A_s_5 s_5 c_s_5, sl A_s_6 s_6 c_s_6] 96 :: .blk b2 [vI o_0, vI o_1, vI o_2, .bool o_3, vI o_4, vI o_5, vI o_6, .bool o_7, vI o_8, vI o_9, vI o_10] 170 :: Fz F W :: cs))) ⟨by kernel_rfl⟩ (fun w_ hM hS => (system_sets_ok w0 w_ (.blk b1 [.string s_0, sl A_s_1 s_1 c_s_1, sl A_s_2 s_2 c_s_2, sl A_s_3 s_3 c_s_3, sl A_s_4 s_4 c_s_4, sl A_s_5 s_5 c_s_5, sl A_s_6 s_6 c_s_6] 96 :: .blk b2 [vI o_0, vI o_1, vI o_2, .bool o_3, vI o_4, vI o_5, vI o_6, .bool o_7, vI o_8, vI o_9, vI o_10] 170 :: cs) F W o_0 (hM.pick 3 [2, 0, 1] (by kernel_rfl) (by decide) rfl)  x31 hv32).mono (by rintro e w' ⟨-, rfl, h'⟩; have h' : Mem w0 (.blk b1 [.string s_0, sl A_s_1 s_1 c_s_1, sl A_s_2 s_2 c_s_2, sl A_s_3 s_3 c_s_3, sl A_s_4 s_4 c_s_4, sl A_s_5 s_5 c_s_5, sl A_s_6 s_6 c_s_6] 96 :: .blk b2 [vI o_0, vI o_1, vI o_2, .bool o_3, vI o_4, vI o_5, vI o_6, .bool o_7, vI o_8, vI o_9, vI o_10] 170 :: Fz F W :: cs) w' := (h'.pick 3 [1, 2, 0] (by kernel_rfl) (by decide) rfl); exact ⟨(), trivial, rfl, h', trivial⟩)) ?_
         rintro _ -
         refine oQ [oF 3] [(161, .bool x31), (4, vP b1 0), (5, vP b2 0)] (by kernel_rfl) ?_
         refine ops_bool (t := x31) (l1 := [(161, .bool true), (4, vP b1 0), (5, vP b2 0)]) (l2 := [(161, .bool false), (4, vP b1 0), (5, vP b2 0)]) (fun h => by rw [h]) (fun h => by rw [h]) (fun hc33 => ?_) (fun hc33 => ?_)
         ·
          have hp := cnd_t hc33 hp
          refine oQ [oF 4] [(162, vP b1 4), (161, .bool true), (4, vP b1 0), (5, vP b2 0)] (by kernel_rfl) ?_
          refine ops_mem (d := some 163) (an := [.v (sl A_s_4 s_4 c_s_4)]) (evs := [ld b1 4 (sl A_s_4 s_4 c_s_4)]) (v := sl A_s_4 s_4 c_s_4) ⟨by kernel_rfl⟩ (fun w_ hM hS => ⟨w_, ⟨hM.cell 0 rfl rfl, rfl⟩, hM, trivial⟩) ?_
          refine oQ [oF 6, oF 7] [(165, vP b2 1), (163, sl A_s_4 s_4 c_s_4), (161, .bool true), (4, vP b1 0), (5, vP b2 0)] (by kernel_rfl) ?_
          refine ops_mem (d := some 166) (an := [.v (vI o_1)]) (evs := [ld b2 1 (vI o_1)]) (v := vI o_1) ⟨by kernel_rfl⟩ (fun w_ hM hS => ⟨w_, ⟨hM.cell 1 rfl rfl, rfl⟩, hM, trivial⟩) ?_
          obtain ⟨x34, hv35, hp⟩ := obind hp
          refine ops_callI (σ := Unit) (d := some 167) (f := 90) (args := #[sl A_s_4 s_4 c_s_4, vI o_1]) (v := (fun _ => .bool x34)) (I := (fun _ => True)) (M' := (fun _ => Mem w0 (.blk b1 [.string s_0, sl A_s_1 s_1 c_s_1, sl A_s_2 s_2 c_s_2, sl A_s_3 s_3 c_s_3, sl A_s_4 s_4 c_s_4, sl A_s_5 s_5 c_s_5, sl A_s_6 s_6 c_s_6] 96 :: .blk b2 [vI o_0, vI o_1, vI o_2, .bool o_3, vI o_4, vI o_5, vI o_6, .bool o_7, vI o_8, vI o_9, vI o_10] 170 :: Fz F W :: cs))) ⟨by kernel_rfl⟩ (fun w_ hM hS => (slices_Contains_int_int_ok w0 w_ (.blk b1 [.string s_0, sl A_s_1 s_1 c_s_1, sl A_s_2 s_2 c_s_2, sl A_s_3 s_3 c_s_3, sl A_s_4 s_4 c_s_4, sl A_s_5 s_5 c_s_5, sl A_s_6 s_6 c_s_6] 96 :: .blk b2 [vI o_0, vI o_1, vI o_2, .bool o_3, vI o_4, vI o_5, vI o_6, .bool o_7, vI o_8, vI o_9, vI o_10] 170 :: cs) F W A_s_4 c_s_4 s_4 o_1 (hM.pick 3 [2, 0, 1] (by kernel_rfl) (by decide) rfl) h_s_4 x34 hv35).mono (by rintro e w' ⟨-, rfl, h'⟩; have h' : Mem w0 (.blk b1 [.string s_0, sl A_s_1 s_1 c_s_1, sl A_s_2 s_2 c_s_2, sl A_s_3 s_3 c_s_3, sl A_s_4 s_4 c_s_4, sl A_s_5 s_5 c_s_5, sl A_s_6 s_6 c_s_6] 96 :: .blk b2 [vI o_0, vI o_1, vI o_2, .bool o_3, vI o_4, vI o_5, vI o_6, .bool o_7, vI o_8, vI o_9, vI o_10] 170 :: Fz F W :: cs) w' := (h'.pick 3 [1, 2, 0] (by kernel_rfl) (by decide) rfl); exact ⟨(), trivial, rfl, h', trivial⟩)) ?_
          rintro _ -
          refine oQ [oF 10, oF 11] [(169, .bool (!x34)), (4, vP b1 0), (5, vP b2 0)] (by kernel_rfl) ?_
          refine ops_nil (fin_then ?_)
          refine st_if (b := !x34) rfl (fun hc36 => ?_) (fun hc36 => ?_)
          ·
           have hp := cnd_t hc36 hp
           refine st_seq (st_region [oF 0] (by rfl) ?_)
           refine oQ [oF 0] [(6, vI 8)] (by kernel_rfl) ?_
           refine ops_nil (fin_then (st_ret (fin_ret_then ?_)))
           have hq_ := Option.some.inj hp
           have hr0_ := hq_
           subst hr0_
           refine fin_ret [.tmp 6] [vI 8] rfl rfl (fun w_ hM => (.tmp rfl .nil)) (fun w_ hM => ?_)
           exact ⟨trivial, rfl, hM.pick 3 [2] (by kernel_rfl) (by decide) rfl⟩
          ·
           have hp := cnd_f hc36 hp
           refine st_skip ?_
           exact fin_join HJ6 () hp (look_has ⟨rfl, rfl, trivial⟩) (fun w_ hM => hM)
         ·
          have hp := cnd_f hc33 hp
          refine oQ [oF 4, oF 5, oF 6, oF 7, oF 8, oF 9, oF 10, oF 11] [(169, .bool false), (4, vP b1 0), (5, vP b2 0)] (by kernel_rfl) ?_
          refine ops_nil (fin_then (st_false rfl (st_skip ?_)))
          exact fin_join HJ6 () hp (look_has ⟨rfl, rfl, trivial⟩) (fun w_ hM => hM)
       ·
        intro HJ5
        refine st_seq (st_seq (st_region [oF 0, oF 1, oF 2, oF 3, oF 4, oF 5, oF 6, oF 7, oF 8, oF 9, oF 10, oF 11, oF 12, oF 13, oF 14, oF 15, oF 16, oF 17, oF 18, oF 19, oF 20, oF 21, oF 22, oF 23, oF 24, oF 25, oF 26] (by rfl) ?_))
        refine oQ [oF 0] [(131, vP b2 0), (0, sl A_k k c_k), (4, vP b1 0), (5, vP b2 0), (12, .bool t7)] (by kernel_rfl) ?_
        refine ops_mem (d := some 132) (an := [.v (vI o_0)]) (evs := [ld b2 0 (vI o_0)]) (v := vI o_0) ⟨by kernel_rfl⟩ (fun w_ hM hS => ⟨w_, ⟨hM.cell 1 rfl rfl, rfl⟩, hM, trivial⟩) ?_
        obtain ⟨x37, hv38, hp⟩ := obind hp
        refine ops_callI (σ := Unit) (d := some 133) (f := 136) (args := #[vI o_0]) (v := (fun _ => .bool x37)) (I := (fun _ => True)) (M' := (fun _ => Mem w0 (.blk b1 [.string s_0, sl A_s_1 s_1 c_s_1, sl A_s_2 s_2 c_s_2, sl A_s_3 s_3 c_s_3, sl A_s_4 s_4 c_s_4, sl A_s_5 s_5 c_s_5, sl A_s_6 s_6 c_s_6] 96 :: .blk b2 [vI o_0, vI o_1, vI o_2, .bool o_3, vI o_4, vI o_5, vI o_6, .bool o_7, vI o_8, vI o_9, vI o_10] 170 :: Fz F W :: cs))) ⟨by kernel_rfl⟩ (fun w_ hM hS => (system_sets_ok w0 w_ (.blk b1 [.string s_0, sl A_s_1 s_1 c_s_1, sl A_s_2 s_2 c_s_2, sl A_s_3 s_3 c_s_3, sl A_s_4 s_4 c_s_4, sl A_s_5 s_5 c_s_5, sl A_s_6 s_6 c_s_6] 96 :: .blk b2 [vI o_0, vI o_1, vI o_2, .bool o_3, vI o_4, vI o_5, vI o_6, .bool o_7, vI o_8, vI o_9, vI o_10] 170 :: cs) F W o_0 (hM.pick 3 [2, 0, 1] (by kernel_rfl) (by decide) rfl)  x37 hv38).mono (by rintro e w' ⟨-, rfl, h'⟩; have h' : Mem w0 (.blk b1 [.string s_0, sl A_s_1 s_1 c_s_1, sl A_s_2 s_2 c_s_2, sl A_s_3 s_3 c_s_3, sl A_s_4 s_4 c_s_4, sl A_s_5 s_5 c_s_5, sl A_s_6 s_6 c_s_6] 96 :: .blk b2 [vI o_0, vI o_1, vI o_2, .bool o_3, vI o_4, vI o_5, vI o_6, .bool o_7, vI o_8, vI o_9, vI o_10] 170 :: Fz F W :: cs) w' := (h'.pick 3 [1, 2, 0] (by kernel_rfl) (by decide) rfl); exact ⟨(), trivial, rfl, h', trivial⟩)) ?_
        rintro _ -
        refine oQ [oF 3] [(134, .bool x37), (0, sl A_k k c_k), (4, vP b1 0), (5, vP b2 0), (12, .bool t7)] (by kernel_rfl) ?_
        refine ops_bool (t := x37) (l1 := [(134, .bool true), (0, sl A_k k c_k), (4, vP b1 0), (5, vP b2 0), (12, .bool t7)]) (l2 := [(134, .bool false), (0, sl A_k k c_k), (4, vP b1 0), (5, vP b2 0), (12, .bool t7)]) (fun h => by rw [h]) (fun h => by rw [h]) (fun hc39 => ?_) (fun hc39 => ?_)
        ·
         have hp := cnd_t hc39 hp
         refine oQ [oF 4, oF 5] [(136, vP b2 1), (135, sl A_k k c_k), (134, .bool true), (0, sl A_k k c_k), (4, vP b1 0), (5, vP b2 0), (12, .bool t7)] (by kernel_rfl) ?_
         refine ops_mem (d := some 137) (an := [.v (vI o_1), .v (vI o_2)]) (evs := [ld b2 1 (vI o_1), ld b2 2 (vI o_2)]) (v := .agg #[vI o_1, vI o_2]) ⟨by kernel_rfl⟩ (fun w_ hM hS => ⟨w_, ⟨hM.cell 1 rfl rfl, hM.cell 1 rfl rfl, rfl⟩, hM, trivial⟩) ?_
         obtain ⟨x40, hv41, hp⟩ := obind hp
         refine ops_callI (σ := Unit) (d := some 138) (f := 134) (args := #[sl A_k k c_k, .agg #[vI o_1, vI o_2]]) (v := (fun _ => .bool x40)) (I := (fun _ => True)) (M' := (fun _ => Mem w0 (.blk b1 [.string s_0, sl A_s_1 s_1 c_s_1, sl A_s_2 s_2 c_s_2, sl A_s_3 s_3 c_s_3, sl A_s_4 s_4 c_s_4, sl A_s_5 s_5 c_s_5, sl A_s_6 s_6 c_s_6] 96 :: .blk b2 [vI o_0, vI o_1, vI o_2, .bool o_3, vI o_4, vI o_5, vI o_6, .bool o_7, vI o_8, vI o_9, vI o_10] 170 :: Fz F W :: cs))) ⟨by kernel_rfl⟩ (fun w_ hM hS => (system_isField_ok w0 w_ (.blk b1 [.string s_0, sl A_s_1 s_1 c_s_1, sl A_s_2 s_2 c_s_2, sl A_s_3 s_3 c_s_3, sl A_s_4 s_4 c_s_4, sl A_s_5 s_5 c_s_5, sl A_s_6 s_6 c_s_6] 96 :: .blk b2 [vI o_0, vI o_1, vI o_2, .bool o_3, vI o_4, vI o_5, vI o_6, .bool o_7, vI o_8, vI o_9, vI o_10] 170 :: cs) F W A_k c_k k o_1 o_2 (hM.pick 3 [2, 0, 1] (by kernel_rfl) (by decide) rfl) h_k x40 hv41).mono (by rintro e w' ⟨-, rfl, h'⟩; have h' : Mem w0 (.blk b1 [.string s_0, sl A_s_1 s_1 c_s_1, sl A_s_2 s_2 c_s_2, sl A_s_3 s_3 c_s_3, sl A_s_4 s_4 c_s_4, sl A_s_5 s_5 c_s_5, sl A_s_6 s_6 c_s_6] 96 :: .blk b2 [vI o_0, vI o_1, vI o_2, .bool o_3, vI o_4, vI o_5, vI o_6, .bool o_7, vI o_8, vI o_9, vI o_10] 170 :: Fz F W :: cs) w' := (h'.pick 3 [1, 2, 0] (by kernel_rfl) (by decide) rfl); exact ⟨(), trivial, rfl, h', trivial⟩)) ?_
         rintro _ -
         refine oQ [oF 8, oF 9, oF 10] [(141, .bool (!x40)), (0, sl A_k k c_k), (4, vP b1 0), (5, vP b2 0), (12, .bool t7)] (by kernel_rfl) ?_
         refine ops_bool (t := !x40) (l1 := [(141, .bool true), (0, sl A_k k c_k), (4, vP b1 0), (5, vP b2 0), (12, .bool t7)]) (l2 := [(141, .bool false), (0, sl A_k k c_k), (4, vP b1 0), (5, vP b2 0), (12, .bool t7)]) (fun h => by rw [h]) (fun h => by rw [h]) (fun hc42 => ?_) (fun hc42 => ?_)
         ·
          have hp := cnd_t hc42 hp
          refine oQ [oF 11, oF 12, oF 13, oF 14, oF 15, oF 16, oF 17, oF 18, oF 19, oF 20, oF 21, oF 22, oF 23, oF 24, oF 25, oF 26] [(157, .bool true), (4, vP b1 0), (5, vP b2 0)] (by kernel_rfl) ?_
          refine ops_nil (fin_then (st_true rfl (st_seq (st_region [oF 0] (by rfl) ?_))))
          refine oQ [oF 0] [(6, vI 1)] (by kernel_rfl) ?_
          refine ops_nil (fin_then (st_ret (fin_ret_then ?_)))
          have hq_ := Option.some.inj hp
          have hr0_ := hq_
          subst hr0_
          refine fin_ret [.tmp 6] [vI 1] rfl rfl (fun w_ hM => (.tmp rfl .nil)) (fun w_ hM => ?_)
          exact ⟨trivial, rfl, hM.pick 3 [2] (by kernel_rfl) (by decide) rfl⟩
         ·
          have hp := cnd_f hc42 hp
          refine oQ [oF 11, oF 12] [(143, .bool t7), (141, .bool false), (0, sl A_k k c_k), (4, vP b1 0), (5, vP b2 0)] (by kernel_rfl) ?_
          refine ops_bool (t := t7) (l1 := [(143, .bool true), (141, .bool false), (0, sl A_k k c_k), (4, vP b1 0), (5, vP b2 0)]) (l2 := [(143, .bool false), (141, .bool false), (0, sl A_k k c_k), (4, vP b1 0), (5, vP b2 0)]) (fun h => by rw [h]) (fun h => by rw [h]) (fun hc43 => ?_) (fun hc43 => ?_)
          ·
           have hp := cnd_t hc43 hp
           refine oQ [oF 13, oF 14] [(145, vP b2 1), (143, .bool true), (141, .bool false), (0, sl A_k k c_k), (4, vP b1 0), (5, vP b2 0)] (by kernel_rfl) ?_
           refine ops_mem (d := some 146) (an := [.v (vI o_1)]) (evs := [ld b2 1 (vI o_1)]) (v := vI o_1) ⟨by kernel_rfl⟩ (fun w_ hM hS => ⟨w_, ⟨hM.cell 1 rfl rfl, rfl⟩, hM, trivial⟩) ?_
           refine oQ [oF 16, oF 17] [(148, .bool (decide (o_1 < 0))), (143, .bool true), (141, .bool false), (0, sl A_k k c_k), (4, vP b1 0), (5, vP b2 0)] (by kernel_rfl) ?_
           refine ops_bool (t := decide (o_1 < 0)) (l1 := [(148, .bool true), (143, .bool true), (141, .bool false), (0, sl A_k k c_k), (4, vP b1 0), (5, vP b2 0)]) (l2 := [(148, .bool false), (143, .bool true), (141, .bool false), (0, sl A_k k c_k), (4, vP b1 0), (5, vP b2 0)]) (fun h => by rw [h]) (fun h => by rw [h]) (fun hc44 => ?_) (fun hc44 => ?_)
           ·
            have hp := cnd_t hc44 hp
            refine oQ [oF 18, oF 19, oF 20, oF 21, oF 22, oF 23, oF 24, oF 25, oF 26] [(157, .bool true), (4, vP b1 0), (5, vP b2 0)] (by kernel_rfl) ?_
            refine ops_nil (fin_then (st_true rfl (st_seq (st_region [oF 0] (by rfl) ?_))))
            refine oQ [oF 0] [(6, vI 1)] (by kernel_rfl) ?_
            refine ops_nil (fin_then (st_ret (fin_ret_then ?_)))
            have hq_ := Option.some.inj hp
            have hr0_ := hq_
            subst hr0_
            refine fin_ret [.tmp 6] [vI 1] rfl rfl (fun w_ hM => (.tmp rfl .nil)) (fun w_ hM => ?_)
            exact ⟨trivial, rfl, hM.pick 3 [2] (by kernel_rfl) (by decide) rfl⟩
           ·
            have hp := cnd_f hc44 hp
            refine oQ [oF 18, oF 19] [(150, vP b2 1), (148, .bool false), (143, .bool true), (141, .bool false), (0, sl A_k k c_k), (4, vP b1 0), (5, vP b2 0)] (by kernel_rfl) ?_
            refine ops_mem (d := some 151) (an := [.v (vI o_1)]) (evs := [ld b2 1 (vI o_1)]) (v := vI o_1) ⟨by kernel_rfl⟩ (fun w_ hM hS => ⟨w_, ⟨hM.cell 1 rfl rfl, rfl⟩, hM, trivial⟩) ?_
            refine oQ [oF 21, oF 22, oF 23, oF 24, oF 25, oF 26] [(157, .bool (decide ((k.length : Int) ≤ o_1))), (4, vP b1 0), (5, vP b2 0)] (by kernel_rfl) ?_
            refine ops_nil (fin_then ?_)
            refine st_if (b := decide ((k.length : Int) ≤ o_1)) rfl (fun hc45 => ?_) (fun hc45 => ?_)
            ·
             have hp := cnd_t hc45 hp
             refine st_seq (st_region [oF 0] (by rfl) ?_)
             refine oQ [oF 0] [(6, vI 1)] (by kernel_rfl) ?_
             refine ops_nil (fin_then (st_ret (fin_ret_then ?_)))
             have hq_ := Option.some.inj hp
             have hr0_ := hq_
             subst hr0_
             refine fin_ret [.tmp 6] [vI 1] rfl rfl (fun w_ hM => (.tmp rfl .nil)) (fun w_ hM => ?_)
             exact ⟨trivial, rfl, hM.pick 3 [2] (by kernel_rfl) (by decide) rfl⟩
            ·
             have hp := cnd_f hc45 hp
             refine st_skip ?_
             exact fin_join HJ5 () hp (look_has ⟨rfl, rfl, trivial⟩) (fun w_ hM => hM)
          ·
           have hp := cnd_f hc43 hp
           refine oQ [oF 13, oF 14, oF 15, oF 16, oF 17, oF 18, oF 19, oF 20, oF 21, oF 22, oF 23, oF 24, oF 25, oF 26] [(157, .bool false), (4, vP b1 0), (5, vP b2 0)] (by kernel_rfl) ?_
           refine ops_nil (fin_then (st_false rfl (st_skip ?_)))
           exact fin_join HJ5 () hp (look_has ⟨rfl, rfl, trivial⟩) (fun w_ hM => hM)
        ·
         have hp := cnd_f hc39 hp
         refine oQ [oF 4, oF 5, oF 6, oF 7, oF 8, oF 9, oF 10, oF 11, oF 12] [(143, .bool t7), (141, .bool false), (0, sl A_k k c_k), (4, vP b1 0), (5, vP b2 0)] (by kernel_rfl) ?_
         refine ops_bool (t := t7) (l1 := [(143, .bool true), (141, .bool false), (0, sl A_k k c_k), (4, vP b1 0), (5, vP b2 0)]) (l2 := [(143, .bool false), (141, .bool false), (0, sl A_k k c_k), (4, vP b1 0), (5, vP b2 0)]) (fun h => by rw [h]) (fun h => by rw [h]) (fun hc46 => ?_) (fun hc46 => ?_)
         ·
          have hp := cnd_t hc46 hp
          refine oQ [oF 13, oF 14] [(145, vP b2 1), (143, .bool true), (141, .bool false), (0, sl A_k k c_k), (4, vP b1 0), (5, vP b2 0)] (by kernel_rfl) ?_
          refine ops_mem (d := some 146) (an := [.v (vI o_1)]) (evs := [ld b2 1 (vI o_1)]) (v := vI o_1) ⟨by kernel_rfl⟩ (fun w_ hM hS => ⟨w_, ⟨hM.cell 1 rfl rfl, rfl⟩, hM, trivial⟩) ?_
          refine oQ [oF 16, oF 17] [(148, .bool (decide (o_1 < 0))), (143, .bool true), (141, .bool false), (0, sl A_k k c_k), (4, vP b1 0), (5, vP b2 0)] (by kernel_rfl) ?_
          refine ops_bool (t := decide (o_1 < 0)) (l1 := [(148, .bool true), (143, .bool true), (141, .bool false), (0, sl A_k k c_k), (4, vP b1 0), (5, vP b2 0)]) (l2 := [(148, .bool false), (143, .bool true), (141, .bool false), (0, sl A_k k c_k), (4, vP b1 0), (5, vP b2 0)]) (fun h => by rw [h]) (fun h => by rw [h]) (fun hc47 => ?_) (fun hc47 => ?_)
          ·
           have hp := cnd_t hc47 hp
           refine oQ [oF 18, oF 19, oF 20, oF 21, oF 22, oF 23, oF 24, oF 25, oF 26] [(157, .bool true), (4, vP b1 0), (5, vP b2 0)] (by kernel_rfl) ?_
           refine ops_nil (fin_then (st_true rfl (st_seq (st_region [oF 0] (by rfl) ?_))))
           refine oQ [oF 0] [(6, vI 1)] (by kernel_rfl) ?_
           refine ops_nil (fin_then (st_ret (fin_ret_then ?_)))
           have hq_ := Option.some.inj hp
           have hr0_ := hq_
           subst hr0_
           refine fin_ret [.tmp 6] [vI 1] rfl rfl (fun w_ hM => (.tmp rfl .nil)) (fun w_ hM => ?_)
           exact ⟨trivial, rfl, hM.pick 3 [2] (by kernel_rfl) (by decide) rfl⟩
          ·
           have hp := cnd_f hc47 hp
           refine oQ [oF 18, oF 19] [(150, vP b2 1), (148, .bool false), (143, .bool true), (141, .bool false), (0, sl A_k k c_k), (4, vP b1 0), (5, vP b2 0)] (by kernel_rfl) ?_
           refine ops_mem (d := some 151) (an := [.v (vI o_1)]) (evs := [ld b2 1 (vI o_1)]) (v := vI o_1) ⟨by kernel_rfl⟩ (fun w_ hM hS => ⟨w_, ⟨hM.cell 1 rfl rfl, rfl⟩, hM, trivial⟩) ?_
           refine oQ [oF 21, oF 22, oF 23, oF 24, oF 25, oF 26] [(157, .bool (decide ((k.length : Int) ≤ o_1))), (4, vP b1 0), (5, vP b2 0)] (by kernel_rfl) ?_
           refine ops_nil (fin_then ?_)
           refine st_if (b := decide ((k.length : Int) ≤ o_1)) rfl (fun hc48 => ?_) (fun hc48 => ?_)
           ·
            have hp := cnd_t hc48 hp
            refine st_seq (st_region [oF 0] (by rfl) ?_)
            refine oQ [oF 0] [(6, vI 1)] (by kernel_rfl) ?_
            refine ops_nil (fin_then (st_ret (fin_ret_then ?_)))
            have hq_ := Option.some.inj hp
            have hr0_ := hq_
            subst hr0_
            refine fin_ret [.tmp 6] [vI 1] rfl rfl (fun w_ hM => (.tmp rfl .nil)) (fun w_ hM => ?_)
            exact ⟨trivial, rfl, hM.pick 3 [2] (by kernel_rfl) (by decide) rfl⟩
           ·
            have hp := cnd_f hc48 hp
            refine st_skip ?_
            exact fin_join HJ5 () hp (look_has ⟨rfl, rfl, trivial⟩) (fun w_ hM => hM)
         ·
          have hp := cnd_f hc46 hp
          refine oQ [oF 13, oF 14, oF 15, oF 16, oF 17, oF 18, oF 19, oF 20, oF 21, oF 22, oF 23, oF 24, oF 25, oF 26] [(157, .bool false), (4, vP b1 0), (5, vP b2 0)] (by kernel_rfl) ?_
          refine ops_nil (fin_then (st_false rfl (st_skip ?_)))
          exact fin_join HJ5 () hp (look_has ⟨rfl, rfl, trivial⟩) (fun w_ hM => hM)
      ·
       intro HJ4
       refine st_seq (st_seq (st_region [oF 0, oF 1, oF 2, oF 3, oF 4, oF 5, oF 6, oF 7, oF 8, oF 9, oF 10, oF 11, oF 12, oF 13, oF 14, oF 15, oF 16, oF 17, oF 18, oF 19, oF 20, oF 21, oF 22, oF 23, oF 24, oF 25, oF 26, oF 27, oF 28, oF 29, oF 30, oF 31, oF 32, oF 33, oF 34] (by rfl) ?_))
       refine oQ [oF 0] [(96, vP b2 0), (0, sl A_k k c_k), (4, vP b1 0), (5, vP b2 0), (9, vP b5 0), (12, .bool t6)] (by kernel_rfl) ?_
       refine ops_mem (d := some 97) (an := [.v (vI o_0)]) (evs := [ld b2 0 (vI o_0)]) (v := vI o_0) ⟨by kernel_rfl⟩ (fun w_ hM hS => ⟨w_, ⟨hM.cell 1 rfl rfl, rfl⟩, hM, trivial⟩) ?_
       obtain ⟨x49, hv50, hp⟩ := obind hp
       refine ops_callI (σ := Unit) (d := some 98) (f := 135) (args := #[vI o_0]) (v := (fun _ => .bool x49)) (I := (fun _ => True)) (M' := (fun _ => Mem w0 (.blk b1 [.string s_0, sl A_s_1 s_1 c_s_1, sl A_s_2 s_2 c_s_2, sl A_s_3 s_3 c_s_3, sl A_s_4 s_4 c_s_4, sl A_s_5 s_5 c_s_5, sl A_s_6 s_6 c_s_6] 96 :: .blk b2 [vI o_0, vI o_1, vI o_2, .bool o_3, vI o_4, vI o_5, vI o_6, .bool o_7, vI o_8, vI o_9, vI o_10] 170 :: .blk b5 [vI 0, vI 0] 166 :: Fz F W :: cs))) ⟨by kernel_rfl⟩ (fun w_ hM hS => (system_two_ok w0 w_ (.blk b1 [.string s_0, sl A_s_1 s_1 c_s_1, sl A_s_2 s_2 c_s_2, sl A_s_3 s_3 c_s_3, sl A_s_4 s_4 c_s_4, sl A_s_5 s_5 c_s_5, sl A_s_6 s_6 c_s_6] 96 :: .blk b2 [vI o_0, vI o_1, vI o_2, .bool o_3, vI o_4, vI o_5, vI o_6, .bool o_7, vI o_8, vI o_9, vI o_10] 170 :: .blk b5 [vI 0, vI 0] 166 :: cs) F W o_0 (hM.pick 4 [3, 0, 1, 2] (by kernel_rfl) (by decide) rfl)  x49 hv50).mono (by rintro e w' ⟨-, rfl, h'⟩; have h' : Mem w0 (.blk b1 [.string s_0, sl A_s_1 s_1 c_s_1, sl A_s_2 s_2 c_s_2, sl A_s_3 s_3 c_s_3, sl A_s_4 s_4 c_s_4, sl A_s_5 s_5 c_s_5, sl A_s_6 s_6 c_s_6] 96 :: .blk b2 [vI o_0, vI o_1, vI o_2, .bool o_3, vI o_4, vI o_5, vI o_6, .bool o_7, vI o_8, vI o_9, vI o_10] 170 :: .blk b5 [vI 0, vI 0] 166 :: Fz F W :: cs) w' := (h'.pick 4 [1, 2, 3, 0] (by kernel_rfl) (by decide) rfl); exact ⟨(), trivial, rfl, h', trivial⟩)) ?_
       rintro _ -
       refine oQ [oF 3, oF 4] [(100, .bool (!x49)), (0, sl A_k k c_k), (4, vP b1 0), (5, vP b2 0), (9, vP b5 0), (12, .bool t6)] (by kernel_rfl) ?_
       refine ops_bool (t := !x49) (l1 := [(100, .bool true), (0, sl A_k k c_k), (4, vP b1 0), (5, vP b2 0), (9, vP b5 0), (12, .bool t6)]) (l2 := [(100, .bool false), (0, sl A_k k c_k), (4, vP b1 0), (5, vP b2 0), (9, vP b5 0), (12, .bool t6)]) (fun h => by rw [h]) (fun h => by rw [h]) (fun hc51 => ?_) (fun hc51 => ?_)
       ·
        have hp := cnd_t hc51 hp
        refine oQ [oF 5] [(101, vP b2 7), (100, .bool true), (0, sl A_k k c_k), (4, vP b1 0), (5, vP b2 0), (9, vP b5 0), (12, .bool t6)] (by kernel_rfl) ?_
        refine ops_mem (d := some 102) (an := [.v (.bool o_7), .v (vI o_8), .v (vI o_9), .v (vI o_10)]) (evs := [ld b2 7 (.bool o_7), ld b2 8 (vI o_8), ld b2 9 (vI o_9), ld b2 10 (vI o_10)]) (v := .agg #[.bool o_7, vI o_8, vI o_9, vI o_10]) ⟨by kernel_rfl⟩ (fun w_ hM hS => ⟨w_, ⟨hM.cell 1 rfl rfl, hM.cell 1 rfl rfl, hM.cell 1 rfl rfl, hM.cell 1 rfl rfl, rfl⟩, hM, trivial⟩) ?_
        refine oQ [oF 7] [(103, .agg #[.bool false, vI 0, vI 0, vI 0]), (102, .agg #[.bool o_7, vI o_8, vI o_9, vI o_10]), (100, .bool true), (0, sl A_k k c_k), (4, vP b1 0), (5, vP b2 0), (9, vP b5 0), (12, .bool t6)] (by kernel_rfl) ?_
        refine ops_val (op := (.binOp Go.BinOp.neq 168 (.tmp 102) (.tmp 103) 168)) (d := some 104) (v := .bool (!(o_7 == false && (o_8 == 0 && (o_9 == 0 && (o_10 == 0)))))) ⟨by kernel_rfl⟩ (run_neq_agg (r := o_7 == false && (o_8 == 0 && (o_9 == 0 && (o_10 == 0)))) rfl rfl (by kernel_rfl) (fun w => eqA168 9997 w o_7 false o_8 0 o_9 0 o_10 0)) ?_
        refine oQ [oF 9, oF 10] [(106, .bool (!(o_7 == false && (o_8 == 0 && (o_9 == 0 && (o_10 == 0)))))), (0, sl A_k k c_k), (4, vP b1 0), (5, vP b2 0), (9, vP b5 0), (12, .bool t6)] (by kernel_rfl) ?_
        refine ops_bool (t := !(o_7 == false && (o_8 == 0 && (o_9 == 0 && (o_10 == 0))))) (l1 := [(106, .bool true), (0, sl A_k k c_k), (4, vP b1 0), (5, vP b2 0), (9, vP b5 0), (12, .bool t6)]) (l2 := [(106, .bool false), (0, sl A_k k c_k), (4, vP b1 0), (5, vP b2 0), (9, vP b5 0), (12, .bool t6)]) (fun h => by rw [h]) (fun h => by rw [h]) (fun hc52 => ?_) (fun hc52 => ?_)
        ·
         have hp := cnd_t hc52 hp
         refine oQ [oF 11, oF 12, oF 13, oF 14, oF 15, oF 16, oF 17, oF 18, oF 19, oF 20, oF 21, oF 22, oF 23, oF 24, oF 25, oF 26, oF 27, oF 28, oF 29, oF 30, oF 31, oF 32, oF 33, oF 34] [(130, .bool true), (0, sl A_k k c_k), (4, vP b1 0), (5, vP b2 0), (12, .bool t6)] (by kernel_rfl) ?_
         refine ops_nil (fin_then (st_true rfl (st_seq (st_region [oF 0] (by rfl) ?_))))
         refine oQ [oF 0] [(6, vI 3)] (by kernel_rfl) ?_
         refine ops_nil (fin_then (st_ret (fin_ret_then ?_)))
         have hq_ := Option.some.inj hp
         have hr0_ := hq_
         subst hr0_
         refine fin_ret [.tmp 6] [vI 3] rfl rfl (fun w_ hM => (.tmp rfl .nil)) (fun w_ hM => ?_)
         exact ⟨trivial, rfl, hM.pick 4 [3] (by kernel_rfl) (by decide) rfl⟩
        ·
         have hp := cnd_f hc52 hp
         refine oQ [oF 11] [(107, vP b2 0), (106, .bool false), (0, sl A_k k c_k), (4, vP b1 0), (5, vP b2 0), (9, vP b5 0), (12, .bool t6)] (by kernel_rfl) ?_
         refine ops_mem (d := some 108) (an := [.v (vI o_0)]) (evs := [ld b2 0 (vI o_0)]) (v := vI o_0) ⟨by kernel_rfl⟩ (fun w_ hM hS => ⟨w_, ⟨hM.cell 1 rfl rfl, rfl⟩, hM, trivial⟩) ?_
         obtain ⟨x53, hv54, hp⟩ := obind hp
         refine ops_callI (σ := Unit) (d := some 109) (f := 136) (args := #[vI o_0]) (v := (fun _ => .bool x53)) (I := (fun _ => True)) (M' := (fun _ => Mem w0 (.blk b1 [.string s_0, sl A_s_1 s_1 c_s_1, sl A_s_2 s_2 c_s_2, sl A_s_3 s_3 c_s_3, sl A_s_4 s_4 c_s_4, sl A_s_5 s_5 c_s_5, sl A_s_6 s_6 c_s_6] 96 :: .blk b2 [vI o_0, vI o_1, vI o_2, .bool o_3, vI o_4, vI o_5, vI o_6, .bool o_7, vI o_8, vI o_9, vI o_10] 170 :: .blk b5 [vI 0, vI 0] 166 :: Fz F W :: cs))) ⟨by kernel_rfl⟩ (fun w_ hM hS => (system_sets_ok w0 w_ (.blk b1 [.string s_0, sl A_s_1 s_1 c_s_1, sl A_s_2 s_2 c_s_2, sl A_s_3 s_3 c_s_3, sl A_s_4 s_4 c_s_4, sl A_s_5 s_5 c_s_5, sl A_s_6 s_6 c_s_6] 96 :: .blk b2 [vI o_0, vI o_1, vI o_2, .bool o_3, vI o_4, vI o_5, vI o_6, .bool o_7, vI o_8, vI o_9, vI o_10] 170 :: .blk b5 [vI 0, vI 0] 166 :: cs) F W o_0 (hM.pick 4 [3, 0, 1, 2] (by kernel_rfl) (by decide) rfl)  x53 hv54).mono (by rintro e w' ⟨-, rfl, h'⟩; have h' : Mem w0 (.blk b1 [.string s_0, sl A_s_1 s_1 c_s_1, sl A_s_2 s_2 c_s_2, sl A_s_3 s_3 c_s_3, sl A_s_4 s_4 c_s_4, sl A_s_5 s_5 c_s_5, sl A_s_6 s_6 c_s_6] 96 :: .blk b2 [vI o_0, vI o_1, vI o_2, .bool o_3, vI o_4, vI o_5, vI o_6, .bool o_7, vI o_8, vI o_9, vI o_10] 170 :: .blk b5 [vI 0, vI 0] 166 :: Fz F W :: cs) w' := (h'.pick 4 [1, 2, 3, 0] (by kernel_rfl) (by decide) rfl); exact ⟨(), trivial, rfl, h', trivial⟩)) ?_
         rintro _ -
         refine oQ [oF 14, oF 15] [(111, .bool (!x53)), (106, .bool false), (0, sl A_k k c_k), (4, vP b1 0), (5, vP b2 0), (9, vP b5 0), (12, .bool t6)] (by kernel_rfl) ?_
         refine ops_bool (t := !x53) (l1 := [(111, .bool true), (106, .bool false), (0, sl A_k k c_k), (4, vP b1 0), (5, vP b2 0), (9, vP b5 0), (12, .bool t6)]) (l2 := [(111, .bool false), (106, .bool false), (0, sl A_k k c_k), (4, vP b1 0), (5, vP b2 0), (9, vP b5 0), (12, .bool t6)]) (fun h => by rw [h]) (fun h => by rw [h]) (fun hc55 => ?_) (fun hc55 => ?_)
         ·
          have hp := cnd_t hc55 hp
          refine oQ [oF 16, oF 17, oF 18, oF 19] [(115, .bool (!t6)), (106, .bool false), (0, sl A_k k c_k), (4, vP b1 0), (5, vP b2 0), (9, vP b5 0), (12, .bool t6)] (by kernel_rfl) ?_
          refine ops_bool (t := !t6) (l1 := [(115, .bool true), (106, .bool false), (0, sl A_k k c_k), (4, vP b1 0), (5, vP b2 0), (9, vP b5 0), (12, .bool t6)]) (l2 := [(115, .bool false), (106, .bool false), (0, sl A_k k c_k), (4, vP b1 0), (5, vP b2 0), (9, vP b5 0), (12, .bool t6)]) (fun h => by rw [h]) (fun h => by rw [h]) (fun hc56 => ?_) (fun hc56 => ?_)
          ·
           have hp := cnd_t hc56 hp
           refine oQ [oF 20] [(116, vP b2 1), (115, .bool true), (106, .bool false), (0, sl A_k k c_k), (4, vP b1 0), (5, vP b2 0), (9, vP b5 0), (12, .bool t6)] (by kernel_rfl) ?_
           refine ops_mem (d := some 117) (an := [.v (vI o_1), .v (vI o_2)]) (evs := [ld b2 1 (vI o_1), ld b2 2 (vI o_2)]) (v := .agg #[vI o_1, vI o_2]) ⟨by kernel_rfl⟩ (fun w_ hM hS => ⟨w_, ⟨hM.cell 1 rfl rfl, hM.cell 1 rfl rfl, rfl⟩, hM, trivial⟩) ?_
           refine ops_mem (d := some 118) (an := [.v (vI 0), .v (vI 0)]) (evs := [ld b5 0 (vI 0), ld b5 1 (vI 0)]) (v := .agg #[vI 0, vI 0]) ⟨by kernel_rfl⟩ (fun w_ hM hS => ⟨w_, ⟨hM.cell 2 rfl rfl, hM.cell 2 rfl rfl, rfl⟩, hM, trivial⟩) ?_
           refine ops_val (op := (.binOp Go.BinOp.neq 166 (.tmp 117) (.tmp 118) 166)) (d := some 119) (v := .bool (!(o_1 == 0 && (o_2 == 0)))) ⟨by kernel_rfl⟩ (run_neq_agg (r := o_1 == 0 && (o_2 == 0)) rfl rfl (by kernel_rfl) (fun w => eqA166 9998 w o_1 0 o_2 0)) ?_
           refine oQ [oF 24, oF 25, oF 26] [(122, .bool (!(o_1 == 0 && (o_2 == 0)))), (0, sl A_k k c_k), (4, vP b1 0), (5, vP b2 0), (12, .bool t6)] (by kernel_rfl) ?_
           refine ops_bool (t := !(o_1 == 0 && (o_2 == 0))) (l1 := [(122, .bool true), (0, sl A_k k c_k), (4, vP b1 0), (5, vP b2 0), (12, .bool t6)]) (l2 := [(122, .bool false), (0, sl A_k k c_k), (4, vP b1 0), (5, vP b2 0), (12, .bool t6)]) (fun h => by rw [h]) (fun h => by rw [h]) (fun hc57 => ?_) (fun hc57 => ?_)
           ·
            have hp := cnd_t hc57 hp
            refine oQ [oF 27, oF 28, oF 29, oF 30, oF 31, oF 32, oF 33, oF 34] [(130, .bool true), (0, sl A_k k c_k), (4, vP b1 0), (5, vP b2 0), (12, .bool t6)] (by kernel_rfl) ?_
            refine ops_nil (fin_then (st_true rfl (st_seq (st_region [oF 0] (by rfl) ?_))))
            refine oQ [oF 0] [(6, vI 3)] (by kernel_rfl) ?_
            refine ops_nil (fin_then (st_ret (fin_ret_then ?_)))
            have hq_ := Option.some.inj hp
            have hr0_ := hq_
            subst hr0_
            refine fin_ret [.tmp 6] [vI 3] rfl rfl (fun w_ hM => (.tmp rfl .nil)) (fun w_ hM => ?_)
            exact ⟨trivial, rfl, hM.pick 4 [3] (by kernel_rfl) (by decide) rfl⟩
           ·
            have hp := cnd_f hc57 hp
            refine oQ [oF 27, oF 28] [(124, .bool t6), (122, .bool false), (0, sl A_k k c_k), (4, vP b1 0), (5, vP b2 0), (12, .bool t6)] (by kernel_rfl) ?_
            refine ops_bool (t := t6) (l1 := [(124, .bool true), (122, .bool false), (0, sl A_k k c_k), (4, vP b1 0), (5, vP b2 0), (12, .bool true)]) (l2 := [(124, .bool false), (122, .bool false), (0, sl A_k k c_k), (4, vP b1 0), (5, vP b2 0), (12, .bool false)]) (fun h => by rw [h]) (fun h => by rw [h]) (fun hc58 => ?_) (fun hc58 => ?_)
            ·
             have hp := cnd_t hc58 hp
             refine oQ [oF 29, oF 30] [(126, vP b2 2), (124, .bool true), (122, .bool false), (0, sl A_k k c_k), (4, vP b1 0), (5, vP b2 0), (12, .bool true)] (by kernel_rfl) ?_
             refine ops_mem (d := some 127) (an := [.v (vI o_2)]) (evs := [ld b2 2 (vI o_2)]) (v := vI o_2) ⟨by kernel_rfl⟩ (fun w_ hM hS => ⟨w_, ⟨hM.cell 1 rfl rfl, rfl⟩, hM, trivial⟩) ?_
             refine oQ [oF 32, oF 33, oF 34] [(130, .bool (!(o_2 == 0))), (0, sl A_k k c_k), (4, vP b1 0), (5, vP b2 0), (12, .bool true)] (by kernel_rfl) ?_
             refine ops_nil (fin_then ?_)
             refine st_if (b := !(o_2 == 0)) rfl (fun hc59 => ?_) (fun hc59 => ?_)
             ·
              have hp := cnd_t hc59 hp
              refine st_seq (st_region [oF 0] (by rfl) ?_)
              refine oQ [oF 0] [(6, vI 3)] (by kernel_rfl) ?_
              refine ops_nil (fin_then (st_ret (fin_ret_then ?_)))
              have hq_ := Option.some.inj hp
              have hr0_ := hq_
              subst hr0_
              refine fin_ret [.tmp 6] [vI 3] rfl rfl (fun w_ hM => (.tmp rfl .nil)) (fun w_ hM => ?_)
              exact ⟨trivial, rfl, hM.pick 4 [3] (by kernel_rfl) (by decide) rfl⟩
             ·
              have hp := cnd_f hc59 hp
              refine st_skip ?_
              exact fin_join HJ4 true hp (look_has ⟨rfl, rfl, rfl, rfl, trivial⟩) (fun w_ hM => hM.pick 4 [0, 1, 3] (by kernel_rfl) (by decide) rfl)
            ·
             have hp := cnd_f hc58 hp
             refine oQ [oF 29, oF 30, oF 31, oF 32, oF 33, oF 34] [(130, .bool false), (0, sl A_k k c_k), (4, vP b1 0), (5, vP b2 0), (12, .bool false)] (by kernel_rfl) ?_
             refine ops_nil (fin_then (st_false rfl (st_skip ?_)))
             exact fin_join HJ4 false hp (look_has ⟨rfl, rfl, rfl, rfl, trivial⟩) (fun w_ hM => hM.pick 4 [0, 1, 3] (by kernel_rfl) (by decide) rfl)
          ·
           have hp := cnd_f hc56 hp
           refine oQ [oF 20, oF 21, oF 22, oF 23, oF 24, oF 25, oF 26, oF 27, oF 28] [(124, .bool t6), (122, .bool false), (0, sl A_k k c_k), (4, vP b1 0), (5, vP b2 0), (12, .bool t6)] (by kernel_rfl) ?_
           refine ops_bool (t := t6) (l1 := [(124, .bool true), (122, .bool false), (0, sl A_k k c_k), (4, vP b1 0), (5, vP b2 0), (12, .bool true)]) (l2 := [(124, .bool false), (122, .bool false), (0, sl A_k k c_k), (4, vP b1 0), (5, vP b2 0), (12, .bool false)]) (fun h => by rw [h]) (fun h => by rw [h]) (fun hc60 => ?_) (fun hc60 => ?_)
           ·
            have hp := cnd_t hc60 hp
            refine oQ [oF 29, oF 30] [(126, vP b2 2), (124, .bool true), (122, .bool false), (0, sl A_k k c_k), (4, vP b1 0), (5, vP b2 0), (12, .bool true)] (by kernel_rfl) ?_
            refine ops_mem (d := some 127) (an := [.v (vI o_2)]) (evs := [ld b2 2 (vI o_2)]) (v := vI o_2) ⟨by kernel_rfl⟩ (fun w_ hM hS => ⟨w_, ⟨hM.cell 1 rfl rfl, rfl⟩, hM, trivial⟩) ?_
            refine oQ [oF 32, oF 33, oF 34] [(130, .bool (!(o_2 == 0))), (0, sl A_k k c_k), (4, vP b1 0), (5, vP b2 0), (12, .bool true)] (by kernel_rfl) ?_
            refine ops_nil (fin_then ?_)
            refine st_if (b := !(o_2 == 0)) rfl (fun hc61 => ?_) (fun hc61 => ?_)
            ·
             have hp := cnd_t hc61 hp
             refine st_seq (st_region [oF 0] (by rfl) ?_)
             refine oQ [oF 0] [(6, vI 3)] (by kernel_rfl) ?_
             refine ops_nil (fin_then (st_ret (fin_ret_then ?_)))
             have hq_ := Option.some.inj hp
             have hr0_ := hq_
             subst hr0_
             refine fin_ret [.tmp 6] [vI 3] rfl rfl (fun w_ hM => (.tmp rfl .nil)) (fun w_ hM => ?_)
             exact ⟨trivial, rfl, hM.pick 4 [3] (by kernel_rfl) (by decide) rfl⟩
            ·
             have hp := cnd_f hc61 hp
             refine st_skip ?_
             exact fin_join HJ4 true hp (look_has ⟨rfl, rfl, rfl, rfl, trivial⟩) (fun w_ hM => hM.pick 4 [0, 1, 3] (by kernel_rfl) (by decide) rfl)
           ·
            have hp := cnd_f hc60 hp
            refine oQ [oF 29, oF 30, oF 31, oF 32, oF 33, oF 34] [(130, .bool false), (0, sl A_k k c_k), (4, vP b1 0), (5, vP b2 0), (12, .bool false)] (by kernel_rfl) ?_
            refine ops_nil (fin_then (st_false rfl (st_skip ?_)))
            exact fin_join HJ4 false hp (look_has ⟨rfl, rfl, rfl, rfl, trivial⟩) (fun w_ hM => hM.pick 4 [0, 1, 3] (by kernel_rfl) (by decide) rfl)
         ·
          have hp := cnd_f hc55 hp
          refine oQ [oF 16, oF 17, oF 18, oF 19, oF 20, oF 21, oF 22, oF 23, oF 24, oF 25, oF 26, oF 27, oF 28] [(124, .bool t6), (122, .bool false), (0, sl A_k k c_k), (4, vP b1 0), (5, vP b2 0), (12, .bool t6)] (by kernel_rfl) ?_
          refine ops_bool (t := t6) (l1 := [(124, .bool true), (122, .bool false), (0, sl A_k k c_k), (4, vP b1 0), (5, vP b2 0), (12, .bool true)]) (l2 := [(124, .bool false), (122, .bool false), (0, sl A_k k c_k), (4, vP b1 0), (5, vP b2 0), (12, .bool false)]) (fun h => by rw [h]) (fun h => by rw [h]) (fun hc62 => ?_) (fun hc62 => ?_)
          ·
           have hp := cnd_t hc62 hp
           refine oQ [oF 29, oF 30] [(126, vP b2 2), (124, .bool true), (122, .bool false), (0, sl A_k k c_k), (4, vP b1 0), (5, vP b2 0), (12, .bool true)] (by kernel_rfl) ?_
           refine ops_mem (d := some 127) (an := [.v (vI o_2)]) (evs := [ld b2 2 (vI o_2)]) (v := vI o_2) ⟨by kernel_rfl⟩ (fun w_ hM hS => ⟨w_, ⟨hM.cell 1 rfl rfl, rfl⟩, hM, trivial⟩) ?_
           refine oQ [oF 32, oF 33, oF 34] [(130, .bool (!(o_2 == 0))), (0, sl A_k k c_k), (4, vP b1 0), (5, vP b2 0), (12, .bool true)] (by kernel_rfl) ?_
           refine ops_nil (fin_then ?_)
           refine st_if (b := !(o_2 == 0)) rfl (fun hc63 => ?_) (fun hc63 => ?_)
           ·
            have hp := cnd_t hc63 hp
            refine st_seq (st_region [oF 0] (by rfl) ?_)
            refine oQ [oF 0] [(6, vI 3)] (by kernel_rfl) ?_
            refine ops_nil (fin_then (st_ret (fin_ret_then ?_)))
            have hq_ := Option.some.inj hp
            have hr0_ := hq_
            subst hr0_
            refine fin_ret [.tmp 6] [vI 3] rfl rfl (fun w_ hM => (.tmp rfl .nil)) (fun w_ hM => ?_)
            exact ⟨trivial, rfl, hM.pick 4 [3] (by kernel_rfl) (by decide) rfl⟩
           ·
            have hp := cnd_f hc63 hp
            refine st_skip ?_
            exact fin_join HJ4 true hp (look_has ⟨rfl, rfl, rfl, rfl, trivial⟩) (fun w_ hM => hM.pick 4 [0, 1, 3] (by kernel_rfl) (by decide) rfl)
          ·
           have hp := cnd_f hc62 hp
           refine oQ [oF 29, oF 30, oF 31, oF 32, oF 33, oF 34] [(130, .bool false), (0, sl A_k k c_k), (4, vP b1 0), (5, vP b2 0), (12, .bool false)] (by kernel_rfl) ?_
           refine ops_nil (fin_then (st_false rfl (st_skip ?_)))
           exact fin_join HJ4 false hp (look_has ⟨rfl, rfl, rfl, rfl, trivial⟩) (fun w_ hM => hM.pick 4 [0, 1, 3] (by kernel_rfl) (by decide) rfl)
       ·
        have hp := cnd_f hc51 hp
        refine oQ [oF 5, oF 6, oF 7, oF 8, oF 9, oF 10, oF 11] [(107, vP b2 0), (106, .bool false), (0, sl A_k k c_k), (4, vP b1 0), (5, vP b2 0), (9, vP b5 0), (12, .bool t6)] (by kernel_rfl) ?_
        refine ops_mem (d := some 108) (an := [.v (vI o_0)]) (evs := [ld b2 0 (vI o_0)]) (v := vI o_0) ⟨by kernel_rfl⟩ (fun w_ hM hS => ⟨w_, ⟨hM.cell 1 rfl rfl, rfl⟩, hM, trivial⟩) ?_
        obtain ⟨x64, hv65, hp⟩ := obind hp
        refine ops_callI (σ := Unit) (d := some 109) (f := 136) (args := #[vI o_0]) (v := (fun _ => .bool x64)) (I := (fun _ => True)) (M' := (fun _ => Mem w0 (.blk b1 [.string s_0, sl A_s_1 s_1 c_s_1, sl A_s_2 s_2 c_s_2, sl A_s_3 s_3 c_s_3, sl A_s_4 s_4 c_s_4, sl A_s_5 s_5 c_s_5, sl A_s_6 s_6 c_s_6] 96 :: .blk b2 [vI o_0, vI o_1, vI o_2, .bool o_3, vI o_4, vI o_5, vI o_6, .bool o_7, vI o_8, vI o_9, vI o_10] 170 :: .blk b5 [vI 0, vI 0] 166 :: Fz F W :: cs))) ⟨by kernel_rfl⟩ (fun w_ hM hS => (system_sets_ok w0 w_ (.blk b1 [.string s_0, sl A_s_1 s_1 c_s_1, sl A_s_2 s_2 c_s_2, sl A_s_3 s_3 c_s_3, sl A_s_4 s_4 c_s_4, sl A_s_5 s_5 c_s_5, sl A_s_6 s_6 c_s_6] 96 :: .blk b2 [vI o_0, vI o_1, vI o_2, .bool o_3, vI o_4, vI o_5, vI o_6, .bool o_7, vI o_8, vI o_9, vI o_10] 170 :: .blk b5 [vI 0, vI 0] 166 :: cs) F W o_0 (hM.pick 4 [3, 0, 1, 2] (by kernel_rfl) (by decide) rfl)  x64 hv65).mono (by rintro e w' ⟨-, rfl, h'⟩; have h' : Mem w0 (.blk b1 [.string s_0, sl A_s_1 s_1 c_s_1, sl A_s_2 s_2 c_s_2, sl A_s_3 s_3 c_s_3, sl A_s_4 s_4 c_s_4, sl A_s_5 s_5 c_s_5, sl A_s_6 s_6 c_s_6] 96 :: .blk b2 [vI o_0, vI o_1, vI o_2, .bool o_3, vI o_4, vI o_5, vI o_6, .bool o_7, vI o_8, vI o_9, vI o_10] 170 :: .blk b5 [vI 0, vI 0] 166 :: Fz F W :: cs) w' := (h'.pick 4 [1, 2, 3, 0] (by kernel_rfl) (by decide) rfl); exact ⟨(), trivial, rfl, h', trivial⟩)) ?_
        rintro _ -
        refine oQ [oF 14, oF 15] [(111, .bool (!x64)), (106, .bool false), (0, sl A_k k c_k), (4, vP b1 0), (5, vP b2 0), (9, vP b5 0), (12, .bool t6)] (by kernel_rfl) ?_
        refine ops_bool (t := !x64) (l1 := [(111, .bool true), (106, .bool false), (0, sl A_k k c_k), (4, vP b1 0), (5, vP b2 0), (9, vP b5 0), (12, .bool t6)]) (l2 := [(111, .bool false), (106, .bool false), (0, sl A_k k c_k), (4, vP b1 0), (5, vP b2 0), (9, vP b5 0), (12, .bool t6)]) (fun h => by rw [h]) (fun h => by rw [h]) (fun hc66 => ?_) (fun hc66 => ?_)
        ·
         have hp := cnd_t hc66 hp
         refine oQ [oF 16, oF 17, oF 18, oF 19] [(115, .bool (!t6)), (106, .bool false), (0, sl A_k k c_k), (4, vP b1 0), (5, vP b2 0), (9, vP b5 0), (12, .bool t6)] (by kernel_rfl) ?_
         refine ops_bool (t := !t6) (l1 := [(115, .bool true), (106, .bool false), (0, sl A_k k c_k), (4, vP b1 0), (5, vP b2 0), (9, vP b5 0), (12, .bool t6)]) (l2 := [(115, .bool false), (106, .bool false), (0, sl A_k k c_k), (4, vP b1 0), (5, vP b2 0), (9, vP b5 0), (12, .bool t6)]) (fun h => by rw [h]) (fun h => by rw [h]) (fun hc67 => ?_) (fun hc67 => ?_)
         ·
          have hp := cnd_t hc67 hp
          refine oQ [oF 20] [(116, vP b2 1), (115, .bool true), (106, .bool false), (0, sl A_k k c_k), (4, vP b1 0), (5, vP b2 0), (9, vP b5 0), (12, .bool t6)] (by kernel_rfl) ?_
          refine ops_mem (d := some 117) (an := [.v (vI o_1), .v (vI o_2)]) (evs := [ld b2 1 (vI o_1), ld b2 2 (vI o_2)]) (v := .agg #[vI o_1, vI o_2]) ⟨by kernel_rfl⟩ (fun w_ hM hS => ⟨w_, ⟨hM.cell 1 rfl rfl, hM.cell 1 rfl rfl, rfl⟩, hM, trivial⟩) ?_
          refine ops_mem (d := some 118) (an := [.v (vI 0), .v (vI 0)]) (evs := [ld b5 0 (vI 0), ld b5 1 (vI 0)]) (v := .agg #[vI 0, vI 0]) ⟨by kernel_rfl⟩ (fun w_ hM hS => ⟨w_, ⟨hM.cell 2 rfl rfl, hM.cell 2 rfl rfl, rfl⟩, hM, trivial⟩) ?_
          refine ops_val (op := (.binOp Go.BinOp.neq 166 (.tmp 117) (.tmp 118) 166)) (d := some 119) (v := .bool (!(o_1 == 0 && (o_2 == 0)))) ⟨by kernel_rfl⟩ (run_neq_agg (r := o_1 == 0 && (o_2 == 0)) rfl rfl (by kernel_rfl) (fun w => eqA166 9998 w o_1 0 o_2 0)) ?_
          refine oQ [oF 24, oF 25, oF 26] [(122, .bool (!(o_1 == 0 && (o_2 == 0)))), (0, sl A_k k c_k), (4, vP b1 0), (5, vP b2 0), (12, .bool t6)] (by kernel_rfl) ?_
          refine ops_bool (t := !(o_1 == 0 && (o_2 == 0))) (l1 := [(122, .bool true), (0, sl A_k k c_k), (4, vP b1 0), (5, vP b2 0), (12, .bool t6)]) (l2 := [(122, .bool false), (0, sl A_k k c_k), (4, vP b1 0), (5, vP b2 0), (12, .bool t6)]) (fun h => by rw [h]) (fun h => by rw [h]) (fun hc68 => ?_) (fun hc68 => ?_)
          ·
           have hp := cnd_t hc68 hp
           refine oQ [oF 27, oF 28, oF 29, oF 30, oF 31, oF 32, oF 33, oF 34] [(130, .bool true), (0, sl A_k k c_k), (4, vP b1 0), (5, vP b2 0), (12, .bool t6)] (by kernel_rfl) ?_
           refine ops_nil (fin_then (st_true rfl (st_seq (st_region [oF 0] (by rfl) ?_))))
           refine oQ [oF 0] [(6, vI 3)] (by kernel_rfl) ?_
           refine ops_nil (fin_then (st_ret (fin_ret_then ?_)))
           have hq_ := Option.some.inj hp
           have hr0_ := hq_
           subst hr0_
           refine fin_ret [.tmp 6] [vI 3] rfl rfl (fun w_ hM => (.tmp rfl .nil)) (fun w_ hM => ?_)
           exact ⟨trivial, rfl, hM.pick 4 [3] (by kernel_rfl) (by decide) rfl⟩
          ·
           have hp := cnd_f hc68 hp
           refine oQ [oF 27, oF 28] [(124, .bool t6), (122, .bool false), (0, sl A_k k c_k), (4, vP b1 0), (5, vP b2 0), (12, .bool t6)] (by kernel_rfl) ?_
           refine ops_bool (t := t6) (l1 := [(124, .bool true), (122, .bool false), (0, sl A_k k c_k), (4, vP b1 0), (5, vP b2 0), (12, .bool true)]) (l2 := [(124, .bool false), (122, .bool false), (0, sl A_k k c_k), (4, vP b1 0), (5, vP b2 0), (12, .bool false)]) (fun h => by rw [h]) (fun h => by rw [h]) (fun hc69 => ?_) (fun hc69 => ?_)
           ·
            have hp := cnd_t hc69 hp
            refine oQ [oF 29, oF 30] [(126, vP b2 2), (124, .bool true), (122, .bool false), (0, sl A_k k c_k), (4, vP b1 0), (5, vP b2 0), (12, .bool true)] (by kernel_rfl) ?_
            refine ops_mem (d := some 127) (an := [.v (vI o_2)]) (evs := [ld b2 2 (vI o_2)]) (v := vI o_2) ⟨by kernel_rfl⟩ (fun w_ hM hS => ⟨w_, ⟨hM.cell 1 rfl rfl, rfl⟩, hM, trivial⟩) ?_
            refine oQ [oF 32, oF 33, oF 34] [(130, .bool (!(o_2 == 0))), (0, sl A_k k c_k), (4, vP b1 0), (5, vP b2 0), (12, .bool true)] (by kernel_rfl) ?_
            refine ops_nil (fin_then ?_)
            refine st_if (b := !(o_2 == 0)) rfl (fun hc70 => ?_) (fun hc70 => ?_)
            ·
             have hp := cnd_t hc70 hp
             refine st_seq (st_region [oF 0] (by rfl) ?_)
             refine oQ [oF 0] [(6, vI 3)] (by kernel_rfl) ?_
             refine ops_nil (fin_then (st_ret (fin_ret_then ?_)))
             have hq_ := Option.some.inj hp
             have hr0_ := hq_
             subst hr0_
             refine fin_ret [.tmp 6] [vI 3] rfl rfl (fun w_ hM => (.tmp rfl .nil)) (fun w_ hM => ?_)
             exact ⟨trivial, rfl, hM.pick 4 [3] (by kernel_rfl) (by decide) rfl⟩
            ·
             have hp := cnd_f hc70 hp
             refine st_skip ?_
             exact fin_join HJ4 true hp (look_has ⟨rfl, rfl, rfl, rfl, trivial⟩) (fun w_ hM => hM.pick 4 [0, 1, 3] (by kernel_rfl) (by decide) rfl)
           ·
            have hp := cnd_f hc69 hp
            refine oQ [oF 29, oF 30, oF 31, oF 32, oF 33, oF 34] [(130, .bool false), (0, sl A_k k c_k), (4, vP b1 0), (5, vP b2 0), (12, .bool false)] (by kernel_rfl) ?_
            refine ops_nil (fin_then (st_false rfl (st_skip ?_)))
            exact fin_join HJ4 false hp (look_has ⟨rfl, rfl, rfl, rfl, trivial⟩) (fun w_ hM => hM.pick 4 [0, 1, 3] (by kernel_rfl) (by decide) rfl)
         ·
          have hp := cnd_f hc67 hp
          refine oQ [oF 20, oF 21, oF 22, oF 23, oF 24, oF 25, oF 26, oF 27, oF 28] [(124, .bool t6), (122, .bool false), (0, sl A_k k c_k), (4, vP b1 0), (5, vP b2 0), (12, .bool t6)] (by kernel_rfl) ?_
          refine ops_bool (t := t6) (l1 := [(124, .bool true), (122, .bool false), (0, sl A_k k c_k), (4, vP b1 0), (5, vP b2 0), (12, .bool true)]) (l2 := [(124, .bool false), (122, .bool false), (0, sl A_k k c_k), (4, vP b1 0), (5, vP b2 0), (12, .bool false)]) (fun h => by rw [h]) (fun h => by rw [h]) (fun hc71 => ?_) (fun hc71 => ?_)
          ·
           have hp := cnd_t hc71 hp
           refine oQ [oF 29, oF 30] [(126, vP b2 2), (124, .bool true), (122, .bool false), (0, sl A_k k c_k), (4, vP b1 0), (5, vP b2 0), (12, .bool true)] (by kernel_rfl) ?_
           refine ops_mem (d := some 127) (an := [.v (vI o_2)]) (evs := [ld b2 2 (vI o_2)]) (v := vI o_2) ⟨by kernel_rfl⟩ (fun w_ hM hS => ⟨w_, ⟨hM.cell 1 rfl rfl, rfl⟩, hM, trivial⟩) ?_
           refine oQ [oF 32, oF 33, oF 34] [(130, .bool (!(o_2 == 0))), (0, sl A_k k c_k), (4, vP b1 0), (5, vP b2 0), (12, .bool true)] (by kernel_rfl) ?_
           refine ops_nil (fin_then ?_)
           refine st_if (b := !(o_2 == 0)) rfl (fun hc72 => ?_) (fun hc72 => ?_)
           ·
            have hp := cnd_t hc72 hp
            refine st_seq (st_region [oF 0] (by rfl) ?_)
            refine oQ [oF 0] [(6, vI 3)] (by kernel_rfl) ?_
            refine ops_nil (fin_then (st_ret (fin_ret_then ?_)))
            have hq_ := Option.some.inj hp
            have hr0_ := hq_
            subst hr0_
            refine fin_ret [.tmp 6] [vI 3] rfl rfl (fun w_ hM => (.tmp rfl .nil)) (fun w_ hM => ?_)
            exact ⟨trivial, rfl, hM.pick 4 [3] (by kernel_rfl) (by decide) rfl⟩
           ·
            have hp := cnd_f hc72 hp
            refine st_skip ?_
            exact fin_join HJ4 true hp (look_has ⟨rfl, rfl, rfl, rfl, trivial⟩) (fun w_ hM => hM.pick 4 [0, 1, 3] (by kernel_rfl) (by decide) rfl)
          ·
           have hp := cnd_f hc71 hp
           refine oQ [oF 29, oF 30, oF 31, oF 32, oF 33, oF 34] [(130, .bool false), (0, sl A_k k c_k), (4, vP b1 0), (5, vP b2 0), (12, .bool false)] (by kernel_rfl) ?_
           refine ops_nil (fin_then (st_false rfl (st_skip ?_)))
           exact fin_join HJ4 false hp (look_has ⟨rfl, rfl, rfl, rfl, trivial⟩) (fun w_ hM => hM.pick 4 [0, 1, 3] (by kernel_rfl) (by decide) rfl)
        ·
         have hp := cnd_f hc66 hp
         refine oQ [oF 16, oF 17, oF 18, oF 19, oF 20, oF 21, oF 22, oF 23, oF 24, oF 25, oF 26, oF 27, oF 28] [(124, .bool t6), (122, .bool false), (0, sl A_k k c_k), (4, vP b1 0), (5, vP b2 0), (12, .bool t6)] (by kernel_rfl) ?_
         refine ops_bool (t := t6) (l1 := [(124, .bool true), (122, .bool false), (0, sl A_k k c_k), (4, vP b1 0), (5, vP b2 0), (12, .bool true)]) (l2 := [(124, .bool false), (122, .bool false), (0, sl A_k k c_k), (4, vP b1 0), (5, vP b2 0), (12, .bool false)]) (fun h => by rw [h]) (fun h => by rw [h]) (fun hc73 => ?_) (fun hc73 => ?_)
         ·
          have hp := cnd_t hc73 hp
          refine oQ [oF 29, oF 30] [(126, vP b2 2), (124, .bool true), (122, .bool false), (0, sl A_k k c_k), (4, vP b1 0), (5, vP b2 0), (12, .bool true)] (by kernel_rfl) ?_
          refine ops_mem (d := some 127) (an := [.v (vI o_2)]) (evs := [ld b2 2 (vI o_2)]) (v := vI o_2) ⟨by kernel_rfl⟩ (fun w_ hM hS => ⟨w_, ⟨hM.cell 1 rfl rfl, rfl⟩, hM, trivial⟩) ?_
          refine oQ [oF 32, oF 33, oF 34] [(130, .bool (!(o_2 == 0))), (0, sl A_k k c_k), (4, vP b1 0), (5, vP b2 0), (12, .bool true)] (by kernel_rfl) ?_
          refine ops_nil (fin_then ?_)
          refine st_if (b := !(o_2 == 0)) rfl (fun hc74 => ?_) (fun hc74 => ?_)
          ·
           have hp := cnd_t hc74 hp
           refine st_seq (st_region [oF 0] (by rfl) ?_)
           refine oQ [oF 0] [(6, vI 3)] (by kernel_rfl) ?_
           refine ops_nil (fin_then (st_ret (fin_ret_then ?_)))
           have hq_ := Option.some.inj hp
           have hr0_ := hq_
           subst hr0_
           refine fin_ret [.tmp 6] [vI 3] rfl rfl (fun w_ hM => (.tmp rfl .nil)) (fun w_ hM => ?_)
           exact ⟨trivial, rfl, hM.pick 4 [3] (by kernel_rfl) (by decide) rfl⟩
          ·
           have hp := cnd_f hc74 hp
           refine st_skip ?_
           exact fin_join HJ4 true hp (look_has ⟨rfl, rfl, rfl, rfl, trivial⟩) (fun w_ hM => hM.pick 4 [0, 1, 3] (by kernel_rfl) (by decide) rfl)
         ·
          have hp := cnd_f hc73 hp
          refine oQ [oF 29, oF 30, oF 31, oF 32, oF 33, oF 34] [(130, .bool false), (0, sl A_k k c_k), (4, vP b1 0), (5, vP b2 0), (12, .bool false)] (by kernel_rfl) ?_
          refine ops_nil (fin_then (st_false rfl (st_skip ?_)))
          exact fin_join HJ4 false hp (look_has ⟨rfl, rfl, rfl, rfl, trivial⟩) (fun w_ hM => hM.pick 4 [0, 1, 3] (by kernel_rfl) (by decide) rfl)
     ·
      intro HJ3
      refine st_seq (st_region [oF 0, oF 1, oF 2, oF 3, oF 4, oF 5, oF 6, oF 7, oF 8] (by rfl) ?_)
      refine oQ [oF 0] [(88, vP b2 0), (0, sl A_k k c_k), (4, vP b1 0), (5, vP b2 0), (9, vP b5 0)] (by kernel_rfl) ?_
      refine ops_mem (d := some 89) (an := [.v (vI o_0)]) (evs := [ld b2 0 (vI o_0)]) (v := vI o_0) ⟨by kernel_rfl⟩ (fun w_ hM hS => ⟨w_, ⟨hM.cell 1 rfl rfl, rfl⟩, hM, trivial⟩) ?_
      refine oQ [oF 2, oF 3] [(91, .bool (o_0 == 8)), (0, sl A_k k c_k), (4, vP b1 0), (5, vP b2 0), (9, vP b5 0)] (by kernel_rfl) ?_
      refine ops_bool (t := (o_0 == 8)) (l1 := [(91, .bool true), (0, sl A_k k c_k), (4, vP b1 0), (5, vP b2 0), (9, vP b5 0)]) (l2 := [(91, .bool false), (0, sl A_k k c_k), (4, vP b1 0), (5, vP b2 0), (9, vP b5 0)]) (fun h => by rw [h]) (fun h => by rw [h]) (fun hc75 => ?_) (fun hc75 => ?_)
      ·
       have hp := cnd_t hc75 hp
       refine oQ [oF 4, oF 5, oF 6, oF 7, oF 8] [(12, .bool true), (0, sl A_k k c_k), (4, vP b1 0), (5, vP b2 0), (9, vP b5 0)] (by kernel_rfl) ?_
       refine ops_nil ?_
       exact fin_join HJ3 true hp (look_has ⟨rfl, rfl, rfl, rfl, rfl, trivial⟩) (fun w_ hM => hM)
      ·
       have hp := cnd_f hc75 hp
       refine oQ [oF 4] [(92, vP b2 0), (91, .bool false), (0, sl A_k k c_k), (4, vP b1 0), (5, vP b2 0), (9, vP b5 0)] (by kernel_rfl) ?_
       refine ops_mem (d := some 93) (an := [.v (vI o_0)]) (evs := [ld b2 0 (vI o_0)]) (v := vI o_0) ⟨by kernel_rfl⟩ (fun w_ hM hS => ⟨w_, ⟨hM.cell 1 rfl rfl, rfl⟩, hM, trivial⟩) ?_
       refine oQ [oF 6, oF 7, oF 8] [(12, .bool (o_0 == 9)), (0, sl A_k k c_k), (4, vP b1 0), (5, vP b2 0), (9, vP b5 0)] (by kernel_rfl) ?_
       refine ops_nil ?_
       exact fin_join HJ3 (o_0 == 9) hp (look_has ⟨rfl, rfl, rfl, rfl, rfl, trivial⟩) (fun w_ hM => hM)
    ·
     intro HJ2
     refine st_seq (st_seq (st_region [oF 0, oF 1, oF 2, oF 3, oF 4, oF 5, oF 6] (by rfl) ?_))
     refine oQ [oF 0] [(59, vP b2 3), (9, vP b5 0), (0, sl A_k k c_k), (4, vP b1 0), (5, vP b2 0)] (by kernel_rfl) ?_
     refine ops_mem (d := some 60) (an := [.v (.bool o_3), .v (vI o_4), .v (vI o_5), .v (vI o_6)]) (evs := [ld b2 3 (.bool o_3), ld b2 4 (vI o_4), ld b2 5 (vI o_5), ld b2 6 (vI o_6)]) (v := .agg #[.bool o_3, vI o_4, vI o_5, vI o_6]) ⟨by kernel_rfl⟩ (fun w_ hM hS => ⟨w_, ⟨hM.cell 2 rfl rfl, hM.cell 2 rfl rfl, hM.cell 2 rfl rfl, hM.cell 2 rfl rfl, rfl⟩, hM, trivial⟩) ?_
     refine oQ [oF 2] [(61, vP b2 7), (60, .agg #[.bool o_3, vI o_4, vI o_5, vI o_6]), (9, vP b5 0), (0, sl A_k k c_k), (4, vP b1 0), (5, vP b2 0)] (by kernel_rfl) ?_
     refine ops_mem (d := some 62) (an := [.v (.bool o_7), .v (vI o_8), .v (vI o_9), .v (vI o_10)]) (evs := [ld b2 7 (.bool o_7), ld b2 8 (vI o_8), ld b2 9 (vI o_9), ld b2 10 (vI o_10)]) (v := .agg #[.bool o_7, vI o_8, vI o_9, vI o_10]) ⟨by kernel_rfl⟩ (fun w_ hM hS => ⟨w_, ⟨hM.cell 2 rfl rfl, hM.cell 2 rfl rfl, hM.cell 2 rfl rfl, hM.cell 2 rfl rfl, rfl⟩, hM, trivial⟩) ?_
     have h76 : RepL R_api_Arg F W ([(api_Arg.mk o_3 o_4 (api_Ref.mk o_5 o_6)), (api_Arg.mk o_7 o_8 (api_Ref.mk o_9 o_10))] : List api_Arg) ([.bool o_3, vI o_4, vI o_5, vI o_6, .bool o_7, vI o_8, vI o_9, vI o_10]) := (RepL.cons (R := R_api_Arg) (F := F) (w := W) (vs := [.bool o_3, vI o_4, vI o_5, vI o_6]) (ys := [.bool o_7, vI o_8, vI o_9, vI o_10]) (enc_api_Arg) (RepL.cons (R := R_api_Arg) (F := F) (w := W) (vs := [.bool o_7, vI o_8, vI o_9, vI o_10]) (ys := []) (enc_api_Arg) RepL.nil))
     refine ops_new (d := some 63) (o := .cells ([.bool o_3, vI o_4, vI o_5, vI o_6, .bool o_7, vI o_8, vI o_9, vI o_10] : List Value).toArray 168) (v := fun g77 => .slice (sa g77) ([(api_Arg.mk o_3 o_4 (api_Ref.mk o_5 o_6)), (api_Arg.mk o_7 o_8 (api_Ref.mk o_9 o_10))] : List api_Arg).length 2) (M' := fun g77 => Mem w0 (orow (sa g77) ([(api_Arg.mk o_3 o_4 (api_Ref.mk o_5 o_6)), (api_Arg.mk o_7 o_8 (api_Ref.mk o_9 o_10))] : List api_Arg).length 2 168 4 ([.bool o_3, vI o_4, vI o_5, vI o_6, .bool o_7, vI o_8, vI o_9, vI o_10]) :: .blk b5 [vI 0, vI 0] 166 :: .blk b1 [.string s_0, sl A_s_1 s_1 c_s_1, sl A_s_2 s_2 c_s_2, sl A_s_3 s_3 c_s_3, sl A_s_4 s_4 c_s_4, sl A_s_5 s_5 c_s_5, sl A_s_6 s_6 c_s_6] 96 :: .blk b2 [vI o_0, vI o_1, vI o_2, .bool o_3, vI o_4, vI o_5, vI o_6, .bool o_7, vI o_8, vI o_9, vI o_10] 170 :: Fz F W :: cs)) (fun g77 => ⟨by kernel_rfl⟩) (fun w_ hM hS => ⟨hM.onew [.bool o_3, vI o_4, vI o_5, vI o_6, .bool o_7, vI o_8, vI o_9, vI o_10] 168 2 4 rfl (by decide), trivial⟩) (fun g77 => ?_)
     refine oQ [oF 5, oF 6] [(65, vI 0), (64, vI (([(api_Arg.mk o_3 o_4 (api_Ref.mk o_5 o_6)), (api_Arg.mk o_7 o_8 (api_Ref.mk o_9 o_10))] : List api_Arg).length : Int)), (63, .slice (sa g77) ([(api_Arg.mk o_3 o_4 (api_Ref.mk o_5 o_6)), (api_Arg.mk o_7 o_8 (api_Ref.mk o_9 o_10))] : List api_Arg).length 2), (9, vP b5 0), (0, sl A_k k c_k), (4, vP b1 0), (5, vP b2 0)] (by kernel_rfl) ?_
     obtain ⟨x78, hv79, hp⟩ := obind hp
     refine ops_conv (l' := [(65, vI 0), (64, vI x78), (63, .slice (sa g77) ([(api_Arg.mk o_3 o_4 (api_Ref.mk o_5 o_6)), (api_Arg.mk o_7 o_8 (api_Ref.mk o_9 o_10))] : List api_Arg).length 2), (9, vP b5 0), (0, sl A_k k c_k), (4, vP b1 0), (5, vP b2 0)]) (by rw [← Option.some.inj hv79]) (fun _ h => h) ?_
     refine ops_nil (fin_then (st_block ?_))
     obtain ⟨r10, hl10, hk10⟩ := obind hp
     refine st_loopP (σ := Int) (ρ := (Int ⊕ Unit)) (γ := Unit) hl10 () (fun s_ g_ => match s_, g_ with | i80, _ => [(0, sl A_k k c_k), (4, vP b1 0), (5, vP b2 0), (9, vP b5 0), (63, .slice (sa g77) ([(api_Arg.mk o_3 o_4 (api_Ref.mk o_5 o_6)), (api_Arg.mk o_7 o_8 (api_Ref.mk o_9 o_10))] : List api_Arg).length 2), (64, vI x78), (65, vI i80)]) (fun s_ g_ => match s_, g_ with | i80, _ => Mem w0 (.blk b1 [.string s_0, sl A_s_1 s_1 c_s_1, sl A_s_2 s_2 c_s_2, sl A_s_3 s_3 c_s_3, sl A_s_4 s_4 c_s_4, sl A_s_5 s_5 c_s_5, sl A_s_6 s_6 c_s_6] 96 :: .blk b2 [vI o_0, vI o_1, vI o_2, .bool o_3, vI o_4, vI o_5, vI o_6, .bool o_7, vI o_8, vI o_9, vI o_10] 170 :: .blk b5 [vI 0, vI 0] 166 :: orow (sa g77) ([(api_Arg.mk o_3 o_4 (api_Ref.mk o_5 o_6)), (api_Arg.mk o_7 o_8 (api_Ref.mk o_9 o_10))] : List api_Arg).length 2 168 4 ([.bool o_3, vI o_4, vI o_5, vI o_6, .bool o_7, vI o_8, vI o_9, vI o_10]) :: Fz F W :: cs)) (fun s_ g_ => match s_, g_ with | i80, _ => True) trivial (look_has ⟨rfl, rfl, rfl, rfl, rfl, rfl, rfl, trivial⟩) (fun w_ hM => hM.pick 5 [2, 3, 1, 0, 4] (by kernel_rfl) (by decide) rfl) ?_
     rintro i80 _ o10 - hs_ hd10
     have hp : (system_op_l10 x78 o_3 o_4 o_5 o_6 o_7 o_8 o_9 o_10) i80 = some o10 := hs_
     clear hs_
     unfold system_op_l10 at hp
     refine st_seq (st_region [oF 0] (by rfl) ?_)
     refine oQ [oF 0] [(66, .bool (decide (i80 < x78))), (0, sl A_k k c_k), (4, vP b1 0), (5, vP b2 0), (9, vP b5 0), (63, .slice (sa g77) ([(api_Arg.mk o_3 o_4 (api_Ref.mk o_5 o_6)), (api_Arg.mk o_7 o_8 (api_Ref.mk o_9 o_10))] : List api_Arg).length 2), (64, vI x78), (65, vI i80)] (by kernel_rfl) ?_
     refine ops_nil (fin_then (st_seq ?_))
     refine st_if (b := decide (i80 < x78)) rfl (fun hc81 => ?_) (fun hc81 => ?_)
     ·
      have hp := cnd_t hc81 hp
      refine st_skip (fin_then ?_)
      refine st_join1 (σ := Unit) (L := fun _ => [(0, sl A_k k c_k), (4, vP b1 0), (5, vP b2 0), (9, vP b5 0), (63, .slice (sa g77) ([(api_Arg.mk o_3 o_4 (api_Ref.mk o_5 o_6)), (api_Arg.mk o_7 o_8 (api_Ref.mk o_9 o_10))] : List api_Arg).length 2), (64, vI x78), (65, vI i80)]) (N := fun _ => Mem w0 (.blk b1 [.string s_0, sl A_s_1 s_1 c_s_1, sl A_s_2 s_2 c_s_2, sl A_s_3 s_3 c_s_3, sl A_s_4 s_4 c_s_4, sl A_s_5 s_5 c_s_5, sl A_s_6 s_6 c_s_6] 96 :: .blk b2 [vI o_0, vI o_1, vI o_2, .bool o_3, vI o_4, vI o_5, vI o_6, .bool o_7, vI o_8, vI o_9, vI o_10] 170 :: .blk b5 [vI 0, vI 0] 166 :: orow (sa g77) ([(api_Arg.mk o_3 o_4 (api_Ref.mk o_5 o_6)), (api_Arg.mk o_7 o_8 (api_Ref.mk o_9 o_10))] : List api_Arg).length 2 168 4 ([.bool o_3, vI o_4, vI o_5, vI o_6, .bool o_7, vI o_8, vI o_9, vI o_10]) :: Fz F W :: cs)) (I := fun _ => ((system_op_j11 i80) = some o10)) ?_ ?_
      ·
       rintro _ hp
       unfold system_op_j11 at hp
       refine st_region [oF 0, oF 1] (by rfl) ?_
       refine oQ [oF 0, oF 1] [(65, vI (IntKind.i64.wrap (i80 + 1))), (0, sl A_k k c_k), (4, vP b1 0), (5, vP b2 0), (9, vP b5 0), (63, .slice (sa g77) ([(api_Arg.mk o_3 o_4 (api_Ref.mk o_5 o_6)), (api_Arg.mk o_7 o_8 (api_Ref.mk o_9 o_10))] : List api_Arg).length 2), (64, vI x78)] (by kernel_rfl) ?_
       refine ops_nil ?_
       exact fin_again (IntKind.i64.wrap (i80 + 1)) () (Option.some.inj hp).symm trivial (look_has ⟨rfl, rfl, rfl, rfl, rfl, rfl, rfl, trivial⟩) (fun w_ hM => hM)
      ·
       intro HJ11
       refine st_seq (st_block (st_seq (st_region [oF 0, oF 1, oF 2, oF 3] (by rfl) ?_)))
       obtain ⟨x82, hv83, hp⟩ := obind hp
       obtain ⟨m84, hm85, hx86⟩ := idx_some hv83
       have hl89 := (List.getElem?_eq_some_iff.1 hx86).1
       obtain ⟨vs87, hr88, hq90⟩ := h76.at_ m84 x82 hx86
       obtain rfl := dec_api_Arg hr88
       refine ops_val (op := (.indexAddr 221 (.tmp 63) (.tmp 65))) (d := some 67) (v := vP g77 (m84 * 4)) ⟨by kernel_rfl⟩ (run_indexRow Tryd.underlying221 (z := 4) (by kernel_rfl) rfl rfl hm85 hl89 rfl) ?_
       refine ops_mem (d := some 68) (an := [.v (.bool x82.Has), .v (vI x82.N), .v (vI x82.Ref.Kind), .v (vI x82.Ref.Field)]) (evs := [.load ⟨g77, m84 * 4, none⟩ (.bool x82.Has), .load ⟨g77, m84 * 4 + 1, none⟩ (vI x82.N), .load ⟨g77, m84 * 4 + 2, none⟩ (vI x82.Ref.Kind), .load ⟨g77, m84 * 4 + 3, none⟩ (vI x82.Ref.Field)]) (v := .agg #[.bool x82.Has, vI x82.N, vI x82.Ref.Kind, vI x82.Ref.Field]) ⟨by kernel_rfl⟩ (fun w_ hM hS => ⟨w_, ⟨hM.ocell 3 rfl (hq90 0 _ rfl), hM.ocell 3 rfl (hq90 1 _ rfl), hM.ocell 3 rfl (hq90 2 _ rfl), hM.ocell 3 rfl (hq90 3 _ rfl), rfl⟩, hM, trivial⟩) ?_
       refine ops_newB (d := some 11) [.bool false, vI 0, vI 0, vI 0] 168 (fun b91 => ⟨by kernel_rfl⟩) (fun w_ hM hS => trivial) (fun b91 => ?_)
       refine ops_store (an := []) (evs := [sr b91 0 (.bool x82.Has), sr b91 1 (vI x82.N), sr b91 2 (vI x82.Ref.Kind), sr b91 3 (vI x82.Ref.Field)]) ⟨by kernel_rfl⟩ (fun w_ hM hS => let ⟨w', he, h'⟩ := hM.evs_stores [.bool x82.Has, vI x82.N, vI x82.Ref.Kind, vI x82.Ref.Field] 0 rfl 0 (Nat.le_of_ble_eq_true rfl); ⟨w', he, h', trivial⟩) ?_
       refine ops_nil (fin_then (st_seq (st_region [oF 0, oF 1, oF 2, oF 3, oF 4, oF 5, oF 6, oF 7, oF 8, oF 9, oF 10, oF 11, oF 12, oF 13, oF 14, oF 15, oF 16, oF 17] (by rfl) ?_)))
       refine oQ [oF 0] [(69, vP b91 0), (11, vP b91 0), (0, sl A_k k c_k), (4, vP b1 0), (5, vP b2 0), (9, vP b5 0), (63, .slice (sa g77) ([(api_Arg.mk o_3 o_4 (api_Ref.mk o_5 o_6)), (api_Arg.mk o_7 o_8 (api_Ref.mk o_9 o_10))] : List api_Arg).length 2), (64, vI x78), (65, vI i80)] (by kernel_rfl) ?_
       refine ops_mem (d := some 70) (an := [.v (.bool x82.Has)]) (evs := [ld b91 0 (.bool x82.Has)]) (v := .bool x82.Has) ⟨by kernel_rfl⟩ (fun w_ hM hS => ⟨w_, ⟨hM.cell 0 rfl rfl, rfl⟩, hM, trivial⟩) ?_
       refine oQ [oF 2] [(71, .bool x82.Has), (11, vP b91 0), (0, sl A_k k c_k), (4, vP b1 0), (5, vP b2 0), (9, vP b5 0), (63, .slice (sa g77) ([(api_Arg.mk o_3 o_4 (api_Ref.mk o_5 o_6)), (api_Arg.mk o_7 o_8 (api_Ref.mk o_9 o_10))] : List api_Arg).length 2), (64, vI x78), (65, vI i80)] (by kernel_rfl) ?_
       refine ops_bool (t := x82.Has) (l1 := [(71, .bool true), (11, vP b91 0), (0, sl A_k k c_k), (4, vP b1 0), (5, vP b2 0), (9, vP b5 0), (63, .slice (sa g77) ([(api_Arg.mk o_3 o_4 (api_Ref.mk o_5 o_6)), (api_Arg.mk o_7 o_8 (api_Ref.mk o_9 o_10))] : List api_Arg).length 2), (64, vI x78), (65, vI i80)]) (l2 := [(71, .bool false), (11, vP b91 0), (0, sl A_k k c_k), (4, vP b1 0), (5, vP b2 0), (9, vP b5 0), (63, .slice (sa g77) ([(api_Arg.mk o_3 o_4 (api_Ref.mk o_5 o_6)), (api_Arg.mk o_7 o_8 (api_Ref.mk o_9 o_10))] : List api_Arg).length 2), (64, vI x78), (65, vI i80)]) (fun h => by rw [h]) (fun h => by rw [h]) (fun hc92 => ?_) (fun hc92 => ?_)
       ·
        have hp := cnd_t hc92 hp
        refine oQ [oF 3] [(72, vP b91 1), (71, .bool true), (11, vP b91 0), (0, sl A_k k c_k), (4, vP b1 0), (5, vP b2 0), (9, vP b5 0), (63, .slice (sa g77) ([(api_Arg.mk o_3 o_4 (api_Ref.mk o_5 o_6)), (api_Arg.mk o_7 o_8 (api_Ref.mk o_9 o_10))] : List api_Arg).length 2), (64, vI x78), (65, vI i80)] (by kernel_rfl) ?_
        refine ops_mem (d := some 73) (an := [.v (vI x82.N)]) (evs := [ld b91 1 (vI x82.N)]) (v := vI x82.N) ⟨by kernel_rfl⟩ (fun w_ hM hS => ⟨w_, ⟨hM.cell 0 rfl rfl, rfl⟩, hM, trivial⟩) ?_
        refine oQ [oF 5, oF 6, oF 7] [(76, .bool (!(x82.N == 0))), (11, vP b91 0), (0, sl A_k k c_k), (4, vP b1 0), (5, vP b2 0), (9, vP b5 0), (63, .slice (sa g77) ([(api_Arg.mk o_3 o_4 (api_Ref.mk o_5 o_6)), (api_Arg.mk o_7 o_8 (api_Ref.mk o_9 o_10))] : List api_Arg).length 2), (64, vI x78), (65, vI i80)] (by kernel_rfl) ?_
        refine ops_bool (t := !(x82.N == 0)) (l1 := [(76, .bool true), (11, vP b91 0), (0, sl A_k k c_k), (4, vP b1 0), (5, vP b2 0), (9, vP b5 0), (63, .slice (sa g77) ([(api_Arg.mk o_3 o_4 (api_Ref.mk o_5 o_6)), (api_Arg.mk o_7 o_8 (api_Ref.mk o_9 o_10))] : List api_Arg).length 2), (64, vI x78), (65, vI i80)]) (l2 := [(76, .bool false), (11, vP b91 0), (0, sl A_k k c_k), (4, vP b1 0), (5, vP b2 0), (9, vP b5 0), (63, .slice (sa g77) ([(api_Arg.mk o_3 o_4 (api_Ref.mk o_5 o_6)), (api_Arg.mk o_7 o_8 (api_Ref.mk o_9 o_10))] : List api_Arg).length 2), (64, vI x78), (65, vI i80)]) (fun h => by rw [h]) (fun h => by rw [h]) (fun hc93 => ?_) (fun hc93 => ?_)
        ·
         have hp := cnd_t hc93 hp
         refine oQ [oF 8, oF 9, oF 10, oF 11, oF 12, oF 13, oF 14, oF 15, oF 16, oF 17] [(86, .bool true), (0, sl A_k k c_k), (4, vP b1 0), (5, vP b2 0), (9, vP b5 0), (63, .slice (sa g77) ([(api_Arg.mk o_3 o_4 (api_Ref.mk o_5 o_6)), (api_Arg.mk o_7 o_8 (api_Ref.mk o_9 o_10))] : List api_Arg).length 2), (64, vI x78), (65, vI i80)] (by kernel_rfl) ?_
         refine ops_nil (fin_then (st_true rfl (st_seq (st_region [oF 0] (by rfl) ?_))))
         refine oQ [oF 0] [(6, vI 3)] (by kernel_rfl) ?_
         refine ops_nil (fin_then (st_ret (fin_ret_block (fin_ret_then (fin_ret_then (fin_ret_block (fin_ret_then ?_)))))))
         obtain hq_ := Option.some.inj hp
         subst hq_
         obtain hq_ := hd10 _ rfl
         subst hq_
         have hp : some 3 = some i9001 := hk10
         have hq_ := Option.some.inj hp
         have hr0_ := hq_
         subst hr0_
         refine fin_ret [.tmp 6] [vI 3] rfl rfl (fun w_ hM => (.tmp rfl .nil)) (fun w_ hM => ?_)
         exact ⟨trivial, rfl, hM.pick 6 [5] (by kernel_rfl) (by decide) rfl⟩
        ·
         have hp := cnd_f hc93 hp
         refine oQ [oF 8] [(77, vP b91 0), (76, .bool false), (11, vP b91 0), (0, sl A_k k c_k), (4, vP b1 0), (5, vP b2 0), (9, vP b5 0), (63, .slice (sa g77) ([(api_Arg.mk o_3 o_4 (api_Ref.mk o_5 o_6)), (api_Arg.mk o_7 o_8 (api_Ref.mk o_9 o_10))] : List api_Arg).length 2), (64, vI x78), (65, vI i80)] (by kernel_rfl) ?_
         refine ops_mem (d := some 78) (an := [.v (.bool x82.Has)]) (evs := [ld b91 0 (.bool x82.Has)]) (v := .bool x82.Has) ⟨by kernel_rfl⟩ (fun w_ hM hS => ⟨w_, ⟨hM.cell 0 rfl rfl, rfl⟩, hM, trivial⟩) ?_
         refine oQ [oF 10, oF 11] [(80, .bool (!x82.Has)), (76, .bool false), (11, vP b91 0), (0, sl A_k k c_k), (4, vP b1 0), (5, vP b2 0), (9, vP b5 0), (63, .slice (sa g77) ([(api_Arg.mk o_3 o_4 (api_Ref.mk o_5 o_6)), (api_Arg.mk o_7 o_8 (api_Ref.mk o_9 o_10))] : List api_Arg).length 2), (64, vI x78), (65, vI i80)] (by kernel_rfl) ?_
         refine ops_conv (l' := [(80, .bool false), (76, .bool false), (11, vP b91 0), (0, sl A_k k c_k), (4, vP b1 0), (5, vP b2 0), (9, vP b5 0), (63, .slice (sa g77) ([(api_Arg.mk o_3 o_4 (api_Ref.mk o_5 o_6)), (api_Arg.mk o_7 o_8 (api_Ref.mk o_9 o_10))] : List api_Arg).length 2), (64, vI x78), (65, vI i80)]) (by rw [show (!x82.Has) = false from by rw [hc92]; rfl]) (fun _ h => h) ?_
         refine oQ [oF 12, oF 13, oF 14, oF 15, oF 16, oF 17] [(86, .bool false), (0, sl A_k k c_k), (4, vP b1 0), (5, vP b2 0), (9, vP b5 0), (63, .slice (sa g77) ([(api_Arg.mk o_3 o_4 (api_Ref.mk o_5 o_6)), (api_Arg.mk o_7 o_8 (api_Ref.mk o_9 o_10))] : List api_Arg).length 2), (64, vI x78), (65, vI i80)] (by kernel_rfl) ?_
         refine ops_nil (fin_then (st_false rfl (st_skip (fin_block ?_))))
         exact fin_join HJ11 () hp (look_has ⟨rfl, rfl, rfl, rfl, rfl, rfl, rfl, trivial⟩) (fun w_ hM => hM.pick 6 [1, 2, 3, 4, 5] (by kernel_rfl) (by decide) rfl)
       ·
        have hp := cnd_f hc92 hp
        refine oQ [oF 3, oF 4, oF 5, oF 6, oF 7, oF 8] [(77, vP b91 0), (76, .bool false), (11, vP b91 0), (0, sl A_k k c_k), (4, vP b1 0), (5, vP b2 0), (9, vP b5 0), (63, .slice (sa g77) ([(api_Arg.mk o_3 o_4 (api_Ref.mk o_5 o_6)), (api_Arg.mk o_7 o_8 (api_Ref.mk o_9 o_10))] : List api_Arg).length 2), (64, vI x78), (65, vI i80)] (by kernel_rfl) ?_
        refine ops_mem (d := some 78) (an := [.v (.bool x82.Has)]) (evs := [ld b91 0 (.bool x82.Has)]) (v := .bool x82.Has) ⟨by kernel_rfl⟩ (fun w_ hM hS => ⟨w_, ⟨hM.cell 0 rfl rfl, rfl⟩, hM, trivial⟩) ?_
        refine oQ [oF 10, oF 11] [(80, .bool (!x82.Has)), (76, .bool false), (11, vP b91 0), (0, sl A_k k c_k), (4, vP b1 0), (5, vP b2 0), (9, vP b5 0), (63, .slice (sa g77) ([(api_Arg.mk o_3 o_4 (api_Ref.mk o_5 o_6)), (api_Arg.mk o_7 o_8 (api_Ref.mk o_9 o_10))] : List api_Arg).length 2), (64, vI x78), (65, vI i80)] (by kernel_rfl) ?_
        refine ops_conv (l' := [(80, .bool true), (76, .bool false), (11, vP b91 0), (0, sl A_k k c_k), (4, vP b1 0), (5, vP b2 0), (9, vP b5 0), (63, .slice (sa g77) ([(api_Arg.mk o_3 o_4 (api_Ref.mk o_5 o_6)), (api_Arg.mk o_7 o_8 (api_Ref.mk o_9 o_10))] : List api_Arg).length 2), (64, vI x78), (65, vI i80)]) (by rw [show (!x82.Has) = true from by rw [hc92]; rfl]) (fun _ h => h) ?_
        refine oQ [oF 12] [(81, vP b91 2), (80, .bool true), (76, .bool false), (0, sl A_k k c_k), (4, vP b1 0), (5, vP b2 0), (9, vP b5 0), (63, .slice (sa g77) ([(api_Arg.mk o_3 o_4 (api_Ref.mk o_5 o_6)), (api_Arg.mk o_7 o_8 (api_Ref.mk o_9 o_10))] : List api_Arg).length 2), (64, vI x78), (65, vI i80)] (by kernel_rfl) ?_
        refine ops_mem (d := some 82) (an := [.v (vI x82.Ref.Kind), .v (vI x82.Ref.Field)]) (evs := [ld b91 2 (vI x82.Ref.Kind), ld b91 3 (vI x82.Ref.Field)]) (v := .agg #[vI x82.Ref.Kind, vI x82.Ref.Field]) ⟨by kernel_rfl⟩ (fun w_ hM hS => ⟨w_, ⟨hM.cell 0 rfl rfl, hM.cell 0 rfl rfl, rfl⟩, hM, trivial⟩) ?_
        refine ops_mem (d := some 83) (an := [.v (vI 0), .v (vI 0)]) (evs := [ld b5 0 (vI 0), ld b5 1 (vI 0)]) (v := .agg #[vI 0, vI 0]) ⟨by kernel_rfl⟩ (fun w_ hM hS => ⟨w_, ⟨hM.cell 3 rfl rfl, hM.cell 3 rfl rfl, rfl⟩, hM, trivial⟩) ?_
        refine ops_val (op := (.binOp Go.BinOp.neq 166 (.tmp 82) (.tmp 83) 166)) (d := some 84) (v := .bool (!(x82.Ref.Kind == 0 && (x82.Ref.Field == 0)))) ⟨by kernel_rfl⟩ (run_neq_agg (r := x82.Ref.Kind == 0 && (x82.Ref.Field == 0)) rfl rfl (by kernel_rfl) (fun w => eqA166 9998 w x82.Ref.Kind 0 x82.Ref.Field 0)) ?_
        refine oQ [oF 16, oF 17] [(86, .bool (!(x82.Ref.Kind == 0 && (x82.Ref.Field == 0)))), (0, sl A_k k c_k), (4, vP b1 0), (5, vP b2 0), (9, vP b5 0), (63, .slice (sa g77) ([(api_Arg.mk o_3 o_4 (api_Ref.mk o_5 o_6)), (api_Arg.mk o_7 o_8 (api_Ref.mk o_9 o_10))] : List api_Arg).length 2), (64, vI x78), (65, vI i80)] (by kernel_rfl) ?_
        refine ops_nil (fin_then ?_)
        refine st_if (b := !(x82.Ref.Kind == 0 && (x82.Ref.Field == 0))) rfl (fun hc94 => ?_) (fun hc94 => ?_)
        ·
         have hp := cnd_t hc94 hp
         refine st_seq (st_region [oF 0] (by rfl) ?_)
         refine oQ [oF 0] [(6, vI 3)] (by kernel_rfl) ?_
         refine ops_nil (fin_then (st_ret (fin_ret_block (fin_ret_then (fin_ret_then (fin_ret_block (fin_ret_then ?_)))))))
         obtain hq_ := Option.some.inj hp
         subst hq_
         obtain hq_ := hd10 _ rfl
         subst hq_
         have hp : some 3 = some i9001 := hk10
         have hq_ := Option.some.inj hp
         have hr0_ := hq_
         subst hr0_
         refine fin_ret [.tmp 6] [vI 3] rfl rfl (fun w_ hM => (.tmp rfl .nil)) (fun w_ hM => ?_)
         exact ⟨trivial, rfl, hM.pick 6 [5] (by kernel_rfl) (by decide) rfl⟩
        ·
         have hp := cnd_f hc94 hp
         refine st_skip (fin_block ?_)
         exact fin_join HJ11 () hp (look_has ⟨rfl, rfl, rfl, rfl, rfl, rfl, rfl, trivial⟩) (fun w_ hM => hM.pick 6 [1, 2, 3, 4, 5] (by kernel_rfl) (by decide) rfl)
     ·
      have hp := cnd_f hc81 hp
      refine st_exit (fin_exit_then (fin_exit_then (fin_exit ?_)))
      obtain hq_ := Option.some.inj hp
      subst hq_
      obtain hq_ := hd10 _ rfl
      subst hq_
      have hp : (system_op_j2 o_0 o_7 o_8 o_9 o_10 o_1 o_2 k s_4 o_3 o_4 o_5 o_6 s_3) = some i9001 := hk10
      exact fin_join HJ2 () hp (look_has ⟨rfl, rfl, rfl, rfl, trivial⟩) (fun w_ hM => hM.pick 5 [0, 1, 2, 4] (by kernel_rfl) (by decide) rfl)
   ·
    intro HJ1
    refine st_seq (st_seq (st_region [oF 0, oF 1, oF 2, oF 3, oF 4, oF 5, oF 6] (by rfl) ?_))
    refine oQ [oF 0] [(23, vP b2 3), (5, vP b2 0), (4, vP b1 0), (0, sl A_k k c_k)] (by kernel_rfl) ?_
    refine ops_mem (d := some 24) (an := [.v (.bool o_3), .v (vI o_4), .v (vI o_5), .v (vI o_6)]) (evs := [ld b2 3 (.bool o_3), ld b2 4 (vI o_4), ld b2 5 (vI o_5), ld b2 6 (vI o_6)]) (v := .agg #[.bool o_3, vI o_4, vI o_5, vI o_6]) ⟨by kernel_rfl⟩ (fun w_ hM hS => ⟨w_, ⟨hM.cell 0 rfl rfl, hM.cell 0 rfl rfl, hM.cell 0 rfl rfl, hM.cell 0 rfl rfl, rfl⟩, hM, trivial⟩) ?_
    refine oQ [oF 2] [(25, vP b2 7), (24, .agg #[.bool o_3, vI o_4, vI o_5, vI o_6]), (5, vP b2 0), (4, vP b1 0), (0, sl A_k k c_k)] (by kernel_rfl) ?_
    refine ops_mem (d := some 26) (an := [.v (.bool o_7), .v (vI o_8), .v (vI o_9), .v (vI o_10)]) (evs := [ld b2 7 (.bool o_7), ld b2 8 (vI o_8), ld b2 9 (vI o_9), ld b2 10 (vI o_10)]) (v := .agg #[.bool o_7, vI o_8, vI o_9, vI o_10]) ⟨by kernel_rfl⟩ (fun w_ hM hS => ⟨w_, ⟨hM.cell 0 rfl rfl, hM.cell 0 rfl rfl, hM.cell 0 rfl rfl, hM.cell 0 rfl rfl, rfl⟩, hM, trivial⟩) ?_
    have h95 : RepL R_api_Arg F W ([(api_Arg.mk o_3 o_4 (api_Ref.mk o_5 o_6)), (api_Arg.mk o_7 o_8 (api_Ref.mk o_9 o_10))] : List api_Arg) ([.bool o_3, vI o_4, vI o_5, vI o_6, .bool o_7, vI o_8, vI o_9, vI o_10]) := (RepL.cons (R := R_api_Arg) (F := F) (w := W) (vs := [.bool o_3, vI o_4, vI o_5, vI o_6]) (ys := [.bool o_7, vI o_8, vI o_9, vI o_10]) (enc_api_Arg) (RepL.cons (R := R_api_Arg) (F := F) (w := W) (vs := [.bool o_7, vI o_8, vI o_9, vI o_10]) (ys := []) (enc_api_Arg) RepL.nil))
    refine ops_new (d := some 27) (o := .cells ([.bool o_3, vI o_4, vI o_5, vI o_6, .bool o_7, vI o_8, vI o_9, vI o_10] : List Value).toArray 168) (v := fun g96 => .slice (sa g96) ([(api_Arg.mk o_3 o_4 (api_Ref.mk o_5 o_6)), (api_Arg.mk o_7 o_8 (api_Ref.mk o_9 o_10))] : List api_Arg).length 2) (M' := fun g96 => Mem w0 (orow (sa g96) ([(api_Arg.mk o_3 o_4 (api_Ref.mk o_5 o_6)), (api_Arg.mk o_7 o_8 (api_Ref.mk o_9 o_10))] : List api_Arg).length 2 168 4 ([.bool o_3, vI o_4, vI o_5, vI o_6, .bool o_7, vI o_8, vI o_9, vI o_10]) :: .blk b2 [vI o_0, vI o_1, vI o_2, .bool o_3, vI o_4, vI o_5, vI o_6, .bool o_7, vI o_8, vI o_9, vI o_10] 170 :: .blk b1 [.string s_0, sl A_s_1 s_1 c_s_1, sl A_s_2 s_2 c_s_2, sl A_s_3 s_3 c_s_3, sl A_s_4 s_4 c_s_4, sl A_s_5 s_5 c_s_5, sl A_s_6 s_6 c_s_6] 96 :: Fz F W :: cs)) (fun g96 => ⟨by kernel_rfl⟩) (fun w_ hM hS => ⟨hM.onew [.bool o_3, vI o_4, vI o_5, vI o_6, .bool o_7, vI o_8, vI o_9, vI o_10] 168 2 4 rfl (by decide), trivial⟩) (fun g96 => ?_)
    refine oQ [oF 5, oF 6] [(29, vI 0), (28, vI (([(api_Arg.mk o_3 o_4 (api_Ref.mk o_5 o_6)), (api_Arg.mk o_7 o_8 (api_Ref.mk o_9 o_10))] : List api_Arg).length : Int)), (27, .slice (sa g96) ([(api_Arg.mk o_3 o_4 (api_Ref.mk o_5 o_6)), (api_Arg.mk o_7 o_8 (api_Ref.mk o_9 o_10))] : List api_Arg).length 2), (5, vP b2 0), (4, vP b1 0), (0, sl A_k k c_k)] (by kernel_rfl) ?_
    obtain ⟨x97, hv98, hp⟩ := obind hp
    refine ops_conv (l' := [(29, vI 0), (28, vI x97), (27, .slice (sa g96) ([(api_Arg.mk o_3 o_4 (api_Ref.mk o_5 o_6)), (api_Arg.mk o_7 o_8 (api_Ref.mk o_9 o_10))] : List api_Arg).length 2), (5, vP b2 0), (4, vP b1 0), (0, sl A_k k c_k)]) (by rw [← Option.some.inj hv98]) (fun _ h => h) ?_
    refine ops_nil (fin_then (st_block ?_))
    obtain ⟨r12, hl12, hk12⟩ := obind hp
    refine st_loopP (σ := Int) (ρ := (Int ⊕ Unit)) (γ := Unit) hl12 () (fun s_ g_ => match s_, g_ with | i99, _ => [(0, sl A_k k c_k), (4, vP b1 0), (5, vP b2 0), (27, .slice (sa g96) ([(api_Arg.mk o_3 o_4 (api_Ref.mk o_5 o_6)), (api_Arg.mk o_7 o_8 (api_Ref.mk o_9 o_10))] : List api_Arg).length 2), (28, vI x97), (29, vI i99)]) (fun s_ g_ => match s_, g_ with | i99, _ => Mem w0 (.blk b1 [.string s_0, sl A_s_1 s_1 c_s_1, sl A_s_2 s_2 c_s_2, sl A_s_3 s_3 c_s_3, sl A_s_4 s_4 c_s_4, sl A_s_5 s_5 c_s_5, sl A_s_6 s_6 c_s_6] 96 :: .blk b2 [vI o_0, vI o_1, vI o_2, .bool o_3, vI o_4, vI o_5, vI o_6, .bool o_7, vI o_8, vI o_9, vI o_10] 170 :: orow (sa g96) ([(api_Arg.mk o_3 o_4 (api_Ref.mk o_5 o_6)), (api_Arg.mk o_7 o_8 (api_Ref.mk o_9 o_10))] : List api_Arg).length 2 168 4 ([.bool o_3, vI o_4, vI o_5, vI o_6, .bool o_7, vI o_8, vI o_9, vI o_10]) :: Fz F W :: cs)) (fun s_ g_ => match s_, g_ with | i99, _ => True) trivial (look_has ⟨rfl, rfl, rfl, rfl, rfl, rfl, trivial⟩) (fun w_ hM => hM.pick 4 [2, 1, 0, 3] (by kernel_rfl) (by decide) rfl) ?_
    rintro i99 _ o12 - hs_ hd12
    have hp : (system_op_l12 x97 o_3 o_4 o_5 o_6 o_7 o_8 o_9 o_10 k) i99 = some o12 := hs_
    clear hs_
    unfold system_op_l12 at hp
    refine st_seq (st_region [oF 0] (by rfl) ?_)
    refine oQ [oF 0] [(30, .bool (decide (i99 < x97))), (0, sl A_k k c_k), (4, vP b1 0), (5, vP b2 0), (27, .slice (sa g96) ([(api_Arg.mk o_3 o_4 (api_Ref.mk o_5 o_6)), (api_Arg.mk o_7 o_8 (api_Ref.mk o_9 o_10))] : List api_Arg).length 2), (28, vI x97), (29, vI i99)] (by kernel_rfl) ?_
    refine ops_nil (fin_then (st_seq ?_))
    refine st_if (b := decide (i99 < x97)) rfl (fun hc100 => ?_) (fun hc100 => ?_)
    ·
     have hp := cnd_t hc100 hp
     refine st_skip (fin_then ?_)
     refine st_join1 (σ := Unit) (L := fun _ => [(0, sl A_k k c_k), (4, vP b1 0), (5, vP b2 0), (27, .slice (sa g96) ([(api_Arg.mk o_3 o_4 (api_Ref.mk o_5 o_6)), (api_Arg.mk o_7 o_8 (api_Ref.mk o_9 o_10))] : List api_Arg).length 2), (28, vI x97), (29, vI i99)]) (N := fun _ => Mem w0 (.blk b1 [.string s_0, sl A_s_1 s_1 c_s_1, sl A_s_2 s_2 c_s_2, sl A_s_3 s_3 c_s_3, sl A_s_4 s_4 c_s_4, sl A_s_5 s_5 c_s_5, sl A_s_6 s_6 c_s_6] 96 :: .blk b2 [vI o_0, vI o_1, vI o_2, .bool o_3, vI o_4, vI o_5, vI o_6, .bool o_7, vI o_8, vI o_9, vI o_10] 170 :: orow (sa g96) ([(api_Arg.mk o_3 o_4 (api_Ref.mk o_5 o_6)), (api_Arg.mk o_7 o_8 (api_Ref.mk o_9 o_10))] : List api_Arg).length 2 168 4 ([.bool o_3, vI o_4, vI o_5, vI o_6, .bool o_7, vI o_8, vI o_9, vI o_10]) :: Fz F W :: cs)) (I := fun _ => ((system_op_j13 i99) = some o12)) ?_ ?_
     ·
      rintro _ hp
      unfold system_op_j13 at hp
      refine st_region [oF 0, oF 1] (by rfl) ?_
      refine oQ [oF 0, oF 1] [(29, vI (IntKind.i64.wrap (i99 + 1))), (0, sl A_k k c_k), (4, vP b1 0), (5, vP b2 0), (27, .slice (sa g96) ([(api_Arg.mk o_3 o_4 (api_Ref.mk o_5 o_6)), (api_Arg.mk o_7 o_8 (api_Ref.mk o_9 o_10))] : List api_Arg).length 2), (28, vI x97)] (by kernel_rfl) ?_
      refine ops_nil ?_
      exact fin_again (IntKind.i64.wrap (i99 + 1)) () (Option.some.inj hp).symm trivial (look_has ⟨rfl, rfl, rfl, rfl, rfl, rfl, trivial⟩) (fun w_ hM => hM)
     ·
      intro HJ13
      refine st_seq (st_block (st_seq (st_region [oF 0, oF 1, oF 2, oF 3] (by rfl) ?_)))
      obtain ⟨x101, hv102, hp⟩ := obind hp
      obtain ⟨m103, hm104, hx105⟩ := idx_some hv102
      have hl108 := (List.getElem?_eq_some_iff.1 hx105).1
      obtain ⟨vs106, hr107, hq109⟩ := h95.at_ m103 x101 hx105
      obtain rfl := dec_api_Arg hr107
      refine ops_val (op := (.indexAddr 221 (.tmp 27) (.tmp 29))) (d := some 31) (v := vP g96 (m103 * 4)) ⟨by kernel_rfl⟩ (run_indexRow Tryd.underlying221 (z := 4) (by kernel_rfl) rfl rfl hm104 hl108 rfl) ?_
      refine ops_mem (d := some 32) (an := [.v (.bool x101.Has), .v (vI x101.N), .v (vI x101.Ref.Kind), .v (vI x101.Ref.Field)]) (evs := [.load ⟨g96, m103 * 4, none⟩ (.bool x101.Has), .load ⟨g96, m103 * 4 + 1, none⟩ (vI x101.N), .load ⟨g96, m103 * 4 + 2, none⟩ (vI x101.Ref.Kind), .load ⟨g96, m103 * 4 + 3, none⟩ (vI x101.Ref.Field)]) (v := .agg #[.bool x101.Has, vI x101.N, vI x101.Ref.Kind, vI x101.Ref.Field]) ⟨by kernel_rfl⟩ (fun w_ hM hS => ⟨w_, ⟨hM.ocell 2 rfl (hq109 0 _ rfl), hM.ocell 2 rfl (hq109 1 _ rfl), hM.ocell 2 rfl (hq109 2 _ rfl), hM.ocell 2 rfl (hq109 3 _ rfl), rfl⟩, hM, trivial⟩) ?_
      refine ops_newB (d := some 8) [.bool false, vI 0, vI 0, vI 0] 168 (fun b110 => ⟨by kernel_rfl⟩) (fun w_ hM hS => trivial) (fun b110 => ?_)
      refine ops_store (an := []) (evs := [sr b110 0 (.bool x101.Has), sr b110 1 (vI x101.N), sr b110 2 (vI x101.Ref.Kind), sr b110 3 (vI x101.Ref.Field)]) ⟨by kernel_rfl⟩ (fun w_ hM hS => let ⟨w', he, h'⟩ := hM.evs_stores [.bool x101.Has, vI x101.N, vI x101.Ref.Kind, vI x101.Ref.Field] 0 rfl 0 (Nat.le_of_ble_eq_true rfl); ⟨w', he, h', trivial⟩) ?_
      refine ops_nil (fin_then (st_seq (st_region [oF 0, oF 1, oF 2, oF 3, oF 4, oF 5, oF 6, oF 7, oF 8, oF 9, oF 10, oF 11, oF 12, oF 13, oF 14, oF 15, oF 16, oF 17, oF 18, oF 19, oF 20, oF 21, oF 22, oF 23] (by rfl) ?_)))
      refine oQ [oF 0] [(33, vP b110 0), (8, vP b110 0), (0, sl A_k k c_k), (4, vP b1 0), (5, vP b2 0), (27, .slice (sa g96) ([(api_Arg.mk o_3 o_4 (api_Ref.mk o_5 o_6)), (api_Arg.mk o_7 o_8 (api_Ref.mk o_9 o_10))] : List api_Arg).length 2), (28, vI x97), (29, vI i99)] (by kernel_rfl) ?_
      refine ops_mem (d := some 34) (an := [.v (.bool x101.Has)]) (evs := [ld b110 0 (.bool x101.Has)]) (v := .bool x101.Has) ⟨by kernel_rfl⟩ (fun w_ hM hS => ⟨w_, ⟨hM.cell 0 rfl rfl, rfl⟩, hM, trivial⟩) ?_
      refine oQ [oF 2] [(35, .bool x101.Has), (8, vP b110 0), (0, sl A_k k c_k), (4, vP b1 0), (5, vP b2 0), (27, .slice (sa g96) ([(api_Arg.mk o_3 o_4 (api_Ref.mk o_5 o_6)), (api_Arg.mk o_7 o_8 (api_Ref.mk o_9 o_10))] : List api_Arg).length 2), (28, vI x97), (29, vI i99)] (by kernel_rfl) ?_
      refine ops_bool (t := x101.Has) (l1 := [(35, .bool true), (8, vP b110 0), (0, sl A_k k c_k), (4, vP b1 0), (5, vP b2 0), (27, .slice (sa g96) ([(api_Arg.mk o_3 o_4 (api_Ref.mk o_5 o_6)), (api_Arg.mk o_7 o_8 (api_Ref.mk o_9 o_10))] : List api_Arg).length 2), (28, vI x97), (29, vI i99)]) (l2 := [(35, .bool false), (8, vP b110 0), (0, sl A_k k c_k), (4, vP b1 0), (5, vP b2 0), (27, .slice (sa g96) ([(api_Arg.mk o_3 o_4 (api_Ref.mk o_5 o_6)), (api_Arg.mk o_7 o_8 (api_Ref.mk o_9 o_10))] : List api_Arg).length 2), (28, vI x97), (29, vI i99)]) (fun h => by rw [h]) (fun h => by rw [h]) (fun hc111 => ?_) (fun hc111 => ?_)
      ·
       have hp := cnd_t hc111 hp
       refine oQ [oF 3, oF 4] [(37, vP b110 2), (36, sl A_k k c_k), (35, .bool true), (8, vP b110 0), (0, sl A_k k c_k), (4, vP b1 0), (5, vP b2 0), (27, .slice (sa g96) ([(api_Arg.mk o_3 o_4 (api_Ref.mk o_5 o_6)), (api_Arg.mk o_7 o_8 (api_Ref.mk o_9 o_10))] : List api_Arg).length 2), (28, vI x97), (29, vI i99)] (by kernel_rfl) ?_
       refine ops_mem (d := some 38) (an := [.v (vI x101.Ref.Kind), .v (vI x101.Ref.Field)]) (evs := [ld b110 2 (vI x101.Ref.Kind), ld b110 3 (vI x101.Ref.Field)]) (v := .agg #[vI x101.Ref.Kind, vI x101.Ref.Field]) ⟨by kernel_rfl⟩ (fun w_ hM hS => ⟨w_, ⟨hM.cell 0 rfl rfl, hM.cell 0 rfl rfl, rfl⟩, hM, trivial⟩) ?_
       obtain ⟨x112, hv113, hp⟩ := obind hp
       refine ops_callI (σ := Unit) (d := some 39) (f := 134) (args := #[sl A_k k c_k, .agg #[vI x101.Ref.Kind, vI x101.Ref.Field]]) (v := (fun _ => .bool x112)) (I := (fun _ => True)) (M' := (fun _ => Mem w0 (.blk b110 [.bool x101.Has, vI x101.N, vI x101.Ref.Kind, vI x101.Ref.Field] 168 :: .blk b1 [.string s_0, sl A_s_1 s_1 c_s_1, sl A_s_2 s_2 c_s_2, sl A_s_3 s_3 c_s_3, sl A_s_4 s_4 c_s_4, sl A_s_5 s_5 c_s_5, sl A_s_6 s_6 c_s_6] 96 :: .blk b2 [vI o_0, vI o_1, vI o_2, .bool o_3, vI o_4, vI o_5, vI o_6, .bool o_7, vI o_8, vI o_9, vI o_10] 170 :: orow (sa g96) ([(api_Arg.mk o_3 o_4 (api_Ref.mk o_5 o_6)), (api_Arg.mk o_7 o_8 (api_Ref.mk o_9 o_10))] : List api_Arg).length 2 168 4 ([.bool o_3, vI o_4, vI o_5, vI o_6, .bool o_7, vI o_8, vI o_9, vI o_10]) :: Fz F W :: cs))) ⟨by kernel_rfl⟩ (fun w_ hM hS => (system_isField_ok w0 w_ (.blk b110 [.bool x101.Has, vI x101.N, vI x101.Ref.Kind, vI x101.Ref.Field] 168 :: .blk b1 [.string s_0, sl A_s_1 s_1 c_s_1, sl A_s_2 s_2 c_s_2, sl A_s_3 s_3 c_s_3, sl A_s_4 s_4 c_s_4, sl A_s_5 s_5 c_s_5, sl A_s_6 s_6 c_s_6] 96 :: .blk b2 [vI o_0, vI o_1, vI o_2, .bool o_3, vI o_4, vI o_5, vI o_6, .bool o_7, vI o_8, vI o_9, vI o_10] 170 :: orow (sa g96) ([(api_Arg.mk o_3 o_4 (api_Ref.mk o_5 o_6)), (api_Arg.mk o_7 o_8 (api_Ref.mk o_9 o_10))] : List api_Arg).length 2 168 4 ([.bool o_3, vI o_4, vI o_5, vI o_6, .bool o_7, vI o_8, vI o_9, vI o_10]) :: cs) F W A_k c_k k x101.Ref.Kind x101.Ref.Field (hM.pick 5 [4, 0, 1, 2, 3] (by kernel_rfl) (by decide) rfl) h_k x112 hv113).mono (by rintro e w' ⟨-, rfl, h'⟩; have h' : Mem w0 (.blk b110 [.bool x101.Has, vI x101.N, vI x101.Ref.Kind, vI x101.Ref.Field] 168 :: .blk b1 [.string s_0, sl A_s_1 s_1 c_s_1, sl A_s_2 s_2 c_s_2, sl A_s_3 s_3 c_s_3, sl A_s_4 s_4 c_s_4, sl A_s_5 s_5 c_s_5, sl A_s_6 s_6 c_s_6] 96 :: .blk b2 [vI o_0, vI o_1, vI o_2, .bool o_3, vI o_4, vI o_5, vI o_6, .bool o_7, vI o_8, vI o_9, vI o_10] 170 :: orow (sa g96) ([(api_Arg.mk o_3 o_4 (api_Ref.mk o_5 o_6)), (api_Arg.mk o_7 o_8 (api_Ref.mk o_9 o_10))] : List api_Arg).length 2 168 4 ([.bool o_3, vI o_4, vI o_5, vI o_6, .bool o_7, vI o_8, vI o_9, vI o_10]) :: Fz F W :: cs) w' := (h'.pick 5 [1, 2, 3, 4, 0] (by kernel_rfl) (by decide) rfl); exact ⟨(), trivial, rfl, h', trivial⟩)) ?_
       rintro _ -
       refine oQ [oF 7, oF 8, oF 9] [(42, .bool (!x112)), (8, vP b110 0), (0, sl A_k k c_k), (4, vP b1 0), (5, vP b2 0), (27, .slice (sa g96) ([(api_Arg.mk o_3 o_4 (api_Ref.mk o_5 o_6)), (api_Arg.mk o_7 o_8 (api_Ref.mk o_9 o_10))] : List api_Arg).length 2), (28, vI x97), (29, vI i99)] (by kernel_rfl) ?_
       refine ops_bool (t := !x112) (l1 := [(42, .bool true), (8, vP b110 0), (0, sl A_k k c_k), (4, vP b1 0), (5, vP b2 0), (27, .slice (sa g96) ([(api_Arg.mk o_3 o_4 (api_Ref.mk o_5 o_6)), (api_Arg.mk o_7 o_8 (api_Ref.mk o_9 o_10))] : List api_Arg).length 2), (28, vI x97), (29, vI i99)]) (l2 := [(42, .bool false), (8, vP b110 0), (0, sl A_k k c_k), (4, vP b1 0), (5, vP b2 0), (27, .slice (sa g96) ([(api_Arg.mk o_3 o_4 (api_Ref.mk o_5 o_6)), (api_Arg.mk o_7 o_8 (api_Ref.mk o_9 o_10))] : List api_Arg).length 2), (28, vI x97), (29, vI i99)]) (fun h => by rw [h]) (fun h => by rw [h]) (fun hc114 => ?_) (fun hc114 => ?_)
       ·
        have hp := cnd_t hc114 hp
        refine oQ [oF 10, oF 11, oF 12, oF 13, oF 14, oF 15, oF 16, oF 17, oF 18, oF 19, oF 20, oF 21, oF 22, oF 23] [(56, .bool true), (0, sl A_k k c_k), (4, vP b1 0), (5, vP b2 0), (27, .slice (sa g96) ([(api_Arg.mk o_3 o_4 (api_Ref.mk o_5 o_6)), (api_Arg.mk o_7 o_8 (api_Ref.mk o_9 o_10))] : List api_Arg).length 2), (28, vI x97), (29, vI i99)] (by kernel_rfl) ?_
        refine ops_nil (fin_then (st_true rfl (st_seq (st_region [oF 0] (by rfl) ?_))))
        refine oQ [oF 0] [(6, vI 1)] (by kernel_rfl) ?_
        refine ops_nil (fin_then (st_ret (fin_ret_block (fin_ret_then (fin_ret_then (fin_ret_block (fin_ret_then ?_)))))))
        obtain hq_ := Option.some.inj hp
        subst hq_
        obtain hq_ := hd12 _ rfl
        subst hq_
        have hp : some 1 = some i9001 := hk12
        have hq_ := Option.some.inj hp
        have hr0_ := hq_
        subst hr0_
        refine fin_ret [.tmp 6] [vI 1] rfl rfl (fun w_ hM => (.tmp rfl .nil)) (fun w_ hM => ?_)
        exact ⟨trivial, rfl, hM.pick 5 [4] (by kernel_rfl) (by decide) rfl⟩
       ·
        have hp := cnd_f hc114 hp
        refine oQ [oF 10] [(43, vP b110 0), (42, .bool false), (8, vP b110 0), (0, sl A_k k c_k), (4, vP b1 0), (5, vP b2 0), (27, .slice (sa g96) ([(api_Arg.mk o_3 o_4 (api_Ref.mk o_5 o_6)), (api_Arg.mk o_7 o_8 (api_Ref.mk o_9 o_10))] : List api_Arg).length 2), (28, vI x97), (29, vI i99)] (by kernel_rfl) ?_
        refine ops_mem (d := some 44) (an := [.v (.bool x101.Has)]) (evs := [ld b110 0 (.bool x101.Has)]) (v := .bool x101.Has) ⟨by kernel_rfl⟩ (fun w_ hM hS => ⟨w_, ⟨hM.cell 0 rfl rfl, rfl⟩, hM, trivial⟩) ?_
        refine oQ [oF 12, oF 13] [(46, .bool (!x101.Has)), (42, .bool false), (8, vP b110 0), (0, sl A_k k c_k), (4, vP b1 0), (5, vP b2 0), (27, .slice (sa g96) ([(api_Arg.mk o_3 o_4 (api_Ref.mk o_5 o_6)), (api_Arg.mk o_7 o_8 (api_Ref.mk o_9 o_10))] : List api_Arg).length 2), (28, vI x97), (29, vI i99)] (by kernel_rfl) ?_
        refine ops_conv (l' := [(46, .bool false), (42, .bool false), (8, vP b110 0), (0, sl A_k k c_k), (4, vP b1 0), (5, vP b2 0), (27, .slice (sa g96) ([(api_Arg.mk o_3 o_4 (api_Ref.mk o_5 o_6)), (api_Arg.mk o_7 o_8 (api_Ref.mk o_9 o_10))] : List api_Arg).length 2), (28, vI x97), (29, vI i99)]) (by rw [show (!x101.Has) = false from by rw [hc111]; rfl]) (fun _ h => h) ?_
        refine oQ [oF 14, oF 15, oF 16, oF 17, oF 18, oF 19, oF 20, oF 21, oF 22, oF 23] [(56, .bool false), (0, sl A_k k c_k), (4, vP b1 0), (5, vP b2 0), (27, .slice (sa g96) ([(api_Arg.mk o_3 o_4 (api_Ref.mk o_5 o_6)), (api_Arg.mk o_7 o_8 (api_Ref.mk o_9 o_10))] : List api_Arg).length 2), (28, vI x97), (29, vI i99)] (by kernel_rfl) ?_
        refine ops_nil (fin_then (st_false rfl (st_skip (fin_block ?_))))
        exact fin_join HJ13 () hp (look_has ⟨rfl, rfl, rfl, rfl, rfl, rfl, trivial⟩) (fun w_ hM => hM.pick 5 [1, 2, 3, 4] (by kernel_rfl) (by decide) rfl)
      ·
       have hp := cnd_f hc111 hp
       refine oQ [oF 3, oF 4, oF 5, oF 6, oF 7, oF 8, oF 9, oF 10] [(43, vP b110 0), (42, .bool false), (8, vP b110 0), (0, sl A_k k c_k), (4, vP b1 0), (5, vP b2 0), (27, .slice (sa g96) ([(api_Arg.mk o_3 o_4 (api_Ref.mk o_5 o_6)), (api_Arg.mk o_7 o_8 (api_Ref.mk o_9 o_10))] : List api_Arg).length 2), (28, vI x97), (29, vI i99)] (by kernel_rfl) ?_
       refine ops_mem (d := some 44) (an := [.v (.bool x101.Has)]) (evs := [ld b110 0 (.bool x101.Has)]) (v := .bool x101.Has) ⟨by kernel_rfl⟩ (fun w_ hM hS => ⟨w_, ⟨hM.cell 0 rfl rfl, rfl⟩, hM, trivial⟩) ?_
       refine oQ [oF 12, oF 13] [(46, .bool (!x101.Has)), (42, .bool false), (8, vP b110 0), (0, sl A_k k c_k), (4, vP b1 0), (5, vP b2 0), (27, .slice (sa g96) ([(api_Arg.mk o_3 o_4 (api_Ref.mk o_5 o_6)), (api_Arg.mk o_7 o_8 (api_Ref.mk o_9 o_10))] : List api_Arg).length 2), (28, vI x97), (29, vI i99)] (by kernel_rfl) ?_
       refine ops_conv (l' := [(46, .bool true), (42, .bool false), (8, vP b110 0), (0, sl A_k k c_k), (4, vP b1 0), (5, vP b2 0), (27, .slice (sa g96) ([(api_Arg.mk o_3 o_4 (api_Ref.mk o_5 o_6)), (api_Arg.mk o_7 o_8 (api_Ref.mk o_9 o_10))] : List api_Arg).length 2), (28, vI x97), (29, vI i99)]) (by rw [show (!x101.Has) = true from by rw [hc111]; rfl]) (fun _ h => h) ?_
       refine oQ [oF 14] [(47, vP b110 1), (46, .bool true), (42, .bool false), (8, vP b110 0), (0, sl A_k k c_k), (4, vP b1 0), (5, vP b2 0), (27, .slice (sa g96) ([(api_Arg.mk o_3 o_4 (api_Ref.mk o_5 o_6)), (api_Arg.mk o_7 o_8 (api_Ref.mk o_9 o_10))] : List api_Arg).length 2), (28, vI x97), (29, vI i99)] (by kernel_rfl) ?_
       refine ops_mem (d := some 48) (an := [.v (vI x101.N)]) (evs := [ld b110 1 (vI x101.N)]) (v := vI x101.N) ⟨by kernel_rfl⟩ (fun w_ hM hS => ⟨w_, ⟨hM.cell 0 rfl rfl, rfl⟩, hM, trivial⟩) ?_
       refine oQ [oF 16, oF 17] [(50, .bool (decide (x101.N < (-1099511627776)))), (46, .bool true), (42, .bool false), (8, vP b110 0), (0, sl A_k k c_k), (4, vP b1 0), (5, vP b2 0), (27, .slice (sa g96) ([(api_Arg.mk o_3 o_4 (api_Ref.mk o_5 o_6)), (api_Arg.mk o_7 o_8 (api_Ref.mk o_9 o_10))] : List api_Arg).length 2), (28, vI x97), (29, vI i99)] (by kernel_rfl) ?_
       refine ops_bool (t := decide (x101.N < (-1099511627776))) (l1 := [(50, .bool true), (46, .bool true), (42, .bool false), (8, vP b110 0), (0, sl A_k k c_k), (4, vP b1 0), (5, vP b2 0), (27, .slice (sa g96) ([(api_Arg.mk o_3 o_4 (api_Ref.mk o_5 o_6)), (api_Arg.mk o_7 o_8 (api_Ref.mk o_9 o_10))] : List api_Arg).length 2), (28, vI x97), (29, vI i99)]) (l2 := [(50, .bool false), (46, .bool true), (42, .bool false), (8, vP b110 0), (0, sl A_k k c_k), (4, vP b1 0), (5, vP b2 0), (27, .slice (sa g96) ([(api_Arg.mk o_3 o_4 (api_Ref.mk o_5 o_6)), (api_Arg.mk o_7 o_8 (api_Ref.mk o_9 o_10))] : List api_Arg).length 2), (28, vI x97), (29, vI i99)]) (fun h => by rw [h]) (fun h => by rw [h]) (fun hc115 => ?_) (fun hc115 => ?_)
       ·
        have hp := cnd_t hc115 hp
        refine oQ [oF 18, oF 19, oF 20, oF 21, oF 22, oF 23] [(56, .bool true), (0, sl A_k k c_k), (4, vP b1 0), (5, vP b2 0), (27, .slice (sa g96) ([(api_Arg.mk o_3 o_4 (api_Ref.mk o_5 o_6)), (api_Arg.mk o_7 o_8 (api_Ref.mk o_9 o_10))] : List api_Arg).length 2), (28, vI x97), (29, vI i99)] (by kernel_rfl) ?_
        refine ops_nil (fin_then (st_true rfl (st_seq (st_region [oF 0] (by rfl) ?_))))
        refine oQ [oF 0] [(6, vI 1)] (by kernel_rfl) ?_
        refine ops_nil (fin_then (st_ret (fin_ret_block (fin_ret_then (fin_ret_then (fin_ret_block (fin_ret_then ?_)))))))
        obtain hq_ := Option.some.inj hp
        subst hq_
        obtain hq_ := hd12 _ rfl
        subst hq_
        have hp : some 1 = some i9001 := hk12
        have hq_ := Option.some.inj hp
        have hr0_ := hq_
        subst hr0_
        refine fin_ret [.tmp 6] [vI 1] rfl rfl (fun w_ hM => (.tmp rfl .nil)) (fun w_ hM => ?_)
        exact ⟨trivial, rfl, hM.pick 5 [4] (by kernel_rfl) (by decide) rfl⟩
       ·
        have hp := cnd_f hc115 hp
        refine oQ [oF 18] [(51, vP b110 1), (50, .bool false), (46, .bool true), (42, .bool false), (0, sl A_k k c_k), (4, vP b1 0), (5, vP b2 0), (27, .slice (sa g96) ([(api_Arg.mk o_3 o_4 (api_Ref.mk o_5 o_6)), (api_Arg.mk o_7 o_8 (api_Ref.mk o_9 o_10))] : List api_Arg).length 2), (28, vI x97), (29, vI i99)] (by kernel_rfl) ?_
        refine ops_mem (d := some 52) (an := [.v (vI x101.N)]) (evs := [ld b110 1 (vI x101.N)]) (v := vI x101.N) ⟨by kernel_rfl⟩ (fun w_ hM hS => ⟨w_, ⟨hM.cell 0 rfl rfl, rfl⟩, hM, trivial⟩) ?_
        refine oQ [oF 20, oF 21, oF 22, oF 23] [(56, .bool (decide (1099511627776 < x101.N))), (0, sl A_k k c_k), (4, vP b1 0), (5, vP b2 0), (27, .slice (sa g96) ([(api_Arg.mk o_3 o_4 (api_Ref.mk o_5 o_6)), (api_Arg.mk o_7 o_8 (api_Ref.mk o_9 o_10))] : List api_Arg).length 2), (28, vI x97), (29, vI i99)] (by kernel_rfl) ?_
        refine ops_nil (fin_then ?_)
        refine st_if (b := decide (1099511627776 < x101.N)) rfl (fun hc116 => ?_) (fun hc116 => ?_)
        ·
         have hp := cnd_t hc116 hp
         refine st_seq (st_region [oF 0] (by rfl) ?_)
         refine oQ [oF 0] [(6, vI 1)] (by kernel_rfl) ?_
         refine ops_nil (fin_then (st_ret (fin_ret_block (fin_ret_then (fin_ret_then (fin_ret_block (fin_ret_then ?_)))))))
         obtain hq_ := Option.some.inj hp
         subst hq_
         obtain hq_ := hd12 _ rfl
         subst hq_
         have hp : some 1 = some i9001 := hk12
         have hq_ := Option.some.inj hp
         have hr0_ := hq_
         subst hr0_
         refine fin_ret [.tmp 6] [vI 1] rfl rfl (fun w_ hM => (.tmp rfl .nil)) (fun w_ hM => ?_)
         exact ⟨trivial, rfl, hM.pick 5 [4] (by kernel_rfl) (by decide) rfl⟩
        ·
         have hp := cnd_f hc116 hp
         refine st_skip (fin_block ?_)
         exact fin_join HJ13 () hp (look_has ⟨rfl, rfl, rfl, rfl, rfl, rfl, trivial⟩) (fun w_ hM => hM.pick 5 [1, 2, 3, 4] (by kernel_rfl) (by decide) rfl)
    ·
     have hp := cnd_f hc100 hp
     refine st_exit (fin_exit_then (fin_exit_then (fin_exit ?_)))
     obtain hq_ := Option.some.inj hp
     subst hq_
     obtain hq_ := hd12 _ rfl
     subst hq_
     have hp : (system_op_j1 o_3 o_4 o_5 o_6 o_7 o_8 o_9 o_10 o_0 o_1 o_2 k s_4 s_3) = some i9001 := hk12
     exact fin_join HJ1 () hp (look_has ⟨rfl, rfl, rfl, trivial⟩) (fun w_ hM => hM.pick 4 [0, 1, 3] (by kernel_rfl) (by decide) rfl)
end Go.Proofs.YtnnhijlgohlaeaaDoor.D
