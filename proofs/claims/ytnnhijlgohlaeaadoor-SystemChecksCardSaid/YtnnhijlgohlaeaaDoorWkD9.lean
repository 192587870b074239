/- The Go functions come to what the plain functions tell. No condition. -/
import Derived.Test.YtnnhijlgohlaeaaDoorProg
import Derived.Test.YtnnhijlgohlaeaaDoorFnD
import Derived.Test.YtnnhijlgohlaeaaDoorWkD8
import Derived.Test.YtnnhijlgohlaeaaDoorEqD
import Derived.Test.YtnnhijlgohlaeaaDoorExMap
namespace Go.Proofs.YtnnhijlgohlaeaaDoor.D
open Go Go.RowKit Go.Proofs.YtnnhijlgohlaeaaDoor.Sx
set_option linter.unusedVariables false
set_option maxHeartbeats 4000000
set_option maxRecDepth 100000
theorem tourref3_opError_ok (w0 w : World) (cs : List Chunk) (F : Nat → Prop) (W : World) (A_k : Option Addr) (c_k : Nat) (k : List api_Kind) (b_has : Nat) (es_has : Array MapEntry) (ck_has : Nat) (has : List (Int × Bool)) (o_0 : Int) (o_1 : Int) (o_2 : Int) (o_3 : Bool) (o_4 : Int) (o_5 : Int) (o_6 : Int) (o_7 : Bool) (o_8 : Int) (o_9 : Int) (o_10 : Int) (hM0 : Mem w0 (.obj b_has (.map es_has ck_has) :: Fz F W :: cs) w) (h_k : RdS R_api_Kind F W A_k c_k k) (h_has : MapOK (fun x_ : Int => Value.int .i64 x_) Rep.bool false F W has es_has ck_has) (i9001 : Int) (hp : tourref3_opError k has o_0 o_1 o_2 o_3 o_4 o_5 o_6 o_7 o_8 o_9 o_10 = some i9001) : Calls Tryd.prog 96 #[sl A_k k c_k, .map (some b_has), .agg #[vI o_0, vI o_1, vI o_2, .bool o_3, vI o_4, vI o_5, vI o_6, .bool o_7, vI o_8, vI o_9, vI o_10]] w fun e w' => ∃ (es9002 : Array MapEntry), ∃ (ck9003 : Nat), ((MapOK (fun x_ : Int => Value.int .i64 x_) Rep.bool false F W has es9002 ck9003)) ∧ e = .returned (vI i9001) ∧ Mem w0 (.obj b_has (.map es9002 ck9003) :: Fz F W :: cs) w' := by
 unfold tourref3_opError at hp
 refine sx_calls Tryd.func96 rfl (n := 190) (by kernel_rfl) (l := [(0, sl A_k k c_k), (1, .map (some b_has)), (2, .agg #[vI o_0, vI o_1, vI o_2, .bool o_3, vI o_4, vI o_5, vI o_6, .bool o_7, vI o_8, vI o_9, vI o_10])]) rfl (by rfl) hM0 ?_
 refine st_seq (st_region [oF 0, oF 1, oF 2] (by rfl) ?_)
 refine ops_newB (d := some 3) [sl A_k k c_k] 22 (fun b1 => ⟨by kernel_rfl⟩) (fun w_ hM hS => trivial) (fun b1 => ?_)
 refine ops_newB (d := some 5) [vI o_0, vI o_1, vI o_2, .bool o_3, vI o_4, vI o_5, vI o_6, .bool o_7, vI o_8, vI o_9, vI o_10] 170 (fun b2 => ⟨by kernel_rfl⟩) (fun w_ hM hS => trivial) (fun b2 => ?_)
 refine oQ [oF 2] [(5, vP b2 0), (3, vP b1 0), (1, .map (some b_has))] (by kernel_rfl) ?_
 refine ops_nil (fin_then (st_seq (st_seq (st_region [oF 0, oF 1, oF 2, oF 3, oF 4, oF 5, oF 6, oF 7] (by rfl) ?_))))
 refine oQ [oF 0] [(19, vP b2 0), (5, vP b2 0), (3, vP b1 0), (1, .map (some b_has))] (by kernel_rfl) ?_
 refine ops_mem (d := some 20) (an := [.v (vI o_0)]) (evs := [ld b2 0 (vI o_0)]) (v := vI o_0) ⟨by kernel_rfl⟩ (fun w_ hM hS => ⟨w_, ⟨hM.cell 0 rfl rfl, rfl⟩, hM, trivial⟩) ?_
 refine oQ [oF 2, oF 3] [(22, .bool (decide (o_0 < 0))), (5, vP b2 0), (3, vP b1 0), (1, .map (some b_has))] (by kernel_rfl) ?_
 refine ops_bool (t := decide (o_0 < 0)) (l1 := [(22, .bool true), (5, vP b2 0), (3, vP b1 0), (1, .map (some b_has))]) (l2 := [(22, .bool false), (5, vP b2 0), (3, vP b1 0), (1, .map (some b_has))]) (fun h => by rw [h]) (fun h => by rw [h]) (fun hc3 => ?_) (fun hc3 => ?_)
 ·
  have hp := cnd_t hc3 hp
  refine oQ [oF 4, oF 5, oF 6, oF 7] [(26, .bool true), (5, vP b2 0), (3, vP b1 0), (1, .map (some b_has))] (by kernel_rfl) ?_
  refine ops_nil (fin_then (st_true rfl (st_seq (st_region [oF 0] (by rfl) ?_))))
  refine oQ [oF 0] [(6, vI 1)] (by kernel_rfl) ?_
  refine ops_nil (fin_then (st_ret (fin_ret_then ?_)))
  have hq_ := Option.some.inj hp
  have hr0_ := hq_
  subst hr0_
  refine fin_ret [.tmp 6] [vI 1] rfl rfl (fun w_ hM => (.tmp rfl .nil)) (fun w_ hM => ?_)
  exact ⟨es_has, ck_has, h_has, rfl, hM.pick 4 [2, 3] (by kernel_rfl) (by decide) rfl⟩
 ·
  have hp := cnd_f hc3 hp
  refine oQ [oF 4] [(23, vP b2 0), (22, .bool false), (5, vP b2 0), (3, vP b1 0), (1, .map (some b_has))] (by kernel_rfl) ?_
  refine ops_mem (d := some 24) (an := [.v (vI o_0)]) (evs := [ld b2 0 (vI o_0)]) (v := vI o_0) ⟨by kernel_rfl⟩ (fun w_ hM hS => ⟨w_, ⟨hM.cell 0 rfl rfl, rfl⟩, hM, trivial⟩) ?_
  refine oQ [oF 6, oF 7] [(26, .bool (decide (12 < o_0))), (5, vP b2 0), (3, vP b1 0), (1, .map (some b_has))] (by kernel_rfl) ?_
  refine ops_nil (fin_then ?_)
  refine st_if (b := decide (12 < o_0)) rfl (fun hc4 => ?_) (fun hc4 => ?_)
  ·
   have hp := cnd_t hc4 hp
   refine st_seq (st_region [oF 0] (by rfl) ?_)
   refine oQ [oF 0] [(6, vI 1)] (by kernel_rfl) ?_
   refine ops_nil (fin_then (st_ret (fin_ret_then ?_)))
   have hq_ := Option.some.inj hp
   have hr0_ := hq_
   subst hr0_
   refine fin_ret [.tmp 6] [vI 1] rfl rfl (fun w_ hM => (.tmp rfl .nil)) (fun w_ hM => ?_)
   exact ⟨es_has, ck_has, h_has, rfl, hM.pick 4 [2, 3] (by kernel_rfl) (by decide) rfl⟩
  ·
   have hp := cnd_f hc4 hp
   refine st_skip (fin_then (st_seq (st_region [oF 0, oF 1, oF 2, oF 3, oF 4, oF 5, oF 6, oF 7, oF 8, oF 9] (by rfl) ?_)))
   refine oQ [oF 0] [(28, vP b2 0), (5, vP b2 0), (3, vP b1 0), (1, .map (some b_has))] (by kernel_rfl) ?_
   refine ops_mem (d := some 29) (an := [.v (vI o_0)]) (evs := [ld b2 0 (vI o_0)]) (v := vI o_0) ⟨by kernel_rfl⟩ (fun w_ hM hS => ⟨w_, ⟨hM.cell 0 rfl rfl, rfl⟩, hM, trivial⟩) ?_
   obtain ⟨x5, x6, x7, hv8, hp⟩ := obind3 hp
   refine ops_callI (σ := Unit) (d := some 30) (f := 138) (args := #[vI o_0]) (v := (fun _ => .tuple #[.bool x5, .bool x6, .bool x7])) (I := (fun _ => True)) (M' := (fun _ => Mem w0 (.blk b2 [vI o_0, vI o_1, vI o_2, .bool o_3, vI o_4, vI o_5, vI o_6, .bool o_7, vI o_8, vI o_9, vI o_10] 170 :: .blk b1 [sl A_k k c_k] 22 :: .obj b_has (.map es_has ck_has) :: Fz F W :: cs))) ⟨by kernel_rfl⟩ (fun w_ hM hS => (tourref3_uses_ok w0 w_ (.blk b2 [vI o_0, vI o_1, vI o_2, .bool o_3, vI o_4, vI o_5, vI o_6, .bool o_7, vI o_8, vI o_9, vI o_10] 170 :: .blk b1 [sl A_k k c_k] 22 :: .obj b_has (.map es_has ck_has) :: cs) F W o_0 (hM.pick 4 [3, 0, 1, 2] (by kernel_rfl) (by decide) rfl)  x5 x6 x7 hv8).mono (by rintro e w' ⟨-, rfl, h'⟩; have h' : Mem w0 (.blk b2 [vI o_0, vI o_1, vI o_2, .bool o_3, vI o_4, vI o_5, vI o_6, .bool o_7, vI o_8, vI o_9, vI o_10] 170 :: .blk b1 [sl A_k k c_k] 22 :: .obj b_has (.map es_has ck_has) :: Fz F W :: cs) w' := (h'.pick 4 [1, 2, 3, 0] (by kernel_rfl) (by decide) rfl); exact ⟨(), trivial, rfl, h', trivial⟩)) ?_
   rintro _ -
   refine oQ [oF 3, oF 4, oF 5, oF 6, oF 7, oF 8, oF 9] [(9, .bool x7), (8, .bool x6), (7, .bool x5), (5, vP b2 0), (3, vP b1 0), (1, .map (some b_has))] (by kernel_rfl) ?_
   refine ops_nil (fin_then (st_seq (st_region [oF 0, oF 1] (by rfl) ?_)))
   refine oQ [oF 0, oF 1] [(10, .func (.func 139) #[] #[vP b1 0]), (9, .bool x7), (8, .bool x6), (7, .bool x5), (5, vP b2 0), (3, vP b1 0), (1, .map (some b_has))] (by kernel_rfl) ?_
   refine ops_nil (fin_then (st_seq (st_region [oF 0, oF 1, oF 2, oF 3, oF 4, oF 5] (by rfl) ?_)))
   refine oQ [oF 0] [(35, vP b2 3), (10, .func (.func 139) #[] #[vP b1 0]), (9, .bool x7), (8, .bool x6), (7, .bool x5), (5, vP b2 0), (3, vP b1 0), (1, .map (some b_has))] (by kernel_rfl) ?_
   refine ops_mem (d := some 36) (an := [.v (.bool o_3), .v (vI o_4), .v (vI o_5), .v (vI o_6)]) (evs := [ld b2 3 (.bool o_3), ld b2 4 (vI o_4), ld b2 5 (vI o_5), ld b2 6 (vI o_6)]) (v := .agg #[.bool o_3, vI o_4, vI o_5, vI o_6]) ⟨by kernel_rfl⟩ (fun w_ hM hS => ⟨w_, ⟨hM.cell 0 rfl rfl, hM.cell 0 rfl rfl, hM.cell 0 rfl rfl, hM.cell 0 rfl rfl, rfl⟩, hM, trivial⟩) ?_
   refine oQ [oF 2] [(37, vP b2 7), (36, .agg #[.bool o_3, vI o_4, vI o_5, vI o_6]), (10, .func (.func 139) #[] #[vP b1 0]), (9, .bool x7), (8, .bool x6), (7, .bool x5), (5, vP b2 0), (3, vP b1 0), (1, .map (some b_has))] (by kernel_rfl) ?_
   refine ops_mem (d := some 38) (an := [.v (.bool o_7), .v (vI o_8), .v (vI o_9), .v (vI o_10)]) (evs := [ld b2 7 (.bool o_7), ld b2 8 (vI o_8), ld b2 9 (vI o_9), ld b2 10 (vI o_10)]) (v := .agg #[.bool o_7, vI o_8, vI o_9, vI o_10]) ⟨by kernel_rfl⟩ (fun w_ hM hS => ⟨w_, ⟨hM.cell 0 rfl rfl, hM.cell 0 rfl rfl, hM.cell 0 rfl rfl, hM.cell 0 rfl rfl, rfl⟩, hM, trivial⟩) ?_
   have h9 : RepL R_api_Arg F W ([(api_Arg.mk o_3 o_4 (api_Ref.mk o_5 o_6)), (api_Arg.mk o_7 o_8 (api_Ref.mk o_9 o_10))] : List api_Arg) ([.bool o_3, vI o_4, vI o_5, vI o_6, .bool o_7, vI o_8, vI o_9, vI o_10]) := (RepL.cons (R := R_api_Arg) (F := F) (w := W) (vs := [.bool o_3, vI o_4, vI o_5, vI o_6]) (ys := [.bool o_7, vI o_8, vI o_9, vI o_10]) (enc_api_Arg) (RepL.cons (R := R_api_Arg) (F := F) (w := W) (vs := [.bool o_7, vI o_8, vI o_9, vI o_10]) (ys := []) (enc_api_Arg) RepL.nil))
   refine ops_new (d := some 39) (o := .cells ([.bool o_3, vI o_4, vI o_5, vI o_6, .bool o_7, vI o_8, vI o_9, vI o_10] : List Value).toArray 168) (v := fun g10 => .slice (sa g10) ([(api_Arg.mk o_3 o_4 (api_Ref.mk o_5 o_6)), (api_Arg.mk o_7 o_8 (api_Ref.mk o_9 o_10))] : List api_Arg).length 2) (M' := fun g10 => Mem w0 (orow (sa g10) ([(api_Arg.mk o_3 o_4 (api_Ref.mk o_5 o_6)), (api_Arg.mk o_7 o_8 (api_Ref.mk o_9 o_10))] : List api_Arg).length 2 168 4 ([.bool o_3, vI o_4, vI o_5, vI o_6, .bool o_7, vI o_8, vI o_9, vI o_10]) :: .blk b2 [vI o_0, vI o_1, vI o_2, .bool o_3, vI o_4, vI o_5, vI o_6, .bool o_7, vI o_8, vI o_9, vI o_10] 170 :: .blk b1 [sl A_k k c_k] 22 :: .obj b_has (.map es_has ck_has) :: Fz F W :: cs)) (fun g10 => ⟨by kernel_rfl⟩) (fun w_ hM hS => ⟨hM.onew [.bool o_3, vI o_4, vI o_5, vI o_6, .bool o_7, vI o_8, vI o_9, vI o_10] 168 2 4 rfl (by decide), trivial⟩) (fun g10 => ?_)
   refine oQ [oF 5] [(11, .slice (sa g10) ([(api_Arg.mk o_3 o_4 (api_Ref.mk o_5 o_6)), (api_Arg.mk o_7 o_8 (api_Ref.mk o_9 o_10))] : List api_Arg).length 2), (10, .func (.func 139) #[] #[vP b1 0]), (9, .bool x7), (8, .bool x6), (7, .bool x5), (5, vP b2 0), (3, vP b1 0), (1, .map (some b_has))] (by kernel_rfl) ?_
   refine ops_nil (fin_then ?_)
   refine st_join1 (σ := Unit) (L := fun _ => [(1, .map (some b_has)), (3, vP b1 0), (5, vP b2 0), (7, .bool x5), (8, .bool x6), (9, .bool x7), (10, .func (.func 139) #[] #[vP b1 0]), (11, .slice (sa g10) ([(api_Arg.mk o_3 o_4 (api_Ref.mk o_5 o_6)), (api_Arg.mk o_7 o_8 (api_Ref.mk o_9 o_10))] : List api_Arg).length 2)]) (N := fun _ => Mem w0 (.obj b_has (.map es_has ck_has) :: .blk b1 [sl A_k k c_k] 22 :: .blk b2 [vI o_0, vI o_1, vI o_2, .bool o_3, vI o_4, vI o_5, vI o_6, .bool o_7, vI o_8, vI o_9, vI o_10] 170 :: orow (sa g10) ([(api_Arg.mk o_3 o_4 (api_Ref.mk o_5 o_6)), (api_Arg.mk o_7 o_8 (api_Ref.mk o_9 o_10))] : List api_Arg).length 2 168 4 ([.bool o_3, vI o_4, vI o_5, vI o_6, .bool o_7, vI o_8, vI o_9, vI o_10]) :: Fz F W :: cs)) (I := fun _ => ((tourref3_opError_j1 o_3 o_4 o_5 o_6 o_7 o_8 o_9 o_10 x7 x5 x6 o_1 o_2 k has) = some i9001) ∧ (RdS R_api_Kind F W A_k c_k k)) ?_ ?_
   ·
    rintro _ ⟨hp, h11⟩
    unfold tourref3_opError_j1 at hp
    refine st_seq (st_region [oF 0, oF 1, oF 2] (by rfl) ?_)
    refine oQ [oF 0] [(69, .agg #[.bool false, vI 0, vI 0, vI 0]), (1, .map (some b_has)), (3, vP b1 0), (5, vP b2 0), (7, .bool x5), (8, .bool x6), (9, .bool x7), (10, .func (.func 139) #[] #[vP b1 0]), (11, .slice (sa g10) ([(api_Arg.mk o_3 o_4 (api_Ref.mk o_5 o_6)), (api_Arg.mk o_7 o_8 (api_Ref.mk o_9 o_10))] : List api_Arg).length 2)] (by kernel_rfl) ?_
    refine ops_newB (d := some 14) [.bool false, vI 0, vI 0, vI 0] 168 (fun b12 => ⟨by kernel_rfl⟩) (fun w_ hM hS => trivial) (fun b12 => ?_)
    refine ops_store (an := []) (evs := [sr b12 0 (.bool false), sr b12 1 (vI 0), sr b12 2 (vI 0), sr b12 3 (vI 0)]) ⟨by kernel_rfl⟩ (fun w_ hM hS => let ⟨w', he, h'⟩ := hM.evs_stores [.bool false, vI 0, vI 0, vI 0] 0 rfl 0 (Nat.le_of_ble_eq_true rfl); ⟨w', he, h', trivial⟩) ?_
    refine ops_nil (fin_then ?_)
    refine st_join1 (σ := Unit) (L := fun _ => [(1, .map (some b_has)), (3, vP b1 0), (5, vP b2 0), (7, .bool x5), (8, .bool x6), (9, .bool x7), (10, .func (.func 139) #[] #[vP b1 0]), (11, .slice (sa g10) ([(api_Arg.mk o_3 o_4 (api_Ref.mk o_5 o_6)), (api_Arg.mk o_7 o_8 (api_Ref.mk o_9 o_10))] : List api_Arg).length 2), (14, vP b12 0)]) (N := fun _ => Mem w0 (.obj b_has (.map es_has ck_has) :: .blk b1 [sl A_k k c_k] 22 :: .blk b2 [vI o_0, vI o_1, vI o_2, .bool o_3, vI o_4, vI o_5, vI o_6, .bool o_7, vI o_8, vI o_9, vI o_10] 170 :: orow (sa g10) ([(api_Arg.mk o_3 o_4 (api_Ref.mk o_5 o_6)), (api_Arg.mk o_7 o_8 (api_Ref.mk o_9 o_10))] : List api_Arg).length 2 168 4 ([.bool o_3, vI o_4, vI o_5, vI o_6, .bool o_7, vI o_8, vI o_9, vI o_10]) :: .blk b12 [.bool false, vI 0, vI 0, vI 0] 168 :: Fz F W :: cs)) (I := fun _ => ((tourref3_opError_j2 x7 o_7 o_8 o_9 o_10 x5 x6 o_1 o_2 k has o_3 o_4 o_5 o_6) = some i9001)) ?_ ?_
    ·
     rintro _ hp
     unfold tourref3_opError_j2 at hp
     refine st_join1 (σ := Bool) (L := fun x_ => match x_ with | t13 => [(1, .map (some b_has)), (3, vP b1 0), (5, vP b2 0), (7, .bool x5), (8, .bool t13), (10, .func (.func 139) #[] #[vP b1 0]), (11, .slice (sa g10) ([(api_Arg.mk o_3 o_4 (api_Ref.mk o_5 o_6)), (api_Arg.mk o_7 o_8 (api_Ref.mk o_9 o_10))] : List api_Arg).length 2)]) (N := fun x_ => match x_ with | t13 => Mem w0 (.obj b_has (.map es_has ck_has) :: .blk b1 [sl A_k k c_k] 22 :: .blk b2 [vI o_0, vI o_1, vI o_2, .bool o_3, vI o_4, vI o_5, vI o_6, .bool o_7, vI o_8, vI o_9, vI o_10] 170 :: orow (sa g10) ([(api_Arg.mk o_3 o_4 (api_Ref.mk o_5 o_6)), (api_Arg.mk o_7 o_8 (api_Ref.mk o_9 o_10))] : List api_Arg).length 2 168 4 ([.bool o_3, vI o_4, vI o_5, vI o_6, .bool o_7, vI o_8, vI o_9, vI o_10]) :: Fz F W :: cs)) (I := fun x_ => match x_ with | t13 => ((tourref3_opError_j3 x5 o_1 o_2 k has o_3 o_4 o_5 o_6 o_7 o_8 o_9 o_10) t13 = some i9001)) ?_ ?_
     ·
      rintro t13 hp
      unfold tourref3_opError_j3 at hp
      refine st_join1 (σ := Bool) (L := fun x_ => match x_ with | t14 => [(1, .map (some b_has)), (5, vP b2 0), (7, .bool t14), (11, .slice (sa g10) ([(api_Arg.mk o_3 o_4 (api_Ref.mk o_5 o_6)), (api_Arg.mk o_7 o_8 (api_Ref.mk o_9 o_10))] : List api_Arg).length 2)]) (N := fun x_ => match x_ with | t14 => Mem w0 (.obj b_has (.map es_has ck_has) :: .blk b2 [vI o_0, vI o_1, vI o_2, .bool o_3, vI o_4, vI o_5, vI o_6, .bool o_7, vI o_8, vI o_9, vI o_10] 170 :: orow (sa g10) ([(api_Arg.mk o_3 o_4 (api_Ref.mk o_5 o_6)), (api_Arg.mk o_7 o_8 (api_Ref.mk o_9 o_10))] : List api_Arg).length 2 168 4 ([.bool o_3, vI o_4, vI o_5, vI o_6, .bool o_7, vI o_8, vI o_9, vI o_10]) :: Fz F W :: cs)) (I := fun x_ => match x_ with | t14 => ((tourref3_opError_j4 has o_1 o_3 o_4 o_5 o_6 o_7 o_8 o_9 o_10) t14 = some i9001)) ?_ ?_
      ·
       rintro t14 hp
       unfold tourref3_opError_j4 at hp
       refine st_join1 (σ := Unit) (L := fun _ => [(1, .map (some b_has)), (11, .slice (sa g10) ([(api_Arg.mk o_3 o_4 (api_Ref.mk o_5 o_6)), (api_Arg.mk o_7 o_8 (api_Ref.mk o_9 o_10))] : List api_Arg).length 2)]) (N := fun _ => Mem w0 (.obj b_has (.map es_has ck_has) :: orow (sa g10) ([(api_Arg.mk o_3 o_4 (api_Ref.mk o_5 o_6)), (api_Arg.mk o_7 o_8 (api_Ref.mk o_9 o_10))] : List api_Arg).length 2 168 4 ([.bool o_3, vI o_4, vI o_5, vI o_6, .bool o_7, vI o_8, vI o_9, vI o_10]) :: Fz F W :: cs)) (I := fun _ => ((tourref3_opError_j5 o_3 o_4 o_5 o_6 o_7 o_8 o_9 o_10 has) = some i9001)) ?_ ?_
       ·
        rintro _ hp
        unfold tourref3_opError_j5 at hp
        refine st_join1 (σ := Unit) (L := fun _ => []) (N := fun _ => Mem w0 (.obj b_has (.map es_has ck_has) :: Fz F W :: cs)) (I := fun _ => (tourref3_opError_j6 = some i9001)) ?_ ?_
        ·
         rintro _ hp
         unfold tourref3_opError_j6 at hp
         refine st_seq (st_region [oF 0] (by rfl) ?_)
         refine oQ [oF 0] [(6, vI 0)] (by kernel_rfl) ?_
         refine ops_nil (fin_then (st_ret ?_))
         have hq_ := Option.some.inj hp
         have hr0_ := hq_
         subst hr0_
         refine fin_ret [.tmp 6] [vI 0] rfl rfl (fun w_ hM => (.tmp rfl .nil)) (fun w_ hM => ?_)
         exact ⟨es_has, ck_has, h_has, rfl, hM⟩
        ·
         intro HJ6
         refine st_seq (st_seq (st_region [oF 0, oF 1, oF 2] (by rfl) ?_))
         refine oQ [oF 0, oF 1, oF 2] [(165, vI 0), (164, vI (([(api_Arg.mk o_3 o_4 (api_Ref.mk o_5 o_6)), (api_Arg.mk o_7 o_8 (api_Ref.mk o_9 o_10))] : List api_Arg).length : Int)), (163, .slice (sa g10) ([(api_Arg.mk o_3 o_4 (api_Ref.mk o_5 o_6)), (api_Arg.mk o_7 o_8 (api_Ref.mk o_9 o_10))] : List api_Arg).length 2), (1, .map (some b_has))] (by kernel_rfl) ?_
         obtain ⟨x15, hv16, hp⟩ := obind hp
         refine ops_conv (l' := [(165, vI 0), (164, vI x15), (163, .slice (sa g10) ([(api_Arg.mk o_3 o_4 (api_Ref.mk o_5 o_6)), (api_Arg.mk o_7 o_8 (api_Ref.mk o_9 o_10))] : List api_Arg).length 2), (1, .map (some b_has))]) (by rw [← Option.some.inj hv16]) (fun _ h => h) ?_
         refine ops_nil (fin_then (st_block ?_))
         obtain ⟨r7, hl7, hk7⟩ := obind hp
         refine st_loopP (σ := Int) (ρ := (Int ⊕ Unit)) (γ := Unit) hl7 () (fun s_ g_ => match s_, g_ with | i17, _ => [(1, .map (some b_has)), (163, .slice (sa g10) ([(api_Arg.mk o_3 o_4 (api_Ref.mk o_5 o_6)), (api_Arg.mk o_7 o_8 (api_Ref.mk o_9 o_10))] : List api_Arg).length 2), (164, vI x15), (165, vI i17)]) (fun s_ g_ => match s_, g_ with | i17, _ => Mem w0 (.obj b_has (.map es_has ck_has) :: orow (sa g10) ([(api_Arg.mk o_3 o_4 (api_Ref.mk o_5 o_6)), (api_Arg.mk o_7 o_8 (api_Ref.mk o_9 o_10))] : List api_Arg).length 2 168 4 ([.bool o_3, vI o_4, vI o_5, vI o_6, .bool o_7, vI o_8, vI o_9, vI o_10]) :: Fz F W :: cs)) (fun s_ g_ => match s_, g_ with | i17, _ => True) trivial (look_has ⟨rfl, rfl, rfl, rfl, trivial⟩) (fun w_ hM => hM) ?_
         rintro i17 _ o7 - hs_ hd7
         have hp : (tourref3_opError_l7 x15 o_3 o_4 o_5 o_6 o_7 o_8 o_9 o_10 has) i17 = some o7 := hs_
         clear hs_
         unfold tourref3_opError_l7 at hp
         refine st_seq (st_region [oF 0] (by rfl) ?_)
         refine oQ [oF 0] [(166, .bool (decide (i17 < x15))), (1, .map (some b_has)), (163, .slice (sa g10) ([(api_Arg.mk o_3 o_4 (api_Ref.mk o_5 o_6)), (api_Arg.mk o_7 o_8 (api_Ref.mk o_9 o_10))] : List api_Arg).length 2), (164, vI x15), (165, vI i17)] (by kernel_rfl) ?_
         refine ops_nil (fin_then (st_seq ?_))
         refine st_if (b := decide (i17 < x15)) rfl (fun hc18 => ?_) (fun hc18 => ?_)
         ·
          have hp := cnd_t hc18 hp
          refine st_skip (fin_then ?_)
          refine st_join1 (σ := Unit) (L := fun _ => [(1, .map (some b_has)), (163, .slice (sa g10) ([(api_Arg.mk o_3 o_4 (api_Ref.mk o_5 o_6)), (api_Arg.mk o_7 o_8 (api_Ref.mk o_9 o_10))] : List api_Arg).length 2), (164, vI x15), (165, vI i17)]) (N := fun _ => Mem w0 (.obj b_has (.map es_has ck_has) :: orow (sa g10) ([(api_Arg.mk o_3 o_4 (api_Ref.mk o_5 o_6)), (api_Arg.mk o_7 o_8 (api_Ref.mk o_9 o_10))] : List api_Arg).length 2 168 4 ([.bool o_3, vI o_4, vI o_5, vI o_6, .bool o_7, vI o_8, vI o_9, vI o_10]) :: Fz F W :: cs)) (I := fun _ => ((tourref3_opError_j8 i17) = some o7)) ?_ ?_
          ·
           rintro _ hp
           unfold tourref3_opError_j8 at hp
           refine st_region [oF 0, oF 1] (by rfl) ?_
           refine oQ [oF 0, oF 1] [(165, vI (IntKind.i64.wrap (i17 + 1))), (1, .map (some b_has)), (163, .slice (sa g10) ([(api_Arg.mk o_3 o_4 (api_Ref.mk o_5 o_6)), (api_Arg.mk o_7 o_8 (api_Ref.mk o_9 o_10))] : List api_Arg).length 2), (164, vI x15)] (by kernel_rfl) ?_
           refine ops_nil ?_
           exact fin_again (IntKind.i64.wrap (i17 + 1)) () (Option.some.inj hp).symm trivial (look_has ⟨rfl, rfl, rfl, rfl, trivial⟩) (fun w_ hM => hM)
          ·
           intro HJ8
           refine st_seq (st_block (st_seq (st_region [oF 0, oF 1, oF 2, oF 3] (by rfl) ?_)))
           obtain ⟨x19, hv20, hp⟩ := obind hp
           obtain ⟨m21, hm22, hx23⟩ := idx_some hv20
           have hl26 := (List.getElem?_eq_some_iff.1 hx23).1
           obtain ⟨vs24, hr25, hq27⟩ := h9.at_ m21 x19 hx23
           obtain rfl := dec_api_Arg hr25
           refine ops_val (op := (.indexAddr 221 (.tmp 163) (.tmp 165))) (d := some 167) (v := vP g10 (m21 * 4)) ⟨by kernel_rfl⟩ (run_indexRow Tryd.underlying221 (z := 4) (by kernel_rfl) rfl rfl hm22 hl26 rfl) ?_
           refine ops_mem (d := some 168) (an := [.v (.bool x19.Has), .v (vI x19.N), .v (vI x19.Ref.Kind), .v (vI x19.Ref.Field)]) (evs := [.load ⟨g10, m21 * 4, none⟩ (.bool x19.Has), .load ⟨g10, m21 * 4 + 1, none⟩ (vI x19.N), .load ⟨g10, m21 * 4 + 2, none⟩ (vI x19.Ref.Kind), .load ⟨g10, m21 * 4 + 3, none⟩ (vI x19.Ref.Field)]) (v := .agg #[.bool x19.Has, vI x19.N, vI x19.Ref.Kind, vI x19.Ref.Field]) ⟨by kernel_rfl⟩ (fun w_ hM hS => ⟨w_, ⟨hM.ocell 1 rfl (hq27 0 _ rfl), hM.ocell 1 rfl (hq27 1 _ rfl), hM.ocell 1 rfl (hq27 2 _ rfl), hM.ocell 1 rfl (hq27 3 _ rfl), rfl⟩, hM, trivial⟩) ?_
           refine ops_newB (d := some 18) [.bool false, vI 0, vI 0, vI 0] 168 (fun b28 => ⟨by kernel_rfl⟩) (fun w_ hM hS => trivial) (fun b28 => ?_)
           refine ops_store (an := []) (evs := [sr b28 0 (.bool x19.Has), sr b28 1 (vI x19.N), sr b28 2 (vI x19.Ref.Kind), sr b28 3 (vI x19.Ref.Field)]) ⟨by kernel_rfl⟩ (fun w_ hM hS => let ⟨w', he, h'⟩ := hM.evs_stores [.bool x19.Has, vI x19.N, vI x19.Ref.Kind, vI x19.Ref.Field] 0 rfl 0 (Nat.le_of_ble_eq_true rfl); ⟨w', he, h', trivial⟩) ?_
           refine ops_nil (fin_then (st_seq (st_region [oF 0, oF 1, oF 2, oF 3, oF 4, oF 5, oF 6, oF 7, oF 8, oF 9, oF 10, oF 11, oF 12, oF 13, oF 14, oF 15, oF 16, oF 17, oF 18, oF 19] (by rfl) ?_)))
           refine oQ [oF 0] [(169, vP b28 0), (18, vP b28 0), (1, .map (some b_has)), (163, .slice (sa g10) ([(api_Arg.mk o_3 o_4 (api_Ref.mk o_5 o_6)), (api_Arg.mk o_7 o_8 (api_Ref.mk o_9 o_10))] : List api_Arg).length 2), (164, vI x15), (165, vI i17)] (by kernel_rfl) ?_
           refine ops_mem (d := some 170) (an := [.v (.bool x19.Has)]) (evs := [ld b28 0 (.bool x19.Has)]) (v := .bool x19.Has) ⟨by kernel_rfl⟩ (fun w_ hM hS => ⟨w_, ⟨hM.cell 0 rfl rfl, rfl⟩, hM, trivial⟩) ?_
           refine oQ [oF 2] [(171, .bool x19.Has), (18, vP b28 0), (1, .map (some b_has)), (163, .slice (sa g10) ([(api_Arg.mk o_3 o_4 (api_Ref.mk o_5 o_6)), (api_Arg.mk o_7 o_8 (api_Ref.mk o_9 o_10))] : List api_Arg).length 2), (164, vI x15), (165, vI i17)] (by kernel_rfl) ?_
           refine ops_bool (t := x19.Has) (l1 := [(171, .bool true), (18, vP b28 0), (1, .map (some b_has)), (163, .slice (sa g10) ([(api_Arg.mk o_3 o_4 (api_Ref.mk o_5 o_6)), (api_Arg.mk o_7 o_8 (api_Ref.mk o_9 o_10))] : List api_Arg).length 2), (164, vI x15), (165, vI i17)]) (l2 := [(171, .bool false), (18, vP b28 0), (1, .map (some b_has)), (163, .slice (sa g10) ([(api_Arg.mk o_3 o_4 (api_Ref.mk o_5 o_6)), (api_Arg.mk o_7 o_8 (api_Ref.mk o_9 o_10))] : List api_Arg).length 2), (164, vI x15), (165, vI i17)]) (fun h => by rw [h]) (fun h => by rw [h]) (fun hc29 => ?_) (fun hc29 => ?_)
           ·
            have hp := cnd_t hc29 hp
            refine oQ [oF 3, oF 4, oF 5] [(174, vP b28 2), (172, .map (some b_has)), (171, .bool true), (18, vP b28 0), (1, .map (some b_has)), (163, .slice (sa g10) ([(api_Arg.mk o_3 o_4 (api_Ref.mk o_5 o_6)), (api_Arg.mk o_7 o_8 (api_Ref.mk o_9 o_10))] : List api_Arg).length 2), (164, vI x15), (165, vI i17)] (by kernel_rfl) ?_
            refine ops_mem (d := some 175) (an := [.v (vI x19.Ref.Kind)]) (evs := [ld b28 2 (vI x19.Ref.Kind)]) (v := vI x19.Ref.Kind) ⟨by kernel_rfl⟩ (fun w_ hM hS => ⟨w_, ⟨hM.cell 0 rfl rfl, rfl⟩, hM, trivial⟩) ?_
            refine oQ [oF 7] [(176, vI (IntKind.i64.wrap (200 + x19.Ref.Kind))), (172, .map (some b_has)), (171, .bool true), (18, vP b28 0), (1, .map (some b_has)), (163, .slice (sa g10) ([(api_Arg.mk o_3 o_4 (api_Ref.mk o_5 o_6)), (api_Arg.mk o_7 o_8 (api_Ref.mk o_9 o_10))] : List api_Arg).length 2), (164, vI x15), (165, vI i17)] (by kernel_rfl) ?_
            obtain ⟨x30, hv31, hp⟩ := obind hp
            obtain ⟨vs32, hr33, hrun34⟩ := h_has.get (KeyLaw.int Tryd.underlying3) Tryd.underlying181 (IntKind.i64.wrap (200 + x19.Ref.Kind)) false (rfl) (fun u_ => Tryd.zeroValue4 u_)
            have hr33 : Rep.bool.rd F W x30 vs32 := by rw [← Option.some.inj hv31]; exact hr33
            obtain rfl := hr33
            refine ops_law (op := (.lookup 181 (.tmp 172) (.tmp 176) false)) (d := some 177) (σ := Unit) (v := fun _ => .bool x30) (M' := fun _ => Mem w0 (.blk b28 [.bool x19.Has, vI x19.N, vI x19.Ref.Kind, vI x19.Ref.Field] 168 :: .obj b_has (.map es_has ck_has) :: orow (sa g10) ([(api_Arg.mk o_3 o_4 (api_Ref.mk o_5 o_6)), (api_Arg.mk o_7 o_8 (api_Ref.mk o_9 o_10))] : List api_Arg).length 2 168 4 ([.bool o_3, vI o_4, vI o_5, vI o_6, .bool o_7, vI o_8, vI o_9, vI o_10]) :: Fz F W :: cs)) ⟨by kernel_rfl⟩ (fun o_ w_ ho_ hM hS => ⟨(), w_, run_lookupV rfl rfl (hrun34 false b_has w_ (hM.mapAt 1 rfl)) o_ ho_, hM, trivial⟩) (fun _ => ?_)
            refine oQ [oF 9, oF 10, oF 11] [(180, .bool (!x30)), (18, vP b28 0), (1, .map (some b_has)), (163, .slice (sa g10) ([(api_Arg.mk o_3 o_4 (api_Ref.mk o_5 o_6)), (api_Arg.mk o_7 o_8 (api_Ref.mk o_9 o_10))] : List api_Arg).length 2), (164, vI x15), (165, vI i17)] (by kernel_rfl) ?_
            refine ops_bool (t := !x30) (l1 := [(180, .bool true), (18, vP b28 0), (1, .map (some b_has)), (163, .slice (sa g10) ([(api_Arg.mk o_3 o_4 (api_Ref.mk o_5 o_6)), (api_Arg.mk o_7 o_8 (api_Ref.mk o_9 o_10))] : List api_Arg).length 2), (164, vI x15), (165, vI i17)]) (l2 := [(180, .bool false), (18, vP b28 0), (1, .map (some b_has)), (163, .slice (sa g10) ([(api_Arg.mk o_3 o_4 (api_Ref.mk o_5 o_6)), (api_Arg.mk o_7 o_8 (api_Ref.mk o_9 o_10))] : List api_Arg).length 2), (164, vI x15), (165, vI i17)]) (fun h => by rw [h]) (fun h => by rw [h]) (fun hc35 => ?_) (fun hc35 => ?_)
            ·
             have hp := cnd_t hc35 hp
             refine oQ [oF 12, oF 13, oF 14] [(183, vP b28 2), (181, .map (some b_has)), (180, .bool true), (1, .map (some b_has)), (163, .slice (sa g10) ([(api_Arg.mk o_3 o_4 (api_Ref.mk o_5 o_6)), (api_Arg.mk o_7 o_8 (api_Ref.mk o_9 o_10))] : List api_Arg).length 2), (164, vI x15), (165, vI i17)] (by kernel_rfl) ?_
             refine ops_mem (d := some 184) (an := [.v (vI x19.Ref.Kind)]) (evs := [ld b28 2 (vI x19.Ref.Kind)]) (v := vI x19.Ref.Kind) ⟨by kernel_rfl⟩ (fun w_ hM hS => ⟨w_, ⟨hM.cell 0 rfl rfl, rfl⟩, hM, trivial⟩) ?_
             refine oQ [oF 16] [(185, vI (IntKind.i64.wrap (300 + x19.Ref.Kind))), (181, .map (some b_has)), (180, .bool true), (1, .map (some b_has)), (163, .slice (sa g10) ([(api_Arg.mk o_3 o_4 (api_Ref.mk o_5 o_6)), (api_Arg.mk o_7 o_8 (api_Ref.mk o_9 o_10))] : List api_Arg).length 2), (164, vI x15), (165, vI i17)] (by kernel_rfl) ?_
             obtain ⟨x36, hv37, hp⟩ := obind hp
             obtain ⟨vs38, hr39, hrun40⟩ := h_has.get (KeyLaw.int Tryd.underlying3) Tryd.underlying181 (IntKind.i64.wrap (300 + x19.Ref.Kind)) false (rfl) (fun u_ => Tryd.zeroValue4 u_)
             have hr39 : Rep.bool.rd F W x36 vs38 := by rw [← Option.some.inj hv37]; exact hr39
             obtain rfl := hr39
             refine ops_law (op := (.lookup 181 (.tmp 181) (.tmp 185) false)) (d := some 186) (σ := Unit) (v := fun _ => .bool x36) (M' := fun _ => Mem w0 (.blk b28 [.bool x19.Has, vI x19.N, vI x19.Ref.Kind, vI x19.Ref.Field] 168 :: .obj b_has (.map es_has ck_has) :: orow (sa g10) ([(api_Arg.mk o_3 o_4 (api_Ref.mk o_5 o_6)), (api_Arg.mk o_7 o_8 (api_Ref.mk o_9 o_10))] : List api_Arg).length 2 168 4 ([.bool o_3, vI o_4, vI o_5, vI o_6, .bool o_7, vI o_8, vI o_9, vI o_10]) :: Fz F W :: cs)) ⟨by kernel_rfl⟩ (fun o_ w_ ho_ hM hS => ⟨(), w_, run_lookupV rfl rfl (hrun40 false b_has w_ (hM.mapAt 1 rfl)) o_ ho_, hM, trivial⟩) (fun _ => ?_)
             refine oQ [oF 18, oF 19] [(188, .bool (!x36)), (1, .map (some b_has)), (163, .slice (sa g10) ([(api_Arg.mk o_3 o_4 (api_Ref.mk o_5 o_6)), (api_Arg.mk o_7 o_8 (api_Ref.mk o_9 o_10))] : List api_Arg).length 2), (164, vI x15), (165, vI i17)] (by kernel_rfl) ?_
             refine ops_nil (fin_then ?_)
             refine st_if (b := !x36) rfl (fun hc41 => ?_) (fun hc41 => ?_)
             ·
              have hp := cnd_t hc41 hp
              refine st_seq (st_region [oF 0] (by rfl) ?_)
              refine oQ [oF 0] [(6, vI 8)] (by kernel_rfl) ?_
              refine ops_nil (fin_then (st_ret (fin_ret_block (fin_ret_then (fin_ret_then (fin_ret_block (fin_ret_then ?_)))))))
              obtain hq_ := Option.some.inj hp
              subst hq_
              obtain hq_ := hd7 _ rfl
              subst hq_
              have hp : some 8 = some i9001 := hk7
              have hq_ := Option.some.inj hp
              have hr0_ := hq_
              subst hr0_
              refine fin_ret [.tmp 6] [vI 8] rfl rfl (fun w_ hM => (.tmp rfl .nil)) (fun w_ hM => ?_)
              exact ⟨es_has, ck_has, h_has, rfl, hM.pick 4 [1, 3] (by kernel_rfl) (by decide) rfl⟩
             ·
              have hp := cnd_f hc41 hp
              refine st_skip (fin_block ?_)
              exact fin_join HJ8 () hp (look_has ⟨rfl, rfl, rfl, rfl, trivial⟩) (fun w_ hM => hM.pick 4 [1, 2, 3] (by kernel_rfl) (by decide) rfl)
            ·
             have hp := cnd_f hc35 hp
             refine oQ [oF 12, oF 13, oF 14, oF 15, oF 16, oF 17, oF 18, oF 19] [(188, .bool false), (1, .map (some b_has)), (163, .slice (sa g10) ([(api_Arg.mk o_3 o_4 (api_Ref.mk o_5 o_6)), (api_Arg.mk o_7 o_8 (api_Ref.mk o_9 o_10))] : List api_Arg).length 2), (164, vI x15), (165, vI i17)] (by kernel_rfl) ?_
             refine ops_nil (fin_then (st_false rfl (st_skip (fin_block ?_))))
             exact fin_join HJ8 () hp (look_has ⟨rfl, rfl, rfl, rfl, trivial⟩) (fun w_ hM => hM.pick 4 [1, 2, 3] (by kernel_rfl) (by decide) rfl)
           ·
            have hp := cnd_f hc29 hp
            refine oQ [oF 3, oF 4, oF 5, oF 6, oF 7, oF 8, oF 9, oF 10, oF 11, oF 12, oF 13, oF 14, oF 15, oF 16, oF 17, oF 18, oF 19] [(188, .bool false), (1, .map (some b_has)), (163, .slice (sa g10) ([(api_Arg.mk o_3 o_4 (api_Ref.mk o_5 o_6)), (api_Arg.mk o_7 o_8 (api_Ref.mk o_9 o_10))] : List api_Arg).length 2), (164, vI x15), (165, vI i17)] (by kernel_rfl) ?_
            refine ops_nil (fin_then (st_false rfl (st_skip (fin_block ?_))))
            exact fin_join HJ8 () hp (look_has ⟨rfl, rfl, rfl, rfl, trivial⟩) (fun w_ hM => hM.pick 4 [1, 2, 3] (by kernel_rfl) (by decide) rfl)
         ·
          have hp := cnd_f hc18 hp
          refine st_exit (fin_exit_then (fin_exit_then (fin_exit ?_)))
          obtain hq_ := Option.some.inj hp
          subst hq_
          obtain hq_ := hd7 _ rfl
          subst hq_
          have hp : tourref3_opError_j6 = some i9001 := hk7
          exact fin_join HJ6 () hp (look_has trivial) (fun w_ hM => hM.pick 3 [0, 2] (by kernel_rfl) (by decide) rfl)
       ·
        intro HJ5
        refine st_seq (st_seq (st_region [oF 0, oF 1, oF 2, oF 3, oF 4, oF 5, oF 6, oF 7, oF 8, oF 9] (by rfl) ?_))
        refine oQ [oF 0, oF 1] [(154, .bool t14), (1, .map (some b_has)), (5, vP b2 0), (11, .slice (sa g10) ([(api_Arg.mk o_3 o_4 (api_Ref.mk o_5 o_6)), (api_Arg.mk o_7 o_8 (api_Ref.mk o_9 o_10))] : List api_Arg).length 2)] (by kernel_rfl) ?_
        refine ops_bool (t := t14) (l1 := [(154, .bool true), (1, .map (some b_has)), (5, vP b2 0), (11, .slice (sa g10) ([(api_Arg.mk o_3 o_4 (api_Ref.mk o_5 o_6)), (api_Arg.mk o_7 o_8 (api_Ref.mk o_9 o_10))] : List api_Arg).length 2)]) (l2 := [(154, .bool false), (1, .map (some b_has)), (5, vP b2 0), (11, .slice (sa g10) ([(api_Arg.mk o_3 o_4 (api_Ref.mk o_5 o_6)), (api_Arg.mk o_7 o_8 (api_Ref.mk o_9 o_10))] : List api_Arg).length 2)]) (fun h => by rw [h]) (fun h => by rw [h]) (fun hc42 => ?_) (fun hc42 => ?_)
        ·
         have hp := cnd_t hc42 hp
         refine oQ [oF 2, oF 3, oF 4] [(157, vP b2 1), (155, .map (some b_has)), (154, .bool true), (1, .map (some b_has)), (11, .slice (sa g10) ([(api_Arg.mk o_3 o_4 (api_Ref.mk o_5 o_6)), (api_Arg.mk o_7 o_8 (api_Ref.mk o_9 o_10))] : List api_Arg).length 2)] (by kernel_rfl) ?_
         refine ops_mem (d := some 158) (an := [.v (vI o_1)]) (evs := [ld b2 1 (vI o_1)]) (v := vI o_1) ⟨by kernel_rfl⟩ (fun w_ hM hS => ⟨w_, ⟨hM.cell 1 rfl rfl, rfl⟩, hM, trivial⟩) ?_
         refine oQ [oF 6] [(159, vI (IntKind.i64.wrap (300 + o_1))), (155, .map (some b_has)), (154, .bool true), (1, .map (some b_has)), (11, .slice (sa g10) ([(api_Arg.mk o_3 o_4 (api_Ref.mk o_5 o_6)), (api_Arg.mk o_7 o_8 (api_Ref.mk o_9 o_10))] : List api_Arg).length 2)] (by kernel_rfl) ?_
         obtain ⟨x43, hv44, hp⟩ := obind hp
         obtain ⟨vs45, hr46, hrun47⟩ := h_has.get (KeyLaw.int Tryd.underlying3) Tryd.underlying181 (IntKind.i64.wrap (300 + o_1)) false (rfl) (fun u_ => Tryd.zeroValue4 u_)
         have hr46 : Rep.bool.rd F W x43 vs45 := by rw [← Option.some.inj hv44]; exact hr46
         obtain rfl := hr46
         refine ops_law (op := (.lookup 181 (.tmp 155) (.tmp 159) false)) (d := some 160) (σ := Unit) (v := fun _ => .bool x43) (M' := fun _ => Mem w0 (.obj b_has (.map es_has ck_has) :: .blk b2 [vI o_0, vI o_1, vI o_2, .bool o_3, vI o_4, vI o_5, vI o_6, .bool o_7, vI o_8, vI o_9, vI o_10] 170 :: orow (sa g10) ([(api_Arg.mk o_3 o_4 (api_Ref.mk o_5 o_6)), (api_Arg.mk o_7 o_8 (api_Ref.mk o_9 o_10))] : List api_Arg).length 2 168 4 ([.bool o_3, vI o_4, vI o_5, vI o_6, .bool o_7, vI o_8, vI o_9, vI o_10]) :: Fz F W :: cs)) ⟨by kernel_rfl⟩ (fun o_ w_ ho_ hM hS => ⟨(), w_, run_lookupV rfl rfl (hrun47 false b_has w_ (hM.mapAt 0 rfl)) o_ ho_, hM, trivial⟩) (fun _ => ?_)
         refine oQ [oF 8, oF 9] [(162, .bool (!x43)), (1, .map (some b_has)), (11, .slice (sa g10) ([(api_Arg.mk o_3 o_4 (api_Ref.mk o_5 o_6)), (api_Arg.mk o_7 o_8 (api_Ref.mk o_9 o_10))] : List api_Arg).length 2)] (by kernel_rfl) ?_
         refine ops_nil (fin_then ?_)
         refine st_if (b := !x43) rfl (fun hc48 => ?_) (fun hc48 => ?_)
         ·
          have hp := cnd_t hc48 hp
          refine st_seq (st_region [oF 0] (by rfl) ?_)
          refine oQ [oF 0] [(6, vI 8)] (by kernel_rfl) ?_
          refine ops_nil (fin_then (st_ret (fin_ret_then ?_)))
          have hq_ := Option.some.inj hp
          have hr0_ := hq_
          subst hr0_
          refine fin_ret [.tmp 6] [vI 8] rfl rfl (fun w_ hM => (.tmp rfl .nil)) (fun w_ hM => ?_)
          exact ⟨es_has, ck_has, h_has, rfl, hM.pick 4 [0, 3] (by kernel_rfl) (by decide) rfl⟩
         ·
          have hp := cnd_f hc48 hp
          refine st_skip ?_
          exact fin_join HJ5 () hp (look_has ⟨rfl, rfl, trivial⟩) (fun w_ hM => hM.pick 4 [0, 2, 3] (by kernel_rfl) (by decide) rfl)
        ·
         have hp := cnd_f hc42 hp
         refine oQ [oF 2, oF 3, oF 4, oF 5, oF 6, oF 7, oF 8, oF 9] [(162, .bool false), (1, .map (some b_has)), (11, .slice (sa g10) ([(api_Arg.mk o_3 o_4 (api_Ref.mk o_5 o_6)), (api_Arg.mk o_7 o_8 (api_Ref.mk o_9 o_10))] : List api_Arg).length 2)] (by kernel_rfl) ?_
         refine ops_nil (fin_then (st_false rfl (st_skip ?_)))
         exact fin_join HJ5 () hp (look_has ⟨rfl, rfl, trivial⟩) (fun w_ hM => hM.pick 4 [0, 2, 3] (by kernel_rfl) (by decide) rfl)
      ·
       intro HJ4
       refine st_seq (st_seq (st_region [oF 0, oF 1, oF 2, oF 3, oF 4, oF 5, oF 6, oF 7, oF 8, oF 9, oF 10, oF 11, oF 12, oF 13, oF 14, oF 15, oF 16, oF 17, oF 18, oF 19, oF 20, oF 21, oF 22, oF 23, oF 24] (by rfl) ?_))
       refine oQ [oF 0, oF 1] [(129, .bool x5), (1, .map (some b_has)), (3, vP b1 0), (5, vP b2 0), (7, .bool x5), (8, .bool t13), (10, .func (.func 139) #[] #[vP b1 0]), (11, .slice (sa g10) ([(api_Arg.mk o_3 o_4 (api_Ref.mk o_5 o_6)), (api_Arg.mk o_7 o_8 (api_Ref.mk o_9 o_10))] : List api_Arg).length 2)] (by kernel_rfl) ?_
       refine ops_bool (t := x5) (l1 := [(129, .bool true), (1, .map (some b_has)), (3, vP b1 0), (5, vP b2 0), (7, .bool true), (8, .bool t13), (10, .func (.func 139) #[] #[vP b1 0]), (11, .slice (sa g10) ([(api_Arg.mk o_3 o_4 (api_Ref.mk o_5 o_6)), (api_Arg.mk o_7 o_8 (api_Ref.mk o_9 o_10))] : List api_Arg).length 2)]) (l2 := [(129, .bool false), (1, .map (some b_has)), (3, vP b1 0), (5, vP b2 0), (7, .bool false), (8, .bool t13), (10, .func (.func 139) #[] #[vP b1 0]), (11, .slice (sa g10) ([(api_Arg.mk o_3 o_4 (api_Ref.mk o_5 o_6)), (api_Arg.mk o_7 o_8 (api_Ref.mk o_9 o_10))] : List api_Arg).length 2)]) (fun h => by rw [h]) (fun h => by rw [h]) (fun hc49 => ?_) (fun hc49 => ?_)
       ·
        have hp := cnd_t hc49 hp
        refine oQ [oF 2, oF 3] [(131, vP b2 1), (130, .func (.func 139) #[] #[vP b1 0]), (129, .bool true), (1, .map (some b_has)), (3, vP b1 0), (5, vP b2 0), (7, .bool true), (8, .bool t13), (11, .slice (sa g10) ([(api_Arg.mk o_3 o_4 (api_Ref.mk o_5 o_6)), (api_Arg.mk o_7 o_8 (api_Ref.mk o_9 o_10))] : List api_Arg).length 2)] (by kernel_rfl) ?_
        refine ops_mem (d := some 132) (an := [.v (vI o_1), .v (vI o_2)]) (evs := [ld b2 1 (vI o_1), ld b2 2 (vI o_2)]) (v := .agg #[vI o_1, vI o_2]) ⟨by kernel_rfl⟩ (fun w_ hM hS => ⟨w_, ⟨hM.cell 2 rfl rfl, hM.cell 2 rfl rfl, rfl⟩, hM, trivial⟩) ?_
        obtain ⟨x50, hv51, hp⟩ := obind hp
        refine ops_callI (σ := Unit) (d := some 133) (f := 139) (args := #[.agg #[vI o_1, vI o_2], vP b1 0]) (v := (fun _ => .bool x50)) (I := (fun _ => (RdS R_api_Kind F W A_k c_k k))) (M' := (fun _ => Mem w0 (.obj b_has (.map es_has ck_has) :: .blk b1 [sl A_k k c_k] 22 :: .blk b2 [vI o_0, vI o_1, vI o_2, .bool o_3, vI o_4, vI o_5, vI o_6, .bool o_7, vI o_8, vI o_9, vI o_10] 170 :: orow (sa g10) ([(api_Arg.mk o_3 o_4 (api_Ref.mk o_5 o_6)), (api_Arg.mk o_7 o_8 (api_Ref.mk o_9 o_10))] : List api_Arg).length 2 168 4 ([.bool o_3, vI o_4, vI o_5, vI o_6, .bool o_7, vI o_8, vI o_9, vI o_10]) :: Fz F W :: cs))) ⟨by kernel_rfl⟩ (fun w_ hM hS => (tourref3_opError_1_ok w0 w_ (.obj b_has (.map es_has ck_has) :: .blk b2 [vI o_0, vI o_1, vI o_2, .bool o_3, vI o_4, vI o_5, vI o_6, .bool o_7, vI o_8, vI o_9, vI o_10] 170 :: orow (sa g10) ([(api_Arg.mk o_3 o_4 (api_Ref.mk o_5 o_6)), (api_Arg.mk o_7 o_8 (api_Ref.mk o_9 o_10))] : List api_Arg).length 2 168 4 ([.bool o_3, vI o_4, vI o_5, vI o_6, .bool o_7, vI o_8, vI o_9, vI o_10]) :: cs) F W o_1 o_2 b1 A_k c_k k (hM.pick 5 [1, 4, 0, 2, 3] (by kernel_rfl) (by decide) rfl) h11 x50 hv51).mono (by rintro e w' ⟨h52, rfl, h'⟩; have h' : Mem w0 (.obj b_has (.map es_has ck_has) :: .blk b1 [sl A_k k c_k] 22 :: .blk b2 [vI o_0, vI o_1, vI o_2, .bool o_3, vI o_4, vI o_5, vI o_6, .bool o_7, vI o_8, vI o_9, vI o_10] 170 :: orow (sa g10) ([(api_Arg.mk o_3 o_4 (api_Ref.mk o_5 o_6)), (api_Arg.mk o_7 o_8 (api_Ref.mk o_9 o_10))] : List api_Arg).length 2 168 4 ([.bool o_3, vI o_4, vI o_5, vI o_6, .bool o_7, vI o_8, vI o_9, vI o_10]) :: Fz F W :: cs) w' := (h'.pick 5 [2, 0, 3, 4, 1] (by kernel_rfl) (by decide) rfl); exact ⟨(), h52, rfl, h', trivial⟩)) ?_
        rintro _ h52
        refine oQ [oF 6, oF 7, oF 8] [(136, .bool (!x50)), (1, .map (some b_has)), (3, vP b1 0), (5, vP b2 0), (7, .bool true), (8, .bool t13), (11, .slice (sa g10) ([(api_Arg.mk o_3 o_4 (api_Ref.mk o_5 o_6)), (api_Arg.mk o_7 o_8 (api_Ref.mk o_9 o_10))] : List api_Arg).length 2)] (by kernel_rfl) ?_
        refine ops_bool (t := !x50) (l1 := [(136, .bool true), (1, .map (some b_has)), (3, vP b1 0), (5, vP b2 0), (7, .bool true), (8, .bool t13), (11, .slice (sa g10) ([(api_Arg.mk o_3 o_4 (api_Ref.mk o_5 o_6)), (api_Arg.mk o_7 o_8 (api_Ref.mk o_9 o_10))] : List api_Arg).length 2)]) (l2 := [(136, .bool false), (1, .map (some b_has)), (3, vP b1 0), (5, vP b2 0), (7, .bool true), (8, .bool t13), (11, .slice (sa g10) ([(api_Arg.mk o_3 o_4 (api_Ref.mk o_5 o_6)), (api_Arg.mk o_7 o_8 (api_Ref.mk o_9 o_10))] : List api_Arg).length 2)]) (fun h => by rw [h]) (fun h => by rw [h]) (fun hc53 => ?_) (fun hc53 => ?_)
        ·
         have hp := cnd_t hc53 hp
         refine oQ [oF 9, oF 10, oF 11, oF 12, oF 13, oF 14, oF 15, oF 16, oF 17, oF 18, oF 19, oF 20, oF 21, oF 22, oF 23, oF 24] [(152, .bool true), (1, .map (some b_has)), (5, vP b2 0), (7, .bool true), (11, .slice (sa g10) ([(api_Arg.mk o_3 o_4 (api_Ref.mk o_5 o_6)), (api_Arg.mk o_7 o_8 (api_Ref.mk o_9 o_10))] : List api_Arg).length 2)] (by kernel_rfl) ?_
         refine ops_nil (fin_then (st_true rfl (st_seq (st_region [oF 0] (by rfl) ?_))))
         refine oQ [oF 0] [(6, vI 1)] (by kernel_rfl) ?_
         refine ops_nil (fin_then (st_ret (fin_ret_then ?_)))
         have hq_ := Option.some.inj hp
         have hr0_ := hq_
         subst hr0_
         refine fin_ret [.tmp 6] [vI 1] rfl rfl (fun w_ hM => (.tmp rfl .nil)) (fun w_ hM => ?_)
         exact ⟨es_has, ck_has, h_has, rfl, hM.pick 5 [0, 4] (by kernel_rfl) (by decide) rfl⟩
        ·
         have hp := cnd_f hc53 hp
         refine oQ [oF 9, oF 10] [(138, .bool t13), (136, .bool false), (1, .map (some b_has)), (3, vP b1 0), (5, vP b2 0), (7, .bool true), (11, .slice (sa g10) ([(api_Arg.mk o_3 o_4 (api_Ref.mk o_5 o_6)), (api_Arg.mk o_7 o_8 (api_Ref.mk o_9 o_10))] : List api_Arg).length 2)] (by kernel_rfl) ?_
         refine ops_bool (t := t13) (l1 := [(138, .bool true), (136, .bool false), (1, .map (some b_has)), (3, vP b1 0), (5, vP b2 0), (7, .bool true), (11, .slice (sa g10) ([(api_Arg.mk o_3 o_4 (api_Ref.mk o_5 o_6)), (api_Arg.mk o_7 o_8 (api_Ref.mk o_9 o_10))] : List api_Arg).length 2)]) (l2 := [(138, .bool false), (136, .bool false), (1, .map (some b_has)), (3, vP b1 0), (5, vP b2 0), (7, .bool true), (11, .slice (sa g10) ([(api_Arg.mk o_3 o_4 (api_Ref.mk o_5 o_6)), (api_Arg.mk o_7 o_8 (api_Ref.mk o_9 o_10))] : List api_Arg).length 2)]) (fun h => by rw [h]) (fun h => by rw [h]) (fun hc54 => ?_) (fun hc54 => ?_)
         ·
          have hp := cnd_t hc54 hp
          refine oQ [oF 11, oF 12] [(140, vP b2 1), (138, .bool true), (136, .bool false), (1, .map (some b_has)), (3, vP b1 0), (5, vP b2 0), (7, .bool true), (11, .slice (sa g10) ([(api_Arg.mk o_3 o_4 (api_Ref.mk o_5 o_6)), (api_Arg.mk o_7 o_8 (api_Ref.mk o_9 o_10))] : List api_Arg).length 2)] (by kernel_rfl) ?_
          refine ops_mem (d := some 141) (an := [.v (vI o_1)]) (evs := [ld b2 1 (vI o_1)]) (v := vI o_1) ⟨by kernel_rfl⟩ (fun w_ hM hS => ⟨w_, ⟨hM.cell 2 rfl rfl, rfl⟩, hM, trivial⟩) ?_
          refine oQ [oF 14, oF 15] [(143, .bool (decide (o_1 < 0))), (138, .bool true), (136, .bool false), (1, .map (some b_has)), (3, vP b1 0), (5, vP b2 0), (7, .bool true), (11, .slice (sa g10) ([(api_Arg.mk o_3 o_4 (api_Ref.mk o_5 o_6)), (api_Arg.mk o_7 o_8 (api_Ref.mk o_9 o_10))] : List api_Arg).length 2)] (by kernel_rfl) ?_
          refine ops_bool (t := decide (o_1 < 0)) (l1 := [(143, .bool true), (138, .bool true), (136, .bool false), (1, .map (some b_has)), (3, vP b1 0), (5, vP b2 0), (7, .bool true), (11, .slice (sa g10) ([(api_Arg.mk o_3 o_4 (api_Ref.mk o_5 o_6)), (api_Arg.mk o_7 o_8 (api_Ref.mk o_9 o_10))] : List api_Arg).length 2)]) (l2 := [(143, .bool false), (138, .bool true), (136, .bool false), (1, .map (some b_has)), (3, vP b1 0), (5, vP b2 0), (7, .bool true), (11, .slice (sa g10) ([(api_Arg.mk o_3 o_4 (api_Ref.mk o_5 o_6)), (api_Arg.mk o_7 o_8 (api_Ref.mk o_9 o_10))] : List api_Arg).length 2)]) (fun h => by rw [h]) (fun h => by rw [h]) (fun hc55 => ?_) (fun hc55 => ?_)
          ·
           have hp := cnd_t hc55 hp
           refine oQ [oF 16, oF 17, oF 18, oF 19, oF 20, oF 21, oF 22, oF 23, oF 24] [(152, .bool true), (1, .map (some b_has)), (5, vP b2 0), (7, .bool true), (11, .slice (sa g10) ([(api_Arg.mk o_3 o_4 (api_Ref.mk o_5 o_6)), (api_Arg.mk o_7 o_8 (api_Ref.mk o_9 o_10))] : List api_Arg).length 2)] (by kernel_rfl) ?_
           refine ops_nil (fin_then (st_true rfl (st_seq (st_region [oF 0] (by rfl) ?_))))
           refine oQ [oF 0] [(6, vI 1)] (by kernel_rfl) ?_
           refine ops_nil (fin_then (st_ret (fin_ret_then ?_)))
           have hq_ := Option.some.inj hp
           have hr0_ := hq_
           subst hr0_
           refine fin_ret [.tmp 6] [vI 1] rfl rfl (fun w_ hM => (.tmp rfl .nil)) (fun w_ hM => ?_)
           exact ⟨es_has, ck_has, h_has, rfl, hM.pick 5 [0, 4] (by kernel_rfl) (by decide) rfl⟩
          ·
           have hp := cnd_f hc55 hp
           refine oQ [oF 16, oF 17] [(145, vP b2 1), (143, .bool false), (138, .bool true), (136, .bool false), (1, .map (some b_has)), (3, vP b1 0), (5, vP b2 0), (7, .bool true), (11, .slice (sa g10) ([(api_Arg.mk o_3 o_4 (api_Ref.mk o_5 o_6)), (api_Arg.mk o_7 o_8 (api_Ref.mk o_9 o_10))] : List api_Arg).length 2)] (by kernel_rfl) ?_
           refine ops_mem (d := some 146) (an := [.v (vI o_1)]) (evs := [ld b2 1 (vI o_1)]) (v := vI o_1) ⟨by kernel_rfl⟩ (fun w_ hM hS => ⟨w_, ⟨hM.cell 2 rfl rfl, rfl⟩, hM, trivial⟩) ?_
           refine ops_mem (d := some 147) (an := [.v (sl A_k k c_k)]) (evs := [ld b1 0 (sl A_k k c_k)]) (v := sl A_k k c_k) ⟨by kernel_rfl⟩ (fun w_ hM hS => ⟨w_, ⟨hM.cell 1 rfl rfl, rfl⟩, hM, trivial⟩) ?_
           refine oQ [oF 20, oF 21, oF 22, oF 23, oF 24] [(152, .bool (decide ((k.length : Int) ≤ o_1))), (1, .map (some b_has)), (5, vP b2 0), (7, .bool true), (11, .slice (sa g10) ([(api_Arg.mk o_3 o_4 (api_Ref.mk o_5 o_6)), (api_Arg.mk o_7 o_8 (api_Ref.mk o_9 o_10))] : List api_Arg).length 2)] (by kernel_rfl) ?_
           refine ops_nil (fin_then ?_)
           refine st_if (b := decide ((k.length : Int) ≤ o_1)) rfl (fun hc56 => ?_) (fun hc56 => ?_)
           ·
            have hp := cnd_t hc56 hp
            refine st_seq (st_region [oF 0] (by rfl) ?_)
            refine oQ [oF 0] [(6, vI 1)] (by kernel_rfl) ?_
            refine ops_nil (fin_then (st_ret (fin_ret_then ?_)))
            have hq_ := Option.some.inj hp
            have hr0_ := hq_
            subst hr0_
            refine fin_ret [.tmp 6] [vI 1] rfl rfl (fun w_ hM => (.tmp rfl .nil)) (fun w_ hM => ?_)
            exact ⟨es_has, ck_has, h_has, rfl, hM.pick 5 [0, 4] (by kernel_rfl) (by decide) rfl⟩
           ·
            have hp := cnd_f hc56 hp
            refine st_skip ?_
            exact fin_join HJ4 true hp (look_has ⟨rfl, rfl, rfl, rfl, trivial⟩) (fun w_ hM => hM.pick 5 [0, 2, 3, 4] (by kernel_rfl) (by decide) rfl)
         ·
          have hp := cnd_f hc54 hp
          refine oQ [oF 11, oF 12, oF 13, oF 14, oF 15, oF 16, oF 17, oF 18, oF 19, oF 20, oF 21, oF 22, oF 23, oF 24] [(152, .bool false), (1, .map (some b_has)), (5, vP b2 0), (7, .bool true), (11, .slice (sa g10) ([(api_Arg.mk o_3 o_4 (api_Ref.mk o_5 o_6)), (api_Arg.mk o_7 o_8 (api_Ref.mk o_9 o_10))] : List api_Arg).length 2)] (by kernel_rfl) ?_
          refine ops_nil (fin_then (st_false rfl (st_skip ?_)))
          exact fin_join HJ4 true hp (look_has ⟨rfl, rfl, rfl, rfl, trivial⟩) (fun w_ hM => hM.pick 5 [0, 2, 3, 4] (by kernel_rfl) (by decide) rfl)
       ·
        have hp := cnd_f hc49 hp
        refine oQ [oF 2, oF 3, oF 4, oF 5, oF 6, oF 7, oF 8, oF 9, oF 10] [(138, .bool t13), (136, .bool false), (1, .map (some b_has)), (3, vP b1 0), (5, vP b2 0), (7, .bool false), (11, .slice (sa g10) ([(api_Arg.mk o_3 o_4 (api_Ref.mk o_5 o_6)), (api_Arg.mk o_7 o_8 (api_Ref.mk o_9 o_10))] : List api_Arg).length 2)] (by kernel_rfl) ?_
        refine ops_bool (t := t13) (l1 := [(138, .bool true), (136, .bool false), (1, .map (some b_has)), (3, vP b1 0), (5, vP b2 0), (7, .bool false), (11, .slice (sa g10) ([(api_Arg.mk o_3 o_4 (api_Ref.mk o_5 o_6)), (api_Arg.mk o_7 o_8 (api_Ref.mk o_9 o_10))] : List api_Arg).length 2)]) (l2 := [(138, .bool false), (136, .bool false), (1, .map (some b_has)), (3, vP b1 0), (5, vP b2 0), (7, .bool false), (11, .slice (sa g10) ([(api_Arg.mk o_3 o_4 (api_Ref.mk o_5 o_6)), (api_Arg.mk o_7 o_8 (api_Ref.mk o_9 o_10))] : List api_Arg).length 2)]) (fun h => by rw [h]) (fun h => by rw [h]) (fun hc57 => ?_) (fun hc57 => ?_)
        ·
         have hp := cnd_t hc57 hp
         refine oQ [oF 11, oF 12] [(140, vP b2 1), (138, .bool true), (136, .bool false), (1, .map (some b_has)), (3, vP b1 0), (5, vP b2 0), (7, .bool false), (11, .slice (sa g10) ([(api_Arg.mk o_3 o_4 (api_Ref.mk o_5 o_6)), (api_Arg.mk o_7 o_8 (api_Ref.mk o_9 o_10))] : List api_Arg).length 2)] (by kernel_rfl) ?_
         refine ops_mem (d := some 141) (an := [.v (vI o_1)]) (evs := [ld b2 1 (vI o_1)]) (v := vI o_1) ⟨by kernel_rfl⟩ (fun w_ hM hS => ⟨w_, ⟨hM.cell 2 rfl rfl, rfl⟩, hM, trivial⟩) ?_
         refine oQ [oF 14, oF 15] [(143, .bool (decide (o_1 < 0))), (138, .bool true), (136, .bool false), (1, .map (some b_has)), (3, vP b1 0), (5, vP b2 0), (7, .bool false), (11, .slice (sa g10) ([(api_Arg.mk o_3 o_4 (api_Ref.mk o_5 o_6)), (api_Arg.mk o_7 o_8 (api_Ref.mk o_9 o_10))] : List api_Arg).length 2)] (by kernel_rfl) ?_
         refine ops_bool (t := decide (o_1 < 0)) (l1 := [(143, .bool true), (138, .bool true), (136, .bool false), (1, .map (some b_has)), (3, vP b1 0), (5, vP b2 0), (7, .bool false), (11, .slice (sa g10) ([(api_Arg.mk o_3 o_4 (api_Ref.mk o_5 o_6)), (api_Arg.mk o_7 o_8 (api_Ref.mk o_9 o_10))] : List api_Arg).length 2)]) (l2 := [(143, .bool false), (138, .bool true), (136, .bool false), (1, .map (some b_has)), (3, vP b1 0), (5, vP b2 0), (7, .bool false), (11, .slice (sa g10) ([(api_Arg.mk o_3 o_4 (api_Ref.mk o_5 o_6)), (api_Arg.mk o_7 o_8 (api_Ref.mk o_9 o_10))] : List api_Arg).length 2)]) (fun h => by rw [h]) (fun h => by rw [h]) (fun hc58 => ?_) (fun hc58 => ?_)
         ·
          have hp := cnd_t hc58 hp
          refine oQ [oF 16, oF 17, oF 18, oF 19, oF 20, oF 21, oF 22, oF 23, oF 24] [(152, .bool true), (1, .map (some b_has)), (5, vP b2 0), (7, .bool false), (11, .slice (sa g10) ([(api_Arg.mk o_3 o_4 (api_Ref.mk o_5 o_6)), (api_Arg.mk o_7 o_8 (api_Ref.mk o_9 o_10))] : List api_Arg).length 2)] (by kernel_rfl) ?_
          refine ops_nil (fin_then (st_true rfl (st_seq (st_region [oF 0] (by rfl) ?_))))
          refine oQ [oF 0] [(6, vI 1)] (by kernel_rfl) ?_
          refine ops_nil (fin_then (st_ret (fin_ret_then ?_)))
          have hq_ := Option.some.inj hp
          have hr0_ := hq_
          subst hr0_
          refine fin_ret [.tmp 6] [vI 1] rfl rfl (fun w_ hM => (.tmp rfl .nil)) (fun w_ hM => ?_)
          exact ⟨es_has, ck_has, h_has, rfl, hM.pick 5 [0, 4] (by kernel_rfl) (by decide) rfl⟩
         ·
          have hp := cnd_f hc58 hp
          refine oQ [oF 16, oF 17] [(145, vP b2 1), (143, .bool false), (138, .bool true), (136, .bool false), (1, .map (some b_has)), (3, vP b1 0), (5, vP b2 0), (7, .bool false), (11, .slice (sa g10) ([(api_Arg.mk o_3 o_4 (api_Ref.mk o_5 o_6)), (api_Arg.mk o_7 o_8 (api_Ref.mk o_9 o_10))] : List api_Arg).length 2)] (by kernel_rfl) ?_
          refine ops_mem (d := some 146) (an := [.v (vI o_1)]) (evs := [ld b2 1 (vI o_1)]) (v := vI o_1) ⟨by kernel_rfl⟩ (fun w_ hM hS => ⟨w_, ⟨hM.cell 2 rfl rfl, rfl⟩, hM, trivial⟩) ?_
          refine ops_mem (d := some 147) (an := [.v (sl A_k k c_k)]) (evs := [ld b1 0 (sl A_k k c_k)]) (v := sl A_k k c_k) ⟨by kernel_rfl⟩ (fun w_ hM hS => ⟨w_, ⟨hM.cell 1 rfl rfl, rfl⟩, hM, trivial⟩) ?_
          refine oQ [oF 20, oF 21, oF 22, oF 23, oF 24] [(152, .bool (decide ((k.length : Int) ≤ o_1))), (1, .map (some b_has)), (5, vP b2 0), (7, .bool false), (11, .slice (sa g10) ([(api_Arg.mk o_3 o_4 (api_Ref.mk o_5 o_6)), (api_Arg.mk o_7 o_8 (api_Ref.mk o_9 o_10))] : List api_Arg).length 2)] (by kernel_rfl) ?_
          refine ops_nil (fin_then ?_)
          refine st_if (b := decide ((k.length : Int) ≤ o_1)) rfl (fun hc59 => ?_) (fun hc59 => ?_)
          ·
           have hp := cnd_t hc59 hp
           refine st_seq (st_region [oF 0] (by rfl) ?_)
           refine oQ [oF 0] [(6, vI 1)] (by kernel_rfl) ?_
           refine ops_nil (fin_then (st_ret (fin_ret_then ?_)))
           have hq_ := Option.some.inj hp
           have hr0_ := hq_
           subst hr0_
           refine fin_ret [.tmp 6] [vI 1] rfl rfl (fun w_ hM => (.tmp rfl .nil)) (fun w_ hM => ?_)
           exact ⟨es_has, ck_has, h_has, rfl, hM.pick 5 [0, 4] (by kernel_rfl) (by decide) rfl⟩
          ·
           have hp := cnd_f hc59 hp
           refine st_skip ?_
           exact fin_join HJ4 false hp (look_has ⟨rfl, rfl, rfl, rfl, trivial⟩) (fun w_ hM => hM.pick 5 [0, 2, 3, 4] (by kernel_rfl) (by decide) rfl)
        ·
         have hp := cnd_f hc57 hp
         refine oQ [oF 11, oF 12, oF 13, oF 14, oF 15, oF 16, oF 17, oF 18, oF 19, oF 20, oF 21, oF 22, oF 23, oF 24] [(152, .bool false), (1, .map (some b_has)), (5, vP b2 0), (7, .bool false), (11, .slice (sa g10) ([(api_Arg.mk o_3 o_4 (api_Ref.mk o_5 o_6)), (api_Arg.mk o_7 o_8 (api_Ref.mk o_9 o_10))] : List api_Arg).length 2)] (by kernel_rfl) ?_
         refine ops_nil (fin_then (st_false rfl (st_skip ?_)))
         exact fin_join HJ4 false hp (look_has ⟨rfl, rfl, rfl, rfl, trivial⟩) (fun w_ hM => hM.pick 5 [0, 2, 3, 4] (by kernel_rfl) (by decide) rfl)
     ·
      intro HJ3
      refine st_seq (st_seq (st_region [oF 0, oF 1, oF 2, oF 3, oF 4, oF 5, oF 6, oF 7, oF 8, oF 9, oF 10, oF 11, oF 12, oF 13, oF 14, oF 15, oF 16, oF 17, oF 18, oF 19, oF 20, oF 21, oF 22, oF 23, oF 24, oF 25, oF 26, oF 27, oF 28, oF 29, oF 30, oF 31] (by rfl) ?_))
      refine oQ [oF 0, oF 1, oF 2] [(98, .bool (!x7)), (1, .map (some b_has)), (3, vP b1 0), (5, vP b2 0), (7, .bool x5), (8, .bool x6), (10, .func (.func 139) #[] #[vP b1 0]), (11, .slice (sa g10) ([(api_Arg.mk o_3 o_4 (api_Ref.mk o_5 o_6)), (api_Arg.mk o_7 o_8 (api_Ref.mk o_9 o_10))] : List api_Arg).length 2), (14, vP b12 0)] (by kernel_rfl) ?_
      refine ops_bool (t := !x7) (l1 := [(98, .bool true), (1, .map (some b_has)), (3, vP b1 0), (5, vP b2 0), (7, .bool x5), (8, .bool x6), (10, .func (.func 139) #[] #[vP b1 0]), (11, .slice (sa g10) ([(api_Arg.mk o_3 o_4 (api_Ref.mk o_5 o_6)), (api_Arg.mk o_7 o_8 (api_Ref.mk o_9 o_10))] : List api_Arg).length 2), (14, vP b12 0)]) (l2 := [(98, .bool false), (1, .map (some b_has)), (3, vP b1 0), (5, vP b2 0), (7, .bool x5), (8, .bool x6), (10, .func (.func 139) #[] #[vP b1 0]), (11, .slice (sa g10) ([(api_Arg.mk o_3 o_4 (api_Ref.mk o_5 o_6)), (api_Arg.mk o_7 o_8 (api_Ref.mk o_9 o_10))] : List api_Arg).length 2), (14, vP b12 0)]) (fun h => by rw [h]) (fun h => by rw [h]) (fun hc60 => ?_) (fun hc60 => ?_)
      ·
       have hp := cnd_t hc60 hp
       refine oQ [oF 3] [(99, vP b2 7), (98, .bool true), (1, .map (some b_has)), (3, vP b1 0), (5, vP b2 0), (7, .bool x5), (8, .bool x6), (10, .func (.func 139) #[] #[vP b1 0]), (11, .slice (sa g10) ([(api_Arg.mk o_3 o_4 (api_Ref.mk o_5 o_6)), (api_Arg.mk o_7 o_8 (api_Ref.mk o_9 o_10))] : List api_Arg).length 2), (14, vP b12 0)] (by kernel_rfl) ?_
       refine ops_mem (d := some 100) (an := [.v (.bool o_7), .v (vI o_8), .v (vI o_9), .v (vI o_10)]) (evs := [ld b2 7 (.bool o_7), ld b2 8 (vI o_8), ld b2 9 (vI o_9), ld b2 10 (vI o_10)]) (v := .agg #[.bool o_7, vI o_8, vI o_9, vI o_10]) ⟨by kernel_rfl⟩ (fun w_ hM hS => ⟨w_, ⟨hM.cell 2 rfl rfl, hM.cell 2 rfl rfl, hM.cell 2 rfl rfl, hM.cell 2 rfl rfl, rfl⟩, hM, trivial⟩) ?_
       refine ops_mem (d := some 101) (an := [.v (.bool false), .v (vI 0), .v (vI 0), .v (vI 0)]) (evs := [ld b12 0 (.bool false), ld b12 1 (vI 0), ld b12 2 (vI 0), ld b12 3 (vI 0)]) (v := .agg #[.bool false, vI 0, vI 0, vI 0]) ⟨by kernel_rfl⟩ (fun w_ hM hS => ⟨w_, ⟨hM.cell 4 rfl rfl, hM.cell 4 rfl rfl, hM.cell 4 rfl rfl, hM.cell 4 rfl rfl, rfl⟩, hM, trivial⟩) ?_
       refine ops_val (op := (.binOp Go.BinOp.neq 168 (.tmp 100) (.tmp 101) 168)) (d := some 102) (v := .bool (!(o_7 == false && (o_8 == 0 && (o_9 == 0 && (o_10 == 0)))))) ⟨by kernel_rfl⟩ (run_neq_agg (r := o_7 == false && (o_8 == 0 && (o_9 == 0 && (o_10 == 0)))) rfl rfl (by kernel_rfl) (fun w => eqA168 9997 w o_7 false o_8 0 o_9 0 o_10 0)) ?_
       refine oQ [oF 7, oF 8] [(104, .bool (!(o_7 == false && (o_8 == 0 && (o_9 == 0 && (o_10 == 0)))))), (1, .map (some b_has)), (3, vP b1 0), (5, vP b2 0), (7, .bool x5), (8, .bool x6), (10, .func (.func 139) #[] #[vP b1 0]), (11, .slice (sa g10) ([(api_Arg.mk o_3 o_4 (api_Ref.mk o_5 o_6)), (api_Arg.mk o_7 o_8 (api_Ref.mk o_9 o_10))] : List api_Arg).length 2), (14, vP b12 0)] (by kernel_rfl) ?_
       refine ops_bool (t := !(o_7 == false && (o_8 == 0 && (o_9 == 0 && (o_10 == 0))))) (l1 := [(104, .bool true), (1, .map (some b_has)), (3, vP b1 0), (5, vP b2 0), (7, .bool x5), (8, .bool x6), (10, .func (.func 139) #[] #[vP b1 0]), (11, .slice (sa g10) ([(api_Arg.mk o_3 o_4 (api_Ref.mk o_5 o_6)), (api_Arg.mk o_7 o_8 (api_Ref.mk o_9 o_10))] : List api_Arg).length 2), (14, vP b12 0)]) (l2 := [(104, .bool false), (1, .map (some b_has)), (3, vP b1 0), (5, vP b2 0), (7, .bool x5), (8, .bool x6), (10, .func (.func 139) #[] #[vP b1 0]), (11, .slice (sa g10) ([(api_Arg.mk o_3 o_4 (api_Ref.mk o_5 o_6)), (api_Arg.mk o_7 o_8 (api_Ref.mk o_9 o_10))] : List api_Arg).length 2), (14, vP b12 0)]) (fun h => by rw [h]) (fun h => by rw [h]) (fun hc61 => ?_) (fun hc61 => ?_)
       ·
        have hp := cnd_t hc61 hp
        refine oQ [oF 9, oF 10, oF 11, oF 12, oF 13, oF 14, oF 15, oF 16, oF 17, oF 18, oF 19, oF 20, oF 21, oF 22, oF 23, oF 24, oF 25, oF 26, oF 27, oF 28, oF 29, oF 30, oF 31] [(127, .bool true), (1, .map (some b_has)), (3, vP b1 0), (5, vP b2 0), (7, .bool x5), (8, .bool x6), (10, .func (.func 139) #[] #[vP b1 0]), (11, .slice (sa g10) ([(api_Arg.mk o_3 o_4 (api_Ref.mk o_5 o_6)), (api_Arg.mk o_7 o_8 (api_Ref.mk o_9 o_10))] : List api_Arg).length 2)] (by kernel_rfl) ?_
        refine ops_nil (fin_then (st_true rfl (st_seq (st_region [oF 0] (by rfl) ?_))))
        refine oQ [oF 0] [(6, vI 3)] (by kernel_rfl) ?_
        refine ops_nil (fin_then (st_ret (fin_ret_then ?_)))
        have hq_ := Option.some.inj hp
        have hr0_ := hq_
        subst hr0_
        refine fin_ret [.tmp 6] [vI 3] rfl rfl (fun w_ hM => (.tmp rfl .nil)) (fun w_ hM => ?_)
        exact ⟨es_has, ck_has, h_has, rfl, hM.pick 6 [0, 5] (by kernel_rfl) (by decide) rfl⟩
       ·
        have hp := cnd_f hc61 hp
        refine oQ [oF 9, oF 10, oF 11] [(107, .bool (!x5)), (104, .bool false), (1, .map (some b_has)), (3, vP b1 0), (5, vP b2 0), (7, .bool x5), (8, .bool x6), (10, .func (.func 139) #[] #[vP b1 0]), (11, .slice (sa g10) ([(api_Arg.mk o_3 o_4 (api_Ref.mk o_5 o_6)), (api_Arg.mk o_7 o_8 (api_Ref.mk o_9 o_10))] : List api_Arg).length 2), (14, vP b12 0)] (by kernel_rfl) ?_
        refine ops_bool (t := !x5) (l1 := [(107, .bool true), (104, .bool false), (1, .map (some b_has)), (3, vP b1 0), (5, vP b2 0), (7, .bool x5), (8, .bool x6), (10, .func (.func 139) #[] #[vP b1 0]), (11, .slice (sa g10) ([(api_Arg.mk o_3 o_4 (api_Ref.mk o_5 o_6)), (api_Arg.mk o_7 o_8 (api_Ref.mk o_9 o_10))] : List api_Arg).length 2), (14, vP b12 0)]) (l2 := [(107, .bool false), (104, .bool false), (1, .map (some b_has)), (3, vP b1 0), (5, vP b2 0), (7, .bool x5), (8, .bool x6), (10, .func (.func 139) #[] #[vP b1 0]), (11, .slice (sa g10) ([(api_Arg.mk o_3 o_4 (api_Ref.mk o_5 o_6)), (api_Arg.mk o_7 o_8 (api_Ref.mk o_9 o_10))] : List api_Arg).length 2), (14, vP b12 0)]) (fun h => by rw [h]) (fun h => by rw [h]) (fun hc62 => ?_) (fun hc62 => ?_)
        ·
         have hp := cnd_t hc62 hp
         refine oQ [oF 12, oF 13, oF 14, oF 15] [(111, .bool (!x6)), (104, .bool false), (1, .map (some b_has)), (3, vP b1 0), (5, vP b2 0), (7, .bool x5), (8, .bool x6), (10, .func (.func 139) #[] #[vP b1 0]), (11, .slice (sa g10) ([(api_Arg.mk o_3 o_4 (api_Ref.mk o_5 o_6)), (api_Arg.mk o_7 o_8 (api_Ref.mk o_9 o_10))] : List api_Arg).length 2), (14, vP b12 0)] (by kernel_rfl) ?_
         refine ops_bool (t := !x6) (l1 := [(111, .bool true), (104, .bool false), (1, .map (some b_has)), (3, vP b1 0), (5, vP b2 0), (7, .bool x5), (8, .bool x6), (10, .func (.func 139) #[] #[vP b1 0]), (11, .slice (sa g10) ([(api_Arg.mk o_3 o_4 (api_Ref.mk o_5 o_6)), (api_Arg.mk o_7 o_8 (api_Ref.mk o_9 o_10))] : List api_Arg).length 2), (14, vP b12 0)]) (l2 := [(111, .bool false), (104, .bool false), (1, .map (some b_has)), (3, vP b1 0), (5, vP b2 0), (7, .bool x5), (8, .bool x6), (10, .func (.func 139) #[] #[vP b1 0]), (11, .slice (sa g10) ([(api_Arg.mk o_3 o_4 (api_Ref.mk o_5 o_6)), (api_Arg.mk o_7 o_8 (api_Ref.mk o_9 o_10))] : List api_Arg).length 2), (14, vP b12 0)]) (fun h => by rw [h]) (fun h => by rw [h]) (fun hc63 => ?_) (fun hc63 => ?_)
         ·
          have hp := cnd_t hc63 hp
          refine oQ [oF 16] [(112, vP b2 1), (111, .bool true), (104, .bool false), (1, .map (some b_has)), (3, vP b1 0), (5, vP b2 0), (7, .bool x5), (8, .bool x6), (10, .func (.func 139) #[] #[vP b1 0]), (11, .slice (sa g10) ([(api_Arg.mk o_3 o_4 (api_Ref.mk o_5 o_6)), (api_Arg.mk o_7 o_8 (api_Ref.mk o_9 o_10))] : List api_Arg).length 2), (14, vP b12 0)] (by kernel_rfl) ?_
          refine ops_mem (d := some 113) (an := [.v (vI o_1), .v (vI o_2)]) (evs := [ld b2 1 (vI o_1), ld b2 2 (vI o_2)]) (v := .agg #[vI o_1, vI o_2]) ⟨by kernel_rfl⟩ (fun w_ hM hS => ⟨w_, ⟨hM.cell 2 rfl rfl, hM.cell 2 rfl rfl, rfl⟩, hM, trivial⟩) ?_
          refine oQ [oF 18] [(114, vP b12 2), (113, .agg #[vI o_1, vI o_2]), (111, .bool true), (104, .bool false), (1, .map (some b_has)), (3, vP b1 0), (5, vP b2 0), (7, .bool x5), (8, .bool x6), (10, .func (.func 139) #[] #[vP b1 0]), (11, .slice (sa g10) ([(api_Arg.mk o_3 o_4 (api_Ref.mk o_5 o_6)), (api_Arg.mk o_7 o_8 (api_Ref.mk o_9 o_10))] : List api_Arg).length 2)] (by kernel_rfl) ?_
          refine ops_mem (d := some 115) (an := [.v (vI 0), .v (vI 0)]) (evs := [ld b12 2 (vI 0), ld b12 3 (vI 0)]) (v := .agg #[vI 0, vI 0]) ⟨by kernel_rfl⟩ (fun w_ hM hS => ⟨w_, ⟨hM.cell 4 rfl rfl, hM.cell 4 rfl rfl, rfl⟩, hM, trivial⟩) ?_
          refine ops_val (op := (.binOp Go.BinOp.neq 166 (.tmp 113) (.tmp 115) 166)) (d := some 116) (v := .bool (!(o_1 == 0 && (o_2 == 0)))) ⟨by kernel_rfl⟩ (run_neq_agg (r := o_1 == 0 && (o_2 == 0)) rfl rfl (by kernel_rfl) (fun w => eqA166 9998 w o_1 0 o_2 0)) ?_
          refine oQ [oF 21, oF 22, oF 23] [(119, .bool (!(o_1 == 0 && (o_2 == 0)))), (1, .map (some b_has)), (3, vP b1 0), (5, vP b2 0), (7, .bool x5), (8, .bool x6), (10, .func (.func 139) #[] #[vP b1 0]), (11, .slice (sa g10) ([(api_Arg.mk o_3 o_4 (api_Ref.mk o_5 o_6)), (api_Arg.mk o_7 o_8 (api_Ref.mk o_9 o_10))] : List api_Arg).length 2)] (by kernel_rfl) ?_
          refine ops_bool (t := !(o_1 == 0 && (o_2 == 0))) (l1 := [(119, .bool true), (1, .map (some b_has)), (3, vP b1 0), (5, vP b2 0), (7, .bool x5), (8, .bool x6), (10, .func (.func 139) #[] #[vP b1 0]), (11, .slice (sa g10) ([(api_Arg.mk o_3 o_4 (api_Ref.mk o_5 o_6)), (api_Arg.mk o_7 o_8 (api_Ref.mk o_9 o_10))] : List api_Arg).length 2)]) (l2 := [(119, .bool false), (1, .map (some b_has)), (3, vP b1 0), (5, vP b2 0), (7, .bool x5), (8, .bool x6), (10, .func (.func 139) #[] #[vP b1 0]), (11, .slice (sa g10) ([(api_Arg.mk o_3 o_4 (api_Ref.mk o_5 o_6)), (api_Arg.mk o_7 o_8 (api_Ref.mk o_9 o_10))] : List api_Arg).length 2)]) (fun h => by rw [h]) (fun h => by rw [h]) (fun hc64 => ?_) (fun hc64 => ?_)
          ·
           have hp := cnd_t hc64 hp
           refine oQ [oF 24, oF 25, oF 26, oF 27, oF 28, oF 29, oF 30, oF 31] [(127, .bool true), (1, .map (some b_has)), (3, vP b1 0), (5, vP b2 0), (7, .bool x5), (8, .bool x6), (10, .func (.func 139) #[] #[vP b1 0]), (11, .slice (sa g10) ([(api_Arg.mk o_3 o_4 (api_Ref.mk o_5 o_6)), (api_Arg.mk o_7 o_8 (api_Ref.mk o_9 o_10))] : List api_Arg).length 2)] (by kernel_rfl) ?_
           refine ops_nil (fin_then (st_true rfl (st_seq (st_region [oF 0] (by rfl) ?_))))
           refine oQ [oF 0] [(6, vI 3)] (by kernel_rfl) ?_
           refine ops_nil (fin_then (st_ret (fin_ret_then ?_)))
           have hq_ := Option.some.inj hp
           have hr0_ := hq_
           subst hr0_
           refine fin_ret [.tmp 6] [vI 3] rfl rfl (fun w_ hM => (.tmp rfl .nil)) (fun w_ hM => ?_)
           exact ⟨es_has, ck_has, h_has, rfl, hM.pick 6 [0, 5] (by kernel_rfl) (by decide) rfl⟩
          ·
           have hp := cnd_f hc64 hp
           refine oQ [oF 24, oF 25] [(121, .bool x6), (119, .bool false), (1, .map (some b_has)), (3, vP b1 0), (5, vP b2 0), (7, .bool x5), (8, .bool x6), (10, .func (.func 139) #[] #[vP b1 0]), (11, .slice (sa g10) ([(api_Arg.mk o_3 o_4 (api_Ref.mk o_5 o_6)), (api_Arg.mk o_7 o_8 (api_Ref.mk o_9 o_10))] : List api_Arg).length 2)] (by kernel_rfl) ?_
           refine ops_bool (t := x6) (l1 := [(121, .bool true), (119, .bool false), (1, .map (some b_has)), (3, vP b1 0), (5, vP b2 0), (7, .bool x5), (8, .bool true), (10, .func (.func 139) #[] #[vP b1 0]), (11, .slice (sa g10) ([(api_Arg.mk o_3 o_4 (api_Ref.mk o_5 o_6)), (api_Arg.mk o_7 o_8 (api_Ref.mk o_9 o_10))] : List api_Arg).length 2)]) (l2 := [(121, .bool false), (119, .bool false), (1, .map (some b_has)), (3, vP b1 0), (5, vP b2 0), (7, .bool x5), (8, .bool false), (10, .func (.func 139) #[] #[vP b1 0]), (11, .slice (sa g10) ([(api_Arg.mk o_3 o_4 (api_Ref.mk o_5 o_6)), (api_Arg.mk o_7 o_8 (api_Ref.mk o_9 o_10))] : List api_Arg).length 2)]) (fun h => by rw [h]) (fun h => by rw [h]) (fun hc65 => ?_) (fun hc65 => ?_)
           ·
            have hp := cnd_t hc65 hp
            refine oQ [oF 26, oF 27] [(123, vP b2 2), (121, .bool true), (119, .bool false), (1, .map (some b_has)), (3, vP b1 0), (5, vP b2 0), (7, .bool x5), (8, .bool true), (10, .func (.func 139) #[] #[vP b1 0]), (11, .slice (sa g10) ([(api_Arg.mk o_3 o_4 (api_Ref.mk o_5 o_6)), (api_Arg.mk o_7 o_8 (api_Ref.mk o_9 o_10))] : List api_Arg).length 2)] (by kernel_rfl) ?_
            refine ops_mem (d := some 124) (an := [.v (vI o_2)]) (evs := [ld b2 2 (vI o_2)]) (v := vI o_2) ⟨by kernel_rfl⟩ (fun w_ hM hS => ⟨w_, ⟨hM.cell 2 rfl rfl, rfl⟩, hM, trivial⟩) ?_
            refine oQ [oF 29, oF 30, oF 31] [(127, .bool (!(o_2 == 0))), (1, .map (some b_has)), (3, vP b1 0), (5, vP b2 0), (7, .bool x5), (8, .bool true), (10, .func (.func 139) #[] #[vP b1 0]), (11, .slice (sa g10) ([(api_Arg.mk o_3 o_4 (api_Ref.mk o_5 o_6)), (api_Arg.mk o_7 o_8 (api_Ref.mk o_9 o_10))] : List api_Arg).length 2)] (by kernel_rfl) ?_
            refine ops_nil (fin_then ?_)
            refine st_if (b := !(o_2 == 0)) rfl (fun hc66 => ?_) (fun hc66 => ?_)
            ·
             have hp := cnd_t hc66 hp
             refine st_seq (st_region [oF 0] (by rfl) ?_)
             refine oQ [oF 0] [(6, vI 3)] (by kernel_rfl) ?_
             refine ops_nil (fin_then (st_ret (fin_ret_then ?_)))
             have hq_ := Option.some.inj hp
             have hr0_ := hq_
             subst hr0_
             refine fin_ret [.tmp 6] [vI 3] rfl rfl (fun w_ hM => (.tmp rfl .nil)) (fun w_ hM => ?_)
             exact ⟨es_has, ck_has, h_has, rfl, hM.pick 6 [0, 5] (by kernel_rfl) (by decide) rfl⟩
            ·
             have hp := cnd_f hc66 hp
             refine st_skip ?_
             exact fin_join HJ3 true hp (look_has ⟨rfl, rfl, rfl, rfl, rfl, rfl, rfl, trivial⟩) (fun w_ hM => hM.pick 6 [0, 1, 2, 3, 5] (by kernel_rfl) (by decide) rfl)
           ·
            have hp := cnd_f hc65 hp
            refine oQ [oF 26, oF 27, oF 28, oF 29, oF 30, oF 31] [(127, .bool false), (1, .map (some b_has)), (3, vP b1 0), (5, vP b2 0), (7, .bool x5), (8, .bool false), (10, .func (.func 139) #[] #[vP b1 0]), (11, .slice (sa g10) ([(api_Arg.mk o_3 o_4 (api_Ref.mk o_5 o_6)), (api_Arg.mk o_7 o_8 (api_Ref.mk o_9 o_10))] : List api_Arg).length 2)] (by kernel_rfl) ?_
            refine ops_nil (fin_then (st_false rfl (st_skip ?_)))
            exact fin_join HJ3 false hp (look_has ⟨rfl, rfl, rfl, rfl, rfl, rfl, rfl, trivial⟩) (fun w_ hM => hM.pick 6 [0, 1, 2, 3, 5] (by kernel_rfl) (by decide) rfl)
         ·
          have hp := cnd_f hc63 hp
          refine oQ [oF 16, oF 17, oF 18, oF 19, oF 20, oF 21, oF 22, oF 23, oF 24, oF 25] [(121, .bool x6), (119, .bool false), (1, .map (some b_has)), (3, vP b1 0), (5, vP b2 0), (7, .bool x5), (8, .bool x6), (10, .func (.func 139) #[] #[vP b1 0]), (11, .slice (sa g10) ([(api_Arg.mk o_3 o_4 (api_Ref.mk o_5 o_6)), (api_Arg.mk o_7 o_8 (api_Ref.mk o_9 o_10))] : List api_Arg).length 2)] (by kernel_rfl) ?_
          refine ops_bool (t := x6) (l1 := [(121, .bool true), (119, .bool false), (1, .map (some b_has)), (3, vP b1 0), (5, vP b2 0), (7, .bool x5), (8, .bool true), (10, .func (.func 139) #[] #[vP b1 0]), (11, .slice (sa g10) ([(api_Arg.mk o_3 o_4 (api_Ref.mk o_5 o_6)), (api_Arg.mk o_7 o_8 (api_Ref.mk o_9 o_10))] : List api_Arg).length 2)]) (l2 := [(121, .bool false), (119, .bool false), (1, .map (some b_has)), (3, vP b1 0), (5, vP b2 0), (7, .bool x5), (8, .bool false), (10, .func (.func 139) #[] #[vP b1 0]), (11, .slice (sa g10) ([(api_Arg.mk o_3 o_4 (api_Ref.mk o_5 o_6)), (api_Arg.mk o_7 o_8 (api_Ref.mk o_9 o_10))] : List api_Arg).length 2)]) (fun h => by rw [h]) (fun h => by rw [h]) (fun hc67 => ?_) (fun hc67 => ?_)
          ·
           have hp := cnd_t hc67 hp
           refine oQ [oF 26, oF 27] [(123, vP b2 2), (121, .bool true), (119, .bool false), (1, .map (some b_has)), (3, vP b1 0), (5, vP b2 0), (7, .bool x5), (8, .bool true), (10, .func (.func 139) #[] #[vP b1 0]), (11, .slice (sa g10) ([(api_Arg.mk o_3 o_4 (api_Ref.mk o_5 o_6)), (api_Arg.mk o_7 o_8 (api_Ref.mk o_9 o_10))] : List api_Arg).length 2)] (by kernel_rfl) ?_
           refine ops_mem (d := some 124) (an := [.v (vI o_2)]) (evs := [ld b2 2 (vI o_2)]) (v := vI o_2) ⟨by kernel_rfl⟩ (fun w_ hM hS => ⟨w_, ⟨hM.cell 2 rfl rfl, rfl⟩, hM, trivial⟩) ?_
           refine oQ [oF 29, oF 30, oF 31] [(127, .bool (!(o_2 == 0))), (1, .map (some b_has)), (3, vP b1 0), (5, vP b2 0), (7, .bool x5), (8, .bool true), (10, .func (.func 139) #[] #[vP b1 0]), (11, .slice (sa g10) ([(api_Arg.mk o_3 o_4 (api_Ref.mk o_5 o_6)), (api_Arg.mk o_7 o_8 (api_Ref.mk o_9 o_10))] : List api_Arg).length 2)] (by kernel_rfl) ?_
           refine ops_nil (fin_then ?_)
           refine st_if (b := !(o_2 == 0)) rfl (fun hc68 => ?_) (fun hc68 => ?_)
           ·
            have hp := cnd_t hc68 hp
            refine st_seq (st_region [oF 0] (by rfl) ?_)
            refine oQ [oF 0] [(6, vI 3)] (by kernel_rfl) ?_
            refine ops_nil (fin_then (st_ret (fin_ret_then ?_)))
            have hq_ := Option.some.inj hp
            have hr0_ := hq_
            subst hr0_
            refine fin_ret [.tmp 6] [vI 3] rfl rfl (fun w_ hM => (.tmp rfl .nil)) (fun w_ hM => ?_)
            exact ⟨es_has, ck_has, h_has, rfl, hM.pick 6 [0, 5] (by kernel_rfl) (by decide) rfl⟩
           ·
            have hp := cnd_f hc68 hp
            refine st_skip ?_
            exact fin_join HJ3 true hp (look_has ⟨rfl, rfl, rfl, rfl, rfl, rfl, rfl, trivial⟩) (fun w_ hM => hM.pick 6 [0, 1, 2, 3, 5] (by kernel_rfl) (by decide) rfl)
          ·
           have hp := cnd_f hc67 hp
           refine oQ [oF 26, oF 27, oF 28, oF 29, oF 30, oF 31] [(127, .bool false), (1, .map (some b_has)), (3, vP b1 0), (5, vP b2 0), (7, .bool x5), (8, .bool false), (10, .func (.func 139) #[] #[vP b1 0]), (11, .slice (sa g10) ([(api_Arg.mk o_3 o_4 (api_Ref.mk o_5 o_6)), (api_Arg.mk o_7 o_8 (api_Ref.mk o_9 o_10))] : List api_Arg).length 2)] (by kernel_rfl) ?_
           refine ops_nil (fin_then (st_false rfl (st_skip ?_)))
           exact fin_join HJ3 false hp (look_has ⟨rfl, rfl, rfl, rfl, rfl, rfl, rfl, trivial⟩) (fun w_ hM => hM.pick 6 [0, 1, 2, 3, 5] (by kernel_rfl) (by decide) rfl)
        ·
         have hp := cnd_f hc62 hp
         refine oQ [oF 12, oF 13, oF 14, oF 15, oF 16, oF 17, oF 18, oF 19, oF 20, oF 21, oF 22, oF 23, oF 24, oF 25] [(121, .bool x6), (119, .bool false), (1, .map (some b_has)), (3, vP b1 0), (5, vP b2 0), (7, .bool x5), (8, .bool x6), (10, .func (.func 139) #[] #[vP b1 0]), (11, .slice (sa g10) ([(api_Arg.mk o_3 o_4 (api_Ref.mk o_5 o_6)), (api_Arg.mk o_7 o_8 (api_Ref.mk o_9 o_10))] : List api_Arg).length 2)] (by kernel_rfl) ?_
         refine ops_bool (t := x6) (l1 := [(121, .bool true), (119, .bool false), (1, .map (some b_has)), (3, vP b1 0), (5, vP b2 0), (7, .bool x5), (8, .bool true), (10, .func (.func 139) #[] #[vP b1 0]), (11, .slice (sa g10) ([(api_Arg.mk o_3 o_4 (api_Ref.mk o_5 o_6)), (api_Arg.mk o_7 o_8 (api_Ref.mk o_9 o_10))] : List api_Arg).length 2)]) (l2 := [(121, .bool false), (119, .bool false), (1, .map (some b_has)), (3, vP b1 0), (5, vP b2 0), (7, .bool x5), (8, .bool false), (10, .func (.func 139) #[] #[vP b1 0]), (11, .slice (sa g10) ([(api_Arg.mk o_3 o_4 (api_Ref.mk o_5 o_6)), (api_Arg.mk o_7 o_8 (api_Ref.mk o_9 o_10))] : List api_Arg).length 2)]) (fun h => by rw [h]) (fun h => by rw [h]) (fun hc69 => ?_) (fun hc69 => ?_)
         ·
          have hp := cnd_t hc69 hp
          refine oQ [oF 26, oF 27] [(123, vP b2 2), (121, .bool true), (119, .bool false), (1, .map (some b_has)), (3, vP b1 0), (5, vP b2 0), (7, .bool x5), (8, .bool true), (10, .func (.func 139) #[] #[vP b1 0]), (11, .slice (sa g10) ([(api_Arg.mk o_3 o_4 (api_Ref.mk o_5 o_6)), (api_Arg.mk o_7 o_8 (api_Ref.mk o_9 o_10))] : List api_Arg).length 2)] (by kernel_rfl) ?_
          refine ops_mem (d := some 124) (an := [.v (vI o_2)]) (evs := [ld b2 2 (vI o_2)]) (v := vI o_2) ⟨by kernel_rfl⟩ (fun w_ hM hS => ⟨w_, ⟨hM.cell 2 rfl rfl, rfl⟩, hM, trivial⟩) ?_
          refine oQ [oF 29, oF 30, oF 31] [(127, .bool (!(o_2 == 0))), (1, .map (some b_has)), (3, vP b1 0), (5, vP b2 0), (7, .bool x5), (8, .bool true), (10, .func (.func 139) #[] #[vP b1 0]), (11, .slice (sa g10) ([(api_Arg.mk o_3 o_4 (api_Ref.mk o_5 o_6)), (api_Arg.mk o_7 o_8 (api_Ref.mk o_9 o_10))] : List api_Arg).length 2)] (by kernel_rfl) ?_
          refine ops_nil (fin_then ?_)
          refine st_if (b := !(o_2 == 0)) rfl (fun hc70 => ?_) (fun hc70 => ?_)
          ·
           have hp := cnd_t hc70 hp
           refine st_seq (st_region [oF 0] (by rfl) ?_)
           refine oQ [oF 0] [(6, vI 3)] (by kernel_rfl) ?_
           refine ops_nil (fin_then (st_ret (fin_ret_then ?_)))
           have hq_ := Option.some.inj hp
           have hr0_ := hq_
           subst hr0_
           refine fin_ret [.tmp 6] [vI 3] rfl rfl (fun w_ hM => (.tmp rfl .nil)) (fun w_ hM => ?_)
           exact ⟨es_has, ck_has, h_has, rfl, hM.pick 6 [0, 5] (by kernel_rfl) (by decide) rfl⟩
          ·
           have hp := cnd_f hc70 hp
           refine st_skip ?_
           exact fin_join HJ3 true hp (look_has ⟨rfl, rfl, rfl, rfl, rfl, rfl, rfl, trivial⟩) (fun w_ hM => hM.pick 6 [0, 1, 2, 3, 5] (by kernel_rfl) (by decide) rfl)
         ·
          have hp := cnd_f hc69 hp
          refine oQ [oF 26, oF 27, oF 28, oF 29, oF 30, oF 31] [(127, .bool false), (1, .map (some b_has)), (3, vP b1 0), (5, vP b2 0), (7, .bool x5), (8, .bool false), (10, .func (.func 139) #[] #[vP b1 0]), (11, .slice (sa g10) ([(api_Arg.mk o_3 o_4 (api_Ref.mk o_5 o_6)), (api_Arg.mk o_7 o_8 (api_Ref.mk o_9 o_10))] : List api_Arg).length 2)] (by kernel_rfl) ?_
          refine ops_nil (fin_then (st_false rfl (st_skip ?_)))
          exact fin_join HJ3 false hp (look_has ⟨rfl, rfl, rfl, rfl, rfl, rfl, rfl, trivial⟩) (fun w_ hM => hM.pick 6 [0, 1, 2, 3, 5] (by kernel_rfl) (by decide) rfl)
      ·
       have hp := cnd_f hc60 hp
       refine oQ [oF 3, oF 4, oF 5, oF 6, oF 7, oF 8, oF 9, oF 10, oF 11] [(107, .bool (!x5)), (104, .bool false), (1, .map (some b_has)), (3, vP b1 0), (5, vP b2 0), (7, .bool x5), (8, .bool x6), (10, .func (.func 139) #[] #[vP b1 0]), (11, .slice (sa g10) ([(api_Arg.mk o_3 o_4 (api_Ref.mk o_5 o_6)), (api_Arg.mk o_7 o_8 (api_Ref.mk o_9 o_10))] : List api_Arg).length 2), (14, vP b12 0)] (by kernel_rfl) ?_
       refine ops_bool (t := !x5) (l1 := [(107, .bool true), (104, .bool false), (1, .map (some b_has)), (3, vP b1 0), (5, vP b2 0), (7, .bool x5), (8, .bool x6), (10, .func (.func 139) #[] #[vP b1 0]), (11, .slice (sa g10) ([(api_Arg.mk o_3 o_4 (api_Ref.mk o_5 o_6)), (api_Arg.mk o_7 o_8 (api_Ref.mk o_9 o_10))] : List api_Arg).length 2), (14, vP b12 0)]) (l2 := [(107, .bool false), (104, .bool false), (1, .map (some b_has)), (3, vP b1 0), (5, vP b2 0), (7, .bool x5), (8, .bool x6), (10, .func (.func 139) #[] #[vP b1 0]), (11, .slice (sa g10) ([(api_Arg.mk o_3 o_4 (api_Ref.mk o_5 o_6)), (api_Arg.mk o_7 o_8 (api_Ref.mk o_9 o_10))] : List api_Arg).length 2), (14, vP b12 0)]) (fun h => by rw [h]) (fun h => by rw [h]) (fun hc71 => ?_) (fun hc71 => ?_)
       ·
        have hp := cnd_t hc71 hp
        refine oQ [oF 12, oF 13, oF 14, oF 15] [(111, .bool (!x6)), (104, .bool false), (1, .map (some b_has)), (3, vP b1 0), (5, vP b2 0), (7, .bool x5), (8, .bool x6), (10, .func (.func 139) #[] #[vP b1 0]), (11, .slice (sa g10) ([(api_Arg.mk o_3 o_4 (api_Ref.mk o_5 o_6)), (api_Arg.mk o_7 o_8 (api_Ref.mk o_9 o_10))] : List api_Arg).length 2), (14, vP b12 0)] (by kernel_rfl) ?_
        refine ops_bool (t := !x6) (l1 := [(111, .bool true), (104, .bool false), (1, .map (some b_has)), (3, vP b1 0), (5, vP b2 0), (7, .bool x5), (8, .bool x6), (10, .func (.func 139) #[] #[vP b1 0]), (11, .slice (sa g10) ([(api_Arg.mk o_3 o_4 (api_Ref.mk o_5 o_6)), (api_Arg.mk o_7 o_8 (api_Ref.mk o_9 o_10))] : List api_Arg).length 2), (14, vP b12 0)]) (l2 := [(111, .bool false), (104, .bool false), (1, .map (some b_has)), (3, vP b1 0), (5, vP b2 0), (7, .bool x5), (8, .bool x6), (10, .func (.func 139) #[] #[vP b1 0]), (11, .slice (sa g10) ([(api_Arg.mk o_3 o_4 (api_Ref.mk o_5 o_6)), (api_Arg.mk o_7 o_8 (api_Ref.mk o_9 o_10))] : List api_Arg).length 2), (14, vP b12 0)]) (fun h => by rw [h]) (fun h => by rw [h]) (fun hc72 => ?_) (fun hc72 => ?_)
        ·
         have hp := cnd_t hc72 hp
         refine oQ [oF 16] [(112, vP b2 1), (111, .bool true), (104, .bool false), (1, .map (some b_has)), (3, vP b1 0), (5, vP b2 0), (7, .bool x5), (8, .bool x6), (10, .func (.func 139) #[] #[vP b1 0]), (11, .slice (sa g10) ([(api_Arg.mk o_3 o_4 (api_Ref.mk o_5 o_6)), (api_Arg.mk o_7 o_8 (api_Ref.mk o_9 o_10))] : List api_Arg).length 2), (14, vP b12 0)] (by kernel_rfl) ?_
         refine ops_mem (d := some 113) (an := [.v (vI o_1), .v (vI o_2)]) (evs := [ld b2 1 (vI o_1), ld b2 2 (vI o_2)]) (v := .agg #[vI o_1, vI o_2]) ⟨by kernel_rfl⟩ (fun w_ hM hS => ⟨w_, ⟨hM.cell 2 rfl rfl, hM.cell 2 rfl rfl, rfl⟩, hM, trivial⟩) ?_
         refine oQ [oF 18] [(114, vP b12 2), (113, .agg #[vI o_1, vI o_2]), (111, .bool true), (104, .bool false), (1, .map (some b_has)), (3, vP b1 0), (5, vP b2 0), (7, .bool x5), (8, .bool x6), (10, .func (.func 139) #[] #[vP b1 0]), (11, .slice (sa g10) ([(api_Arg.mk o_3 o_4 (api_Ref.mk o_5 o_6)), (api_Arg.mk o_7 o_8 (api_Ref.mk o_9 o_10))] : List api_Arg).length 2)] (by kernel_rfl) ?_
         refine ops_mem (d := some 115) (an := [.v (vI 0), .v (vI 0)]) (evs := [ld b12 2 (vI 0), ld b12 3 (vI 0)]) (v := .agg #[vI 0, vI 0]) ⟨by kernel_rfl⟩ (fun w_ hM hS => ⟨w_, ⟨hM.cell 4 rfl rfl, hM.cell 4 rfl rfl, rfl⟩, hM, trivial⟩) ?_
         refine ops_val (op := (.binOp Go.BinOp.neq 166 (.tmp 113) (.tmp 115) 166)) (d := some 116) (v := .bool (!(o_1 == 0 && (o_2 == 0)))) ⟨by kernel_rfl⟩ (run_neq_agg (r := o_1 == 0 && (o_2 == 0)) rfl rfl (by kernel_rfl) (fun w => eqA166 9998 w o_1 0 o_2 0)) ?_
         refine oQ [oF 21, oF 22, oF 23] [(119, .bool (!(o_1 == 0 && (o_2 == 0)))), (1, .map (some b_has)), (3, vP b1 0), (5, vP b2 0), (7, .bool x5), (8, .bool x6), (10, .func (.func 139) #[] #[vP b1 0]), (11, .slice (sa g10) ([(api_Arg.mk o_3 o_4 (api_Ref.mk o_5 o_6)), (api_Arg.mk o_7 o_8 (api_Ref.mk o_9 o_10))] : List api_Arg).length 2)] (by kernel_rfl) ?_
         refine ops_bool (t := !(o_1 == 0 && (o_2 == 0))) (l1 := [(119, .bool true), (1, .map (some b_has)), (3, vP b1 0), (5, vP b2 0), (7, .bool x5), (8, .bool x6), (10, .func (.func 139) #[] #[vP b1 0]), (11, .slice (sa g10) ([(api_Arg.mk o_3 o_4 (api_Ref.mk o_5 o_6)), (api_Arg.mk o_7 o_8 (api_Ref.mk o_9 o_10))] : List api_Arg).length 2)]) (l2 := [(119, .bool false), (1, .map (some b_has)), (3, vP b1 0), (5, vP b2 0), (7, .bool x5), (8, .bool x6), (10, .func (.func 139) #[] #[vP b1 0]), (11, .slice (sa g10) ([(api_Arg.mk o_3 o_4 (api_Ref.mk o_5 o_6)), (api_Arg.mk o_7 o_8 (api_Ref.mk o_9 o_10))] : List api_Arg).length 2)]) (fun h => by rw [h]) (fun h => by rw [h]) (fun hc73 => ?_) (fun hc73 => ?_)
         ·
          have hp := cnd_t hc73 hp
          refine oQ [oF 24, oF 25, oF 26, oF 27, oF 28, oF 29, oF 30, oF 31] [(127, .bool true), (1, .map (some b_has)), (3, vP b1 0), (5, vP b2 0), (7, .bool x5), (8, .bool x6), (10, .func (.func 139) #[] #[vP b1 0]), (11, .slice (sa g10) ([(api_Arg.mk o_3 o_4 (api_Ref.mk o_5 o_6)), (api_Arg.mk o_7 o_8 (api_Ref.mk o_9 o_10))] : List api_Arg).length 2)] (by kernel_rfl) ?_
          refine ops_nil (fin_then (st_true rfl (st_seq (st_region [oF 0] (by rfl) ?_))))
          refine oQ [oF 0] [(6, vI 3)] (by kernel_rfl) ?_
          refine ops_nil (fin_then (st_ret (fin_ret_then ?_)))
          have hq_ := Option.some.inj hp
          have hr0_ := hq_
          subst hr0_
          refine fin_ret [.tmp 6] [vI 3] rfl rfl (fun w_ hM => (.tmp rfl .nil)) (fun w_ hM => ?_)
          exact ⟨es_has, ck_has, h_has, rfl, hM.pick 6 [0, 5] (by kernel_rfl) (by decide) rfl⟩
         ·
          have hp := cnd_f hc73 hp
          refine oQ [oF 24, oF 25] [(121, .bool x6), (119, .bool false), (1, .map (some b_has)), (3, vP b1 0), (5, vP b2 0), (7, .bool x5), (8, .bool x6), (10, .func (.func 139) #[] #[vP b1 0]), (11, .slice (sa g10) ([(api_Arg.mk o_3 o_4 (api_Ref.mk o_5 o_6)), (api_Arg.mk o_7 o_8 (api_Ref.mk o_9 o_10))] : List api_Arg).length 2)] (by kernel_rfl) ?_
          refine ops_bool (t := x6) (l1 := [(121, .bool true), (119, .bool false), (1, .map (some b_has)), (3, vP b1 0), (5, vP b2 0), (7, .bool x5), (8, .bool true), (10, .func (.func 139) #[] #[vP b1 0]), (11, .slice (sa g10) ([(api_Arg.mk o_3 o_4 (api_Ref.mk o_5 o_6)), (api_Arg.mk o_7 o_8 (api_Ref.mk o_9 o_10))] : List api_Arg).length 2)]) (l2 := [(121, .bool false), (119, .bool false), (1, .map (some b_has)), (3, vP b1 0), (5, vP b2 0), (7, .bool x5), (8, .bool false), (10, .func (.func 139) #[] #[vP b1 0]), (11, .slice (sa g10) ([(api_Arg.mk o_3 o_4 (api_Ref.mk o_5 o_6)), (api_Arg.mk o_7 o_8 (api_Ref.mk o_9 o_10))] : List api_Arg).length 2)]) (fun h => by rw [h]) (fun h => by rw [h]) (fun hc74 => ?_) (fun hc74 => ?_)
          ·
           have hp := cnd_t hc74 hp
           refine oQ [oF 26, oF 27] [(123, vP b2 2), (121, .bool true), (119, .bool false), (1, .map (some b_has)), (3, vP b1 0), (5, vP b2 0), (7, .bool x5), (8, .bool true), (10, .func (.func 139) #[] #[vP b1 0]), (11, .slice (sa g10) ([(api_Arg.mk o_3 o_4 (api_Ref.mk o_5 o_6)), (api_Arg.mk o_7 o_8 (api_Ref.mk o_9 o_10))] : List api_Arg).length 2)] (by kernel_rfl) ?_
           refine ops_mem (d := some 124) (an := [.v (vI o_2)]) (evs := [ld b2 2 (vI o_2)]) (v := vI o_2) ⟨by kernel_rfl⟩ (fun w_ hM hS => ⟨w_, ⟨hM.cell 2 rfl rfl, rfl⟩, hM, trivial⟩) ?_
           refine oQ [oF 29, oF 30, oF 31] [(127, .bool (!(o_2 == 0))), (1, .map (some b_has)), (3, vP b1 0), (5, vP b2 0), (7, .bool x5), (8, .bool true), (10, .func (.func 139) #[] #[vP b1 0]), (11, .slice (sa g10) ([(api_Arg.mk o_3 o_4 (api_Ref.mk o_5 o_6)), (api_Arg.mk o_7 o_8 (api_Ref.mk o_9 o_10))] : List api_Arg).length 2)] (by kernel_rfl) ?_
           refine ops_nil (fin_then ?_)
           refine st_if (b := !(o_2 == 0)) rfl (fun hc75 => ?_) (fun hc75 => ?_)
           ·
            have hp := cnd_t hc75 hp
            refine st_seq (st_region [oF 0] (by rfl) ?_)
            refine oQ [oF 0] [(6, vI 3)] (by kernel_rfl) ?_
            refine ops_nil (fin_then (st_ret (fin_ret_then ?_)))
            have hq_ := Option.some.inj hp
            have hr0_ := hq_
            subst hr0_
            refine fin_ret [.tmp 6] [vI 3] rfl rfl (fun w_ hM => (.tmp rfl .nil)) (fun w_ hM => ?_)
            exact ⟨es_has, ck_has, h_has, rfl, hM.pick 6 [0, 5] (by kernel_rfl) (by decide) rfl⟩
           ·
            have hp := cnd_f hc75 hp
            refine st_skip ?_
            exact fin_join HJ3 true hp (look_has ⟨rfl, rfl, rfl, rfl, rfl, rfl, rfl, trivial⟩) (fun w_ hM => hM.pick 6 [0, 1, 2, 3, 5] (by kernel_rfl) (by decide) rfl)
          ·
           have hp := cnd_f hc74 hp
           refine oQ [oF 26, oF 27, oF 28, oF 29, oF 30, oF 31] [(127, .bool false), (1, .map (some b_has)), (3, vP b1 0), (5, vP b2 0), (7, .bool x5), (8, .bool false), (10, .func (.func 139) #[] #[vP b1 0]), (11, .slice (sa g10) ([(api_Arg.mk o_3 o_4 (api_Ref.mk o_5 o_6)), (api_Arg.mk o_7 o_8 (api_Ref.mk o_9 o_10))] : List api_Arg).length 2)] (by kernel_rfl) ?_
           refine ops_nil (fin_then (st_false rfl (st_skip ?_)))
           exact fin_join HJ3 false hp (look_has ⟨rfl, rfl, rfl, rfl, rfl, rfl, rfl, trivial⟩) (fun w_ hM => hM.pick 6 [0, 1, 2, 3, 5] (by kernel_rfl) (by decide) rfl)
        ·
         have hp := cnd_f hc72 hp
         refine oQ [oF 16, oF 17, oF 18, oF 19, oF 20, oF 21, oF 22, oF 23, oF 24, oF 25] [(121, .bool x6), (119, .bool false), (1, .map (some b_has)), (3, vP b1 0), (5, vP b2 0), (7, .bool x5), (8, .bool x6), (10, .func (.func 139) #[] #[vP b1 0]), (11, .slice (sa g10) ([(api_Arg.mk o_3 o_4 (api_Ref.mk o_5 o_6)), (api_Arg.mk o_7 o_8 (api_Ref.mk o_9 o_10))] : List api_Arg).length 2)] (by kernel_rfl) ?_
         refine ops_bool (t := x6) (l1 := [(121, .bool true), (119, .bool false), (1, .map (some b_has)), (3, vP b1 0), (5, vP b2 0), (7, .bool x5), (8, .bool true), (10, .func (.func 139) #[] #[vP b1 0]), (11, .slice (sa g10) ([(api_Arg.mk o_3 o_4 (api_Ref.mk o_5 o_6)), (api_Arg.mk o_7 o_8 (api_Ref.mk o_9 o_10))] : List api_Arg).length 2)]) (l2 := [(121, .bool false), (119, .bool false), (1, .map (some b_has)), (3, vP b1 0), (5, vP b2 0), (7, .bool x5), (8, .bool false), (10, .func (.func 139) #[] #[vP b1 0]), (11, .slice (sa g10) ([(api_Arg.mk o_3 o_4 (api_Ref.mk o_5 o_6)), (api_Arg.mk o_7 o_8 (api_Ref.mk o_9 o_10))] : List api_Arg).length 2)]) (fun h => by rw [h]) (fun h => by rw [h]) (fun hc76 => ?_) (fun hc76 => ?_)
         ·
          have hp := cnd_t hc76 hp
          refine oQ [oF 26, oF 27] [(123, vP b2 2), (121, .bool true), (119, .bool false), (1, .map (some b_has)), (3, vP b1 0), (5, vP b2 0), (7, .bool x5), (8, .bool true), (10, .func (.func 139) #[] #[vP b1 0]), (11, .slice (sa g10) ([(api_Arg.mk o_3 o_4 (api_Ref.mk o_5 o_6)), (api_Arg.mk o_7 o_8 (api_Ref.mk o_9 o_10))] : List api_Arg).length 2)] (by kernel_rfl) ?_
          refine ops_mem (d := some 124) (an := [.v (vI o_2)]) (evs := [ld b2 2 (vI o_2)]) (v := vI o_2) ⟨by kernel_rfl⟩ (fun w_ hM hS => ⟨w_, ⟨hM.cell 2 rfl rfl, rfl⟩, hM, trivial⟩) ?_
          refine oQ [oF 29, oF 30, oF 31] [(127, .bool (!(o_2 == 0))), (1, .map (some b_has)), (3, vP b1 0), (5, vP b2 0), (7, .bool x5), (8, .bool true), (10, .func (.func 139) #[] #[vP b1 0]), (11, .slice (sa g10) ([(api_Arg.mk o_3 o_4 (api_Ref.mk o_5 o_6)), (api_Arg.mk o_7 o_8 (api_Ref.mk o_9 o_10))] : List api_Arg).length 2)] (by kernel_rfl) ?_
          refine ops_nil (fin_then ?_)
          refine st_if (b := !(o_2 == 0)) rfl (fun hc77 => ?_) (fun hc77 => ?_)
          ·
           have hp := cnd_t hc77 hp
           refine st_seq (st_region [oF 0] (by rfl) ?_)
           refine oQ [oF 0] [(6, vI 3)] (by kernel_rfl) ?_
           refine ops_nil (fin_then (st_ret (fin_ret_then ?_)))
           have hq_ := Option.some.inj hp
           have hr0_ := hq_
           subst hr0_
           refine fin_ret [.tmp 6] [vI 3] rfl rfl (fun w_ hM => (.tmp rfl .nil)) (fun w_ hM => ?_)
           exact ⟨es_has, ck_has, h_has, rfl, hM.pick 6 [0, 5] (by kernel_rfl) (by decide) rfl⟩
          ·
           have hp := cnd_f hc77 hp
           refine st_skip ?_
           exact fin_join HJ3 true hp (look_has ⟨rfl, rfl, rfl, rfl, rfl, rfl, rfl, trivial⟩) (fun w_ hM => hM.pick 6 [0, 1, 2, 3, 5] (by kernel_rfl) (by decide) rfl)
         ·
          have hp := cnd_f hc76 hp
          refine oQ [oF 26, oF 27, oF 28, oF 29, oF 30, oF 31] [(127, .bool false), (1, .map (some b_has)), (3, vP b1 0), (5, vP b2 0), (7, .bool x5), (8, .bool false), (10, .func (.func 139) #[] #[vP b1 0]), (11, .slice (sa g10) ([(api_Arg.mk o_3 o_4 (api_Ref.mk o_5 o_6)), (api_Arg.mk o_7 o_8 (api_Ref.mk o_9 o_10))] : List api_Arg).length 2)] (by kernel_rfl) ?_
          refine ops_nil (fin_then (st_false rfl (st_skip ?_)))
          exact fin_join HJ3 false hp (look_has ⟨rfl, rfl, rfl, rfl, rfl, rfl, rfl, trivial⟩) (fun w_ hM => hM.pick 6 [0, 1, 2, 3, 5] (by kernel_rfl) (by decide) rfl)
       ·
        have hp := cnd_f hc71 hp
        refine oQ [oF 12, oF 13, oF 14, oF 15, oF 16, oF 17, oF 18, oF 19, oF 20, oF 21, oF 22, oF 23, oF 24, oF 25] [(121, .bool x6), (119, .bool false), (1, .map (some b_has)), (3, vP b1 0), (5, vP b2 0), (7, .bool x5), (8, .bool x6), (10, .func (.func 139) #[] #[vP b1 0]), (11, .slice (sa g10) ([(api_Arg.mk o_3 o_4 (api_Ref.mk o_5 o_6)), (api_Arg.mk o_7 o_8 (api_Ref.mk o_9 o_10))] : List api_Arg).length 2)] (by kernel_rfl) ?_
        refine ops_bool (t := x6) (l1 := [(121, .bool true), (119, .bool false), (1, .map (some b_has)), (3, vP b1 0), (5, vP b2 0), (7, .bool x5), (8, .bool true), (10, .func (.func 139) #[] #[vP b1 0]), (11, .slice (sa g10) ([(api_Arg.mk o_3 o_4 (api_Ref.mk o_5 o_6)), (api_Arg.mk o_7 o_8 (api_Ref.mk o_9 o_10))] : List api_Arg).length 2)]) (l2 := [(121, .bool false), (119, .bool false), (1, .map (some b_has)), (3, vP b1 0), (5, vP b2 0), (7, .bool x5), (8, .bool false), (10, .func (.func 139) #[] #[vP b1 0]), (11, .slice (sa g10) ([(api_Arg.mk o_3 o_4 (api_Ref.mk o_5 o_6)), (api_Arg.mk o_7 o_8 (api_Ref.mk o_9 o_10))] : List api_Arg).length 2)]) (fun h => by rw [h]) (fun h => by rw [h]) (fun hc78 => ?_) (fun hc78 => ?_)
        ·
         have hp := cnd_t hc78 hp
         refine oQ [oF 26, oF 27] [(123, vP b2 2), (121, .bool true), (119, .bool false), (1, .map (some b_has)), (3, vP b1 0), (5, vP b2 0), (7, .bool x5), (8, .bool true), (10, .func (.func 139) #[] #[vP b1 0]), (11, .slice (sa g10) ([(api_Arg.mk o_3 o_4 (api_Ref.mk o_5 o_6)), (api_Arg.mk o_7 o_8 (api_Ref.mk o_9 o_10))] : List api_Arg).length 2)] (by kernel_rfl) ?_
         refine ops_mem (d := some 124) (an := [.v (vI o_2)]) (evs := [ld b2 2 (vI o_2)]) (v := vI o_2) ⟨by kernel_rfl⟩ (fun w_ hM hS => ⟨w_, ⟨hM.cell 2 rfl rfl, rfl⟩, hM, trivial⟩) ?_
         refine oQ [oF 29, oF 30, oF 31] [(127, .bool (!(o_2 == 0))), (1, .map (some b_has)), (3, vP b1 0), (5, vP b2 0), (7, .bool x5), (8, .bool true), (10, .func (.func 139) #[] #[vP b1 0]), (11, .slice (sa g10) ([(api_Arg.mk o_3 o_4 (api_Ref.mk o_5 o_6)), (api_Arg.mk o_7 o_8 (api_Ref.mk o_9 o_10))] : List api_Arg).length 2)] (by kernel_rfl) ?_
         refine ops_nil (fin_then ?_)
         refine st_if (b := !(o_2 == 0)) rfl (fun hc79 => ?_) (fun hc79 => ?_)
         ·
          have hp := cnd_t hc79 hp
          refine st_seq (st_region [oF 0] (by rfl) ?_)
          refine oQ [oF 0] [(6, vI 3)] (by kernel_rfl) ?_
          refine ops_nil (fin_then (st_ret (fin_ret_then ?_)))
          have hq_ := Option.some.inj hp
          have hr0_ := hq_
          subst hr0_
          refine fin_ret [.tmp 6] [vI 3] rfl rfl (fun w_ hM => (.tmp rfl .nil)) (fun w_ hM => ?_)
          exact ⟨es_has, ck_has, h_has, rfl, hM.pick 6 [0, 5] (by kernel_rfl) (by decide) rfl⟩
         ·
          have hp := cnd_f hc79 hp
          refine st_skip ?_
          exact fin_join HJ3 true hp (look_has ⟨rfl, rfl, rfl, rfl, rfl, rfl, rfl, trivial⟩) (fun w_ hM => hM.pick 6 [0, 1, 2, 3, 5] (by kernel_rfl) (by decide) rfl)
        ·
         have hp := cnd_f hc78 hp
         refine oQ [oF 26, oF 27, oF 28, oF 29, oF 30, oF 31] [(127, .bool false), (1, .map (some b_has)), (3, vP b1 0), (5, vP b2 0), (7, .bool x5), (8, .bool false), (10, .func (.func 139) #[] #[vP b1 0]), (11, .slice (sa g10) ([(api_Arg.mk o_3 o_4 (api_Ref.mk o_5 o_6)), (api_Arg.mk o_7 o_8 (api_Ref.mk o_9 o_10))] : List api_Arg).length 2)] (by kernel_rfl) ?_
         refine ops_nil (fin_then (st_false rfl (st_skip ?_)))
         exact fin_join HJ3 false hp (look_has ⟨rfl, rfl, rfl, rfl, rfl, rfl, rfl, trivial⟩) (fun w_ hM => hM.pick 6 [0, 1, 2, 3, 5] (by kernel_rfl) (by decide) rfl)
    ·
     intro HJ2
     refine st_seq (st_seq (st_region [oF 0, oF 1, oF 2] (by rfl) ?_))
     refine oQ [oF 0, oF 1, oF 2] [(72, vI 0), (71, vI (([(api_Arg.mk o_3 o_4 (api_Ref.mk o_5 o_6)), (api_Arg.mk o_7 o_8 (api_Ref.mk o_9 o_10))] : List api_Arg).length : Int)), (70, .slice (sa g10) ([(api_Arg.mk o_3 o_4 (api_Ref.mk o_5 o_6)), (api_Arg.mk o_7 o_8 (api_Ref.mk o_9 o_10))] : List api_Arg).length 2), (14, vP b12 0), (1, .map (some b_has)), (3, vP b1 0), (5, vP b2 0), (7, .bool x5), (8, .bool x6), (9, .bool x7), (10, .func (.func 139) #[] #[vP b1 0]), (11, .slice (sa g10) ([(api_Arg.mk o_3 o_4 (api_Ref.mk o_5 o_6)), (api_Arg.mk o_7 o_8 (api_Ref.mk o_9 o_10))] : List api_Arg).length 2)] (by kernel_rfl) ?_
     obtain ⟨x80, hv81, hp⟩ := obind hp
     refine ops_conv (l' := [(72, vI 0), (71, vI x80), (70, .slice (sa g10) ([(api_Arg.mk o_3 o_4 (api_Ref.mk o_5 o_6)), (api_Arg.mk o_7 o_8 (api_Ref.mk o_9 o_10))] : List api_Arg).length 2), (14, vP b12 0), (1, .map (some b_has)), (3, vP b1 0), (5, vP b2 0), (7, .bool x5), (8, .bool x6), (9, .bool x7), (10, .func (.func 139) #[] #[vP b1 0]), (11, .slice (sa g10) ([(api_Arg.mk o_3 o_4 (api_Ref.mk o_5 o_6)), (api_Arg.mk o_7 o_8 (api_Ref.mk o_9 o_10))] : List api_Arg).length 2)]) (by rw [← Option.some.inj hv81]) (fun _ h => h) ?_
     refine ops_nil (fin_then (st_block ?_))
     obtain ⟨r9, hl9, hk9⟩ := obind hp
     refine st_loopP (σ := Int) (ρ := (Int ⊕ Unit)) (γ := Unit) hl9 () (fun s_ g_ => match s_, g_ with | i82, _ => [(1, .map (some b_has)), (3, vP b1 0), (5, vP b2 0), (7, .bool x5), (8, .bool x6), (9, .bool x7), (10, .func (.func 139) #[] #[vP b1 0]), (11, .slice (sa g10) ([(api_Arg.mk o_3 o_4 (api_Ref.mk o_5 o_6)), (api_Arg.mk o_7 o_8 (api_Ref.mk o_9 o_10))] : List api_Arg).length 2), (14, vP b12 0), (70, .slice (sa g10) ([(api_Arg.mk o_3 o_4 (api_Ref.mk o_5 o_6)), (api_Arg.mk o_7 o_8 (api_Ref.mk o_9 o_10))] : List api_Arg).length 2), (71, vI x80), (72, vI i82)]) (fun s_ g_ => match s_, g_ with | i82, _ => Mem w0 (.obj b_has (.map es_has ck_has) :: .blk b1 [sl A_k k c_k] 22 :: .blk b2 [vI o_0, vI o_1, vI o_2, .bool o_3, vI o_4, vI o_5, vI o_6, .bool o_7, vI o_8, vI o_9, vI o_10] 170 :: orow (sa g10) ([(api_Arg.mk o_3 o_4 (api_Ref.mk o_5 o_6)), (api_Arg.mk o_7 o_8 (api_Ref.mk o_9 o_10))] : List api_Arg).length 2 168 4 ([.bool o_3, vI o_4, vI o_5, vI o_6, .bool o_7, vI o_8, vI o_9, vI o_10]) :: .blk b12 [.bool false, vI 0, vI 0, vI 0] 168 :: Fz F W :: cs)) (fun s_ g_ => match s_, g_ with | i82, _ => True) trivial (look_has ⟨rfl, rfl, rfl, rfl, rfl, rfl, rfl, rfl, rfl, rfl, rfl, rfl, trivial⟩) (fun w_ hM => hM.pick 6 [1, 2, 3, 4, 0, 5] (by kernel_rfl) (by decide) rfl) ?_
     rintro i82 _ o9 - hs_ hd9
     have hp : (tourref3_opError_l9 x80 o_3 o_4 o_5 o_6 o_7 o_8 o_9 o_10) i82 = some o9 := hs_
     clear hs_
     unfold tourref3_opError_l9 at hp
     refine st_seq (st_region [oF 0] (by rfl) ?_)
     refine oQ [oF 0] [(73, .bool (decide (i82 < x80))), (1, .map (some b_has)), (3, vP b1 0), (5, vP b2 0), (7, .bool x5), (8, .bool x6), (9, .bool x7), (10, .func (.func 139) #[] #[vP b1 0]), (11, .slice (sa g10) ([(api_Arg.mk o_3 o_4 (api_Ref.mk o_5 o_6)), (api_Arg.mk o_7 o_8 (api_Ref.mk o_9 o_10))] : List api_Arg).length 2), (14, vP b12 0), (70, .slice (sa g10) ([(api_Arg.mk o_3 o_4 (api_Ref.mk o_5 o_6)), (api_Arg.mk o_7 o_8 (api_Ref.mk o_9 o_10))] : List api_Arg).length 2), (71, vI x80), (72, vI i82)] (by kernel_rfl) ?_
     refine ops_nil (fin_then (st_seq ?_))
     refine st_if (b := decide (i82 < x80)) rfl (fun hc83 => ?_) (fun hc83 => ?_)
     ·
      have hp := cnd_t hc83 hp
      refine st_skip (fin_then ?_)
      refine st_join1 (σ := Unit) (L := fun _ => [(1, .map (some b_has)), (3, vP b1 0), (5, vP b2 0), (7, .bool x5), (8, .bool x6), (9, .bool x7), (10, .func (.func 139) #[] #[vP b1 0]), (11, .slice (sa g10) ([(api_Arg.mk o_3 o_4 (api_Ref.mk o_5 o_6)), (api_Arg.mk o_7 o_8 (api_Ref.mk o_9 o_10))] : List api_Arg).length 2), (14, vP b12 0), (70, .slice (sa g10) ([(api_Arg.mk o_3 o_4 (api_Ref.mk o_5 o_6)), (api_Arg.mk o_7 o_8 (api_Ref.mk o_9 o_10))] : List api_Arg).length 2), (71, vI x80), (72, vI i82)]) (N := fun _ => Mem w0 (.obj b_has (.map es_has ck_has) :: .blk b1 [sl A_k k c_k] 22 :: .blk b2 [vI o_0, vI o_1, vI o_2, .bool o_3, vI o_4, vI o_5, vI o_6, .bool o_7, vI o_8, vI o_9, vI o_10] 170 :: orow (sa g10) ([(api_Arg.mk o_3 o_4 (api_Ref.mk o_5 o_6)), (api_Arg.mk o_7 o_8 (api_Ref.mk o_9 o_10))] : List api_Arg).length 2 168 4 ([.bool o_3, vI o_4, vI o_5, vI o_6, .bool o_7, vI o_8, vI o_9, vI o_10]) :: .blk b12 [.bool false, vI 0, vI 0, vI 0] 168 :: Fz F W :: cs)) (I := fun _ => ((tourref3_opError_j10 i82) = some o9)) ?_ ?_
      ·
       rintro _ hp
       unfold tourref3_opError_j10 at hp
       refine st_region [oF 0, oF 1] (by rfl) ?_
       refine oQ [oF 0, oF 1] [(72, vI (IntKind.i64.wrap (i82 + 1))), (1, .map (some b_has)), (3, vP b1 0), (5, vP b2 0), (7, .bool x5), (8, .bool x6), (9, .bool x7), (10, .func (.func 139) #[] #[vP b1 0]), (11, .slice (sa g10) ([(api_Arg.mk o_3 o_4 (api_Ref.mk o_5 o_6)), (api_Arg.mk o_7 o_8 (api_Ref.mk o_9 o_10))] : List api_Arg).length 2), (14, vP b12 0), (70, .slice (sa g10) ([(api_Arg.mk o_3 o_4 (api_Ref.mk o_5 o_6)), (api_Arg.mk o_7 o_8 (api_Ref.mk o_9 o_10))] : List api_Arg).length 2), (71, vI x80)] (by kernel_rfl) ?_
       refine ops_nil ?_
       exact fin_again (IntKind.i64.wrap (i82 + 1)) () (Option.some.inj hp).symm trivial (look_has ⟨rfl, rfl, rfl, rfl, rfl, rfl, rfl, rfl, rfl, rfl, rfl, rfl, trivial⟩) (fun w_ hM => hM)
      ·
       intro HJ10
       refine st_seq (st_block (st_seq (st_region [oF 0, oF 1, oF 2, oF 3] (by rfl) ?_)))
       obtain ⟨x84, hv85, hp⟩ := obind hp
       obtain ⟨m86, hm87, hx88⟩ := idx_some hv85
       have hl91 := (List.getElem?_eq_some_iff.1 hx88).1
       obtain ⟨vs89, hr90, hq92⟩ := h9.at_ m86 x84 hx88
       obtain rfl := dec_api_Arg hr90
       refine ops_val (op := (.indexAddr 221 (.tmp 70) (.tmp 72))) (d := some 74) (v := vP g10 (m86 * 4)) ⟨by kernel_rfl⟩ (run_indexRow Tryd.underlying221 (z := 4) (by kernel_rfl) rfl rfl hm87 hl91 rfl) ?_
       refine ops_mem (d := some 75) (an := [.v (.bool x84.Has), .v (vI x84.N), .v (vI x84.Ref.Kind), .v (vI x84.Ref.Field)]) (evs := [.load ⟨g10, m86 * 4, none⟩ (.bool x84.Has), .load ⟨g10, m86 * 4 + 1, none⟩ (vI x84.N), .load ⟨g10, m86 * 4 + 2, none⟩ (vI x84.Ref.Kind), .load ⟨g10, m86 * 4 + 3, none⟩ (vI x84.Ref.Field)]) (v := .agg #[.bool x84.Has, vI x84.N, vI x84.Ref.Kind, vI x84.Ref.Field]) ⟨by kernel_rfl⟩ (fun w_ hM hS => ⟨w_, ⟨hM.ocell 3 rfl (hq92 0 _ rfl), hM.ocell 3 rfl (hq92 1 _ rfl), hM.ocell 3 rfl (hq92 2 _ rfl), hM.ocell 3 rfl (hq92 3 _ rfl), rfl⟩, hM, trivial⟩) ?_
       refine ops_newB (d := some 16) [.bool false, vI 0, vI 0, vI 0] 168 (fun b93 => ⟨by kernel_rfl⟩) (fun w_ hM hS => trivial) (fun b93 => ?_)
       refine ops_store (an := []) (evs := [sr b93 0 (.bool x84.Has), sr b93 1 (vI x84.N), sr b93 2 (vI x84.Ref.Kind), sr b93 3 (vI x84.Ref.Field)]) ⟨by kernel_rfl⟩ (fun w_ hM hS => let ⟨w', he, h'⟩ := hM.evs_stores [.bool x84.Has, vI x84.N, vI x84.Ref.Kind, vI x84.Ref.Field] 0 rfl 0 (Nat.le_of_ble_eq_true rfl); ⟨w', he, h', trivial⟩) ?_
       refine ops_nil (fin_then (st_seq (st_region [oF 0, oF 1, oF 2, oF 3, oF 4, oF 5, oF 6, oF 7, oF 8, oF 9, oF 10, oF 11, oF 12, oF 13, oF 14, oF 15, oF 16, oF 17, oF 18] (by rfl) ?_)))
       refine oQ [oF 0] [(76, vP b93 0), (16, vP b93 0), (1, .map (some b_has)), (3, vP b1 0), (5, vP b2 0), (7, .bool x5), (8, .bool x6), (9, .bool x7), (10, .func (.func 139) #[] #[vP b1 0]), (11, .slice (sa g10) ([(api_Arg.mk o_3 o_4 (api_Ref.mk o_5 o_6)), (api_Arg.mk o_7 o_8 (api_Ref.mk o_9 o_10))] : List api_Arg).length 2), (14, vP b12 0), (70, .slice (sa g10) ([(api_Arg.mk o_3 o_4 (api_Ref.mk o_5 o_6)), (api_Arg.mk o_7 o_8 (api_Ref.mk o_9 o_10))] : List api_Arg).length 2), (71, vI x80), (72, vI i82)] (by kernel_rfl) ?_
       refine ops_mem (d := some 77) (an := [.v (.bool x84.Has)]) (evs := [ld b93 0 (.bool x84.Has)]) (v := .bool x84.Has) ⟨by kernel_rfl⟩ (fun w_ hM hS => ⟨w_, ⟨hM.cell 0 rfl rfl, rfl⟩, hM, trivial⟩) ?_
       refine oQ [oF 2] [(78, .bool x84.Has), (16, vP b93 0), (1, .map (some b_has)), (3, vP b1 0), (5, vP b2 0), (7, .bool x5), (8, .bool x6), (9, .bool x7), (10, .func (.func 139) #[] #[vP b1 0]), (11, .slice (sa g10) ([(api_Arg.mk o_3 o_4 (api_Ref.mk o_5 o_6)), (api_Arg.mk o_7 o_8 (api_Ref.mk o_9 o_10))] : List api_Arg).length 2), (14, vP b12 0), (70, .slice (sa g10) ([(api_Arg.mk o_3 o_4 (api_Ref.mk o_5 o_6)), (api_Arg.mk o_7 o_8 (api_Ref.mk o_9 o_10))] : List api_Arg).length 2), (71, vI x80), (72, vI i82)] (by kernel_rfl) ?_
       refine ops_bool (t := x84.Has) (l1 := [(78, .bool true), (16, vP b93 0), (1, .map (some b_has)), (3, vP b1 0), (5, vP b2 0), (7, .bool x5), (8, .bool x6), (9, .bool x7), (10, .func (.func 139) #[] #[vP b1 0]), (11, .slice (sa g10) ([(api_Arg.mk o_3 o_4 (api_Ref.mk o_5 o_6)), (api_Arg.mk o_7 o_8 (api_Ref.mk o_9 o_10))] : List api_Arg).length 2), (14, vP b12 0), (70, .slice (sa g10) ([(api_Arg.mk o_3 o_4 (api_Ref.mk o_5 o_6)), (api_Arg.mk o_7 o_8 (api_Ref.mk o_9 o_10))] : List api_Arg).length 2), (71, vI x80), (72, vI i82)]) (l2 := [(78, .bool false), (16, vP b93 0), (1, .map (some b_has)), (3, vP b1 0), (5, vP b2 0), (7, .bool x5), (8, .bool x6), (9, .bool x7), (10, .func (.func 139) #[] #[vP b1 0]), (11, .slice (sa g10) ([(api_Arg.mk o_3 o_4 (api_Ref.mk o_5 o_6)), (api_Arg.mk o_7 o_8 (api_Ref.mk o_9 o_10))] : List api_Arg).length 2), (14, vP b12 0), (70, .slice (sa g10) ([(api_Arg.mk o_3 o_4 (api_Ref.mk o_5 o_6)), (api_Arg.mk o_7 o_8 (api_Ref.mk o_9 o_10))] : List api_Arg).length 2), (71, vI x80), (72, vI i82)]) (fun h => by rw [h]) (fun h => by rw [h]) (fun hc94 => ?_) (fun hc94 => ?_)
       ·
        have hp := cnd_t hc94 hp
        refine oQ [oF 3] [(79, vP b93 1), (78, .bool true), (16, vP b93 0), (1, .map (some b_has)), (3, vP b1 0), (5, vP b2 0), (7, .bool x5), (8, .bool x6), (9, .bool x7), (10, .func (.func 139) #[] #[vP b1 0]), (11, .slice (sa g10) ([(api_Arg.mk o_3 o_4 (api_Ref.mk o_5 o_6)), (api_Arg.mk o_7 o_8 (api_Ref.mk o_9 o_10))] : List api_Arg).length 2), (14, vP b12 0), (70, .slice (sa g10) ([(api_Arg.mk o_3 o_4 (api_Ref.mk o_5 o_6)), (api_Arg.mk o_7 o_8 (api_Ref.mk o_9 o_10))] : List api_Arg).length 2), (71, vI x80), (72, vI i82)] (by kernel_rfl) ?_
        refine ops_mem (d := some 80) (an := [.v (vI x84.N)]) (evs := [ld b93 1 (vI x84.N)]) (v := vI x84.N) ⟨by kernel_rfl⟩ (fun w_ hM hS => ⟨w_, ⟨hM.cell 0 rfl rfl, rfl⟩, hM, trivial⟩) ?_
        refine oQ [oF 5, oF 6, oF 7] [(83, .bool (!(x84.N == 0))), (16, vP b93 0), (1, .map (some b_has)), (3, vP b1 0), (5, vP b2 0), (7, .bool x5), (8, .bool x6), (9, .bool x7), (10, .func (.func 139) #[] #[vP b1 0]), (11, .slice (sa g10) ([(api_Arg.mk o_3 o_4 (api_Ref.mk o_5 o_6)), (api_Arg.mk o_7 o_8 (api_Ref.mk o_9 o_10))] : List api_Arg).length 2), (14, vP b12 0), (70, .slice (sa g10) ([(api_Arg.mk o_3 o_4 (api_Ref.mk o_5 o_6)), (api_Arg.mk o_7 o_8 (api_Ref.mk o_9 o_10))] : List api_Arg).length 2), (71, vI x80), (72, vI i82)] (by kernel_rfl) ?_
        refine ops_bool (t := !(x84.N == 0)) (l1 := [(83, .bool true), (16, vP b93 0), (1, .map (some b_has)), (3, vP b1 0), (5, vP b2 0), (7, .bool x5), (8, .bool x6), (9, .bool x7), (10, .func (.func 139) #[] #[vP b1 0]), (11, .slice (sa g10) ([(api_Arg.mk o_3 o_4 (api_Ref.mk o_5 o_6)), (api_Arg.mk o_7 o_8 (api_Ref.mk o_9 o_10))] : List api_Arg).length 2), (14, vP b12 0), (70, .slice (sa g10) ([(api_Arg.mk o_3 o_4 (api_Ref.mk o_5 o_6)), (api_Arg.mk o_7 o_8 (api_Ref.mk o_9 o_10))] : List api_Arg).length 2), (71, vI x80), (72, vI i82)]) (l2 := [(83, .bool false), (16, vP b93 0), (1, .map (some b_has)), (3, vP b1 0), (5, vP b2 0), (7, .bool x5), (8, .bool x6), (9, .bool x7), (10, .func (.func 139) #[] #[vP b1 0]), (11, .slice (sa g10) ([(api_Arg.mk o_3 o_4 (api_Ref.mk o_5 o_6)), (api_Arg.mk o_7 o_8 (api_Ref.mk o_9 o_10))] : List api_Arg).length 2), (14, vP b12 0), (70, .slice (sa g10) ([(api_Arg.mk o_3 o_4 (api_Ref.mk o_5 o_6)), (api_Arg.mk o_7 o_8 (api_Ref.mk o_9 o_10))] : List api_Arg).length 2), (71, vI x80), (72, vI i82)]) (fun h => by rw [h]) (fun h => by rw [h]) (fun hc95 => ?_) (fun hc95 => ?_)
        ·
         have hp := cnd_t hc95 hp
         refine oQ [oF 8, oF 9, oF 10, oF 11, oF 12, oF 13, oF 14, oF 15, oF 16, oF 17, oF 18] [(94, .bool true), (1, .map (some b_has)), (3, vP b1 0), (5, vP b2 0), (7, .bool x5), (8, .bool x6), (9, .bool x7), (10, .func (.func 139) #[] #[vP b1 0]), (11, .slice (sa g10) ([(api_Arg.mk o_3 o_4 (api_Ref.mk o_5 o_6)), (api_Arg.mk o_7 o_8 (api_Ref.mk o_9 o_10))] : List api_Arg).length 2), (14, vP b12 0), (70, .slice (sa g10) ([(api_Arg.mk o_3 o_4 (api_Ref.mk o_5 o_6)), (api_Arg.mk o_7 o_8 (api_Ref.mk o_9 o_10))] : List api_Arg).length 2), (71, vI x80), (72, vI i82)] (by kernel_rfl) ?_
         refine ops_nil (fin_then (st_true rfl (st_seq (st_region [oF 0] (by rfl) ?_))))
         refine oQ [oF 0] [(6, vI 3)] (by kernel_rfl) ?_
         refine ops_nil (fin_then (st_ret (fin_ret_block (fin_ret_then (fin_ret_then (fin_ret_block (fin_ret_then ?_)))))))
         obtain hq_ := Option.some.inj hp
         subst hq_
         obtain hq_ := hd9 _ rfl
         subst hq_
         have hp : some 3 = some i9001 := hk9
         have hq_ := Option.some.inj hp
         have hr0_ := hq_
         subst hr0_
         refine fin_ret [.tmp 6] [vI 3] rfl rfl (fun w_ hM => (.tmp rfl .nil)) (fun w_ hM => ?_)
         exact ⟨es_has, ck_has, h_has, rfl, hM.pick 7 [1, 6] (by kernel_rfl) (by decide) rfl⟩
        ·
         have hp := cnd_f hc95 hp
         refine oQ [oF 8] [(84, vP b93 0), (83, .bool false), (16, vP b93 0), (1, .map (some b_has)), (3, vP b1 0), (5, vP b2 0), (7, .bool x5), (8, .bool x6), (9, .bool x7), (10, .func (.func 139) #[] #[vP b1 0]), (11, .slice (sa g10) ([(api_Arg.mk o_3 o_4 (api_Ref.mk o_5 o_6)), (api_Arg.mk o_7 o_8 (api_Ref.mk o_9 o_10))] : List api_Arg).length 2), (14, vP b12 0), (70, .slice (sa g10) ([(api_Arg.mk o_3 o_4 (api_Ref.mk o_5 o_6)), (api_Arg.mk o_7 o_8 (api_Ref.mk o_9 o_10))] : List api_Arg).length 2), (71, vI x80), (72, vI i82)] (by kernel_rfl) ?_
         refine ops_mem (d := some 85) (an := [.v (.bool x84.Has)]) (evs := [ld b93 0 (.bool x84.Has)]) (v := .bool x84.Has) ⟨by kernel_rfl⟩ (fun w_ hM hS => ⟨w_, ⟨hM.cell 0 rfl rfl, rfl⟩, hM, trivial⟩) ?_
         refine oQ [oF 10, oF 11] [(87, .bool (!x84.Has)), (83, .bool false), (16, vP b93 0), (1, .map (some b_has)), (3, vP b1 0), (5, vP b2 0), (7, .bool x5), (8, .bool x6), (9, .bool x7), (10, .func (.func 139) #[] #[vP b1 0]), (11, .slice (sa g10) ([(api_Arg.mk o_3 o_4 (api_Ref.mk o_5 o_6)), (api_Arg.mk o_7 o_8 (api_Ref.mk o_9 o_10))] : List api_Arg).length 2), (14, vP b12 0), (70, .slice (sa g10) ([(api_Arg.mk o_3 o_4 (api_Ref.mk o_5 o_6)), (api_Arg.mk o_7 o_8 (api_Ref.mk o_9 o_10))] : List api_Arg).length 2), (71, vI x80), (72, vI i82)] (by kernel_rfl) ?_
         refine ops_conv (l' := [(87, .bool false), (83, .bool false), (16, vP b93 0), (1, .map (some b_has)), (3, vP b1 0), (5, vP b2 0), (7, .bool x5), (8, .bool x6), (9, .bool x7), (10, .func (.func 139) #[] #[vP b1 0]), (11, .slice (sa g10) ([(api_Arg.mk o_3 o_4 (api_Ref.mk o_5 o_6)), (api_Arg.mk o_7 o_8 (api_Ref.mk o_9 o_10))] : List api_Arg).length 2), (14, vP b12 0), (70, .slice (sa g10) ([(api_Arg.mk o_3 o_4 (api_Ref.mk o_5 o_6)), (api_Arg.mk o_7 o_8 (api_Ref.mk o_9 o_10))] : List api_Arg).length 2), (71, vI x80), (72, vI i82)]) (by rw [show (!x84.Has) = false from by rw [hc94]; rfl]) (fun _ h => h) ?_
         refine oQ [oF 12, oF 13, oF 14, oF 15, oF 16, oF 17, oF 18] [(94, .bool false), (1, .map (some b_has)), (3, vP b1 0), (5, vP b2 0), (7, .bool x5), (8, .bool x6), (9, .bool x7), (10, .func (.func 139) #[] #[vP b1 0]), (11, .slice (sa g10) ([(api_Arg.mk o_3 o_4 (api_Ref.mk o_5 o_6)), (api_Arg.mk o_7 o_8 (api_Ref.mk o_9 o_10))] : List api_Arg).length 2), (14, vP b12 0), (70, .slice (sa g10) ([(api_Arg.mk o_3 o_4 (api_Ref.mk o_5 o_6)), (api_Arg.mk o_7 o_8 (api_Ref.mk o_9 o_10))] : List api_Arg).length 2), (71, vI x80), (72, vI i82)] (by kernel_rfl) ?_
         refine ops_nil (fin_then (st_false rfl (st_skip (fin_block ?_))))
         exact fin_join HJ10 () hp (look_has ⟨rfl, rfl, rfl, rfl, rfl, rfl, rfl, rfl, rfl, rfl, rfl, rfl, trivial⟩) (fun w_ hM => hM.pick 7 [1, 2, 3, 4, 5, 6] (by kernel_rfl) (by decide) rfl)
       ·
        have hp := cnd_f hc94 hp
        refine oQ [oF 3, oF 4, oF 5, oF 6, oF 7, oF 8] [(84, vP b93 0), (83, .bool false), (16, vP b93 0), (1, .map (some b_has)), (3, vP b1 0), (5, vP b2 0), (7, .bool x5), (8, .bool x6), (9, .bool x7), (10, .func (.func 139) #[] #[vP b1 0]), (11, .slice (sa g10) ([(api_Arg.mk o_3 o_4 (api_Ref.mk o_5 o_6)), (api_Arg.mk o_7 o_8 (api_Ref.mk o_9 o_10))] : List api_Arg).length 2), (14, vP b12 0), (70, .slice (sa g10) ([(api_Arg.mk o_3 o_4 (api_Ref.mk o_5 o_6)), (api_Arg.mk o_7 o_8 (api_Ref.mk o_9 o_10))] : List api_Arg).length 2), (71, vI x80), (72, vI i82)] (by kernel_rfl) ?_
        refine ops_mem (d := some 85) (an := [.v (.bool x84.Has)]) (evs := [ld b93 0 (.bool x84.Has)]) (v := .bool x84.Has) ⟨by kernel_rfl⟩ (fun w_ hM hS => ⟨w_, ⟨hM.cell 0 rfl rfl, rfl⟩, hM, trivial⟩) ?_
        refine oQ [oF 10, oF 11] [(87, .bool (!x84.Has)), (83, .bool false), (16, vP b93 0), (1, .map (some b_has)), (3, vP b1 0), (5, vP b2 0), (7, .bool x5), (8, .bool x6), (9, .bool x7), (10, .func (.func 139) #[] #[vP b1 0]), (11, .slice (sa g10) ([(api_Arg.mk o_3 o_4 (api_Ref.mk o_5 o_6)), (api_Arg.mk o_7 o_8 (api_Ref.mk o_9 o_10))] : List api_Arg).length 2), (14, vP b12 0), (70, .slice (sa g10) ([(api_Arg.mk o_3 o_4 (api_Ref.mk o_5 o_6)), (api_Arg.mk o_7 o_8 (api_Ref.mk o_9 o_10))] : List api_Arg).length 2), (71, vI x80), (72, vI i82)] (by kernel_rfl) ?_
        refine ops_conv (l' := [(87, .bool true), (83, .bool false), (16, vP b93 0), (1, .map (some b_has)), (3, vP b1 0), (5, vP b2 0), (7, .bool x5), (8, .bool x6), (9, .bool x7), (10, .func (.func 139) #[] #[vP b1 0]), (11, .slice (sa g10) ([(api_Arg.mk o_3 o_4 (api_Ref.mk o_5 o_6)), (api_Arg.mk o_7 o_8 (api_Ref.mk o_9 o_10))] : List api_Arg).length 2), (14, vP b12 0), (70, .slice (sa g10) ([(api_Arg.mk o_3 o_4 (api_Ref.mk o_5 o_6)), (api_Arg.mk o_7 o_8 (api_Ref.mk o_9 o_10))] : List api_Arg).length 2), (71, vI x80), (72, vI i82)]) (by rw [show (!x84.Has) = true from by rw [hc94]; rfl]) (fun _ h => h) ?_
        refine oQ [oF 12] [(88, vP b93 2), (87, .bool true), (83, .bool false), (1, .map (some b_has)), (3, vP b1 0), (5, vP b2 0), (7, .bool x5), (8, .bool x6), (9, .bool x7), (10, .func (.func 139) #[] #[vP b1 0]), (11, .slice (sa g10) ([(api_Arg.mk o_3 o_4 (api_Ref.mk o_5 o_6)), (api_Arg.mk o_7 o_8 (api_Ref.mk o_9 o_10))] : List api_Arg).length 2), (14, vP b12 0), (70, .slice (sa g10) ([(api_Arg.mk o_3 o_4 (api_Ref.mk o_5 o_6)), (api_Arg.mk o_7 o_8 (api_Ref.mk o_9 o_10))] : List api_Arg).length 2), (71, vI x80), (72, vI i82)] (by kernel_rfl) ?_
        refine ops_mem (d := some 89) (an := [.v (vI x84.Ref.Kind), .v (vI x84.Ref.Field)]) (evs := [ld b93 2 (vI x84.Ref.Kind), ld b93 3 (vI x84.Ref.Field)]) (v := .agg #[vI x84.Ref.Kind, vI x84.Ref.Field]) ⟨by kernel_rfl⟩ (fun w_ hM hS => ⟨w_, ⟨hM.cell 0 rfl rfl, hM.cell 0 rfl rfl, rfl⟩, hM, trivial⟩) ?_
        refine oQ [oF 14] [(90, vP b12 2), (89, .agg #[vI x84.Ref.Kind, vI x84.Ref.Field]), (87, .bool true), (83, .bool false), (1, .map (some b_has)), (3, vP b1 0), (5, vP b2 0), (7, .bool x5), (8, .bool x6), (9, .bool x7), (10, .func (.func 139) #[] #[vP b1 0]), (11, .slice (sa g10) ([(api_Arg.mk o_3 o_4 (api_Ref.mk o_5 o_6)), (api_Arg.mk o_7 o_8 (api_Ref.mk o_9 o_10))] : List api_Arg).length 2), (14, vP b12 0), (70, .slice (sa g10) ([(api_Arg.mk o_3 o_4 (api_Ref.mk o_5 o_6)), (api_Arg.mk o_7 o_8 (api_Ref.mk o_9 o_10))] : List api_Arg).length 2), (71, vI x80), (72, vI i82)] (by kernel_rfl) ?_
        refine ops_mem (d := some 91) (an := [.v (vI 0), .v (vI 0)]) (evs := [ld b12 2 (vI 0), ld b12 3 (vI 0)]) (v := .agg #[vI 0, vI 0]) ⟨by kernel_rfl⟩ (fun w_ hM hS => ⟨w_, ⟨hM.cell 5 rfl rfl, hM.cell 5 rfl rfl, rfl⟩, hM, trivial⟩) ?_
        refine ops_val (op := (.binOp Go.BinOp.neq 166 (.tmp 89) (.tmp 91) 166)) (d := some 92) (v := .bool (!(x84.Ref.Kind == 0 && (x84.Ref.Field == 0)))) ⟨by kernel_rfl⟩ (run_neq_agg (r := x84.Ref.Kind == 0 && (x84.Ref.Field == 0)) rfl rfl (by kernel_rfl) (fun w => eqA166 9998 w x84.Ref.Kind 0 x84.Ref.Field 0)) ?_
        refine oQ [oF 17, oF 18] [(94, .bool (!(x84.Ref.Kind == 0 && (x84.Ref.Field == 0)))), (1, .map (some b_has)), (3, vP b1 0), (5, vP b2 0), (7, .bool x5), (8, .bool x6), (9, .bool x7), (10, .func (.func 139) #[] #[vP b1 0]), (11, .slice (sa g10) ([(api_Arg.mk o_3 o_4 (api_Ref.mk o_5 o_6)), (api_Arg.mk o_7 o_8 (api_Ref.mk o_9 o_10))] : List api_Arg).length 2), (14, vP b12 0), (70, .slice (sa g10) ([(api_Arg.mk o_3 o_4 (api_Ref.mk o_5 o_6)), (api_Arg.mk o_7 o_8 (api_Ref.mk o_9 o_10))] : List api_Arg).length 2), (71, vI x80), (72, vI i82)] (by kernel_rfl) ?_
        refine ops_nil (fin_then ?_)
        refine st_if (b := !(x84.Ref.Kind == 0 && (x84.Ref.Field == 0))) rfl (fun hc96 => ?_) (fun hc96 => ?_)
        ·
         have hp := cnd_t hc96 hp
         refine st_seq (st_region [oF 0] (by rfl) ?_)
         refine oQ [oF 0] [(6, vI 3)] (by kernel_rfl) ?_
         refine ops_nil (fin_then (st_ret (fin_ret_block (fin_ret_then (fin_ret_then (fin_ret_block (fin_ret_then ?_)))))))
         obtain hq_ := Option.some.inj hp
         subst hq_
         obtain hq_ := hd9 _ rfl
         subst hq_
         have hp : some 3 = some i9001 := hk9
         have hq_ := Option.some.inj hp
         have hr0_ := hq_
         subst hr0_
         refine fin_ret [.tmp 6] [vI 3] rfl rfl (fun w_ hM => (.tmp rfl .nil)) (fun w_ hM => ?_)
         exact ⟨es_has, ck_has, h_has, rfl, hM.pick 7 [1, 6] (by kernel_rfl) (by decide) rfl⟩
        ·
         have hp := cnd_f hc96 hp
         refine st_skip (fin_block ?_)
         exact fin_join HJ10 () hp (look_has ⟨rfl, rfl, rfl, rfl, rfl, rfl, rfl, rfl, rfl, rfl, rfl, rfl, trivial⟩) (fun w_ hM => hM.pick 7 [1, 2, 3, 4, 5, 6] (by kernel_rfl) (by decide) rfl)
     ·
      have hp := cnd_f hc83 hp
      refine st_exit (fin_exit_then (fin_exit_then (fin_exit ?_)))
      obtain hq_ := Option.some.inj hp
      subst hq_
      obtain hq_ := hd9 _ rfl
      subst hq_
      have hp : (tourref3_opError_j2 x7 o_7 o_8 o_9 o_10 x5 x6 o_1 o_2 k has o_3 o_4 o_5 o_6) = some i9001 := hk9
      exact fin_join HJ2 () hp (look_has ⟨rfl, rfl, rfl, rfl, rfl, rfl, rfl, rfl, rfl, trivial⟩) (fun w_ hM => hM)
   ·
    intro HJ1
    refine st_seq (st_seq (st_region [oF 0, oF 1, oF 2] (by rfl) ?_))
    refine oQ [oF 0, oF 1, oF 2] [(42, vI 0), (41, vI (([(api_Arg.mk o_3 o_4 (api_Ref.mk o_5 o_6)), (api_Arg.mk o_7 o_8 (api_Ref.mk o_9 o_10))] : List api_Arg).length : Int)), (40, .slice (sa g10) ([(api_Arg.mk o_3 o_4 (api_Ref.mk o_5 o_6)), (api_Arg.mk o_7 o_8 (api_Ref.mk o_9 o_10))] : List api_Arg).length 2), (11, .slice (sa g10) ([(api_Arg.mk o_3 o_4 (api_Ref.mk o_5 o_6)), (api_Arg.mk o_7 o_8 (api_Ref.mk o_9 o_10))] : List api_Arg).length 2), (10, .func (.func 139) #[] #[vP b1 0]), (9, .bool x7), (8, .bool x6), (7, .bool x5), (5, vP b2 0), (3, vP b1 0), (1, .map (some b_has))] (by kernel_rfl) ?_
    obtain ⟨x97, hv98, hp⟩ := obind hp
    refine ops_conv (l' := [(42, vI 0), (41, vI x97), (40, .slice (sa g10) ([(api_Arg.mk o_3 o_4 (api_Ref.mk o_5 o_6)), (api_Arg.mk o_7 o_8 (api_Ref.mk o_9 o_10))] : List api_Arg).length 2), (11, .slice (sa g10) ([(api_Arg.mk o_3 o_4 (api_Ref.mk o_5 o_6)), (api_Arg.mk o_7 o_8 (api_Ref.mk o_9 o_10))] : List api_Arg).length 2), (10, .func (.func 139) #[] #[vP b1 0]), (9, .bool x7), (8, .bool x6), (7, .bool x5), (5, vP b2 0), (3, vP b1 0), (1, .map (some b_has))]) (by rw [← Option.some.inj hv98]) (fun _ h => h) ?_
    refine ops_nil (fin_then (st_block ?_))
    obtain ⟨r11, hl11, hk11⟩ := obind hp
    refine st_loopP (σ := Int) (ρ := (Int ⊕ Unit)) (γ := Unit) hl11 () (fun s_ g_ => match s_, g_ with | i100, _ => [(1, .map (some b_has)), (3, vP b1 0), (5, vP b2 0), (7, .bool x5), (8, .bool x6), (9, .bool x7), (10, .func (.func 139) #[] #[vP b1 0]), (11, .slice (sa g10) ([(api_Arg.mk o_3 o_4 (api_Ref.mk o_5 o_6)), (api_Arg.mk o_7 o_8 (api_Ref.mk o_9 o_10))] : List api_Arg).length 2), (40, .slice (sa g10) ([(api_Arg.mk o_3 o_4 (api_Ref.mk o_5 o_6)), (api_Arg.mk o_7 o_8 (api_Ref.mk o_9 o_10))] : List api_Arg).length 2), (41, vI x97), (42, vI i100)]) (fun s_ g_ => match s_, g_ with | i100, _ => Mem w0 (.obj b_has (.map es_has ck_has) :: .blk b1 [sl A_k k c_k] 22 :: .blk b2 [vI o_0, vI o_1, vI o_2, .bool o_3, vI o_4, vI o_5, vI o_6, .bool o_7, vI o_8, vI o_9, vI o_10] 170 :: orow (sa g10) ([(api_Arg.mk o_3 o_4 (api_Ref.mk o_5 o_6)), (api_Arg.mk o_7 o_8 (api_Ref.mk o_9 o_10))] : List api_Arg).length 2 168 4 ([.bool o_3, vI o_4, vI o_5, vI o_6, .bool o_7, vI o_8, vI o_9, vI o_10]) :: Fz F W :: cs)) (fun s_ g_ => match s_, g_ with | i100, _ => (RdS R_api_Kind F W A_k c_k k)) h_k (look_has ⟨rfl, rfl, rfl, rfl, rfl, rfl, rfl, rfl, rfl, rfl, rfl, trivial⟩) (fun w_ hM => hM.pick 5 [3, 2, 1, 0, 4] (by kernel_rfl) (by decide) rfl) ?_
    rintro i100 _ o11 h99 hs_ hd11
    have hp : (tourref3_opError_l11 x97 o_3 o_4 o_5 o_6 o_7 o_8 o_9 o_10 k) i100 = some o11 := hs_
    clear hs_
    unfold tourref3_opError_l11 at hp
    refine st_seq (st_region [oF 0] (by rfl) ?_)
    refine oQ [oF 0] [(43, .bool (decide (i100 < x97))), (1, .map (some b_has)), (3, vP b1 0), (5, vP b2 0), (7, .bool x5), (8, .bool x6), (9, .bool x7), (10, .func (.func 139) #[] #[vP b1 0]), (11, .slice (sa g10) ([(api_Arg.mk o_3 o_4 (api_Ref.mk o_5 o_6)), (api_Arg.mk o_7 o_8 (api_Ref.mk o_9 o_10))] : List api_Arg).length 2), (40, .slice (sa g10) ([(api_Arg.mk o_3 o_4 (api_Ref.mk o_5 o_6)), (api_Arg.mk o_7 o_8 (api_Ref.mk o_9 o_10))] : List api_Arg).length 2), (41, vI x97), (42, vI i100)] (by kernel_rfl) ?_
    refine ops_nil (fin_then (st_seq ?_))
    refine st_if (b := decide (i100 < x97)) rfl (fun hc101 => ?_) (fun hc101 => ?_)
    ·
     have hp := cnd_t hc101 hp
     refine st_skip (fin_then ?_)
     refine st_join1 (σ := Unit) (L := fun _ => [(1, .map (some b_has)), (3, vP b1 0), (5, vP b2 0), (7, .bool x5), (8, .bool x6), (9, .bool x7), (10, .func (.func 139) #[] #[vP b1 0]), (11, .slice (sa g10) ([(api_Arg.mk o_3 o_4 (api_Ref.mk o_5 o_6)), (api_Arg.mk o_7 o_8 (api_Ref.mk o_9 o_10))] : List api_Arg).length 2), (40, .slice (sa g10) ([(api_Arg.mk o_3 o_4 (api_Ref.mk o_5 o_6)), (api_Arg.mk o_7 o_8 (api_Ref.mk o_9 o_10))] : List api_Arg).length 2), (41, vI x97), (42, vI i100)]) (N := fun _ => Mem w0 (.obj b_has (.map es_has ck_has) :: .blk b1 [sl A_k k c_k] 22 :: .blk b2 [vI o_0, vI o_1, vI o_2, .bool o_3, vI o_4, vI o_5, vI o_6, .bool o_7, vI o_8, vI o_9, vI o_10] 170 :: orow (sa g10) ([(api_Arg.mk o_3 o_4 (api_Ref.mk o_5 o_6)), (api_Arg.mk o_7 o_8 (api_Ref.mk o_9 o_10))] : List api_Arg).length 2 168 4 ([.bool o_3, vI o_4, vI o_5, vI o_6, .bool o_7, vI o_8, vI o_9, vI o_10]) :: Fz F W :: cs)) (I := fun _ => ((tourref3_opError_j12 i100) = some o11) ∧ (RdS R_api_Kind F W A_k c_k k)) ?_ ?_
     ·
      rintro _ ⟨hp, h102⟩
      unfold tourref3_opError_j12 at hp
      refine st_region [oF 0, oF 1] (by rfl) ?_
      refine oQ [oF 0, oF 1] [(42, vI (IntKind.i64.wrap (i100 + 1))), (1, .map (some b_has)), (3, vP b1 0), (5, vP b2 0), (7, .bool x5), (8, .bool x6), (9, .bool x7), (10, .func (.func 139) #[] #[vP b1 0]), (11, .slice (sa g10) ([(api_Arg.mk o_3 o_4 (api_Ref.mk o_5 o_6)), (api_Arg.mk o_7 o_8 (api_Ref.mk o_9 o_10))] : List api_Arg).length 2), (40, .slice (sa g10) ([(api_Arg.mk o_3 o_4 (api_Ref.mk o_5 o_6)), (api_Arg.mk o_7 o_8 (api_Ref.mk o_9 o_10))] : List api_Arg).length 2), (41, vI x97)] (by kernel_rfl) ?_
      refine ops_nil ?_
      exact fin_again (IntKind.i64.wrap (i100 + 1)) () (Option.some.inj hp).symm h102 (look_has ⟨rfl, rfl, rfl, rfl, rfl, rfl, rfl, rfl, rfl, rfl, rfl, trivial⟩) (fun w_ hM => hM)
     ·
      intro HJ12
      refine st_seq (st_block (st_seq (st_region [oF 0, oF 1, oF 2, oF 3] (by rfl) ?_)))
      obtain ⟨x103, hv104, hp⟩ := obind hp
      obtain ⟨m105, hm106, hx107⟩ := idx_some hv104
      have hl110 := (List.getElem?_eq_some_iff.1 hx107).1
      obtain ⟨vs108, hr109, hq111⟩ := h9.at_ m105 x103 hx107
      obtain rfl := dec_api_Arg hr109
      refine ops_val (op := (.indexAddr 221 (.tmp 40) (.tmp 42))) (d := some 44) (v := vP g10 (m105 * 4)) ⟨by kernel_rfl⟩ (run_indexRow Tryd.underlying221 (z := 4) (by kernel_rfl) rfl rfl hm106 hl110 rfl) ?_
      refine ops_mem (d := some 45) (an := [.v (.bool x103.Has), .v (vI x103.N), .v (vI x103.Ref.Kind), .v (vI x103.Ref.Field)]) (evs := [.load ⟨g10, m105 * 4, none⟩ (.bool x103.Has), .load ⟨g10, m105 * 4 + 1, none⟩ (vI x103.N), .load ⟨g10, m105 * 4 + 2, none⟩ (vI x103.Ref.Kind), .load ⟨g10, m105 * 4 + 3, none⟩ (vI x103.Ref.Field)]) (v := .agg #[.bool x103.Has, vI x103.N, vI x103.Ref.Kind, vI x103.Ref.Field]) ⟨by kernel_rfl⟩ (fun w_ hM hS => ⟨w_, ⟨hM.ocell 3 rfl (hq111 0 _ rfl), hM.ocell 3 rfl (hq111 1 _ rfl), hM.ocell 3 rfl (hq111 2 _ rfl), hM.ocell 3 rfl (hq111 3 _ rfl), rfl⟩, hM, trivial⟩) ?_
      refine ops_newB (d := some 13) [.bool false, vI 0, vI 0, vI 0] 168 (fun b112 => ⟨by kernel_rfl⟩) (fun w_ hM hS => trivial) (fun b112 => ?_)
      refine ops_store (an := []) (evs := [sr b112 0 (.bool x103.Has), sr b112 1 (vI x103.N), sr b112 2 (vI x103.Ref.Kind), sr b112 3 (vI x103.Ref.Field)]) ⟨by kernel_rfl⟩ (fun w_ hM hS => let ⟨w', he, h'⟩ := hM.evs_stores [.bool x103.Has, vI x103.N, vI x103.Ref.Kind, vI x103.Ref.Field] 0 rfl 0 (Nat.le_of_ble_eq_true rfl); ⟨w', he, h', trivial⟩) ?_
      refine ops_nil (fin_then ?_)
      refine st_join1 (σ := Unit) (L := fun _ => [(1, .map (some b_has)), (3, vP b1 0), (5, vP b2 0), (7, .bool x5), (8, .bool x6), (9, .bool x7), (10, .func (.func 139) #[] #[vP b1 0]), (11, .slice (sa g10) ([(api_Arg.mk o_3 o_4 (api_Ref.mk o_5 o_6)), (api_Arg.mk o_7 o_8 (api_Ref.mk o_9 o_10))] : List api_Arg).length 2), (13, vP b112 0), (40, .slice (sa g10) ([(api_Arg.mk o_3 o_4 (api_Ref.mk o_5 o_6)), (api_Arg.mk o_7 o_8 (api_Ref.mk o_9 o_10))] : List api_Arg).length 2), (41, vI x97), (42, vI i100)]) (N := fun _ => Mem w0 (.obj b_has (.map es_has ck_has) :: .blk b1 [sl A_k k c_k] 22 :: .blk b2 [vI o_0, vI o_1, vI o_2, .bool o_3, vI o_4, vI o_5, vI o_6, .bool o_7, vI o_8, vI o_9, vI o_10] 170 :: orow (sa g10) ([(api_Arg.mk o_3 o_4 (api_Ref.mk o_5 o_6)), (api_Arg.mk o_7 o_8 (api_Ref.mk o_9 o_10))] : List api_Arg).length 2 168 4 ([.bool o_3, vI o_4, vI o_5, vI o_6, .bool o_7, vI o_8, vI o_9, vI o_10]) :: .blk b112 [.bool x103.Has, vI x103.N, vI x103.Ref.Kind, vI x103.Ref.Field] 168 :: Fz F W :: cs)) (I := fun _ => ((tourref3_opError_j13 x103 i100) = some o11) ∧ (RdS R_api_Kind F W A_k c_k k)) ?_ ?_
      ·
       rintro _ ⟨hp, h113⟩
       unfold tourref3_opError_j13 at hp
       refine st_seq (st_region [oF 0, oF 1, oF 2, oF 3, oF 4, oF 5, oF 6, oF 7, oF 8, oF 9, oF 10, oF 11, oF 12] (by rfl) ?_)
       refine oQ [oF 0] [(55, vP b112 0), (1, .map (some b_has)), (3, vP b1 0), (5, vP b2 0), (7, .bool x5), (8, .bool x6), (9, .bool x7), (10, .func (.func 139) #[] #[vP b1 0]), (11, .slice (sa g10) ([(api_Arg.mk o_3 o_4 (api_Ref.mk o_5 o_6)), (api_Arg.mk o_7 o_8 (api_Ref.mk o_9 o_10))] : List api_Arg).length 2), (13, vP b112 0), (40, .slice (sa g10) ([(api_Arg.mk o_3 o_4 (api_Ref.mk o_5 o_6)), (api_Arg.mk o_7 o_8 (api_Ref.mk o_9 o_10))] : List api_Arg).length 2), (41, vI x97), (42, vI i100)] (by kernel_rfl) ?_
       refine ops_mem (d := some 56) (an := [.v (.bool x103.Has)]) (evs := [ld b112 0 (.bool x103.Has)]) (v := .bool x103.Has) ⟨by kernel_rfl⟩ (fun w_ hM hS => ⟨w_, ⟨hM.cell 4 rfl rfl, rfl⟩, hM, trivial⟩) ?_
       refine oQ [oF 2, oF 3] [(58, .bool (!x103.Has)), (1, .map (some b_has)), (3, vP b1 0), (5, vP b2 0), (7, .bool x5), (8, .bool x6), (9, .bool x7), (10, .func (.func 139) #[] #[vP b1 0]), (11, .slice (sa g10) ([(api_Arg.mk o_3 o_4 (api_Ref.mk o_5 o_6)), (api_Arg.mk o_7 o_8 (api_Ref.mk o_9 o_10))] : List api_Arg).length 2), (13, vP b112 0), (40, .slice (sa g10) ([(api_Arg.mk o_3 o_4 (api_Ref.mk o_5 o_6)), (api_Arg.mk o_7 o_8 (api_Ref.mk o_9 o_10))] : List api_Arg).length 2), (41, vI x97), (42, vI i100)] (by kernel_rfl) ?_
       refine ops_bool (t := !x103.Has) (l1 := [(58, .bool true), (1, .map (some b_has)), (3, vP b1 0), (5, vP b2 0), (7, .bool x5), (8, .bool x6), (9, .bool x7), (10, .func (.func 139) #[] #[vP b1 0]), (11, .slice (sa g10) ([(api_Arg.mk o_3 o_4 (api_Ref.mk o_5 o_6)), (api_Arg.mk o_7 o_8 (api_Ref.mk o_9 o_10))] : List api_Arg).length 2), (13, vP b112 0), (40, .slice (sa g10) ([(api_Arg.mk o_3 o_4 (api_Ref.mk o_5 o_6)), (api_Arg.mk o_7 o_8 (api_Ref.mk o_9 o_10))] : List api_Arg).length 2), (41, vI x97), (42, vI i100)]) (l2 := [(58, .bool false), (1, .map (some b_has)), (3, vP b1 0), (5, vP b2 0), (7, .bool x5), (8, .bool x6), (9, .bool x7), (10, .func (.func 139) #[] #[vP b1 0]), (11, .slice (sa g10) ([(api_Arg.mk o_3 o_4 (api_Ref.mk o_5 o_6)), (api_Arg.mk o_7 o_8 (api_Ref.mk o_9 o_10))] : List api_Arg).length 2), (13, vP b112 0), (40, .slice (sa g10) ([(api_Arg.mk o_3 o_4 (api_Ref.mk o_5 o_6)), (api_Arg.mk o_7 o_8 (api_Ref.mk o_9 o_10))] : List api_Arg).length 2), (41, vI x97), (42, vI i100)]) (fun h => by rw [h]) (fun h => by rw [h]) (fun hc114 => ?_) (fun hc114 => ?_)
       ·
        have hp := cnd_t hc114 hp
        refine oQ [oF 4] [(59, vP b112 1), (58, .bool true), (1, .map (some b_has)), (3, vP b1 0), (5, vP b2 0), (7, .bool x5), (8, .bool x6), (9, .bool x7), (10, .func (.func 139) #[] #[vP b1 0]), (11, .slice (sa g10) ([(api_Arg.mk o_3 o_4 (api_Ref.mk o_5 o_6)), (api_Arg.mk o_7 o_8 (api_Ref.mk o_9 o_10))] : List api_Arg).length 2), (13, vP b112 0), (40, .slice (sa g10) ([(api_Arg.mk o_3 o_4 (api_Ref.mk o_5 o_6)), (api_Arg.mk o_7 o_8 (api_Ref.mk o_9 o_10))] : List api_Arg).length 2), (41, vI x97), (42, vI i100)] (by kernel_rfl) ?_
        refine ops_mem (d := some 60) (an := [.v (vI x103.N)]) (evs := [ld b112 1 (vI x103.N)]) (v := vI x103.N) ⟨by kernel_rfl⟩ (fun w_ hM hS => ⟨w_, ⟨hM.cell 4 rfl rfl, rfl⟩, hM, trivial⟩) ?_
        refine oQ [oF 6, oF 7] [(62, .bool (decide (1099511627776 < x103.N))), (58, .bool true), (1, .map (some b_has)), (3, vP b1 0), (5, vP b2 0), (7, .bool x5), (8, .bool x6), (9, .bool x7), (10, .func (.func 139) #[] #[vP b1 0]), (11, .slice (sa g10) ([(api_Arg.mk o_3 o_4 (api_Ref.mk o_5 o_6)), (api_Arg.mk o_7 o_8 (api_Ref.mk o_9 o_10))] : List api_Arg).length 2), (13, vP b112 0), (40, .slice (sa g10) ([(api_Arg.mk o_3 o_4 (api_Ref.mk o_5 o_6)), (api_Arg.mk o_7 o_8 (api_Ref.mk o_9 o_10))] : List api_Arg).length 2), (41, vI x97), (42, vI i100)] (by kernel_rfl) ?_
        refine ops_bool (t := decide (1099511627776 < x103.N)) (l1 := [(62, .bool true), (58, .bool true), (1, .map (some b_has)), (3, vP b1 0), (5, vP b2 0), (7, .bool x5), (8, .bool x6), (9, .bool x7), (10, .func (.func 139) #[] #[vP b1 0]), (11, .slice (sa g10) ([(api_Arg.mk o_3 o_4 (api_Ref.mk o_5 o_6)), (api_Arg.mk o_7 o_8 (api_Ref.mk o_9 o_10))] : List api_Arg).length 2), (13, vP b112 0), (40, .slice (sa g10) ([(api_Arg.mk o_3 o_4 (api_Ref.mk o_5 o_6)), (api_Arg.mk o_7 o_8 (api_Ref.mk o_9 o_10))] : List api_Arg).length 2), (41, vI x97), (42, vI i100)]) (l2 := [(62, .bool false), (58, .bool true), (1, .map (some b_has)), (3, vP b1 0), (5, vP b2 0), (7, .bool x5), (8, .bool x6), (9, .bool x7), (10, .func (.func 139) #[] #[vP b1 0]), (11, .slice (sa g10) ([(api_Arg.mk o_3 o_4 (api_Ref.mk o_5 o_6)), (api_Arg.mk o_7 o_8 (api_Ref.mk o_9 o_10))] : List api_Arg).length 2), (13, vP b112 0), (40, .slice (sa g10) ([(api_Arg.mk o_3 o_4 (api_Ref.mk o_5 o_6)), (api_Arg.mk o_7 o_8 (api_Ref.mk o_9 o_10))] : List api_Arg).length 2), (41, vI x97), (42, vI i100)]) (fun h => by rw [h]) (fun h => by rw [h]) (fun hc115 => ?_) (fun hc115 => ?_)
        ·
         have hp := cnd_t hc115 hp
         refine oQ [oF 8, oF 9, oF 10, oF 11, oF 12] [(67, .bool true), (1, .map (some b_has)), (3, vP b1 0), (5, vP b2 0), (7, .bool x5), (8, .bool x6), (9, .bool x7), (10, .func (.func 139) #[] #[vP b1 0]), (11, .slice (sa g10) ([(api_Arg.mk o_3 o_4 (api_Ref.mk o_5 o_6)), (api_Arg.mk o_7 o_8 (api_Ref.mk o_9 o_10))] : List api_Arg).length 2), (40, .slice (sa g10) ([(api_Arg.mk o_3 o_4 (api_Ref.mk o_5 o_6)), (api_Arg.mk o_7 o_8 (api_Ref.mk o_9 o_10))] : List api_Arg).length 2), (41, vI x97), (42, vI i100)] (by kernel_rfl) ?_
         refine ops_nil (fin_then (st_true rfl (st_seq (st_region [oF 0] (by rfl) ?_))))
         refine oQ [oF 0] [(6, vI 1)] (by kernel_rfl) ?_
         refine ops_nil (fin_then (st_ret (fin_ret_block (fin_ret_then (fin_ret_then (fin_ret_block (fin_ret_then ?_)))))))
         obtain hq_ := Option.some.inj hp
         subst hq_
         obtain hq_ := hd11 _ rfl
         subst hq_
         have hp : some 1 = some i9001 := hk11
         have hq_ := Option.some.inj hp
         have hr0_ := hq_
         subst hr0_
         refine fin_ret [.tmp 6] [vI 1] rfl rfl (fun w_ hM => (.tmp rfl .nil)) (fun w_ hM => ?_)
         exact ⟨es_has, ck_has, h_has, rfl, hM.pick 6 [0, 5] (by kernel_rfl) (by decide) rfl⟩
        ·
         have hp := cnd_f hc115 hp
         refine oQ [oF 8] [(63, vP b112 1), (62, .bool false), (58, .bool true), (1, .map (some b_has)), (3, vP b1 0), (5, vP b2 0), (7, .bool x5), (8, .bool x6), (9, .bool x7), (10, .func (.func 139) #[] #[vP b1 0]), (11, .slice (sa g10) ([(api_Arg.mk o_3 o_4 (api_Ref.mk o_5 o_6)), (api_Arg.mk o_7 o_8 (api_Ref.mk o_9 o_10))] : List api_Arg).length 2), (40, .slice (sa g10) ([(api_Arg.mk o_3 o_4 (api_Ref.mk o_5 o_6)), (api_Arg.mk o_7 o_8 (api_Ref.mk o_9 o_10))] : List api_Arg).length 2), (41, vI x97), (42, vI i100)] (by kernel_rfl) ?_
         refine ops_mem (d := some 64) (an := [.v (vI x103.N)]) (evs := [ld b112 1 (vI x103.N)]) (v := vI x103.N) ⟨by kernel_rfl⟩ (fun w_ hM hS => ⟨w_, ⟨hM.cell 4 rfl rfl, rfl⟩, hM, trivial⟩) ?_
         refine oQ [oF 10, oF 11, oF 12] [(67, .bool (decide (x103.N < (-1099511627776)))), (1, .map (some b_has)), (3, vP b1 0), (5, vP b2 0), (7, .bool x5), (8, .bool x6), (9, .bool x7), (10, .func (.func 139) #[] #[vP b1 0]), (11, .slice (sa g10) ([(api_Arg.mk o_3 o_4 (api_Ref.mk o_5 o_6)), (api_Arg.mk o_7 o_8 (api_Ref.mk o_9 o_10))] : List api_Arg).length 2), (40, .slice (sa g10) ([(api_Arg.mk o_3 o_4 (api_Ref.mk o_5 o_6)), (api_Arg.mk o_7 o_8 (api_Ref.mk o_9 o_10))] : List api_Arg).length 2), (41, vI x97), (42, vI i100)] (by kernel_rfl) ?_
         refine ops_nil (fin_then ?_)
         refine st_if (b := decide (x103.N < (-1099511627776))) rfl (fun hc116 => ?_) (fun hc116 => ?_)
         ·
          have hp := cnd_t hc116 hp
          refine st_seq (st_region [oF 0] (by rfl) ?_)
          refine oQ [oF 0] [(6, vI 1)] (by kernel_rfl) ?_
          refine ops_nil (fin_then (st_ret (fin_ret_block (fin_ret_then (fin_ret_then (fin_ret_block (fin_ret_then ?_)))))))
          obtain hq_ := Option.some.inj hp
          subst hq_
          obtain hq_ := hd11 _ rfl
          subst hq_
          have hp : some 1 = some i9001 := hk11
          have hq_ := Option.some.inj hp
          have hr0_ := hq_
          subst hr0_
          refine fin_ret [.tmp 6] [vI 1] rfl rfl (fun w_ hM => (.tmp rfl .nil)) (fun w_ hM => ?_)
          exact ⟨es_has, ck_has, h_has, rfl, hM.pick 6 [0, 5] (by kernel_rfl) (by decide) rfl⟩
         ·
          have hp := cnd_f hc116 hp
          refine st_skip (fin_block ?_)
          exact fin_join HJ12 () ⟨hp, h113⟩ (look_has ⟨rfl, rfl, rfl, rfl, rfl, rfl, rfl, rfl, rfl, rfl, rfl, trivial⟩) (fun w_ hM => hM.pick 6 [0, 1, 2, 3, 5] (by kernel_rfl) (by decide) rfl)
       ·
        have hp := cnd_f hc114 hp
        refine oQ [oF 4, oF 5, oF 6, oF 7, oF 8, oF 9, oF 10, oF 11, oF 12] [(67, .bool false), (1, .map (some b_has)), (3, vP b1 0), (5, vP b2 0), (7, .bool x5), (8, .bool x6), (9, .bool x7), (10, .func (.func 139) #[] #[vP b1 0]), (11, .slice (sa g10) ([(api_Arg.mk o_3 o_4 (api_Ref.mk o_5 o_6)), (api_Arg.mk o_7 o_8 (api_Ref.mk o_9 o_10))] : List api_Arg).length 2), (40, .slice (sa g10) ([(api_Arg.mk o_3 o_4 (api_Ref.mk o_5 o_6)), (api_Arg.mk o_7 o_8 (api_Ref.mk o_9 o_10))] : List api_Arg).length 2), (41, vI x97), (42, vI i100)] (by kernel_rfl) ?_
        refine ops_nil (fin_then (st_false rfl (st_skip (fin_block ?_))))
        exact fin_join HJ12 () ⟨hp, h113⟩ (look_has ⟨rfl, rfl, rfl, rfl, rfl, rfl, rfl, rfl, rfl, rfl, rfl, trivial⟩) (fun w_ hM => hM.pick 6 [0, 1, 2, 3, 5] (by kernel_rfl) (by decide) rfl)
      ·
       intro HJ13
       refine st_seq (st_seq (st_region [oF 0, oF 1, oF 2, oF 3, oF 4, oF 5, oF 6, oF 7, oF 8] (by rfl) ?_))
       refine oQ [oF 0] [(46, vP b112 0), (13, vP b112 0), (1, .map (some b_has)), (3, vP b1 0), (5, vP b2 0), (7, .bool x5), (8, .bool x6), (9, .bool x7), (10, .func (.func 139) #[] #[vP b1 0]), (11, .slice (sa g10) ([(api_Arg.mk o_3 o_4 (api_Ref.mk o_5 o_6)), (api_Arg.mk o_7 o_8 (api_Ref.mk o_9 o_10))] : List api_Arg).length 2), (40, .slice (sa g10) ([(api_Arg.mk o_3 o_4 (api_Ref.mk o_5 o_6)), (api_Arg.mk o_7 o_8 (api_Ref.mk o_9 o_10))] : List api_Arg).length 2), (41, vI x97), (42, vI i100)] (by kernel_rfl) ?_
       refine ops_mem (d := some 47) (an := [.v (.bool x103.Has)]) (evs := [ld b112 0 (.bool x103.Has)]) (v := .bool x103.Has) ⟨by kernel_rfl⟩ (fun w_ hM hS => ⟨w_, ⟨hM.cell 0 rfl rfl, rfl⟩, hM, trivial⟩) ?_
       refine oQ [oF 2] [(48, .bool x103.Has), (13, vP b112 0), (1, .map (some b_has)), (3, vP b1 0), (5, vP b2 0), (7, .bool x5), (8, .bool x6), (9, .bool x7), (10, .func (.func 139) #[] #[vP b1 0]), (11, .slice (sa g10) ([(api_Arg.mk o_3 o_4 (api_Ref.mk o_5 o_6)), (api_Arg.mk o_7 o_8 (api_Ref.mk o_9 o_10))] : List api_Arg).length 2), (40, .slice (sa g10) ([(api_Arg.mk o_3 o_4 (api_Ref.mk o_5 o_6)), (api_Arg.mk o_7 o_8 (api_Ref.mk o_9 o_10))] : List api_Arg).length 2), (41, vI x97), (42, vI i100)] (by kernel_rfl) ?_
       refine ops_bool (t := x103.Has) (l1 := [(48, .bool true), (13, vP b112 0), (1, .map (some b_has)), (3, vP b1 0), (5, vP b2 0), (7, .bool x5), (8, .bool x6), (9, .bool x7), (10, .func (.func 139) #[] #[vP b1 0]), (11, .slice (sa g10) ([(api_Arg.mk o_3 o_4 (api_Ref.mk o_5 o_6)), (api_Arg.mk o_7 o_8 (api_Ref.mk o_9 o_10))] : List api_Arg).length 2), (40, .slice (sa g10) ([(api_Arg.mk o_3 o_4 (api_Ref.mk o_5 o_6)), (api_Arg.mk o_7 o_8 (api_Ref.mk o_9 o_10))] : List api_Arg).length 2), (41, vI x97), (42, vI i100)]) (l2 := [(48, .bool false), (13, vP b112 0), (1, .map (some b_has)), (3, vP b1 0), (5, vP b2 0), (7, .bool x5), (8, .bool x6), (9, .bool x7), (10, .func (.func 139) #[] #[vP b1 0]), (11, .slice (sa g10) ([(api_Arg.mk o_3 o_4 (api_Ref.mk o_5 o_6)), (api_Arg.mk o_7 o_8 (api_Ref.mk o_9 o_10))] : List api_Arg).length 2), (40, .slice (sa g10) ([(api_Arg.mk o_3 o_4 (api_Ref.mk o_5 o_6)), (api_Arg.mk o_7 o_8 (api_Ref.mk o_9 o_10))] : List api_Arg).length 2), (41, vI x97), (42, vI i100)]) (fun h => by rw [h]) (fun h => by rw [h]) (fun hc117 => ?_) (fun hc117 => ?_)
       ·
        have hp := cnd_t hc117 hp
        refine oQ [oF 3, oF 4] [(50, vP b112 2), (49, .func (.func 139) #[] #[vP b1 0]), (48, .bool true), (13, vP b112 0), (1, .map (some b_has)), (3, vP b1 0), (5, vP b2 0), (7, .bool x5), (8, .bool x6), (9, .bool x7), (10, .func (.func 139) #[] #[vP b1 0]), (11, .slice (sa g10) ([(api_Arg.mk o_3 o_4 (api_Ref.mk o_5 o_6)), (api_Arg.mk o_7 o_8 (api_Ref.mk o_9 o_10))] : List api_Arg).length 2), (40, .slice (sa g10) ([(api_Arg.mk o_3 o_4 (api_Ref.mk o_5 o_6)), (api_Arg.mk o_7 o_8 (api_Ref.mk o_9 o_10))] : List api_Arg).length 2), (41, vI x97), (42, vI i100)] (by kernel_rfl) ?_
        refine ops_mem (d := some 51) (an := [.v (vI x103.Ref.Kind), .v (vI x103.Ref.Field)]) (evs := [ld b112 2 (vI x103.Ref.Kind), ld b112 3 (vI x103.Ref.Field)]) (v := .agg #[vI x103.Ref.Kind, vI x103.Ref.Field]) ⟨by kernel_rfl⟩ (fun w_ hM hS => ⟨w_, ⟨hM.cell 0 rfl rfl, hM.cell 0 rfl rfl, rfl⟩, hM, trivial⟩) ?_
        obtain ⟨x118, hv119, hp⟩ := obind hp
        refine ops_callI (σ := Unit) (d := some 52) (f := 139) (args := #[.agg #[vI x103.Ref.Kind, vI x103.Ref.Field], vP b1 0]) (v := (fun _ => .bool x118)) (I := (fun _ => (RdS R_api_Kind F W A_k c_k k))) (M' := (fun _ => Mem w0 (.blk b112 [.bool x103.Has, vI x103.N, vI x103.Ref.Kind, vI x103.Ref.Field] 168 :: .obj b_has (.map es_has ck_has) :: .blk b1 [sl A_k k c_k] 22 :: .blk b2 [vI o_0, vI o_1, vI o_2, .bool o_3, vI o_4, vI o_5, vI o_6, .bool o_7, vI o_8, vI o_9, vI o_10] 170 :: orow (sa g10) ([(api_Arg.mk o_3 o_4 (api_Ref.mk o_5 o_6)), (api_Arg.mk o_7 o_8 (api_Ref.mk o_9 o_10))] : List api_Arg).length 2 168 4 ([.bool o_3, vI o_4, vI o_5, vI o_6, .bool o_7, vI o_8, vI o_9, vI o_10]) :: Fz F W :: cs))) ⟨by kernel_rfl⟩ (fun w_ hM hS => (tourref3_opError_1_ok w0 w_ (.blk b112 [.bool x103.Has, vI x103.N, vI x103.Ref.Kind, vI x103.Ref.Field] 168 :: .obj b_has (.map es_has ck_has) :: .blk b2 [vI o_0, vI o_1, vI o_2, .bool o_3, vI o_4, vI o_5, vI o_6, .bool o_7, vI o_8, vI o_9, vI o_10] 170 :: orow (sa g10) ([(api_Arg.mk o_3 o_4 (api_Ref.mk o_5 o_6)), (api_Arg.mk o_7 o_8 (api_Ref.mk o_9 o_10))] : List api_Arg).length 2 168 4 ([.bool o_3, vI o_4, vI o_5, vI o_6, .bool o_7, vI o_8, vI o_9, vI o_10]) :: cs) F W x103.Ref.Kind x103.Ref.Field b1 A_k c_k k (hM.pick 6 [2, 5, 0, 1, 3, 4] (by kernel_rfl) (by decide) rfl) h99 x118 hv119).mono (by rintro e w' ⟨h120, rfl, h'⟩; have h' : Mem w0 (.blk b112 [.bool x103.Has, vI x103.N, vI x103.Ref.Kind, vI x103.Ref.Field] 168 :: .obj b_has (.map es_has ck_has) :: .blk b1 [sl A_k k c_k] 22 :: .blk b2 [vI o_0, vI o_1, vI o_2, .bool o_3, vI o_4, vI o_5, vI o_6, .bool o_7, vI o_8, vI o_9, vI o_10] 170 :: orow (sa g10) ([(api_Arg.mk o_3 o_4 (api_Ref.mk o_5 o_6)), (api_Arg.mk o_7 o_8 (api_Ref.mk o_9 o_10))] : List api_Arg).length 2 168 4 ([.bool o_3, vI o_4, vI o_5, vI o_6, .bool o_7, vI o_8, vI o_9, vI o_10]) :: Fz F W :: cs) w' := (h'.pick 6 [2, 3, 0, 4, 5, 1] (by kernel_rfl) (by decide) rfl); exact ⟨(), h120, rfl, h', trivial⟩)) ?_
        rintro _ h120
        refine oQ [oF 7, oF 8] [(54, .bool (!x118)), (13, vP b112 0), (1, .map (some b_has)), (3, vP b1 0), (5, vP b2 0), (7, .bool x5), (8, .bool x6), (9, .bool x7), (10, .func (.func 139) #[] #[vP b1 0]), (11, .slice (sa g10) ([(api_Arg.mk o_3 o_4 (api_Ref.mk o_5 o_6)), (api_Arg.mk o_7 o_8 (api_Ref.mk o_9 o_10))] : List api_Arg).length 2), (40, .slice (sa g10) ([(api_Arg.mk o_3 o_4 (api_Ref.mk o_5 o_6)), (api_Arg.mk o_7 o_8 (api_Ref.mk o_9 o_10))] : List api_Arg).length 2), (41, vI x97), (42, vI i100)] (by kernel_rfl) ?_
        refine ops_nil (fin_then ?_)
        refine st_if (b := !x118) rfl (fun hc121 => ?_) (fun hc121 => ?_)
        ·
         have hp := cnd_t hc121 hp
         refine st_seq (st_region [oF 0] (by rfl) ?_)
         refine oQ [oF 0] [(6, vI 1)] (by kernel_rfl) ?_
         refine ops_nil (fin_then (st_ret (fin_ret_then (fin_ret_block (fin_ret_then (fin_ret_then (fin_ret_block (fin_ret_then ?_))))))))
         obtain hq_ := Option.some.inj hp
         subst hq_
         obtain hq_ := hd11 _ rfl
         subst hq_
         have hp : some 1 = some i9001 := hk11
         have hq_ := Option.some.inj hp
         have hr0_ := hq_
         subst hr0_
         refine fin_ret [.tmp 6] [vI 1] rfl rfl (fun w_ hM => (.tmp rfl .nil)) (fun w_ hM => ?_)
         exact ⟨es_has, ck_has, h_has, rfl, hM.pick 6 [1, 5] (by kernel_rfl) (by decide) rfl⟩
        ·
         have hp := cnd_f hc121 hp
         refine st_skip ?_
         exact fin_join HJ13 () ⟨hp, h120⟩ (look_has ⟨rfl, rfl, rfl, rfl, rfl, rfl, rfl, rfl, rfl, rfl, rfl, rfl, trivial⟩) (fun w_ hM => hM.pick 6 [1, 2, 3, 4, 0, 5] (by kernel_rfl) (by decide) rfl)
       ·
        have hp := cnd_f hc117 hp
        refine oQ [oF 3, oF 4, oF 5, oF 6, oF 7, oF 8] [(54, .bool false), (13, vP b112 0), (1, .map (some b_has)), (3, vP b1 0), (5, vP b2 0), (7, .bool x5), (8, .bool x6), (9, .bool x7), (10, .func (.func 139) #[] #[vP b1 0]), (11, .slice (sa g10) ([(api_Arg.mk o_3 o_4 (api_Ref.mk o_5 o_6)), (api_Arg.mk o_7 o_8 (api_Ref.mk o_9 o_10))] : List api_Arg).length 2), (40, .slice (sa g10) ([(api_Arg.mk o_3 o_4 (api_Ref.mk o_5 o_6)), (api_Arg.mk o_7 o_8 (api_Ref.mk o_9 o_10))] : List api_Arg).length 2), (41, vI x97), (42, vI i100)] (by kernel_rfl) ?_
        refine ops_nil (fin_then (st_false rfl (st_skip ?_)))
        exact fin_join HJ13 () ⟨hp, h99⟩ (look_has ⟨rfl, rfl, rfl, rfl, rfl, rfl, rfl, rfl, rfl, rfl, rfl, rfl, trivial⟩) (fun w_ hM => hM.pick 6 [1, 2, 3, 4, 0, 5] (by kernel_rfl) (by decide) rfl)
    ·
     have hp := cnd_f hc101 hp
     refine st_exit (fin_exit_then (fin_exit_then (fin_exit ?_)))
     obtain hq_ := Option.some.inj hp
     subst hq_
     obtain hq_ := hd11 _ rfl
     subst hq_
     have hp : (tourref3_opError_j1 o_3 o_4 o_5 o_6 o_7 o_8 o_9 o_10 x7 x5 x6 o_1 o_2 k has) = some i9001 := hk11
     exact fin_join HJ1 () ⟨hp, h99⟩ (look_has ⟨rfl, rfl, rfl, rfl, rfl, rfl, rfl, rfl, trivial⟩) (fun w_ hM => hM)
end Go.Proofs.YtnnhijlgohlaeaaDoor.D
