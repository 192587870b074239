/- The Go functions come to what the plain functions tell. No condition. -/
import Derived.Test.YtnnhijlgohlaeaaDoorProg
import Derived.Test.YtnnhijlgohlaeaaDoorFnD
import Derived.Test.YtnnhijlgohlaeaaDoorWkD2
import Derived.Test.YtnnhijlgohlaeaaDoorWkD3
import Derived.Test.YtnnhijlgohlaeaaDoorWkD4
import Derived.Test.YtnnhijlgohlaeaaDoorWkD5
import Derived.Test.YtnnhijlgohlaeaaDoorWkD6
namespace Go.Proofs.YtnnhijlgohlaeaaDoor.D
open Go Go.RowKit Go.Proofs.YtnnhijlgohlaeaaDoor.Sx
set_option linter.unusedVariables false
set_option maxHeartbeats 4000000
set_option maxRecDepth 100000
theorem system_Check_ok (w0 w : World) (cs : List Chunk) (F : Nat → Prop) (W : World) (A_k : Option Addr) (c_k : Nat) (k : List api_Kind) (s_0 : ByteArray) (A_s_1 : Option Addr) (c_s_1 : Nat) (s_1 : List Int) (A_s_2 : Option Addr) (c_s_2 : Nat) (s_2 : List Int) (A_s_3 : Option Addr) (c_s_3 : Nat) (s_3 : List Int) (A_s_4 : Option Addr) (c_s_4 : Nat) (s_4 : List Int) (A_s_5 : Option Addr) (c_s_5 : Nat) (s_5 : List api_Op) (A_s_6 : Option Addr) (c_s_6 : Nat) (s_6 : List api_Comp) (hM0 : Mem w0 (Fz F W :: cs) w) (h_k : RdS R_api_Kind F W A_k c_k k) (h_s_1 : RdS (Rep.int .i64) F W A_s_1 c_s_1 s_1) (h_s_2 : RdS (Rep.int .i64) F W A_s_2 c_s_2 s_2) (h_s_3 : RdS (Rep.int .i64) F W A_s_3 c_s_3 s_3) (h_s_4 : RdS (Rep.int .i64) F W A_s_4 c_s_4 s_4) (h_s_5 : RdS R_api_Op F W A_s_5 c_s_5 s_5) (h_s_6 : RdS R_api_Comp F W A_s_6 c_s_6 s_6) (i9001 : Int) (hp : system_Check k s_0 s_1 s_2 s_3 s_4 s_5 s_6 = some i9001) : Calls Tryd.prog 41 #[sl A_k k c_k, .agg #[.string s_0, sl A_s_1 s_1 c_s_1, sl A_s_2 s_2 c_s_2, sl A_s_3 s_3 c_s_3, sl A_s_4 s_4 c_s_4, sl A_s_5 s_5 c_s_5, sl A_s_6 s_6 c_s_6]] w fun e w' => ∃ (F9002 : Nat → Prop), ∃ (W9003 : World), ((Ext w0 F W F9002 W9003)) ∧ e = .returned (vI i9001) ∧ Mem w0 (Fz F9002 W9003 :: cs) w' := by
 unfold system_Check at hp
 refine sx_calls Tryd.func41 rfl (n := 85) (by kernel_rfl) (l := [(0, sl A_k k c_k), (1, .agg #[.string s_0, sl A_s_1 s_1 c_s_1, sl A_s_2 s_2 c_s_2, sl A_s_3 s_3 c_s_3, sl A_s_4 s_4 c_s_4, sl A_s_5 s_5 c_s_5, sl A_s_6 s_6 c_s_6])]) rfl (by rfl) hM0 ?_
 refine st_seq (st_region [oF 0, oF 1] (by rfl) ?_)
 refine ops_newB (d := some 3) [.string s_0, sl A_s_1 s_1 c_s_1, sl A_s_2 s_2 c_s_2, sl A_s_3 s_3 c_s_3, sl A_s_4 s_4 c_s_4, sl A_s_5 s_5 c_s_5, sl A_s_6 s_6 c_s_6] 96 (fun b1 => ⟨by kernel_rfl⟩) (fun w_ hM hS => trivial) (fun b1 => ?_)
 refine oQ [oF 1] [(3, vP b1 0), (0, sl A_k k c_k)] (by kernel_rfl) ?_
 refine ops_nil (fin_then (st_seq (st_seq (st_region [oF 0, oF 1, oF 2] (by rfl) ?_))))
 refine oQ [oF 0] [(14, sl A_k k c_k), (3, vP b1 0), (0, sl A_k k c_k)] (by kernel_rfl) ?_
 obtain ⟨x2, hv3, hp⟩ := obind hp
 refine ops_callI (σ := Unit) (d := some 15) (f := 50) (args := #[sl A_k k c_k]) (v := (fun _ => vI x2)) (I := (fun _ => True)) (M' := (fun _ => Mem w0 (.blk b1 [.string s_0, sl A_s_1 s_1 c_s_1, sl A_s_2 s_2 c_s_2, sl A_s_3 s_3 c_s_3, sl A_s_4 s_4 c_s_4, sl A_s_5 s_5 c_s_5, sl A_s_6 s_6 c_s_6] 96 :: Fz F W :: cs))) ⟨by kernel_rfl⟩ (fun w_ hM hS => (kind_Check_ok w0 w_ (.blk b1 [.string s_0, sl A_s_1 s_1 c_s_1, sl A_s_2 s_2 c_s_2, sl A_s_3 s_3 c_s_3, sl A_s_4 s_4 c_s_4, sl A_s_5 s_5 c_s_5, sl A_s_6 s_6 c_s_6] 96 :: cs) F W A_k c_k k (hM.pick 2 [1, 0] (by kernel_rfl) (by decide) rfl) h_k x2 hv3).mono (by rintro e w' ⟨-, rfl, h'⟩; have h' : Mem w0 (.blk b1 [.string s_0, sl A_s_1 s_1 c_s_1, sl A_s_2 s_2 c_s_2, sl A_s_3 s_3 c_s_3, sl A_s_4 s_4 c_s_4, sl A_s_5 s_5 c_s_5, sl A_s_6 s_6 c_s_6] 96 :: Fz F W :: cs) w' := (h'.pick 2 [1, 0] (by kernel_rfl) (by decide) rfl); exact ⟨(), trivial, rfl, h', trivial⟩)) ?_
 rintro _ -
 refine oQ [oF 2] [(5, vI x2), (3, vP b1 0), (0, sl A_k k c_k)] (by kernel_rfl) ?_
 refine ops_nil (fin_then (st_seq (st_region [oF 0, oF 1] (by rfl) ?_)))
 refine oQ [oF 0, oF 1] [(17, .bool (!(x2 == 0))), (5, vI x2), (3, vP b1 0), (0, sl A_k k c_k)] (by kernel_rfl) ?_
 refine ops_nil (fin_then ?_)
 refine st_if (b := !(x2 == 0)) rfl (fun hc4 => ?_) (fun hc4 => ?_)
 ·
  have hp := cnd_t hc4 hp
  refine st_seq (st_region [oF 0, oF 1] (by rfl) ?_)
  refine oQ [oF 0, oF 1] [(4, vI x2)] (by kernel_rfl) ?_
  refine ops_nil (fin_then (st_ret (fin_ret_then ?_)))
  have hq_ := Option.some.inj hp
  have hr0_ := hq_
  subst hr0_
  refine fin_ret [.tmp 4] [vI x2] rfl rfl (fun w_ hM => (.tmp rfl .nil)) (fun w_ hM => ?_)
  exact ⟨F, W, (Ext.refl _ _ _), rfl, hM.pick 2 [1] (by kernel_rfl) (by decide) rfl⟩
 ·
  have hp := cnd_f hc4 hp
  refine st_skip (fin_then (st_seq (st_seq (st_region [oF 0, oF 1, oF 2, oF 3] (by rfl) ?_))))
  refine oQ [oF 0] [(19, vP b1 0), (3, vP b1 0), (0, sl A_k k c_k)] (by kernel_rfl) ?_
  refine ops_mem (d := some 20) (an := [.v (.string s_0)]) (evs := [ld b1 0 (.string s_0)]) (v := .string s_0) ⟨by kernel_rfl⟩ (fun w_ hM hS => ⟨w_, ⟨hM.cell 0 rfl rfl, rfl⟩, hM, trivial⟩) ?_
  obtain ⟨x5, hv6, hp⟩ := obind hp
  refine ops_callI (σ := Unit) (d := some 21) (f := 86) (args := #[.string s_0]) (v := (fun _ => .bool x5)) (I := (fun _ => True)) (M' := (fun _ => Mem w0 (.blk b1 [.string s_0, sl A_s_1 s_1 c_s_1, sl A_s_2 s_2 c_s_2, sl A_s_3 s_3 c_s_3, sl A_s_4 s_4 c_s_4, sl A_s_5 s_5 c_s_5, sl A_s_6 s_6 c_s_6] 96 :: Fz F W :: cs))) ⟨by kernel_rfl⟩ (fun w_ hM hS => (kind_Name_ok w0 w_ (.blk b1 [.string s_0, sl A_s_1 s_1 c_s_1, sl A_s_2 s_2 c_s_2, sl A_s_3 s_3 c_s_3, sl A_s_4 s_4 c_s_4, sl A_s_5 s_5 c_s_5, sl A_s_6 s_6 c_s_6] 96 :: cs) F W s_0 (hM.pick 2 [1, 0] (by kernel_rfl) (by decide) rfl)  x5 hv6).mono (by rintro e w' ⟨-, rfl, h'⟩; have h' : Mem w0 (.blk b1 [.string s_0, sl A_s_1 s_1 c_s_1, sl A_s_2 s_2 c_s_2, sl A_s_3 s_3 c_s_3, sl A_s_4 s_4 c_s_4, sl A_s_5 s_5 c_s_5, sl A_s_6 s_6 c_s_6] 96 :: Fz F W :: cs) w' := (h'.pick 2 [1, 0] (by kernel_rfl) (by decide) rfl); exact ⟨(), trivial, rfl, h', trivial⟩)) ?_
  rintro _ -
  refine oQ [oF 3] [(22, .bool (!x5)), (3, vP b1 0), (0, sl A_k k c_k)] (by kernel_rfl) ?_
  refine ops_nil (fin_then ?_)
  refine st_if (b := !x5) rfl (fun hc7 => ?_) (fun hc7 => ?_)
  ·
   have hp := cnd_t hc7 hp
   refine st_seq (st_region [oF 0] (by rfl) ?_)
   refine oQ [oF 0] [(4, vI 3)] (by kernel_rfl) ?_
   refine ops_nil (fin_then (st_ret (fin_ret_then ?_)))
   have hq_ := Option.some.inj hp
   have hr0_ := hq_
   subst hr0_
   refine fin_ret [.tmp 4] [vI 3] rfl rfl (fun w_ hM => (.tmp rfl .nil)) (fun w_ hM => ?_)
   exact ⟨F, W, (Ext.refl _ _ _), rfl, hM.pick 2 [1] (by kernel_rfl) (by decide) rfl⟩
  ·
   have hp := cnd_f hc7 hp
   refine st_skip (fin_then (st_seq (st_seq (st_region [oF 0, oF 1, oF 2, oF 3] (by rfl) ?_))))
   refine oQ [oF 0] [(23, vP b1 5), (3, vP b1 0), (0, sl A_k k c_k)] (by kernel_rfl) ?_
   refine ops_mem (d := some 24) (an := [.v (sl A_s_5 s_5 c_s_5)]) (evs := [ld b1 5 (sl A_s_5 s_5 c_s_5)]) (v := sl A_s_5 s_5 c_s_5) ⟨by kernel_rfl⟩ (fun w_ hM hS => ⟨w_, ⟨hM.cell 0 rfl rfl, rfl⟩, hM, trivial⟩) ?_
   refine oQ [oF 2, oF 3] [(26, .bool (decide (20 < (s_5.length : Int)))), (3, vP b1 0), (0, sl A_k k c_k)] (by kernel_rfl) ?_
   refine ops_nil (fin_then ?_)
   refine st_if (b := decide (20 < (s_5.length : Int))) rfl (fun hc8 => ?_) (fun hc8 => ?_)
   ·
    have hp := cnd_t hc8 hp
    refine st_seq (st_region [oF 0] (by rfl) ?_)
    refine oQ [oF 0] [(4, vI 2)] (by kernel_rfl) ?_
    refine ops_nil (fin_then (st_ret (fin_ret_then ?_)))
    have hq_ := Option.some.inj hp
    have hr0_ := hq_
    subst hr0_
    refine fin_ret [.tmp 4] [vI 2] rfl rfl (fun w_ hM => (.tmp rfl .nil)) (fun w_ hM => ?_)
    exact ⟨F, W, (Ext.refl _ _ _), rfl, hM.pick 2 [1] (by kernel_rfl) (by decide) rfl⟩
   ·
    have hp := cnd_f hc8 hp
    refine st_skip (fin_then ?_)
    refine st_join1 (σ := Unit) (L := fun _ => [(0, sl A_k k c_k), (3, vP b1 0)]) (N := fun _ => Mem w0 (.blk b1 [.string s_0, sl A_s_1 s_1 c_s_1, sl A_s_2 s_2 c_s_2, sl A_s_3 s_3 c_s_3, sl A_s_4 s_4 c_s_4, sl A_s_5 s_5 c_s_5, sl A_s_6 s_6 c_s_6] 96 :: Fz F W :: cs)) (I := fun _ => ((system_Check_j1 s_1 s_0 s_2 s_3 s_4 s_5 s_6 k) = some i9001)) ?_ ?_
    ·
     rintro _ hp
     unfold system_Check_j1 at hp
     refine st_seq (st_seq (st_region [oF 0, oF 1, oF 2, oF 3] (by rfl) ?_))
     refine oQ [oF 0] [(48, vP b1 1), (0, sl A_k k c_k), (3, vP b1 0)] (by kernel_rfl) ?_
     refine ops_mem (d := some 49) (an := [.v (sl A_s_1 s_1 c_s_1)]) (evs := [ld b1 1 (sl A_s_1 s_1 c_s_1)]) (v := sl A_s_1 s_1 c_s_1) ⟨by kernel_rfl⟩ (fun w_ hM hS => ⟨w_, ⟨hM.cell 0 rfl rfl, rfl⟩, hM, trivial⟩) ?_
     refine oQ [oF 2] [(50, .func (.func 89) #[] #[vP b1 0]), (49, sl A_s_1 s_1 c_s_1), (0, sl A_k k c_k), (3, vP b1 0)] (by kernel_rfl) ?_
     obtain ⟨x9, hv10, hp⟩ := obind hp
     refine ops_callI (σ := Unit) (d := some 51) (f := 88) (args := #[sl A_s_1 s_1 c_s_1, .func (.func 89) #[] #[vP b1 0]]) (v := (fun _ => .bool x9)) (I := (fun _ => (RdS (Rep.int .i64) F W A_s_1 c_s_1 s_1) ∧ (RdS (Rep.int .i64) F W A_s_2 c_s_2 s_2) ∧ (RdS (Rep.int .i64) F W A_s_3 c_s_3 s_3) ∧ (RdS (Rep.int .i64) F W A_s_4 c_s_4 s_4) ∧ (RdS R_api_Op F W A_s_5 c_s_5 s_5) ∧ (RdS R_api_Comp F W A_s_6 c_s_6 s_6))) (M' := (fun _ => Mem w0 (.blk b1 [.string s_0, sl A_s_1 s_1 c_s_1, sl A_s_2 s_2 c_s_2, sl A_s_3 s_3 c_s_3, sl A_s_4 s_4 c_s_4, sl A_s_5 s_5 c_s_5, sl A_s_6 s_6 c_s_6] 96 :: Fz F W :: cs))) ⟨by kernel_rfl⟩ (fun w_ hM hS => (slices_ContainsFunc_int_int_ok w0 w_ (cs) F W A_s_1 c_s_1 s_1 b1 s_0 A_s_1 c_s_1 s_1 A_s_2 c_s_2 s_2 A_s_3 c_s_3 s_3 A_s_4 c_s_4 s_4 A_s_5 c_s_5 s_5 A_s_6 c_s_6 s_6 hM h_s_1 h_s_1 h_s_2 h_s_3 h_s_4 h_s_5 h_s_6 x9 hv10).mono (by rintro e w' ⟨⟨h11, h12, h13, h14, h15, h16⟩, rfl, h'⟩; have h' : Mem w0 (.blk b1 [.string s_0, sl A_s_1 s_1 c_s_1, sl A_s_2 s_2 c_s_2, sl A_s_3 s_3 c_s_3, sl A_s_4 s_4 c_s_4, sl A_s_5 s_5 c_s_5, sl A_s_6 s_6 c_s_6] 96 :: Fz F W :: cs) w' := h'; exact ⟨(), ⟨h11, h12, h13, h14, h15, h16⟩, rfl, h', trivial⟩)) ?_
     rintro _ ⟨h11, h12, h13, h14, h15, h16⟩
     refine ops_nil (fin_then ?_)
     refine st_if (b := x9) rfl (fun hc17 => ?_) (fun hc17 => ?_)
     ·
      have hp := cnd_t hc17 hp
      refine st_seq (st_region [oF 0] (by rfl) ?_)
      refine oQ [oF 0] [(4, vI 10)] (by kernel_rfl) ?_
      refine ops_nil (fin_then (st_ret (fin_ret_then ?_)))
      have hq_ := Option.some.inj hp
      have hr0_ := hq_
      subst hr0_
      refine fin_ret [.tmp 4] [vI 10] rfl rfl (fun w_ hM => (.tmp rfl .nil)) (fun w_ hM => ?_)
      exact ⟨F, W, (Ext.refl _ _ _), rfl, hM.pick 2 [1] (by kernel_rfl) (by decide) rfl⟩
     ·
      have hp := cnd_f hc17 hp
      refine st_skip (fin_then (st_seq (st_seq (st_region [oF 0, oF 1, oF 2, oF 3, oF 4, oF 5, oF 6, oF 7] (by rfl) ?_))))
      refine oQ [oF 0] [(52, vP b1 3), (0, sl A_k k c_k), (3, vP b1 0)] (by kernel_rfl) ?_
      refine ops_mem (d := some 53) (an := [.v (sl A_s_3 s_3 c_s_3)]) (evs := [ld b1 3 (sl A_s_3 s_3 c_s_3)]) (v := sl A_s_3 s_3 c_s_3) ⟨by kernel_rfl⟩ (fun w_ hM hS => ⟨w_, ⟨hM.cell 0 rfl rfl, rfl⟩, hM, trivial⟩) ?_
      refine oQ [oF 2] [(54, vP b1 4), (53, sl A_s_3 s_3 c_s_3), (0, sl A_k k c_k), (3, vP b1 0)] (by kernel_rfl) ?_
      refine ops_mem (d := some 55) (an := [.v (sl A_s_4 s_4 c_s_4)]) (evs := [ld b1 4 (sl A_s_4 s_4 c_s_4)]) (v := sl A_s_4 s_4 c_s_4) ⟨by kernel_rfl⟩ (fun w_ hM hS => ⟨w_, ⟨hM.cell 0 rfl rfl, rfl⟩, hM, trivial⟩) ?_
      have h18 : RepL (Rep.sl (Rep.int .i64)) F W ([s_3, s_4] : List (List Int)) ([sl A_s_3 s_3 c_s_3, sl A_s_4 s_4 c_s_4]) := (RepL.cons (R := (Rep.sl (Rep.int .i64))) (F := F) (w := W) (vs := [sl A_s_3 s_3 c_s_3]) (ys := [sl A_s_4 s_4 c_s_4]) (slrd h13) (RepL.cons (R := (Rep.sl (Rep.int .i64))) (F := F) (w := W) (vs := [sl A_s_4 s_4 c_s_4]) (ys := []) (slrd h14) RepL.nil))
      refine ops_new (d := some 56) (o := .cells ([sl A_s_3 s_3 c_s_3, sl A_s_4 s_4 c_s_4] : List Value).toArray 44) (v := fun g19 => .slice (sa g19) ([s_3, s_4] : List (List Int)).length 2) (M' := fun g19 => Mem w0 (orow (sa g19) ([s_3, s_4] : List (List Int)).length 2 44 1 ([sl A_s_3 s_3 c_s_3, sl A_s_4 s_4 c_s_4]) :: .blk b1 [.string s_0, sl A_s_1 s_1 c_s_1, sl A_s_2 s_2 c_s_2, sl A_s_3 s_3 c_s_3, sl A_s_4 s_4 c_s_4, sl A_s_5 s_5 c_s_5, sl A_s_6 s_6 c_s_6] 96 :: Fz F W :: cs)) (fun g19 => ⟨by kernel_rfl⟩) (fun w_ hM hS => ⟨hM.onew [sl A_s_3 s_3 c_s_3, sl A_s_4 s_4 c_s_4] 44 2 1 rfl (by decide), trivial⟩) (fun g19 => ?_)
      obtain ⟨x20, hv21, hp⟩ := obind hp
      refine ops_callI (σ := (Option Addr) × Nat × (List Value)) (d := some 57) (f := 91) (args := #[.slice (sa g19) ([s_3, s_4] : List (List Int)).length 2]) (v := (fun x_ => match x_ with | (A22, c23, y24) => sl A22 x20 c23)) (I := (fun x_ => match x_ with | (A22, c23, y24) => (RepL (Rep.int .i64) F W x20 y24))) (M' := (fun x_ => match x_ with | (A22, c23, y24) => Mem w0 (ow A22 x20 c23 3 1 y24 :: orow (sa g19) ([s_3, s_4] : List (List Int)).length 2 44 1 ([sl A_s_3 s_3 c_s_3, sl A_s_4 s_4 c_s_4]) :: .blk b1 [.string s_0, sl A_s_1 s_1 c_s_1, sl A_s_2 s_2 c_s_2, sl A_s_3 s_3 c_s_3, sl A_s_4 s_4 c_s_4, sl A_s_5 s_5 c_s_5, sl A_s_6 s_6 c_s_6] 96 :: Fz F W :: cs))) ⟨by kernel_rfl⟩ (fun w_ hM hS => (slices_Concat_int_int_ok w_ w_ [] (fun b => b < w_.heap.size) w_ (sa g19) 2 ([s_3, s_4] : List (List Int)) (Mem.fz0 w_) (hM.ordS 0 2 rfl rfl h18 rfl rfl) x20 hv21).mono (by rintro e w' ⟨A22, c23, y24, h25, rfl, h'⟩; have h' : Mem w_ [ow A22 x20 c23 3 1 y24] w' := h'.pick 2 [0] (by kernel_rfl) (by decide) rfl; exact ⟨(A22, c23, y24), (RepL.move' (fun h => h) h25), rfl, hM.join h' rfl, trivial⟩)) ?_
      rintro ⟨A22, c23, y24⟩ h25
      refine oQ [oF 6] [(58, .func (.func 92) #[] #[vP b1 0]), (57, sl A22 x20 c23), (0, sl A_k k c_k), (3, vP b1 0)] (by kernel_rfl) ?_
      refine ops_ex (σ := (Nat → Prop) × World) (I := fun x_ => Ext w0 F W x_.1 x_.2 ∧ RdS (Rep.int .i64) x_.1 x_.2 A22 c23 x20) (M' := fun x_ => Mem w0 (orow (sa g19) ([s_3, s_4] : List (List Int)).length 2 44 1 ([sl A_s_3 s_3 c_s_3, sl A_s_4 s_4 c_s_4]) :: .blk b1 [.string s_0, sl A_s_1 s_1 c_s_1, sl A_s_2 s_2 c_s_2, sl A_s_3 s_3 c_s_3, sl A_s_4 s_4 c_s_4, sl A_s_5 s_5 c_s_5, sl A_s_6 s_6 c_s_6] 96 :: Fz x_.1 x_.2 :: cs)) (fun w_ hM => ?_) ?_
      · obtain ⟨F_, h1_, h2_, h3_⟩ := (hM.pick 4 [0, 3, 1, 2] (by kernel_rfl) (by decide) rfl : Mem w0 (ow A22 x20 c23 3 1 y24 :: Fz F W :: orow (sa g19) ([s_3, s_4] : List (List Int)).length 2 44 1 ([sl A_s_3 s_3 c_s_3, sl A_s_4 s_4 c_s_4]) :: .blk b1 [.string s_0, sl A_s_1 s_1 c_s_1, sl A_s_2 s_2 c_s_2, sl A_s_3 s_3 c_s_3, sl A_s_4 s_4 c_s_4, sl A_s_5 s_5 c_s_5, sl A_s_6 s_6 c_s_6] 96 :: cs) w_).freeze (z := 1) h25 rfl rfl
        exact ⟨(F_, w_), ⟨h1_, h2_⟩, h3_.pick 3 [1, 2, 0] (by kernel_rfl) (by decide) rfl⟩
      rintro ⟨F26, W27⟩ ⟨hx28, h29⟩
      have hx28 : Ext w0 F W F26 W27 := hx28
      have h29 : RdS (Rep.int .i64) F26 W27 A22 c23 x20 := h29
      have h_k := h_k.ext hx28
      have h18 := h18.ext hx28
      have h11 := h11.ext hx28
      have h12 := h12.ext hx28
      have h13 := h13.ext hx28
      have h14 := h14.ext hx28
      have h15 := h15.ext hx28
      have h16 := h16.ext hx28
      obtain ⟨x30, hv31, hp⟩ := obind hp
      refine ops_callI (σ := Unit) (d := some 59) (f := 88) (args := #[sl A22 x20 c23, .func (.func 92) #[] #[vP b1 0]]) (v := (fun _ => .bool x30)) (I := (fun _ => (RdS (Rep.int .i64) F26 W27 A_s_1 c_s_1 s_1) ∧ (RdS (Rep.int .i64) F26 W27 A_s_2 c_s_2 s_2) ∧ (RdS (Rep.int .i64) F26 W27 A_s_3 c_s_3 s_3) ∧ (RdS (Rep.int .i64) F26 W27 A_s_4 c_s_4 s_4) ∧ (RdS R_api_Op F26 W27 A_s_5 c_s_5 s_5) ∧ (RdS R_api_Comp F26 W27 A_s_6 c_s_6 s_6))) (M' := (fun _ => Mem w0 (orow (sa g19) ([s_3, s_4] : List (List Int)).length 2 44 1 ([sl A_s_3 s_3 c_s_3, sl A_s_4 s_4 c_s_4]) :: .blk b1 [.string s_0, sl A_s_1 s_1 c_s_1, sl A_s_2 s_2 c_s_2, sl A_s_3 s_3 c_s_3, sl A_s_4 s_4 c_s_4, sl A_s_5 s_5 c_s_5, sl A_s_6 s_6 c_s_6] 96 :: Fz F26 W27 :: cs))) ⟨by kernel_rfl⟩ (fun w_ hM hS => (slices_ContainsFunc_int_int_v2_ok w0 w_ (orow (sa g19) ([s_3, s_4] : List (List Int)).length 2 44 1 ([sl A_s_3 s_3 c_s_3, sl A_s_4 s_4 c_s_4]) :: cs) F26 W27 A22 c23 x20 b1 s_0 A_s_1 c_s_1 s_1 A_s_2 c_s_2 s_2 A_s_3 c_s_3 s_3 A_s_4 c_s_4 s_4 A_s_5 c_s_5 s_5 A_s_6 c_s_6 s_6 (hM.pick 3 [1, 2, 0] (by kernel_rfl) (by decide) rfl) h29 h11 h12 h13 h14 h15 h16 x30 hv31).mono (by rintro e w' ⟨⟨h32, h33, h34, h35, h36, h37⟩, rfl, h'⟩; have h' : Mem w0 (orow (sa g19) ([s_3, s_4] : List (List Int)).length 2 44 1 ([sl A_s_3 s_3 c_s_3, sl A_s_4 s_4 c_s_4]) :: .blk b1 [.string s_0, sl A_s_1 s_1 c_s_1, sl A_s_2 s_2 c_s_2, sl A_s_3 s_3 c_s_3, sl A_s_4 s_4 c_s_4, sl A_s_5 s_5 c_s_5, sl A_s_6 s_6 c_s_6] 96 :: Fz F26 W27 :: cs) w' := (h'.pick 3 [2, 0, 1] (by kernel_rfl) (by decide) rfl); exact ⟨(), ⟨h32, h33, h34, h35, h36, h37⟩, rfl, h', trivial⟩)) ?_
      rintro _ ⟨h32, h33, h34, h35, h36, h37⟩
      refine ops_nil (fin_then ?_)
      refine st_if (b := x30) rfl (fun hc38 => ?_) (fun hc38 => ?_)
      ·
       have hp := cnd_t hc38 hp
       refine st_seq (st_region [oF 0] (by rfl) ?_)
       refine oQ [oF 0] [(4, vI 8)] (by kernel_rfl) ?_
       refine ops_nil (fin_then (st_ret (fin_ret_then ?_)))
       have hq_ := Option.some.inj hp
       have hr0_ := hq_
       subst hr0_
       refine fin_ret [.tmp 4] [vI 8] rfl rfl (fun w_ hM => (.tmp rfl .nil)) (fun w_ hM => ?_)
       exact ⟨F26, W27, hx28, rfl, hM.pick 3 [2] (by kernel_rfl) (by decide) rfl⟩
      ·
       have hp := cnd_f hc38 hp
       refine st_skip (fin_then (st_seq (st_seq (st_region [oF 0, oF 1, oF 2, oF 3, oF 4, oF 5, oF 6, oF 7, oF 8] (by rfl) ?_))))
       refine oQ [oF 0, oF 1] [(62, vP b1 6), (61, sl A_k k c_k), (0, sl A_k k c_k), (3, vP b1 0)] (by kernel_rfl) ?_
       refine ops_mem (d := some 63) (an := [.v (sl A_s_6 s_6 c_s_6)]) (evs := [ld b1 6 (sl A_s_6 s_6 c_s_6)]) (v := sl A_s_6 s_6 c_s_6) ⟨by kernel_rfl⟩ (fun w_ hM hS => ⟨w_, ⟨hM.cell 1 rfl rfl, rfl⟩, hM, trivial⟩) ?_
       obtain ⟨x39, x40, hv41, hp⟩ := obind2 hp
       refine ops_callI (σ := (Option Addr) × Nat × (List Value) × (Nat → Prop) × World) (d := some 64) (f := 93) (args := #[sl A_k k c_k, sl A_s_6 s_6 c_s_6]) (v := (fun x_ => match x_ with | (A42, c43, y44, F45, W46) => .tuple #[sl A42 x39 c43, vI x40])) (I := (fun x_ => match x_ with | (A42, c43, y44, F45, W46) => (RepL R_api_Comp F45 W46 x39 y44) ∧ (Ext w0 F26 W27 F45 W46))) (M' := (fun x_ => match x_ with | (A42, c43, y44, F45, W46) => Mem w0 (ow A42 x39 c43 135 2 y44 :: orow (sa g19) ([s_3, s_4] : List (List Int)).length 2 44 1 ([sl A_s_3 s_3 c_s_3, sl A_s_4 s_4 c_s_4]) :: .blk b1 [.string s_0, sl A_s_1 s_1 c_s_1, sl A_s_2 s_2 c_s_2, sl A_s_3 s_3 c_s_3, sl A_s_4 s_4 c_s_4, sl A_s_5 s_5 c_s_5, sl A_s_6 s_6 c_s_6] 96 :: Fz F45 W46 :: cs))) ⟨by kernel_rfl⟩ (fun w_ hM hS => (world_Fit_ok w0 w_ (orow (sa g19) ([s_3, s_4] : List (List Int)).length 2 44 1 ([sl A_s_3 s_3 c_s_3, sl A_s_4 s_4 c_s_4]) :: .blk b1 [.string s_0, sl A_s_1 s_1 c_s_1, sl A_s_2 s_2 c_s_2, sl A_s_3 s_3 c_s_3, sl A_s_4 s_4 c_s_4, sl A_s_5 s_5 c_s_5, sl A_s_6 s_6 c_s_6] 96 :: cs) F26 W27 A_k c_k k A_s_6 c_s_6 s_6 (hM.pick 3 [2, 0, 1] (by kernel_rfl) (by decide) rfl) h_k h37 x39 x40 hv41).mono (by rintro e w' ⟨A42, c43, y44, F45, W46, ⟨h47, h48⟩, rfl, h'⟩; have h' : Mem w0 (ow A42 x39 c43 135 2 y44 :: orow (sa g19) ([s_3, s_4] : List (List Int)).length 2 44 1 ([sl A_s_3 s_3 c_s_3, sl A_s_4 s_4 c_s_4]) :: .blk b1 [.string s_0, sl A_s_1 s_1 c_s_1, sl A_s_2 s_2 c_s_2, sl A_s_3 s_3 c_s_3, sl A_s_4 s_4 c_s_4, sl A_s_5 s_5 c_s_5, sl A_s_6 s_6 c_s_6] 96 :: Fz F45 W46 :: cs) w' := (h'.pick 4 [0, 2, 3, 1] (by kernel_rfl) (by decide) rfl); exact ⟨(A42, c43, y44, F45, W46), ⟨h47, h48⟩, rfl, h', trivial⟩)) ?_
       rintro ⟨A42, c43, y44, F45, W46⟩ ⟨h47, h48⟩
       have h37 := h37.ext h48
       have h_k := h_k.ext h48
       have h18 := h18.ext h48
       have h32 := h32.ext h48
       have h33 := h33.ext h48
       have h34 := h34.ext h48
       have h35 := h35.ext h48
       have h36 := h36.ext h48
       refine oQ [oF 4, oF 5, oF 6, oF 7, oF 8] [(10, vI x40), (0, sl A_k k c_k), (3, vP b1 0)] (by kernel_rfl) ?_
       refine ops_nil (fin_then (st_seq (st_region [oF 0, oF 1] (by rfl) ?_)))
       refine oQ [oF 0, oF 1] [(68, .bool (!(x40 == 0))), (10, vI x40), (0, sl A_k k c_k), (3, vP b1 0)] (by kernel_rfl) ?_
       refine ops_nil (fin_then ?_)
       refine st_if (b := !(x40 == 0)) rfl (fun hc49 => ?_) (fun hc49 => ?_)
       ·
        have hp := cnd_t hc49 hp
        refine st_seq (st_region [oF 0, oF 1] (by rfl) ?_)
        refine oQ [oF 0, oF 1] [(4, vI x40)] (by kernel_rfl) ?_
        refine ops_nil (fin_then (st_ret (fin_ret_then ?_)))
        have hq_ := Option.some.inj hp
        have hr0_ := hq_
        subst hr0_
        refine fin_ret [.tmp 4] [vI x40] rfl rfl (fun w_ hM => (.tmp rfl .nil)) (fun w_ hM => ?_)
        exact ⟨F45, W46, (hx28.trans h48), rfl, hM.pick 4 [3] (by kernel_rfl) (by decide) rfl⟩
       ·
        have hp := cnd_f hc49 hp
        refine st_skip (fin_then ?_)
        refine st_join1 (σ := Unit) (L := fun _ => []) (N := fun _ => Mem w0 (Fz F45 W46 :: cs)) (I := fun _ => (system_Check_j2 = some i9001)) ?_ ?_
        ·
         rintro _ hp
         unfold system_Check_j2 at hp
         refine st_seq (st_region [oF 0] (by rfl) ?_)
         refine oQ [oF 0] [(4, vI 0)] (by kernel_rfl) ?_
         refine ops_nil (fin_then (st_ret ?_))
         have hq_ := Option.some.inj hp
         have hr0_ := hq_
         subst hr0_
         refine fin_ret [.tmp 4] [vI 0] rfl rfl (fun w_ hM => (.tmp rfl .nil)) (fun w_ hM => ?_)
         exact ⟨F45, W46, (hx28.trans h48), rfl, hM⟩
        ·
         intro HJ2
         refine st_seq (st_seq (st_region [oF 0, oF 1, oF 2, oF 3] (by rfl) ?_))
         refine oQ [oF 0] [(70, vP b1 5), (0, sl A_k k c_k), (3, vP b1 0)] (by kernel_rfl) ?_
         refine ops_mem (d := some 71) (an := [.v (sl A_s_5 s_5 c_s_5)]) (evs := [ld b1 5 (sl A_s_5 s_5 c_s_5)]) (v := sl A_s_5 s_5 c_s_5) ⟨by kernel_rfl⟩ (fun w_ hM hS => ⟨w_, ⟨hM.cell 2 rfl rfl, rfl⟩, hM, trivial⟩) ?_
         refine oQ [oF 2, oF 3] [(73, vI 0), (72, vI (s_5.length : Int)), (71, sl A_s_5 s_5 c_s_5), (0, sl A_k k c_k), (3, vP b1 0)] (by kernel_rfl) ?_
         refine ops_nil (fin_then (st_block ?_))
         obtain ⟨r3, hl3, hk3⟩ := obind hp
         refine st_loopP (σ := Int) (ρ := (Int ⊕ Unit)) (γ := Unit) hl3 () (fun s_ g_ => match s_, g_ with | i50, _ => [(0, sl A_k k c_k), (3, vP b1 0), (71, sl A_s_5 s_5 c_s_5), (72, vI (s_5.length : Int)), (73, vI i50)]) (fun s_ g_ => match s_, g_ with | i50, _ => Mem w0 (.blk b1 [.string s_0, sl A_s_1 s_1 c_s_1, sl A_s_2 s_2 c_s_2, sl A_s_3 s_3 c_s_3, sl A_s_4 s_4 c_s_4, sl A_s_5 s_5 c_s_5, sl A_s_6 s_6 c_s_6] 96 :: Fz F45 W46 :: cs)) (fun s_ g_ => match s_, g_ with | i50, _ => True) trivial (look_has ⟨rfl, rfl, rfl, rfl, rfl, trivial⟩) (fun w_ hM => hM.pick 4 [2, 3] (by kernel_rfl) (by decide) rfl) ?_
         rintro i50 _ o3 - hs_ hd3
         have hp : (system_Check_l3 s_5 k s_0 s_1 s_2 s_3 s_4 s_6) i50 = some o3 := hs_
         clear hs_
         unfold system_Check_l3 at hp
         refine st_seq (st_region [oF 0] (by rfl) ?_)
         refine oQ [oF 0] [(74, .bool (decide (i50 < (s_5.length : Int)))), (0, sl A_k k c_k), (3, vP b1 0), (71, sl A_s_5 s_5 c_s_5), (72, vI (s_5.length : Int)), (73, vI i50)] (by kernel_rfl) ?_
         refine ops_nil (fin_then (st_seq ?_))
         refine st_if (b := decide (i50 < (s_5.length : Int))) rfl (fun hc51 => ?_) (fun hc51 => ?_)
         ·
          have hp := cnd_t hc51 hp
          refine st_skip (fin_then (st_seq (st_block (st_seq (st_region [oF 0, oF 1, oF 2, oF 3] (by rfl) ?_)))))
          obtain ⟨x52, hv53, hp⟩ := obind hp
          obtain ⟨m54, hm55, hx56⟩ := idx_some hv53
          have hl59 := (List.getElem?_eq_some_iff.1 hx56).1
          obtain ⟨ad60, vs57, hA61, hr58, hq62⟩ := RdS.el h36 hx56
          obtain rfl := dec_api_Op hr58
          refine ops_val (op := (.indexAddr 93 (.tmp 71) (.tmp 73))) (d := some 75) (v := .pointer (some (ad60.add (m54 * 11)))) ⟨by kernel_rfl⟩ (run_indexA hA61 Tryd.underlying93 (z := 11) (by kernel_rfl) rfl rfl hm55 hl59) ?_
          refine ops_mem (d := some 76) (an := [.v (vI x52.Do), .v (vI x52.To.Kind), .v (vI x52.To.Field), .v (.bool x52.A.Has), .v (vI x52.A.N), .v (vI x52.A.Ref.Kind), .v (vI x52.A.Ref.Field), .v (.bool x52.B.Has), .v (vI x52.B.N), .v (vI x52.B.Ref.Kind), .v (vI x52.B.Ref.Field)]) (evs := [.load (ad60.add (m54 * 11)) (vI x52.Do), .load ((ad60.add (m54 * 11)).add 1) (vI x52.To.Kind), .load ((ad60.add (m54 * 11)).add 2) (vI x52.To.Field), .load ((ad60.add (m54 * 11)).add 3) (.bool x52.A.Has), .load ((ad60.add (m54 * 11)).add 4) (vI x52.A.N), .load ((ad60.add (m54 * 11)).add 5) (vI x52.A.Ref.Kind), .load ((ad60.add (m54 * 11)).add 6) (vI x52.A.Ref.Field), .load ((ad60.add (m54 * 11)).add 7) (.bool x52.B.Has), .load ((ad60.add (m54 * 11)).add 8) (vI x52.B.N), .load ((ad60.add (m54 * 11)).add 9) (vI x52.B.Ref.Kind), .load ((ad60.add (m54 * 11)).add 10) (vI x52.B.Ref.Field)]) (v := .agg #[vI x52.Do, vI x52.To.Kind, vI x52.To.Field, .bool x52.A.Has, vI x52.A.N, vI x52.A.Ref.Kind, vI x52.A.Ref.Field, .bool x52.B.Has, vI x52.B.N, vI x52.B.Ref.Kind, vI x52.B.Ref.Field]) ⟨by kernel_rfl⟩ (fun w_ hM hS => ⟨w_, ⟨hM.elcell 1 rfl hq62 0 rfl, hM.elcell 1 rfl hq62 1 rfl, hM.elcell 1 rfl hq62 2 rfl, hM.elcell 1 rfl hq62 3 rfl, hM.elcell 1 rfl hq62 4 rfl, hM.elcell 1 rfl hq62 5 rfl, hM.elcell 1 rfl hq62 6 rfl, hM.elcell 1 rfl hq62 7 rfl, hM.elcell 1 rfl hq62 8 rfl, hM.elcell 1 rfl hq62 9 rfl, hM.elcell 1 rfl hq62 10 rfl, rfl⟩, hM, trivial⟩) ?_
          refine ops_newB (d := some 12) [vI 0, vI 0, vI 0, .bool false, vI 0, vI 0, vI 0, .bool false, vI 0, vI 0, vI 0] 170 (fun b63 => ⟨by kernel_rfl⟩) (fun w_ hM hS => trivial) (fun b63 => ?_)
          refine ops_store (an := []) (evs := [sr b63 0 (vI x52.Do), sr b63 1 (vI x52.To.Kind), sr b63 2 (vI x52.To.Field), sr b63 3 (.bool x52.A.Has), sr b63 4 (vI x52.A.N), sr b63 5 (vI x52.A.Ref.Kind), sr b63 6 (vI x52.A.Ref.Field), sr b63 7 (.bool x52.B.Has), sr b63 8 (vI x52.B.N), sr b63 9 (vI x52.B.Ref.Kind), sr b63 10 (vI x52.B.Ref.Field)]) ⟨by kernel_rfl⟩ (fun w_ hM hS => let ⟨w', he, h'⟩ := hM.evs_stores [vI x52.Do, vI x52.To.Kind, vI x52.To.Field, .bool x52.A.Has, vI x52.A.N, vI x52.A.Ref.Kind, vI x52.A.Ref.Field, .bool x52.B.Has, vI x52.B.N, vI x52.B.Ref.Kind, vI x52.B.Ref.Field] 0 rfl 0 (Nat.le_of_ble_eq_true rfl); ⟨w', he, h', trivial⟩) ?_
          refine ops_nil (fin_then (st_seq (st_region [oF 0, oF 1, oF 2, oF 3, oF 4] (by rfl) ?_)))
          refine oQ [oF 0] [(77, sl A_k k c_k), (12, vP b63 0), (0, sl A_k k c_k), (3, vP b1 0), (71, sl A_s_5 s_5 c_s_5), (72, vI (s_5.length : Int)), (73, vI i50)] (by kernel_rfl) ?_
          refine ops_mem (d := some 78) (an := [.v (.string s_0), .v (sl A_s_1 s_1 c_s_1), .v (sl A_s_2 s_2 c_s_2), .v (sl A_s_3 s_3 c_s_3), .v (sl A_s_4 s_4 c_s_4), .v (sl A_s_5 s_5 c_s_5), .v (sl A_s_6 s_6 c_s_6)]) (evs := [ld b1 0 (.string s_0), ld b1 1 (sl A_s_1 s_1 c_s_1), ld b1 2 (sl A_s_2 s_2 c_s_2), ld b1 3 (sl A_s_3 s_3 c_s_3), ld b1 4 (sl A_s_4 s_4 c_s_4), ld b1 5 (sl A_s_5 s_5 c_s_5), ld b1 6 (sl A_s_6 s_6 c_s_6)]) (v := .agg #[.string s_0, sl A_s_1 s_1 c_s_1, sl A_s_2 s_2 c_s_2, sl A_s_3 s_3 c_s_3, sl A_s_4 s_4 c_s_4, sl A_s_5 s_5 c_s_5, sl A_s_6 s_6 c_s_6]) ⟨by kernel_rfl⟩ (fun w_ hM hS => ⟨w_, ⟨hM.cell 1 rfl rfl, hM.cell 1 rfl rfl, hM.cell 1 rfl rfl, hM.cell 1 rfl rfl, hM.cell 1 rfl rfl, hM.cell 1 rfl rfl, hM.cell 1 rfl rfl, rfl⟩, hM, trivial⟩) ?_
          refine ops_mem (d := some 79) (an := [.v (vI x52.Do), .v (vI x52.To.Kind), .v (vI x52.To.Field), .v (.bool x52.A.Has), .v (vI x52.A.N), .v (vI x52.A.Ref.Kind), .v (vI x52.A.Ref.Field), .v (.bool x52.B.Has), .v (vI x52.B.N), .v (vI x52.B.Ref.Kind), .v (vI x52.B.Ref.Field)]) (evs := [ld b63 0 (vI x52.Do), ld b63 1 (vI x52.To.Kind), ld b63 2 (vI x52.To.Field), ld b63 3 (.bool x52.A.Has), ld b63 4 (vI x52.A.N), ld b63 5 (vI x52.A.Ref.Kind), ld b63 6 (vI x52.A.Ref.Field), ld b63 7 (.bool x52.B.Has), ld b63 8 (vI x52.B.N), ld b63 9 (vI x52.B.Ref.Kind), ld b63 10 (vI x52.B.Ref.Field)]) (v := .agg #[vI x52.Do, vI x52.To.Kind, vI x52.To.Field, .bool x52.A.Has, vI x52.A.N, vI x52.A.Ref.Kind, vI x52.A.Ref.Field, .bool x52.B.Has, vI x52.B.N, vI x52.B.Ref.Kind, vI x52.B.Ref.Field]) ⟨by kernel_rfl⟩ (fun w_ hM hS => ⟨w_, ⟨hM.cell 0 rfl rfl, hM.cell 0 rfl rfl, hM.cell 0 rfl rfl, hM.cell 0 rfl rfl, hM.cell 0 rfl rfl, hM.cell 0 rfl rfl, hM.cell 0 rfl rfl, hM.cell 0 rfl rfl, hM.cell 0 rfl rfl, hM.cell 0 rfl rfl, hM.cell 0 rfl rfl, rfl⟩, hM, trivial⟩) ?_
          obtain ⟨x64, hv65, hp⟩ := obind hp
          refine ops_callI (σ := Unit) (d := some 80) (f := 94) (args := #[sl A_k k c_k, .agg #[.string s_0, sl A_s_1 s_1 c_s_1, sl A_s_2 s_2 c_s_2, sl A_s_3 s_3 c_s_3, sl A_s_4 s_4 c_s_4, sl A_s_5 s_5 c_s_5, sl A_s_6 s_6 c_s_6], .agg #[vI x52.Do, vI x52.To.Kind, vI x52.To.Field, .bool x52.A.Has, vI x52.A.N, vI x52.A.Ref.Kind, vI x52.A.Ref.Field, .bool x52.B.Has, vI x52.B.N, vI x52.B.Ref.Kind, vI x52.B.Ref.Field]]) (v := (fun _ => vI x64)) (I := (fun _ => True)) (M' := (fun _ => Mem w0 (.blk b63 [vI x52.Do, vI x52.To.Kind, vI x52.To.Field, .bool x52.A.Has, vI x52.A.N, vI x52.A.Ref.Kind, vI x52.A.Ref.Field, .bool x52.B.Has, vI x52.B.N, vI x52.B.Ref.Kind, vI x52.B.Ref.Field] 170 :: .blk b1 [.string s_0, sl A_s_1 s_1 c_s_1, sl A_s_2 s_2 c_s_2, sl A_s_3 s_3 c_s_3, sl A_s_4 s_4 c_s_4, sl A_s_5 s_5 c_s_5, sl A_s_6 s_6 c_s_6] 96 :: Fz F45 W46 :: cs))) ⟨by kernel_rfl⟩ (fun w_ hM hS => (system_op_ok w0 w_ (.blk b63 [vI x52.Do, vI x52.To.Kind, vI x52.To.Field, .bool x52.A.Has, vI x52.A.N, vI x52.A.Ref.Kind, vI x52.A.Ref.Field, .bool x52.B.Has, vI x52.B.N, vI x52.B.Ref.Kind, vI x52.B.Ref.Field] 170 :: .blk b1 [.string s_0, sl A_s_1 s_1 c_s_1, sl A_s_2 s_2 c_s_2, sl A_s_3 s_3 c_s_3, sl A_s_4 s_4 c_s_4, sl A_s_5 s_5 c_s_5, sl A_s_6 s_6 c_s_6] 96 :: cs) F45 W46 A_k c_k k s_0 A_s_1 c_s_1 s_1 A_s_2 c_s_2 s_2 A_s_3 c_s_3 s_3 A_s_4 c_s_4 s_4 A_s_5 c_s_5 s_5 A_s_6 c_s_6 s_6 x52.Do x52.To.Kind x52.To.Field x52.A.Has x52.A.N x52.A.Ref.Kind x52.A.Ref.Field x52.B.Has x52.B.N x52.B.Ref.Kind x52.B.Ref.Field (hM.pick 3 [2, 0, 1] (by kernel_rfl) (by decide) rfl) h_k h32 h33 h34 h35 h36 h37 x64 hv65).mono (by rintro e w' ⟨-, rfl, h'⟩; have h' : Mem w0 (.blk b63 [vI x52.Do, vI x52.To.Kind, vI x52.To.Field, .bool x52.A.Has, vI x52.A.N, vI x52.A.Ref.Kind, vI x52.A.Ref.Field, .bool x52.B.Has, vI x52.B.N, vI x52.B.Ref.Kind, vI x52.B.Ref.Field] 170 :: .blk b1 [.string s_0, sl A_s_1 s_1 c_s_1, sl A_s_2 s_2 c_s_2, sl A_s_3 s_3 c_s_3, sl A_s_4 s_4 c_s_4, sl A_s_5 s_5 c_s_5, sl A_s_6 s_6 c_s_6] 96 :: Fz F45 W46 :: cs) w' := (h'.pick 3 [1, 2, 0] (by kernel_rfl) (by decide) rfl); exact ⟨(), trivial, rfl, h', trivial⟩)) ?_
          rintro _ -
          refine oQ [oF 4] [(13, vI x64), (0, sl A_k k c_k), (3, vP b1 0), (71, sl A_s_5 s_5 c_s_5), (72, vI (s_5.length : Int)), (73, vI i50)] (by kernel_rfl) ?_
          refine ops_nil (fin_then (st_seq (st_region [oF 0, oF 1] (by rfl) ?_)))
          refine oQ [oF 0, oF 1] [(82, .bool (!(x64 == 0))), (13, vI x64), (0, sl A_k k c_k), (3, vP b1 0), (71, sl A_s_5 s_5 c_s_5), (72, vI (s_5.length : Int)), (73, vI i50)] (by kernel_rfl) ?_
          refine ops_nil (fin_then ?_)
          refine st_if (b := !(x64 == 0)) rfl (fun hc66 => ?_) (fun hc66 => ?_)
          ·
           have hp := cnd_t hc66 hp
           refine st_seq (st_region [oF 0, oF 1] (by rfl) ?_)
           refine oQ [oF 0, oF 1] [(4, vI x64)] (by kernel_rfl) ?_
           refine ops_nil (fin_then (st_ret (fin_ret_block (fin_ret_then (fin_ret_then (fin_ret_block (fin_ret_then ?_)))))))
           obtain hq_ := Option.some.inj hp
           subst hq_
           obtain hq_ := hd3 _ rfl
           subst hq_
           have hp : some x64 = some i9001 := hk3
           have hq_ := Option.some.inj hp
           have hr0_ := hq_
           subst hr0_
           refine fin_ret [.tmp 4] [vI x64] rfl rfl (fun w_ hM => (.tmp rfl .nil)) (fun w_ hM => ?_)
           exact ⟨F45, W46, (hx28.trans h48), rfl, hM.pick 3 [2] (by kernel_rfl) (by decide) rfl⟩
          ·
           have hp := cnd_f hc66 hp
           refine st_skip (fin_block (fin_then (st_region [oF 0, oF 1] (by rfl) ?_)))
           refine oQ [oF 0, oF 1] [(73, vI (IntKind.i64.wrap (i50 + 1))), (0, sl A_k k c_k), (3, vP b1 0), (71, sl A_s_5 s_5 c_s_5), (72, vI (s_5.length : Int))] (by kernel_rfl) ?_
           refine ops_nil ?_
           exact fin_again (IntKind.i64.wrap (i50 + 1)) () (Option.some.inj hp).symm trivial (look_has ⟨rfl, rfl, rfl, rfl, rfl, trivial⟩) (fun w_ hM => hM.pick 3 [1, 2] (by kernel_rfl) (by decide) rfl)
         ·
          have hp := cnd_f hc51 hp
          refine st_exit (fin_exit_then (fin_exit_then (fin_exit ?_)))
          obtain hq_ := Option.some.inj hp
          subst hq_
          obtain hq_ := hd3 _ rfl
          subst hq_
          have hp : system_Check_j2 = some i9001 := hk3
          exact fin_join HJ2 () hp (look_has trivial) (fun w_ hM => hM.pick 2 [1] (by kernel_rfl) (by decide) rfl)
    ·
     intro HJ1
     refine st_seq (st_seq (st_region [oF 0, oF 1, oF 2, oF 3, oF 4, oF 5, oF 6, oF 7, oF 8, oF 9, oF 10] (by rfl) ?_))
     refine oQ [oF 0] [(27, vP b1 1), (3, vP b1 0), (0, sl A_k k c_k)] (by kernel_rfl) ?_
     refine ops_mem (d := some 28) (an := [.v (sl A_s_1 s_1 c_s_1)]) (evs := [ld b1 1 (sl A_s_1 s_1 c_s_1)]) (v := sl A_s_1 s_1 c_s_1) ⟨by kernel_rfl⟩ (fun w_ hM hS => ⟨w_, ⟨hM.cell 0 rfl rfl, rfl⟩, hM, trivial⟩) ?_
     refine oQ [oF 2] [(29, vP b1 2), (28, sl A_s_1 s_1 c_s_1), (3, vP b1 0), (0, sl A_k k c_k)] (by kernel_rfl) ?_
     refine ops_mem (d := some 30) (an := [.v (sl A_s_2 s_2 c_s_2)]) (evs := [ld b1 2 (sl A_s_2 s_2 c_s_2)]) (v := sl A_s_2 s_2 c_s_2) ⟨by kernel_rfl⟩ (fun w_ hM hS => ⟨w_, ⟨hM.cell 0 rfl rfl, rfl⟩, hM, trivial⟩) ?_
     refine oQ [oF 4] [(31, vP b1 3), (30, sl A_s_2 s_2 c_s_2), (28, sl A_s_1 s_1 c_s_1), (3, vP b1 0), (0, sl A_k k c_k)] (by kernel_rfl) ?_
     refine ops_mem (d := some 32) (an := [.v (sl A_s_3 s_3 c_s_3)]) (evs := [ld b1 3 (sl A_s_3 s_3 c_s_3)]) (v := sl A_s_3 s_3 c_s_3) ⟨by kernel_rfl⟩ (fun w_ hM hS => ⟨w_, ⟨hM.cell 0 rfl rfl, rfl⟩, hM, trivial⟩) ?_
     refine oQ [oF 6] [(33, vP b1 4), (32, sl A_s_3 s_3 c_s_3), (30, sl A_s_2 s_2 c_s_2), (28, sl A_s_1 s_1 c_s_1), (3, vP b1 0), (0, sl A_k k c_k)] (by kernel_rfl) ?_
     refine ops_mem (d := some 34) (an := [.v (sl A_s_4 s_4 c_s_4)]) (evs := [ld b1 4 (sl A_s_4 s_4 c_s_4)]) (v := sl A_s_4 s_4 c_s_4) ⟨by kernel_rfl⟩ (fun w_ hM hS => ⟨w_, ⟨hM.cell 0 rfl rfl, rfl⟩, hM, trivial⟩) ?_
     have h67 : RepL (Rep.sl (Rep.int .i64)) F W ([s_1, s_2, s_3, s_4] : List (List Int)) ([sl A_s_1 s_1 c_s_1, sl A_s_2 s_2 c_s_2, sl A_s_3 s_3 c_s_3, sl A_s_4 s_4 c_s_4]) := (RepL.cons (R := (Rep.sl (Rep.int .i64))) (F := F) (w := W) (vs := [sl A_s_1 s_1 c_s_1]) (ys := [sl A_s_2 s_2 c_s_2, sl A_s_3 s_3 c_s_3, sl A_s_4 s_4 c_s_4]) (slrd h_s_1) (RepL.cons (R := (Rep.sl (Rep.int .i64))) (F := F) (w := W) (vs := [sl A_s_2 s_2 c_s_2]) (ys := [sl A_s_3 s_3 c_s_3, sl A_s_4 s_4 c_s_4]) (slrd h_s_2) (RepL.cons (R := (Rep.sl (Rep.int .i64))) (F := F) (w := W) (vs := [sl A_s_3 s_3 c_s_3]) (ys := [sl A_s_4 s_4 c_s_4]) (slrd h_s_3) (RepL.cons (R := (Rep.sl (Rep.int .i64))) (F := F) (w := W) (vs := [sl A_s_4 s_4 c_s_4]) (ys := []) (slrd h_s_4) RepL.nil))))
     refine ops_new (d := some 35) (o := .cells ([sl A_s_1 s_1 c_s_1, sl A_s_2 s_2 c_s_2, sl A_s_3 s_3 c_s_3, sl A_s_4 s_4 c_s_4] : List Value).toArray 44) (v := fun g68 => .slice (sa g68) ([s_1, s_2, s_3, s_4] : List (List Int)).length 4) (M' := fun g68 => Mem w0 (orow (sa g68) ([s_1, s_2, s_3, s_4] : List (List Int)).length 4 44 1 ([sl A_s_1 s_1 c_s_1, sl A_s_2 s_2 c_s_2, sl A_s_3 s_3 c_s_3, sl A_s_4 s_4 c_s_4]) :: .blk b1 [.string s_0, sl A_s_1 s_1 c_s_1, sl A_s_2 s_2 c_s_2, sl A_s_3 s_3 c_s_3, sl A_s_4 s_4 c_s_4, sl A_s_5 s_5 c_s_5, sl A_s_6 s_6 c_s_6] 96 :: Fz F W :: cs)) (fun g68 => ⟨by kernel_rfl⟩) (fun w_ hM hS => ⟨hM.onew [sl A_s_1 s_1 c_s_1, sl A_s_2 s_2 c_s_2, sl A_s_3 s_3 c_s_3, sl A_s_4 s_4 c_s_4] 44 4 1 rfl (by decide), trivial⟩) (fun g68 => ?_)
     refine oQ [oF 9, oF 10] [(37, vI 0), (36, vI (([s_1, s_2, s_3, s_4] : List (List Int)).length : Int)), (35, .slice (sa g68) ([s_1, s_2, s_3, s_4] : List (List Int)).length 4), (3, vP b1 0), (0, sl A_k k c_k)] (by kernel_rfl) ?_
     refine ops_nil (fin_then (st_block ?_))
     obtain ⟨r4, hl4, hk4⟩ := obind hp
     refine st_loopP (σ := Int) (ρ := (Int ⊕ Unit)) (γ := Unit) hl4 () (fun s_ g_ => match s_, g_ with | i69, _ => [(0, sl A_k k c_k), (3, vP b1 0), (35, .slice (sa g68) ([s_1, s_2, s_3, s_4] : List (List Int)).length 4), (36, vI (([s_1, s_2, s_3, s_4] : List (List Int)).length : Int)), (37, vI i69)]) (fun s_ g_ => match s_, g_ with | i69, _ => Mem w0 (.blk b1 [.string s_0, sl A_s_1 s_1 c_s_1, sl A_s_2 s_2 c_s_2, sl A_s_3 s_3 c_s_3, sl A_s_4 s_4 c_s_4, sl A_s_5 s_5 c_s_5, sl A_s_6 s_6 c_s_6] 96 :: orow (sa g68) ([s_1, s_2, s_3, s_4] : List (List Int)).length 4 44 1 ([sl A_s_1 s_1 c_s_1, sl A_s_2 s_2 c_s_2, sl A_s_3 s_3 c_s_3, sl A_s_4 s_4 c_s_4]) :: Fz F W :: cs)) (fun s_ g_ => match s_, g_ with | i69, _ => True) trivial (look_has ⟨rfl, rfl, rfl, rfl, rfl, trivial⟩) (fun w_ hM => hM.pick 3 [1, 0, 2] (by kernel_rfl) (by decide) rfl) ?_
     rintro i69 _ o4 - hs_ hd4
     have hp : (system_Check_l4 s_1 s_2 s_3 s_4 k) i69 = some o4 := hs_
     clear hs_
     unfold system_Check_l4 at hp
     refine st_seq (st_region [oF 0] (by rfl) ?_)
     refine oQ [oF 0] [(38, .bool (decide (i69 < (([s_1, s_2, s_3, s_4] : List (List Int)).length : Int)))), (0, sl A_k k c_k), (3, vP b1 0), (35, .slice (sa g68) ([s_1, s_2, s_3, s_4] : List (List Int)).length 4), (36, vI (([s_1, s_2, s_3, s_4] : List (List Int)).length : Int)), (37, vI i69)] (by kernel_rfl) ?_
     refine ops_nil (fin_then (st_seq ?_))
     refine st_if (b := decide (i69 < (([s_1, s_2, s_3, s_4] : List (List Int)).length : Int))) rfl (fun hc70 => ?_) (fun hc70 => ?_)
     ·
      have hp := cnd_t hc70 hp
      refine st_skip (fin_then (st_seq (st_block (st_seq (st_region [oF 0, oF 1, oF 2] (by rfl) ?_)))))
      obtain ⟨x71, hv72, hp⟩ := obind hp
      obtain ⟨m73, hm74, hx75⟩ := idx_some hv72
      have hl78 := (List.getElem?_eq_some_iff.1 hx75).1
      obtain ⟨vs76, hr77, hq79⟩ := h67.at_ m73 x71 hx75
      obtain ⟨A80, c81, rfl, h82⟩ := hr77
      refine ops_val (op := (.indexAddr 172 (.tmp 35) (.tmp 37))) (d := some 39) (v := vP g68 (m73 * 1)) ⟨by kernel_rfl⟩ (run_indexRow Tryd.underlying172 (z := 1) (by kernel_rfl) rfl rfl hm74 hl78 rfl) ?_
      refine ops_mem (d := some 40) (an := [.v (sl A80 x71 c81)]) (evs := [.load ⟨g68, m73 * 1, none⟩ (sl A80 x71 c81)]) (v := sl A80 x71 c81) ⟨by kernel_rfl⟩ (fun w_ hM hS => ⟨w_, ⟨hM.ocell 1 rfl (hq79 0 _ rfl), rfl⟩, hM, trivial⟩) ?_
      refine oQ [oF 2] [(7, sl A80 x71 c81), (0, sl A_k k c_k), (3, vP b1 0), (35, .slice (sa g68) ([s_1, s_2, s_3, s_4] : List (List Int)).length 4), (36, vI (([s_1, s_2, s_3, s_4] : List (List Int)).length : Int)), (37, vI i69)] (by kernel_rfl) ?_
      refine ops_nil (fin_then (st_seq (st_region [oF 0, oF 1, oF 2, oF 3] (by rfl) ?_)))
      refine oQ [oF 0, oF 1] [(42, sl A80 x71 c81), (41, sl A_k k c_k), (0, sl A_k k c_k), (3, vP b1 0), (35, .slice (sa g68) ([s_1, s_2, s_3, s_4] : List (List Int)).length 4), (36, vI (([s_1, s_2, s_3, s_4] : List (List Int)).length : Int)), (37, vI i69)] (by kernel_rfl) ?_
      obtain ⟨x83, hv84, hp⟩ := obind hp
      refine ops_callI (σ := Unit) (d := some 43) (f := 87) (args := #[sl A_k k c_k, sl A80 x71 c81]) (v := (fun _ => vI x83)) (I := (fun _ => True)) (M' := (fun _ => Mem w0 (.blk b1 [.string s_0, sl A_s_1 s_1 c_s_1, sl A_s_2 s_2 c_s_2, sl A_s_3 s_3 c_s_3, sl A_s_4 s_4 c_s_4, sl A_s_5 s_5 c_s_5, sl A_s_6 s_6 c_s_6] 96 :: orow (sa g68) ([s_1, s_2, s_3, s_4] : List (List Int)).length 4 44 1 ([sl A_s_1 s_1 c_s_1, sl A_s_2 s_2 c_s_2, sl A_s_3 s_3 c_s_3, sl A_s_4 s_4 c_s_4]) :: Fz F W :: cs))) ⟨by kernel_rfl⟩ (fun w_ hM hS => (system_set_ok w0 w_ (.blk b1 [.string s_0, sl A_s_1 s_1 c_s_1, sl A_s_2 s_2 c_s_2, sl A_s_3 s_3 c_s_3, sl A_s_4 s_4 c_s_4, sl A_s_5 s_5 c_s_5, sl A_s_6 s_6 c_s_6] 96 :: orow (sa g68) ([s_1, s_2, s_3, s_4] : List (List Int)).length 4 44 1 ([sl A_s_1 s_1 c_s_1, sl A_s_2 s_2 c_s_2, sl A_s_3 s_3 c_s_3, sl A_s_4 s_4 c_s_4]) :: cs) F W A_k c_k k A80 c81 x71 (hM.pick 3 [2, 0, 1] (by kernel_rfl) (by decide) rfl) h_k h82 x83 hv84).mono (by rintro e w' ⟨-, rfl, h'⟩; have h' : Mem w0 (.blk b1 [.string s_0, sl A_s_1 s_1 c_s_1, sl A_s_2 s_2 c_s_2, sl A_s_3 s_3 c_s_3, sl A_s_4 s_4 c_s_4, sl A_s_5 s_5 c_s_5, sl A_s_6 s_6 c_s_6] 96 :: orow (sa g68) ([s_1, s_2, s_3, s_4] : List (List Int)).length 4 44 1 ([sl A_s_1 s_1 c_s_1, sl A_s_2 s_2 c_s_2, sl A_s_3 s_3 c_s_3, sl A_s_4 s_4 c_s_4]) :: Fz F W :: cs) w' := (h'.pick 3 [1, 2, 0] (by kernel_rfl) (by decide) rfl); exact ⟨(), trivial, rfl, h', trivial⟩)) ?_
      rintro _ -
      refine oQ [oF 3] [(8, vI x83), (0, sl A_k k c_k), (3, vP b1 0), (35, .slice (sa g68) ([s_1, s_2, s_3, s_4] : List (List Int)).length 4), (36, vI (([s_1, s_2, s_3, s_4] : List (List Int)).length : Int)), (37, vI i69)] (by kernel_rfl) ?_
      refine ops_nil (fin_then (st_seq (st_region [oF 0, oF 1] (by rfl) ?_)))
      refine oQ [oF 0, oF 1] [(45, .bool (!(x83 == 0))), (8, vI x83), (0, sl A_k k c_k), (3, vP b1 0), (35, .slice (sa g68) ([s_1, s_2, s_3, s_4] : List (List Int)).length 4), (36, vI (([s_1, s_2, s_3, s_4] : List (List Int)).length : Int)), (37, vI i69)] (by kernel_rfl) ?_
      refine ops_nil (fin_then ?_)
      refine st_if (b := !(x83 == 0)) rfl (fun hc85 => ?_) (fun hc85 => ?_)
      ·
       have hp := cnd_t hc85 hp
       refine st_seq (st_region [oF 0, oF 1] (by rfl) ?_)
       refine oQ [oF 0, oF 1] [(4, vI x83)] (by kernel_rfl) ?_
       refine ops_nil (fin_then (st_ret (fin_ret_block (fin_ret_then (fin_ret_then (fin_ret_block (fin_ret_then ?_)))))))
       obtain hq_ := Option.some.inj hp
       subst hq_
       obtain hq_ := hd4 _ rfl
       subst hq_
       have hp : some x83 = some i9001 := hk4
       have hq_ := Option.some.inj hp
       have hr0_ := hq_
       subst hr0_
       refine fin_ret [.tmp 4] [vI x83] rfl rfl (fun w_ hM => (.tmp rfl .nil)) (fun w_ hM => ?_)
       exact ⟨F, W, (Ext.refl _ _ _), rfl, hM.pick 3 [2] (by kernel_rfl) (by decide) rfl⟩
      ·
       have hp := cnd_f hc85 hp
       refine st_skip (fin_block (fin_then (st_region [oF 0, oF 1] (by rfl) ?_)))
       refine oQ [oF 0, oF 1] [(37, vI (IntKind.i64.wrap (i69 + 1))), (0, sl A_k k c_k), (3, vP b1 0), (35, .slice (sa g68) ([s_1, s_2, s_3, s_4] : List (List Int)).length 4), (36, vI (([s_1, s_2, s_3, s_4] : List (List Int)).length : Int))] (by kernel_rfl) ?_
       refine ops_nil ?_
       exact fin_again (IntKind.i64.wrap (i69 + 1)) () (Option.some.inj hp).symm trivial (look_has ⟨rfl, rfl, rfl, rfl, rfl, trivial⟩) (fun w_ hM => hM)
     ·
      have hp := cnd_f hc70 hp
      refine st_exit (fin_exit_then (fin_exit_then (fin_exit ?_)))
      obtain hq_ := Option.some.inj hp
      subst hq_
      obtain hq_ := hd4 _ rfl
      subst hq_
      have hp : (system_Check_j1 s_1 s_0 s_2 s_3 s_4 s_5 s_6 k) = some i9001 := hk4
      exact fin_join HJ1 () hp (look_has ⟨rfl, rfl, trivial⟩) (fun w_ hM => hM.pick 3 [0, 2] (by kernel_rfl) (by decide) rfl)
theorem tourref3_IsName_ok (w0 w : World) (cs : List Chunk) (F : Nat → Prop) (W : World) (s : ByteArray) (hM0 : Mem w0 (Fz F W :: cs) w) (t9001 : Bool) (hp : tourref3_IsName s = some t9001) : Calls Tryd.prog 95 #[.string s] w fun e w' => (True) ∧ e = .returned (.bool t9001) ∧ Mem w0 (Fz F W :: cs) w' := by
 unfold tourref3_IsName at hp
 refine sx_calls Tryd.func95 rfl (n := 20) (by kernel_rfl) (l := [(0, .string s)]) rfl (by rfl) hM0 ?_
 refine st_seq (st_region [oF 0] (by rfl) ?_)
 refine oQ [oF 0] [(0, .string s)] (by kernel_rfl) ?_
 refine ops_nil (fin_then ?_)
 refine st_join1 (σ := Bool) (L := fun x_ => match x_ with | t1 => [(2, .bool t1)]) (N := fun x_ => match x_ with | t1 => Mem w0 (Fz F W :: cs)) (I := fun x_ => match x_ with | t1 => (tourref3_IsName_j1 t1 = some t9001)) ?_ ?_
 ·
  rintro t1 hp
  unfold tourref3_IsName_j1 at hp
  refine st_ret ?_
  have hq_ := Option.some.inj hp
  have hr0_ := hq_
  subst hr0_
  refine fin_ret [.tmp 2] [.bool t1] rfl rfl (fun w_ hM => (.tmp rfl .nil)) (fun w_ hM => ?_)
  exact ⟨trivial, rfl, hM⟩
 ·
  intro HJ1
  refine st_seq (st_region [oF 0, oF 1, oF 2, oF 3, oF 4, oF 5, oF 6, oF 7, oF 8, oF 9, oF 10, oF 11, oF 12, oF 13, oF 14, oF 15, oF 16, oF 17] (by rfl) ?_)
  refine oQ [oF 0, oF 1, oF 2] [(5, .bool (!(s.toList == (⟨#[]⟩ : ByteArray).toList))), (0, .string s)] (by kernel_rfl) ?_
  refine ops_bool (t := !(s.toList == (⟨#[]⟩ : ByteArray).toList)) (l1 := [(5, .bool true), (0, .string s)]) (l2 := [(5, .bool false), (0, .string s)]) (fun h => by rw [h]) (fun h => by rw [h]) (fun hc2 => ?_) (fun hc2 => ?_)
  ·
   have hp := cnd_t hc2 hp
   refine oQ [oF 3, oF 4, oF 5, oF 6, oF 7] [(10, .bool (decide ((s.size : Int) < 17))), (0, .string s)] (by kernel_rfl) ?_
   refine ops_bool (t := decide ((s.size : Int) < 17)) (l1 := [(10, .bool true), (0, .string s)]) (l2 := [(10, .bool false), (0, .string s)]) (fun h => by rw [h]) (fun h => by rw [h]) (fun hc3 => ?_) (fun hc3 => ?_)
   ·
    have hp := cnd_t hc3 hp
    refine oQ [oF 8] [(11, .string s), (10, .bool true), (0, .string s)] (by kernel_rfl) ?_
    obtain ⟨x4, hv5, hp⟩ := obind hp
    refine ops_callI (σ := Unit) (d := some 12) (f := 137) (args := #[.string s, .string (⟨#[97, 98, 99, 100, 101, 102, 103, 104, 105, 106, 107, 108, 109, 110, 111, 112, 113, 114, 115, 116, 117, 118, 119, 120, 121, 122, 48, 49, 50, 51, 52, 53, 54, 55, 56, 57]⟩)]) (v := (fun _ => .string x4)) (I := (fun _ => True)) (M' := (fun _ => Mem w0 (Fz F W :: cs))) ⟨by kernel_rfl⟩ (fun w_ hM hS => (strings_Trim_ok w0 w_ (cs) F W s hM  x4 hv5).mono (by rintro e w' ⟨-, rfl, h'⟩; have h' : Mem w0 (Fz F W :: cs) w' := h'; exact ⟨(), trivial, rfl, h', trivial⟩)) ?_
    rintro _ -
    refine oQ [oF 10, oF 11, oF 12] [(15, .bool (x4.toList == (⟨#[]⟩ : ByteArray).toList)), (0, .string s)] (by kernel_rfl) ?_
    refine ops_bool (t := (x4.toList == (⟨#[]⟩ : ByteArray).toList)) (l1 := [(15, .bool true), (0, .string s)]) (l2 := [(15, .bool false), (0, .string s)]) (fun h => by rw [h]) (fun h => by rw [h]) (fun hc6 => ?_) (fun hc6 => ?_)
    ·
     have hp := cnd_t hc6 hp
     refine oQ [oF 13] [(16, .string s), (15, .bool true)] (by kernel_rfl) ?_
     obtain ⟨x7, hv8, hp⟩ := obind hp
     refine ops_val (op := (.index 9 (.tmp 16) (.const (Go.Value.int Go.IntKind.i64 0)))) (d := some 17) (v := .int .u8 x7) ⟨by kernel_rfl⟩ (run_strIdx Tryd.underlying9 rfl rfl hv8) ?_
     refine oQ [oF 15, oF 16, oF 17] [(2, .bool (decide (57 < x7)))] (by kernel_rfl) ?_
     refine ops_nil ?_
     exact fin_join HJ1 (decide (57 < x7)) hp (look_has ⟨rfl, trivial⟩) (fun w_ hM => hM)
    ·
     have hp := cnd_f hc6 hp
     refine oQ [oF 13, oF 14, oF 15, oF 16, oF 17] [(2, .bool false)] (by kernel_rfl) ?_
     refine ops_nil ?_
     exact fin_join HJ1 false hp (look_has ⟨rfl, trivial⟩) (fun w_ hM => hM)
   ·
    have hp := cnd_f hc3 hp
    refine oQ [oF 8, oF 9, oF 10, oF 11, oF 12, oF 13, oF 14, oF 15, oF 16, oF 17] [(2, .bool false)] (by kernel_rfl) ?_
    refine ops_nil ?_
    exact fin_join HJ1 false hp (look_has ⟨rfl, trivial⟩) (fun w_ hM => hM)
  ·
   have hp := cnd_f hc2 hp
   refine oQ [oF 3, oF 4, oF 5, oF 6, oF 7, oF 8, oF 9, oF 10, oF 11, oF 12, oF 13, oF 14, oF 15, oF 16, oF 17] [(2, .bool false)] (by kernel_rfl) ?_
   refine ops_nil ?_
   exact fin_join HJ1 false hp (look_has ⟨rfl, trivial⟩) (fun w_ hM => hM)
theorem tourref3_FieldOK_ok (w0 w : World) (cs : List Chunk) (F : Nat → Prop) (W : World) (f_0 : ByteArray) (f_1 : Int) (f_2 : Int) (hM0 : Mem w0 (Fz F W :: cs) w) (t9001 : Bool) (hp : tourref3_FieldOK f_0 f_1 f_2 = some t9001) : Calls Tryd.prog 102 #[.agg #[.string f_0, vI f_1, vI f_2]] w fun e w' => (True) ∧ e = .returned (.bool t9001) ∧ Mem w0 (Fz F W :: cs) w' := by
 unfold tourref3_FieldOK at hp
 refine sx_calls Tryd.func102 rfl (n := 26) (by kernel_rfl) (l := [(0, .agg #[.string f_0, vI f_1, vI f_2])]) rfl (by rfl) hM0 ?_
 refine st_seq (st_region [oF 0, oF 1] (by rfl) ?_)
 refine ops_newB (d := some 1) [.string f_0, vI f_1, vI f_2] 32 (fun b1 => ⟨by kernel_rfl⟩) (fun w_ hM hS => trivial) (fun b1 => ?_)
 refine oQ [oF 1] [(1, vP b1 0)] (by kernel_rfl) ?_
 refine ops_nil (fin_then ?_)
 refine st_join1 (σ := Bool) (L := fun x_ => match x_ with | t2 => [(2, .bool t2)]) (N := fun x_ => match x_ with | t2 => Mem w0 (Fz F W :: cs)) (I := fun x_ => match x_ with | t2 => (tourref3_FieldOK_j1 t2 = some t9001)) ?_ ?_
 ·
  rintro t2 hp
  unfold tourref3_FieldOK_j1 at hp
  refine st_ret ?_
  have hq_ := Option.some.inj hp
  have hr0_ := hq_
  subst hr0_
  refine fin_ret [.tmp 2] [.bool t2] rfl rfl (fun w_ hM => (.tmp rfl .nil)) (fun w_ hM => ?_)
  exact ⟨trivial, rfl, hM⟩
 ·
  intro HJ1
  refine st_seq (st_region [oF 0, oF 1, oF 2, oF 3, oF 4, oF 5, oF 6, oF 7, oF 8, oF 9, oF 10, oF 11, oF 12, oF 13, oF 14, oF 15, oF 16, oF 17, oF 18, oF 19, oF 20, oF 21, oF 22, oF 23] (by rfl) ?_)
  refine oQ [oF 0] [(3, vP b1 0), (1, vP b1 0)] (by kernel_rfl) ?_
  refine ops_mem (d := some 4) (an := [.v (.string f_0)]) (evs := [ld b1 0 (.string f_0)]) (v := .string f_0) ⟨by kernel_rfl⟩ (fun w_ hM hS => ⟨w_, ⟨hM.cell 0 rfl rfl, rfl⟩, hM, trivial⟩) ?_
  obtain ⟨x3, hv4, hp⟩ := obind hp
  refine ops_callI (σ := Unit) (d := some 5) (f := 95) (args := #[.string f_0]) (v := (fun _ => .bool x3)) (I := (fun _ => True)) (M' := (fun _ => Mem w0 (.blk b1 [.string f_0, vI f_1, vI f_2] 32 :: Fz F W :: cs))) ⟨by kernel_rfl⟩ (fun w_ hM hS => (tourref3_IsName_ok w0 w_ (.blk b1 [.string f_0, vI f_1, vI f_2] 32 :: cs) F W f_0 (hM.pick 2 [1, 0] (by kernel_rfl) (by decide) rfl)  x3 hv4).mono (by rintro e w' ⟨-, rfl, h'⟩; have h' : Mem w0 (.blk b1 [.string f_0, vI f_1, vI f_2] 32 :: Fz F W :: cs) w' := (h'.pick 2 [1, 0] (by kernel_rfl) (by decide) rfl); exact ⟨(), trivial, rfl, h', trivial⟩)) ?_
  rintro _ -
  refine oQ [oF 3] [(6, .bool x3), (1, vP b1 0)] (by kernel_rfl) ?_
  refine ops_bool (t := x3) (l1 := [(6, .bool true), (1, vP b1 0)]) (l2 := [(6, .bool false), (1, vP b1 0)]) (fun h => by rw [h]) (fun h => by rw [h]) (fun hc5 => ?_) (fun hc5 => ?_)
  ·
   have hp := cnd_t hc5 hp
   refine oQ [oF 4] [(7, vP b1 1), (6, .bool true), (1, vP b1 0)] (by kernel_rfl) ?_
   refine ops_mem (d := some 8) (an := [.v (vI f_1)]) (evs := [ld b1 1 (vI f_1)]) (v := vI f_1) ⟨by kernel_rfl⟩ (fun w_ hM hS => ⟨w_, ⟨hM.cell 0 rfl rfl, rfl⟩, hM, trivial⟩) ?_
   refine oQ [oF 6, oF 7, oF 8] [(11, .bool (decide (0 < f_1))), (1, vP b1 0)] (by kernel_rfl) ?_
   refine ops_bool (t := decide (0 < f_1)) (l1 := [(11, .bool true), (1, vP b1 0)]) (l2 := [(11, .bool false), (1, vP b1 0)]) (fun h => by rw [h]) (fun h => by rw [h]) (fun hc6 => ?_) (fun hc6 => ?_)
   ·
    have hp := cnd_t hc6 hp
    refine oQ [oF 9] [(12, vP b1 1), (11, .bool true), (1, vP b1 0)] (by kernel_rfl) ?_
    refine ops_mem (d := some 13) (an := [.v (vI f_1)]) (evs := [ld b1 1 (vI f_1)]) (v := vI f_1) ⟨by kernel_rfl⟩ (fun w_ hM hS => ⟨w_, ⟨hM.cell 0 rfl rfl, rfl⟩, hM, trivial⟩) ?_
    refine oQ [oF 11, oF 12, oF 13] [(16, .bool (decide (f_1 < 33))), (1, vP b1 0)] (by kernel_rfl) ?_
    refine ops_bool (t := decide (f_1 < 33)) (l1 := [(16, .bool true), (1, vP b1 0)]) (l2 := [(16, .bool false), (1, vP b1 0)]) (fun h => by rw [h]) (fun h => by rw [h]) (fun hc7 => ?_) (fun hc7 => ?_)
    ·
     have hp := cnd_t hc7 hp
     refine oQ [oF 14] [(17, vP b1 2), (16, .bool true), (1, vP b1 0)] (by kernel_rfl) ?_
     refine ops_mem (d := some 18) (an := [.v (vI f_2)]) (evs := [ld b1 2 (vI f_2)]) (v := vI f_2) ⟨by kernel_rfl⟩ (fun w_ hM hS => ⟨w_, ⟨hM.cell 0 rfl rfl, rfl⟩, hM, trivial⟩) ?_
     refine oQ [oF 16, oF 17, oF 18] [(21, .bool (decide ((-4294967296) ≤ f_2))), (1, vP b1 0)] (by kernel_rfl) ?_
     refine ops_bool (t := decide ((-4294967296) ≤ f_2)) (l1 := [(21, .bool true), (1, vP b1 0)]) (l2 := [(21, .bool false), (1, vP b1 0)]) (fun h => by rw [h]) (fun h => by rw [h]) (fun hc8 => ?_) (fun hc8 => ?_)
     ·
      have hp := cnd_t hc8 hp
      refine oQ [oF 19] [(22, vP b1 2), (21, .bool true)] (by kernel_rfl) ?_
      refine ops_mem (d := some 23) (an := [.v (vI f_2)]) (evs := [ld b1 2 (vI f_2)]) (v := vI f_2) ⟨by kernel_rfl⟩ (fun w_ hM hS => ⟨w_, ⟨hM.cell 0 rfl rfl, rfl⟩, hM, trivial⟩) ?_
      refine oQ [oF 21, oF 22, oF 23] [(2, .bool (decide (f_2 ≤ 4294967296)))] (by kernel_rfl) ?_
      refine ops_nil ?_
      exact fin_join HJ1 (decide (f_2 ≤ 4294967296)) hp (look_has ⟨rfl, trivial⟩) (fun w_ hM => hM.pick 2 [1] (by kernel_rfl) (by decide) rfl)
     ·
      have hp := cnd_f hc8 hp
      refine oQ [oF 19, oF 20, oF 21, oF 22, oF 23] [(2, .bool false)] (by kernel_rfl) ?_
      refine ops_nil ?_
      exact fin_join HJ1 false hp (look_has ⟨rfl, trivial⟩) (fun w_ hM => hM.pick 2 [1] (by kernel_rfl) (by decide) rfl)
    ·
     have hp := cnd_f hc7 hp
     refine oQ [oF 14, oF 15, oF 16, oF 17, oF 18, oF 19, oF 20, oF 21, oF 22, oF 23] [(2, .bool false)] (by kernel_rfl) ?_
     refine ops_nil ?_
     exact fin_join HJ1 false hp (look_has ⟨rfl, trivial⟩) (fun w_ hM => hM.pick 2 [1] (by kernel_rfl) (by decide) rfl)
   ·
    have hp := cnd_f hc6 hp
    refine oQ [oF 9, oF 10, oF 11, oF 12, oF 13, oF 14, oF 15, oF 16, oF 17, oF 18, oF 19, oF 20, oF 21, oF 22, oF 23] [(2, .bool false)] (by kernel_rfl) ?_
    refine ops_nil ?_
    exact fin_join HJ1 false hp (look_has ⟨rfl, trivial⟩) (fun w_ hM => hM.pick 2 [1] (by kernel_rfl) (by decide) rfl)
  ·
   have hp := cnd_f hc5 hp
   refine oQ [oF 4, oF 5, oF 6, oF 7, oF 8, oF 9, oF 10, oF 11, oF 12, oF 13, oF 14, oF 15, oF 16, oF 17, oF 18, oF 19, oF 20, oF 21, oF 22, oF 23] [(2, .bool false)] (by kernel_rfl) ?_
   refine ops_nil ?_
   exact fin_join HJ1 false hp (look_has ⟨rfl, trivial⟩) (fun w_ hM => hM.pick 2 [1] (by kernel_rfl) (by decide) rfl)
theorem slices_Index_string_string_ok (w0 w : World) (cs : List Chunk) (F : Nat → Prop) (W : World) (A_s : Option Addr) (c_s : Nat) (s : List ByteArray) (v : ByteArray) (hM0 : Mem w0 (Fz F W :: cs) w) (h_s : RdS Rep.str F W A_s c_s s) (i9001 : Int) (hp : slices_Index_string_string s v = some i9001) : Calls Tryd.prog 164 #[sl A_s s c_s, .string v] w fun e w' => (True) ∧ e = .returned (vI i9001) ∧ Mem w0 (Fz F W :: cs) w' := by
 unfold slices_Index_string_string at hp
 refine sx_calls Tryd.func164 rfl (n := 19) (by kernel_rfl) (l := [(0, sl A_s s c_s), (1, .string v)]) rfl (by rfl) hM0 ?_
 refine st_seq (st_region [oF 0] (by rfl) ?_)
 refine oQ [oF 0] [(0, sl A_s s c_s), (1, .string v)] (by kernel_rfl) ?_
 refine ops_nil (fin_then ?_)
 refine st_join1 (σ := Unit) (L := fun _ => []) (N := fun _ => Mem w0 (Fz F W :: cs)) (I := fun _ => (slices_Index_string_string_j1 = some i9001)) ?_ ?_
 ·
  rintro _ hp
  unfold slices_Index_string_string_j1 at hp
  refine st_seq (st_region [oF 0] (by rfl) ?_)
  refine oQ [oF 0] [(4, vI (-1))] (by kernel_rfl) ?_
  refine ops_nil (fin_then (st_ret ?_))
  have hq_ := Option.some.inj hp
  have hr0_ := hq_
  subst hr0_
  refine fin_ret [.tmp 4] [vI (-1)] rfl rfl (fun w_ hM => (.tmp rfl .nil)) (fun w_ hM => ?_)
  exact ⟨trivial, rfl, hM⟩
 ·
  intro HJ1
  refine st_seq (st_seq (st_region [oF 0, oF 1, oF 2] (by rfl) ?_))
  refine oQ [oF 0, oF 1, oF 2] [(8, vI 0), (7, vI (s.length : Int)), (0, sl A_s s c_s), (1, .string v)] (by kernel_rfl) ?_
  refine ops_nil (fin_then (st_block ?_))
  obtain ⟨r2, hl2, hk2⟩ := obind hp
  refine st_loopP (σ := Int) (ρ := (Int ⊕ Unit)) (γ := Unit) hl2 () (fun s_ g_ => match s_, g_ with | i1, _ => [(0, sl A_s s c_s), (1, .string v), (7, vI (s.length : Int)), (8, vI i1)]) (fun s_ g_ => match s_, g_ with | i1, _ => Mem w0 (Fz F W :: cs)) (fun s_ g_ => match s_, g_ with | i1, _ => True) trivial (look_has ⟨rfl, rfl, rfl, rfl, trivial⟩) (fun w_ hM => hM) ?_
  rintro i1 _ o2 - hs_ hd2
  have hp : (slices_Index_string_string_l2 s v) i1 = some o2 := hs_
  clear hs_
  unfold slices_Index_string_string_l2 at hp
  refine st_seq (st_region [oF 0] (by rfl) ?_)
  refine oQ [oF 0] [(9, .bool (decide (i1 < (s.length : Int)))), (0, sl A_s s c_s), (1, .string v), (7, vI (s.length : Int)), (8, vI i1)] (by kernel_rfl) ?_
  refine ops_nil (fin_then (st_seq ?_))
  refine st_if (b := decide (i1 < (s.length : Int))) rfl (fun hc2 => ?_) (fun hc2 => ?_)
  ·
   have hp := cnd_t hc2 hp
   refine st_skip (fin_then (st_seq (st_block (st_seq (st_region [oF 0, oF 1] (by rfl) ?_)))))
   refine oQ [oF 0, oF 1] [(5, vI i1), (0, sl A_s s c_s), (1, .string v), (7, vI (s.length : Int)), (8, vI i1)] (by kernel_rfl) ?_
   refine ops_nil (fin_then (st_seq (st_region [oF 0, oF 1, oF 2, oF 3, oF 4, oF 5] (by rfl) ?_)))
   refine oQ [oF 0, oF 1, oF 2] [(13, vI i1), (12, sl A_s s c_s), (11, .string v), (5, vI i1), (0, sl A_s s c_s), (1, .string v), (7, vI (s.length : Int)), (8, vI i1)] (by kernel_rfl) ?_
   obtain ⟨x3, hv4, hp⟩ := obind hp
   obtain ⟨m5, hm6, hx7⟩ := idx_some hv4
   have hl10 := (List.getElem?_eq_some_iff.1 hx7).1
   obtain ⟨ad11, vs8, hA12, hr9, hq13⟩ := RdS.el h_s hx7
   obtain rfl := hr9
   refine ops_val (op := (.indexAddr 185 (.tmp 12) (.tmp 13))) (d := some 14) (v := .pointer (some (ad11.add (m5 * 1)))) ⟨by kernel_rfl⟩ (run_indexA hA12 Tryd.underlying185 (z := 1) (by kernel_rfl) rfl rfl hm6 hl10) ?_
   refine ops_mem (d := some 15) (an := [.v (.string x3)]) (evs := [.load (ad11.add (m5 * 1)) (.string x3)]) (v := .string x3) ⟨by kernel_rfl⟩ (fun w_ hM hS => ⟨w_, ⟨hM.elcell 0 rfl hq13 0 rfl, rfl⟩, hM, trivial⟩) ?_
   refine oQ [oF 5] [(16, .bool (v.toList == x3.toList)), (5, vI i1), (0, sl A_s s c_s), (1, .string v), (7, vI (s.length : Int)), (8, vI i1)] (by kernel_rfl) ?_
   refine ops_nil (fin_then ?_)
   refine st_if (b := (v.toList == x3.toList)) rfl (fun hc14 => ?_) (fun hc14 => ?_)
   ·
    have hp := cnd_t hc14 hp
    refine st_seq (st_region [oF 0, oF 1] (by rfl) ?_)
    refine oQ [oF 0, oF 1] [(4, vI i1)] (by kernel_rfl) ?_
    refine ops_nil (fin_then (st_ret (fin_ret_block (fin_ret_then (fin_ret_then (fin_ret_block (fin_ret_then ?_)))))))
    obtain hq_ := Option.some.inj hp
    subst hq_
    obtain hq_ := hd2 _ rfl
    subst hq_
    have hp : some i1 = some i9001 := hk2
    have hq_ := Option.some.inj hp
    have hr0_ := hq_
    subst hr0_
    refine fin_ret [.tmp 4] [vI i1] rfl rfl (fun w_ hM => (.tmp rfl .nil)) (fun w_ hM => ?_)
    exact ⟨trivial, rfl, hM⟩
   ·
    have hp := cnd_f hc14 hp
    refine st_skip (fin_block (fin_then (st_region [oF 0, oF 1] (by rfl) ?_)))
    refine oQ [oF 0, oF 1] [(8, vI (IntKind.i64.wrap (i1 + 1))), (0, sl A_s s c_s), (1, .string v), (7, vI (s.length : Int))] (by kernel_rfl) ?_
    refine ops_nil ?_
    exact fin_again (IntKind.i64.wrap (i1 + 1)) () (Option.some.inj hp).symm trivial (look_has ⟨rfl, rfl, rfl, rfl, trivial⟩) (fun w_ hM => hM)
  ·
   have hp := cnd_f hc2 hp
   refine st_exit (fin_exit_then (fin_exit_then (fin_exit ?_)))
   obtain hq_ := Option.some.inj hp
   subst hq_
   obtain hq_ := hd2 _ rfl
   subst hq_
   have hp : slices_Index_string_string_j1 = some i9001 := hk2
   exact fin_join HJ1 () hp (look_has trivial) (fun w_ hM => hM)
theorem slices_Contains_string_string_ok (w0 w : World) (cs : List Chunk) (F : Nat → Prop) (W : World) (A_s : Option Addr) (c_s : Nat) (s : List ByteArray) (v : ByteArray) (hM0 : Mem w0 (Fz F W :: cs) w) (h_s : RdS Rep.str F W A_s c_s s) (t9001 : Bool) (hp : slices_Contains_string_string s v = some t9001) : Calls Tryd.prog 141 #[sl A_s s c_s, .string v] w fun e w' => (True) ∧ e = .returned (.bool t9001) ∧ Mem w0 (Fz F W :: cs) w' := by
 unfold slices_Contains_string_string at hp
 refine sx_calls Tryd.func141 rfl (n := 9) (by kernel_rfl) (l := [(0, sl A_s s c_s), (1, .string v)]) rfl (by rfl) hM0 ?_
 refine st_seq (st_region [oF 0] (by rfl) ?_)
 refine oQ [oF 0] [(0, sl A_s s c_s), (1, .string v)] (by kernel_rfl) ?_
 refine ops_nil (fin_then (st_seq (st_region [oF 0, oF 1, oF 2, oF 3, oF 4] (by rfl) ?_)))
 refine oQ [oF 0, oF 1] [(6, .string v), (5, sl A_s s c_s)] (by kernel_rfl) ?_
 obtain ⟨x1, hv2, hp⟩ := obind hp
 refine ops_callI (σ := Unit) (d := some 7) (f := 164) (args := #[sl A_s s c_s, .string v]) (v := (fun _ => vI x1)) (I := (fun _ => True)) (M' := (fun _ => Mem w0 (Fz F W :: cs))) ⟨by kernel_rfl⟩ (fun w_ hM hS => (slices_Index_string_string_ok w0 w_ (cs) F W A_s c_s s v hM h_s x1 hv2).mono (by rintro e w' ⟨-, rfl, h'⟩; have h' : Mem w0 (Fz F W :: cs) w' := h'; exact ⟨(), trivial, rfl, h', trivial⟩)) ?_
 rintro _ -
 refine oQ [oF 3, oF 4] [(4, .bool (decide (0 ≤ x1)))] (by kernel_rfl) ?_
 refine ops_nil (fin_then (st_ret ?_))
 have hq_ := Option.some.inj hp
 have hr0_ := hq_
 subst hr0_
 refine fin_ret [.tmp 4] [.bool (decide (0 ≤ x1))] rfl rfl (fun w_ hM => (.tmp rfl .nil)) (fun w_ hM => ?_)
 exact ⟨trivial, rfl, hM⟩
theorem tourref3_twice_ok (w0 w : World) (cs : List Chunk) (F : Nat → Prop) (W : World) (A_l : Option Addr) (c_l : Nat) (l : List ByteArray) (s : ByteArray) (hM0 : Mem w0 (Fz F W :: cs) w) (h_l : RdS Rep.str F W A_l c_l l) (t9001 : Bool) (hp : tourref3_twice l s = some t9001) : Calls Tryd.prog 101 #[sl A_l l c_l, .string s] w fun e w' => (True) ∧ e = .returned (.bool t9001) ∧ Mem w0 (Fz F W :: cs) w' := by
 unfold tourref3_twice at hp
 refine sx_calls Tryd.func101 rfl (n := 8) (by kernel_rfl) (l := [(0, sl A_l l c_l), (1, .string s)]) rfl (by rfl) hM0 ?_
 refine st_seq (st_region [oF 0] (by rfl) ?_)
 refine oQ [oF 0] [(0, sl A_l l c_l), (1, .string s)] (by kernel_rfl) ?_
 refine ops_nil (fin_then (st_seq (st_region [oF 0, oF 1, oF 2, oF 3] (by rfl) ?_)))
 refine oQ [oF 0, oF 1] [(6, .string s), (5, sl A_l l c_l)] (by kernel_rfl) ?_
 obtain ⟨x1, hv2, hp⟩ := obind hp
 refine ops_callI (σ := Unit) (d := some 7) (f := 141) (args := #[sl A_l l c_l, .string s]) (v := (fun _ => .bool x1)) (I := (fun _ => True)) (M' := (fun _ => Mem w0 (Fz F W :: cs))) ⟨by kernel_rfl⟩ (fun w_ hM hS => (slices_Contains_string_string_ok w0 w_ (cs) F W A_l c_l l s hM h_l x1 hv2).mono (by rintro e w' ⟨-, rfl, h'⟩; have h' : Mem w0 (Fz F W :: cs) w' := h'; exact ⟨(), trivial, rfl, h', trivial⟩)) ?_
 rintro _ -
 refine oQ [oF 3] [(4, .bool x1)] (by kernel_rfl) ?_
 refine ops_nil (fin_then (st_ret ?_))
 have hq_ := Option.some.inj hp
 have hr0_ := hq_
 subst hr0_
 refine fin_ret [.tmp 4] [.bool x1] rfl rfl (fun w_ hM => (.tmp rfl .nil)) (fun w_ hM => ?_)
 exact ⟨trivial, rfl, hM⟩
theorem tourref3_KindError_ok (w0 w : World) (cs : List Chunk) (F : Nat → Prop) (W : World) (k_0 : ByteArray) (A_k_1 : Option Addr) (c_k_1 : Nat) (k_1 : List api_Field) (hM0 : Mem w0 (Fz F W :: cs) w) (h_k_1 : RdS R_api_Field F W A_k_1 c_k_1 k_1) (i9001 : Int) (hp : tourref3_KindError k_0 k_1 = some i9001) : Calls Tryd.prog 100 #[.agg #[.string k_0, sl A_k_1 k_1 c_k_1]] w fun e w' => (True) ∧ e = .returned (vI i9001) ∧ Mem w0 (Fz F W :: cs) w' := by
 unfold tourref3_KindError at hp
 refine sx_calls Tryd.func100 rfl (n := 34) (by kernel_rfl) (l := [(0, .agg #[.string k_0, sl A_k_1 k_1 c_k_1])]) rfl (by rfl) hM0 ?_
 refine st_seq (st_region [oF 0, oF 1] (by rfl) ?_)
 refine ops_newB (d := some 1) [.string k_0, sl A_k_1 k_1 c_k_1] 35 (fun b1 => ⟨by kernel_rfl⟩) (fun w_ hM hS => trivial) (fun b1 => ?_)
 refine oQ [oF 1] [(1, vP b1 0)] (by kernel_rfl) ?_
 refine ops_nil (fin_then (st_seq (st_seq (st_region [oF 0, oF 1, oF 2, oF 3] (by rfl) ?_))))
 refine oQ [oF 0] [(6, vP b1 0), (1, vP b1 0)] (by kernel_rfl) ?_
 refine ops_mem (d := some 7) (an := [.v (.string k_0)]) (evs := [ld b1 0 (.string k_0)]) (v := .string k_0) ⟨by kernel_rfl⟩ (fun w_ hM hS => ⟨w_, ⟨hM.cell 0 rfl rfl, rfl⟩, hM, trivial⟩) ?_
 obtain ⟨x2, hv3, hp⟩ := obind hp
 refine ops_callI (σ := Unit) (d := some 8) (f := 95) (args := #[.string k_0]) (v := (fun _ => .bool x2)) (I := (fun _ => True)) (M' := (fun _ => Mem w0 (.blk b1 [.string k_0, sl A_k_1 k_1 c_k_1] 35 :: Fz F W :: cs))) ⟨by kernel_rfl⟩ (fun w_ hM hS => (tourref3_IsName_ok w0 w_ (.blk b1 [.string k_0, sl A_k_1 k_1 c_k_1] 35 :: cs) F W k_0 (hM.pick 2 [1, 0] (by kernel_rfl) (by decide) rfl)  x2 hv3).mono (by rintro e w' ⟨-, rfl, h'⟩; have h' : Mem w0 (.blk b1 [.string k_0, sl A_k_1 k_1 c_k_1] 35 :: Fz F W :: cs) w' := (h'.pick 2 [1, 0] (by kernel_rfl) (by decide) rfl); exact ⟨(), trivial, rfl, h', trivial⟩)) ?_
 rintro _ -
 refine oQ [oF 3] [(9, .bool (!x2)), (1, vP b1 0)] (by kernel_rfl) ?_
 refine ops_nil (fin_then ?_)
 refine st_if (b := !x2) rfl (fun hc4 => ?_) (fun hc4 => ?_)
 ·
  have hp := cnd_t hc4 hp
  refine st_seq (st_region [oF 0] (by rfl) ?_)
  refine oQ [oF 0] [(2, vI 3)] (by kernel_rfl) ?_
  refine ops_nil (fin_then (st_ret (fin_ret_then ?_)))
  have hq_ := Option.some.inj hp
  have hr0_ := hq_
  subst hr0_
  refine fin_ret [.tmp 2] [vI 3] rfl rfl (fun w_ hM => (.tmp rfl .nil)) (fun w_ hM => ?_)
  exact ⟨trivial, rfl, hM.pick 2 [1] (by kernel_rfl) (by decide) rfl⟩
 ·
  have hp := cnd_f hc4 hp
  refine st_skip (fin_then (st_seq (st_seq (st_region [oF 0, oF 1, oF 2, oF 3] (by rfl) ?_))))
  refine oQ [oF 0] [(10, vP b1 1), (1, vP b1 0)] (by kernel_rfl) ?_
  refine ops_mem (d := some 11) (an := [.v (sl A_k_1 k_1 c_k_1)]) (evs := [ld b1 1 (sl A_k_1 k_1 c_k_1)]) (v := sl A_k_1 k_1 c_k_1) ⟨by kernel_rfl⟩ (fun w_ hM hS => ⟨w_, ⟨hM.cell 0 rfl rfl, rfl⟩, hM, trivial⟩) ?_
  refine oQ [oF 2, oF 3] [(13, .bool (decide (8 < (k_1.length : Int)))), (1, vP b1 0)] (by kernel_rfl) ?_
  refine ops_nil (fin_then ?_)
  refine st_if (b := decide (8 < (k_1.length : Int))) rfl (fun hc5 => ?_) (fun hc5 => ?_)
  ·
   have hp := cnd_t hc5 hp
   refine st_seq (st_region [oF 0] (by rfl) ?_)
   refine oQ [oF 0] [(2, vI 2)] (by kernel_rfl) ?_
   refine ops_nil (fin_then (st_ret (fin_ret_then ?_)))
   have hq_ := Option.some.inj hp
   have hr0_ := hq_
   subst hr0_
   refine fin_ret [.tmp 2] [vI 2] rfl rfl (fun w_ hM => (.tmp rfl .nil)) (fun w_ hM => ?_)
   exact ⟨trivial, rfl, hM.pick 2 [1] (by kernel_rfl) (by decide) rfl⟩
  ·
   have hp := cnd_f hc5 hp
   refine st_skip (fin_then (st_seq (st_region [oF 0] (by rfl) ?_)))
   refine oQ [oF 0] [(3, .slice none 0 0), (1, vP b1 0)] (by kernel_rfl) ?_
   refine ops_nil (fin_then ?_)
   refine st_join1 (σ := Unit) (L := fun _ => []) (N := fun _ => Mem w0 (Fz F W :: cs)) (I := fun _ => (tourref3_KindError_j1 = some i9001)) ?_ ?_
   ·
    rintro _ hp
    unfold tourref3_KindError_j1 at hp
    refine st_seq (st_region [oF 0] (by rfl) ?_)
    refine oQ [oF 0] [(2, vI 0)] (by kernel_rfl) ?_
    refine ops_nil (fin_then (st_ret ?_))
    have hq_ := Option.some.inj hp
    have hr0_ := hq_
    subst hr0_
    refine fin_ret [.tmp 2] [vI 0] rfl rfl (fun w_ hM => (.tmp rfl .nil)) (fun w_ hM => ?_)
    exact ⟨trivial, rfl, hM⟩
   ·
    intro HJ1
    refine st_seq (st_seq (st_region [oF 0, oF 1, oF 2, oF 3] (by rfl) ?_))
    refine oQ [oF 0] [(14, vP b1 1), (3, .slice none 0 0)] (by kernel_rfl) ?_
    refine ops_mem (d := some 15) (an := [.v (sl A_k_1 k_1 c_k_1)]) (evs := [ld b1 1 (sl A_k_1 k_1 c_k_1)]) (v := sl A_k_1 k_1 c_k_1) ⟨by kernel_rfl⟩ (fun w_ hM hS => ⟨w_, ⟨hM.cell 0 rfl rfl, rfl⟩, hM, trivial⟩) ?_
    refine oQ [oF 2, oF 3] [(17, vI 0), (16, vI (k_1.length : Int)), (15, sl A_k_1 k_1 c_k_1), (3, .slice none 0 0)] (by kernel_rfl) ?_
    refine ops_nil (fin_then (st_block ?_))
    refine st_conv (l' := [(17, vI 0), (16, vI (k_1.length : Int)), (15, sl A_k_1 k_1 c_k_1), (3, .slice none 0 0)]) (M' := Mem w0 (ow none ([] : List ByteArray) 0 9 1 [] :: .blk b1 [.string k_0, sl A_k_1 k_1 c_k_1] 35 :: Fz F W :: cs)) rfl (fun w_ h => h.onil none 9 1) ?_
    obtain ⟨r2, hl2, hk2⟩ := obind hp
    refine st_loopP (σ := (List ByteArray) × Int) (ρ := (Int ⊕ Unit)) (γ := (Option Addr) × Nat × (List Value)) hl2 (none, 0, []) (fun s_ g_ => match s_, g_ with | (l8, i11), (A6, c7, y9) => [(3, sl A6 l8 c7), (15, sl A_k_1 k_1 c_k_1), (16, vI (k_1.length : Int)), (17, vI i11)]) (fun s_ g_ => match s_, g_ with | (l8, i11), (A6, c7, y9) => Mem w0 (ow A6 l8 c7 9 1 y9 :: Fz F W :: cs)) (fun s_ g_ => match s_, g_ with | (l8, i11), (A6, c7, y9) => (RepL Rep.str F W l8 y9)) (RepL.nil (R := Rep.str)) (look_has ⟨rfl, rfl, rfl, rfl, trivial⟩) (fun w_ hM => hM.pick 3 [0, 2] (by kernel_rfl) (by decide) rfl) ?_
    rintro ⟨l8, i11⟩ ⟨A6, c7, y9⟩ o2 h10 hs_ hd2
    have hp : (tourref3_KindError_l2 k_1) l8 i11 = some o2 := hs_
    clear hs_
    unfold tourref3_KindError_l2 at hp
    refine st_seq (st_region [oF 0] (by rfl) ?_)
    refine oQ [oF 0] [(18, .bool (decide (i11 < (k_1.length : Int)))), (3, sl A6 l8 c7), (15, sl A_k_1 k_1 c_k_1), (16, vI (k_1.length : Int)), (17, vI i11)] (by kernel_rfl) ?_
    refine ops_nil (fin_then (st_seq ?_))
    refine st_if (b := decide (i11 < (k_1.length : Int))) rfl (fun hc12 => ?_) (fun hc12 => ?_)
    ·
     have hp := cnd_t hc12 hp
     refine st_skip (fin_then (st_seq (st_block (st_seq (st_region [oF 0, oF 1, oF 2, oF 3] (by rfl) ?_)))))
     obtain ⟨x13, hv14, hp⟩ := obind hp
     obtain ⟨m15, hm16, hx17⟩ := idx_some hv14
     have hl20 := (List.getElem?_eq_some_iff.1 hx17).1
     obtain ⟨ad21, vs18, hA22, hr19, hq23⟩ := RdS.el h_k_1 hx17
     obtain rfl := dec_api_Field hr19
     refine ops_val (op := (.indexAddr 33 (.tmp 15) (.tmp 17))) (d := some 19) (v := .pointer (some (ad21.add (m15 * 3)))) ⟨by kernel_rfl⟩ (run_indexA hA22 Tryd.underlying33 (z := 3) (by kernel_rfl) rfl rfl hm16 hl20) ?_
     refine ops_mem (d := some 20) (an := [.v (.string x13.Name), .v (vI x13.Bits), .v (vI x13.Low)]) (evs := [.load (ad21.add (m15 * 3)) (.string x13.Name), .load ((ad21.add (m15 * 3)).add 1) (vI x13.Bits), .load ((ad21.add (m15 * 3)).add 2) (vI x13.Low)]) (v := .agg #[.string x13.Name, vI x13.Bits, vI x13.Low]) ⟨by kernel_rfl⟩ (fun w_ hM hS => ⟨w_, ⟨hM.elcell 1 rfl hq23 0 rfl, hM.elcell 1 rfl hq23 1 rfl, hM.elcell 1 rfl hq23 2 rfl, rfl⟩, hM, trivial⟩) ?_
     refine ops_newB (d := some 5) [.string ByteArray.empty, vI 0, vI 0] 32 (fun b24 => ⟨by kernel_rfl⟩) (fun w_ hM hS => trivial) (fun b24 => ?_)
     refine ops_store (an := []) (evs := [sr b24 0 (.string x13.Name), sr b24 1 (vI x13.Bits), sr b24 2 (vI x13.Low)]) ⟨by kernel_rfl⟩ (fun w_ hM hS => let ⟨w', he, h'⟩ := hM.evs_stores [.string x13.Name, vI x13.Bits, vI x13.Low] 0 rfl 0 (Nat.le_of_ble_eq_true rfl); ⟨w', he, h', trivial⟩) ?_
     refine ops_nil (fin_then (st_seq (st_seq (st_region [oF 0, oF 1, oF 2] (by rfl) ?_))))
     refine ops_mem (d := some 21) (an := [.v (.string x13.Name), .v (vI x13.Bits), .v (vI x13.Low)]) (evs := [ld b24 0 (.string x13.Name), ld b24 1 (vI x13.Bits), ld b24 2 (vI x13.Low)]) (v := .agg #[.string x13.Name, vI x13.Bits, vI x13.Low]) ⟨by kernel_rfl⟩ (fun w_ hM hS => ⟨w_, ⟨hM.cell 0 rfl rfl, hM.cell 0 rfl rfl, hM.cell 0 rfl rfl, rfl⟩, hM, trivial⟩) ?_
     obtain ⟨x25, hv26, hp⟩ := obind hp
     refine ops_callI (σ := Unit) (d := some 22) (f := 102) (args := #[.agg #[.string x13.Name, vI x13.Bits, vI x13.Low]]) (v := (fun _ => .bool x25)) (I := (fun _ => True)) (M' := (fun _ => Mem w0 (.blk b24 [.string x13.Name, vI x13.Bits, vI x13.Low] 32 :: ow A6 l8 c7 9 1 y9 :: Fz F W :: cs))) ⟨by kernel_rfl⟩ (fun w_ hM hS => (tourref3_FieldOK_ok w0 w_ (.blk b24 [.string x13.Name, vI x13.Bits, vI x13.Low] 32 :: ow A6 l8 c7 9 1 y9 :: cs) F W x13.Name x13.Bits x13.Low (hM.pick 3 [2, 0, 1] (by kernel_rfl) (by decide) rfl)  x25 hv26).mono (by rintro e w' ⟨-, rfl, h'⟩; have h' : Mem w0 (.blk b24 [.string x13.Name, vI x13.Bits, vI x13.Low] 32 :: ow A6 l8 c7 9 1 y9 :: Fz F W :: cs) w' := (h'.pick 3 [1, 2, 0] (by kernel_rfl) (by decide) rfl); exact ⟨(), trivial, rfl, h', trivial⟩)) ?_
     rintro _ -
     refine oQ [oF 2] [(23, .bool (!x25)), (5, vP b24 0), (3, sl A6 l8 c7), (15, sl A_k_1 k_1 c_k_1), (16, vI (k_1.length : Int)), (17, vI i11)] (by kernel_rfl) ?_
     refine ops_nil (fin_then ?_)
     refine st_if (b := !x25) rfl (fun hc27 => ?_) (fun hc27 => ?_)
     ·
      have hp := cnd_t hc27 hp
      refine st_seq (st_region [oF 0] (by rfl) ?_)
      refine oQ [oF 0] [(2, vI 3)] (by kernel_rfl) ?_
      refine ops_nil (fin_then (st_ret (fin_ret_then (fin_ret_block (fin_ret_then (fin_ret_then (fin_ret_block (fin_ret_then ?_))))))))
      obtain hq_ := Option.some.inj hp
      subst hq_
      obtain hq_ := hd2 _ rfl
      subst hq_
      have hp : some 3 = some i9001 := hk2
      have hq_ := Option.some.inj hp
      have hr0_ := hq_
      subst hr0_
      refine fin_ret [.tmp 2] [vI 3] rfl rfl (fun w_ hM => (.tmp rfl .nil)) (fun w_ hM => ?_)
      exact ⟨trivial, rfl, hM.pick 3 [2] (by kernel_rfl) (by decide) rfl⟩
     ·
      have hp := cnd_f hc27 hp
      refine st_skip (fin_then (st_seq (st_seq (st_region [oF 0, oF 1, oF 2, oF 3] (by rfl) ?_))))
      refine oQ [oF 0, oF 1] [(25, vP b24 0), (24, sl A6 l8 c7), (5, vP b24 0), (3, sl A6 l8 c7), (15, sl A_k_1 k_1 c_k_1), (16, vI (k_1.length : Int)), (17, vI i11)] (by kernel_rfl) ?_
      refine ops_mem (d := some 26) (an := [.v (.string x13.Name)]) (evs := [ld b24 0 (.string x13.Name)]) (v := .string x13.Name) ⟨by kernel_rfl⟩ (fun w_ hM hS => ⟨w_, ⟨hM.cell 0 rfl rfl, rfl⟩, hM, trivial⟩) ?_
      obtain ⟨x28, hv29, hp⟩ := obind hp
      refine ops_callI (σ := Unit) (d := some 27) (f := 101) (args := #[sl A6 l8 c7, .string x13.Name]) (v := (fun _ => .bool x28)) (I := (fun _ => True)) (M' := (fun _ => Mem w0 (.blk b24 [.string x13.Name, vI x13.Bits, vI x13.Low] 32 :: ow A6 l8 c7 9 1 y9 :: Fz F W :: cs))) ⟨by kernel_rfl⟩ (fun w_ hM hS => (tourref3_twice_ok w_ w_ [] (fun b => b < w_.heap.size) w_ A6 c7 l8 x13.Name (Mem.fz0 w_) (hM.ordS 1 2 rfl rfl h10 rfl rfl) x28 hv29).mono (by rintro e w' ⟨-, rfl, h'⟩; have h' : Mem w_ [] w' := h'.pick 1 [] (by kernel_rfl) (by decide) rfl; exact ⟨(), trivial, rfl, hM.join h' rfl, trivial⟩)) ?_
      rintro _ -
      refine ops_nil (fin_then ?_)
      refine st_if (b := x28) rfl (fun hc30 => ?_) (fun hc30 => ?_)
      ·
       have hp := cnd_t hc30 hp
       refine st_seq (st_region [oF 0] (by rfl) ?_)
       refine oQ [oF 0] [(2, vI 5)] (by kernel_rfl) ?_
       refine ops_nil (fin_then (st_ret (fin_ret_then (fin_ret_block (fin_ret_then (fin_ret_then (fin_ret_block (fin_ret_then ?_))))))))
       obtain hq_ := Option.some.inj hp
       subst hq_
       obtain hq_ := hd2 _ rfl
       subst hq_
       have hp : some 5 = some i9001 := hk2
       have hq_ := Option.some.inj hp
       have hr0_ := hq_
       subst hr0_
       refine fin_ret [.tmp 2] [vI 5] rfl rfl (fun w_ hM => (.tmp rfl .nil)) (fun w_ hM => ?_)
       exact ⟨trivial, rfl, hM.pick 3 [2] (by kernel_rfl) (by decide) rfl⟩
      ·
       have hp := cnd_f hc30 hp
       refine st_skip (fin_then (st_region [oF 0, oF 1, oF 2, oF 3, oF 4, oF 5] (by rfl) ?_))
       refine oQ [oF 0, oF 1] [(29, vP b24 0), (28, sl A6 l8 c7), (3, sl A6 l8 c7), (15, sl A_k_1 k_1 c_k_1), (16, vI (k_1.length : Int)), (17, vI i11)] (by kernel_rfl) ?_
       refine ops_mem (d := some 30) (an := [.v (.string x13.Name)]) (evs := [ld b24 0 (.string x13.Name)]) (v := .string x13.Name) ⟨by kernel_rfl⟩ (fun w_ hM hS => ⟨w_, ⟨hM.cell 0 rfl rfl, rfl⟩, hM, trivial⟩) ?_
       have h31 : RepL Rep.str F W ([x13.Name] : List ByteArray) ([.string x13.Name]) := (RepL.cons (R := Rep.str) (F := F) (w := W) (vs := [.string x13.Name]) (ys := []) rfl RepL.nil)
       refine ops_new (d := some 31) (o := .cells ([.string x13.Name] : List Value).toArray 9) (v := fun g32 => .slice (sa g32) ([x13.Name] : List ByteArray).length 1) (M' := fun g32 => Mem w0 (orow (sa g32) ([x13.Name] : List ByteArray).length 1 9 1 ([.string x13.Name]) :: .blk b24 [.string x13.Name, vI x13.Bits, vI x13.Low] 32 :: ow A6 l8 c7 9 1 y9 :: Fz F W :: cs)) (fun g32 => ⟨by kernel_rfl⟩) (fun w_ hM hS => ⟨hM.onew [.string x13.Name] 9 1 1 rfl (by decide), trivial⟩) (fun g32 => ?_)
       obtain ⟨l33, hv34, hp⟩ := obind hp
       obtain ⟨he35, hb36⟩ := app_some hv34
       obtain ⟨y37, hy38⟩ : ∃ y_, y9 ++ ([.string x13.Name]) = y_ := ⟨_, rfl⟩
       have h39 : RepL Rep.str F W l33 y37 := by rw [he35, ← hy38]; exact RepL.app h10 h31
       refine ops_appendO (x := (Go.Operand.tmp 28)) (y := (Go.Operand.tmp 31)) (t := 185) (e := 9) (d := some 32) (n' := l33.length) (z := 1) (m := ([x13.Name] : List ByteArray).length) (bytes := 16) (xs' := y37) (news := ([.string x13.Name])) (zv := .string ByteArray.empty) 2 ⟨by kernel_rfl⟩ rfl rfl Tryd.underlying185 (by kernel_rfl) (by rfl) rfl (fun w_ hM => hM.srcO 0 rfl) h31.len h31.one hb36 (by have z_ := congrArg List.length he35; rw [List.length_append] at z_; exact z_.symm) hy38 (fun _ _ _ _ hS h' => trivial) ?_
       rintro ⟨A40, c41⟩
       refine oQ [oF 5] [(3, sl A40 l33 c41), (15, sl A_k_1 k_1 c_k_1), (16, vI (k_1.length : Int)), (17, vI i11)] (by kernel_rfl) ?_
       refine ops_nil (fin_block (fin_then (st_region [oF 0, oF 1] (by rfl) ?_)))
       refine oQ [oF 0, oF 1] [(17, vI (IntKind.i64.wrap (i11 + 1))), (3, sl A40 l33 c41), (15, sl A_k_1 k_1 c_k_1), (16, vI (k_1.length : Int))] (by kernel_rfl) ?_
       refine ops_nil ?_
       exact fin_again (l33, IntKind.i64.wrap (i11 + 1)) (A40, c41, y37) (Option.some.inj hp).symm h39 (look_has ⟨rfl, rfl, rfl, rfl, trivial⟩) (fun w_ hM => hM.pick 4 [2, 3] (by kernel_rfl) (by decide) rfl)
    ·
     have hp := cnd_f hc12 hp
     refine st_exit (fin_exit_then (fin_exit_then (fin_exit ?_)))
     obtain hq_ := Option.some.inj hp
     subst hq_
     obtain hq_ := hd2 _ rfl
     subst hq_
     have hp : tourref3_KindError_j1 = some i9001 := hk2
     exact fin_join HJ1 () hp (look_has trivial) (fun w_ hM => hM.pick 2 [1] (by kernel_rfl) (by decide) rfl)
theorem tourref3_KindsError_ok (w0 w : World) (cs : List Chunk) (F : Nat → Prop) (W : World) (A_l : Option Addr) (c_l : Nat) (l : List api_Kind) (hM0 : Mem w0 (Fz F W :: cs) w) (h_l : RdS R_api_Kind F W A_l c_l l) (i9001 : Int) (hp : tourref3_KindsError l = some i9001) : Calls Tryd.prog 46 #[sl A_l l c_l] w fun e w' => (True) ∧ e = .returned (vI i9001) ∧ Mem w0 (Fz F W :: cs) w' := by
 unfold tourref3_KindsError at hp
 refine sx_calls Tryd.func46 rfl (n := 31) (by kernel_rfl) (l := [(0, sl A_l l c_l)]) rfl (by rfl) hM0 ?_
 refine st_seq (st_region [oF 0] (by rfl) ?_)
 refine oQ [oF 0] [(0, sl A_l l c_l)] (by kernel_rfl) ?_
 refine ops_nil (fin_then (st_seq (st_seq (st_region [oF 0, oF 1, oF 2] (by rfl) ?_))))
 refine oQ [oF 0, oF 1, oF 2] [(9, .bool (decide (16 < (l.length : Int)))), (0, sl A_l l c_l)] (by kernel_rfl) ?_
 refine ops_nil (fin_then ?_)
 refine st_if (b := decide (16 < (l.length : Int))) rfl (fun hc1 => ?_) (fun hc1 => ?_)
 ·
  have hp := cnd_t hc1 hp
  refine st_seq (st_region [oF 0] (by rfl) ?_)
  refine oQ [oF 0] [(2, vI 2)] (by kernel_rfl) ?_
  refine ops_nil (fin_then (st_ret (fin_ret_then ?_)))
  have hq_ := Option.some.inj hp
  have hr0_ := hq_
  subst hr0_
  refine fin_ret [.tmp 2] [vI 2] rfl rfl (fun w_ hM => (.tmp rfl .nil)) (fun w_ hM => ?_)
  exact ⟨trivial, rfl, hM⟩
 ·
  have hp := cnd_f hc1 hp
  refine st_skip (fin_then (st_seq (st_region [oF 0] (by rfl) ?_)))
  refine oQ [oF 0] [(3, .slice none 0 0), (0, sl A_l l c_l)] (by kernel_rfl) ?_
  refine ops_nil (fin_then ?_)
  refine st_join1 (σ := Unit) (L := fun _ => []) (N := fun _ => Mem w0 (Fz F W :: cs)) (I := fun _ => (tourref3_KindsError_j1 = some i9001)) ?_ ?_
  ·
   rintro _ hp
   unfold tourref3_KindsError_j1 at hp
   refine st_seq (st_region [oF 0] (by rfl) ?_)
   refine oQ [oF 0] [(2, vI 0)] (by kernel_rfl) ?_
   refine ops_nil (fin_then (st_ret ?_))
   have hq_ := Option.some.inj hp
   have hr0_ := hq_
   subst hr0_
   refine fin_ret [.tmp 2] [vI 0] rfl rfl (fun w_ hM => (.tmp rfl .nil)) (fun w_ hM => ?_)
   exact ⟨trivial, rfl, hM⟩
  ·
   intro HJ1
   refine st_seq (st_seq (st_region [oF 0, oF 1, oF 2] (by rfl) ?_))
   refine oQ [oF 0, oF 1, oF 2] [(12, vI 0), (11, vI (l.length : Int)), (10, sl A_l l c_l), (3, .slice none 0 0)] (by kernel_rfl) ?_
   refine ops_nil (fin_then (st_block ?_))
   refine st_conv (l' := [(12, vI 0), (11, vI (l.length : Int)), (10, sl A_l l c_l), (3, .slice none 0 0)]) (M' := Mem w0 (ow none ([] : List ByteArray) 0 9 1 [] :: Fz F W :: cs)) rfl (fun w_ h => h.onil none 9 1) ?_
   obtain ⟨r2, hl2, hk2⟩ := obind hp
   refine st_loopP (σ := (List ByteArray) × Int) (ρ := (Int ⊕ Unit)) (γ := (Option Addr) × Nat × (List Value)) hl2 (none, 0, []) (fun s_ g_ => match s_, g_ with | (l4, i7), (A2, c3, y5) => [(3, sl A2 l4 c3), (10, sl A_l l c_l), (11, vI (l.length : Int)), (12, vI i7)]) (fun s_ g_ => match s_, g_ with | (l4, i7), (A2, c3, y5) => Mem w0 (ow A2 l4 c3 9 1 y5 :: Fz F W :: cs)) (fun s_ g_ => match s_, g_ with | (l4, i7), (A2, c3, y5) => (RepL Rep.str F W l4 y5)) (RepL.nil (R := Rep.str)) (look_has ⟨rfl, rfl, rfl, rfl, trivial⟩) (fun w_ hM => hM) ?_
   rintro ⟨l4, i7⟩ ⟨A2, c3, y5⟩ o2 h6 hs_ hd2
   have hp : (tourref3_KindsError_l2 l) l4 i7 = some o2 := hs_
   clear hs_
   unfold tourref3_KindsError_l2 at hp
   refine st_seq (st_region [oF 0] (by rfl) ?_)
   refine oQ [oF 0] [(13, .bool (decide (i7 < (l.length : Int)))), (3, sl A2 l4 c3), (10, sl A_l l c_l), (11, vI (l.length : Int)), (12, vI i7)] (by kernel_rfl) ?_
   refine ops_nil (fin_then (st_seq ?_))
   refine st_if (b := decide (i7 < (l.length : Int))) rfl (fun hc8 => ?_) (fun hc8 => ?_)
   ·
    have hp := cnd_t hc8 hp
    refine st_skip (fin_then (st_seq (st_block (st_seq (st_region [oF 0, oF 1, oF 2, oF 3] (by rfl) ?_)))))
    obtain ⟨x9, hv10, hp⟩ := obind hp
    obtain ⟨m11, hm12, hx13⟩ := idx_some hv10
    have hl16 := (List.getElem?_eq_some_iff.1 hx13).1
    obtain ⟨ad17, vs14, hA18, hr15, hq19⟩ := RdS.el h_l hx13
    obtain ⟨A20, c21, rfl, h22⟩ := dec_api_Kind hr15
    refine ops_val (op := (.indexAddr 22 (.tmp 10) (.tmp 12))) (d := some 14) (v := .pointer (some (ad17.add (m11 * 2)))) ⟨by kernel_rfl⟩ (run_indexA hA18 Tryd.underlying22 (z := 2) (by kernel_rfl) rfl rfl hm12 hl16) ?_
    refine ops_mem (d := some 15) (an := [.v (.string x9.Name), .v (sl A20 x9.Fields c21)]) (evs := [.load (ad17.add (m11 * 2)) (.string x9.Name), .load ((ad17.add (m11 * 2)).add 1) (sl A20 x9.Fields c21)]) (v := .agg #[.string x9.Name, sl A20 x9.Fields c21]) ⟨by kernel_rfl⟩ (fun w_ hM hS => ⟨w_, ⟨hM.elcell 1 rfl hq19 0 rfl, hM.elcell 1 rfl hq19 1 rfl, rfl⟩, hM, trivial⟩) ?_
    refine ops_newB (d := some 5) [.string ByteArray.empty, .slice none 0 0] 35 (fun b23 => ⟨by kernel_rfl⟩) (fun w_ hM hS => trivial) (fun b23 => ?_)
    refine ops_store (an := []) (evs := [sr b23 0 (.string x9.Name), sr b23 1 (sl A20 x9.Fields c21)]) ⟨by kernel_rfl⟩ (fun w_ hM hS => let ⟨w', he, h'⟩ := hM.evs_stores [.string x9.Name, sl A20 x9.Fields c21] 0 rfl 0 (Nat.le_of_ble_eq_true rfl); ⟨w', he, h', trivial⟩) ?_
    refine ops_nil (fin_then (st_seq (st_seq (st_region [oF 0, oF 1, oF 2] (by rfl) ?_))))
    refine ops_mem (d := some 16) (an := [.v (.string x9.Name), .v (sl A20 x9.Fields c21)]) (evs := [ld b23 0 (.string x9.Name), ld b23 1 (sl A20 x9.Fields c21)]) (v := .agg #[.string x9.Name, sl A20 x9.Fields c21]) ⟨by kernel_rfl⟩ (fun w_ hM hS => ⟨w_, ⟨hM.cell 0 rfl rfl, hM.cell 0 rfl rfl, rfl⟩, hM, trivial⟩) ?_
    obtain ⟨x24, hv25, hp⟩ := obind hp
    refine ops_callI (σ := Unit) (d := some 17) (f := 100) (args := #[.agg #[.string x9.Name, sl A20 x9.Fields c21]]) (v := (fun _ => vI x24)) (I := (fun _ => True)) (M' := (fun _ => Mem w0 (.blk b23 [.string x9.Name, sl A20 x9.Fields c21] 35 :: ow A2 l4 c3 9 1 y5 :: Fz F W :: cs))) ⟨by kernel_rfl⟩ (fun w_ hM hS => (tourref3_KindError_ok w0 w_ (.blk b23 [.string x9.Name, sl A20 x9.Fields c21] 35 :: ow A2 l4 c3 9 1 y5 :: cs) F W x9.Name A20 c21 x9.Fields (hM.pick 3 [2, 0, 1] (by kernel_rfl) (by decide) rfl) h22 x24 hv25).mono (by rintro e w' ⟨-, rfl, h'⟩; have h' : Mem w0 (.blk b23 [.string x9.Name, sl A20 x9.Fields c21] 35 :: ow A2 l4 c3 9 1 y5 :: Fz F W :: cs) w' := (h'.pick 3 [1, 2, 0] (by kernel_rfl) (by decide) rfl); exact ⟨(), trivial, rfl, h', trivial⟩)) ?_
    rintro _ -
    refine oQ [oF 2] [(6, vI x24), (5, vP b23 0), (3, sl A2 l4 c3), (10, sl A_l l c_l), (11, vI (l.length : Int)), (12, vI i7)] (by kernel_rfl) ?_
    refine ops_nil (fin_then (st_seq (st_region [oF 0, oF 1] (by rfl) ?_)))
    refine oQ [oF 0, oF 1] [(19, .bool (!(x24 == 0))), (6, vI x24), (5, vP b23 0), (3, sl A2 l4 c3), (10, sl A_l l c_l), (11, vI (l.length : Int)), (12, vI i7)] (by kernel_rfl) ?_
    refine ops_nil (fin_then ?_)
    refine st_if (b := !(x24 == 0)) rfl (fun hc26 => ?_) (fun hc26 => ?_)
    ·
     have hp := cnd_t hc26 hp
     refine st_seq (st_region [oF 0, oF 1] (by rfl) ?_)
     refine oQ [oF 0, oF 1] [(2, vI x24)] (by kernel_rfl) ?_
     refine ops_nil (fin_then (st_ret (fin_ret_then (fin_ret_block (fin_ret_then (fin_ret_then (fin_ret_block (fin_ret_then ?_))))))))
     obtain hq_ := Option.some.inj hp
     subst hq_
     obtain hq_ := hd2 _ rfl
     subst hq_
     have hp : some x24 = some i9001 := hk2
     have hq_ := Option.some.inj hp
     have hr0_ := hq_
     subst hr0_
     refine fin_ret [.tmp 2] [vI x24] rfl rfl (fun w_ hM => (.tmp rfl .nil)) (fun w_ hM => ?_)
     exact ⟨trivial, rfl, hM.pick 3 [2] (by kernel_rfl) (by decide) rfl⟩
    ·
     have hp := cnd_f hc26 hp
     refine st_skip (fin_then (st_seq (st_seq (st_region [oF 0, oF 1, oF 2, oF 3] (by rfl) ?_))))
     refine oQ [oF 0, oF 1] [(22, vP b23 0), (21, sl A2 l4 c3), (5, vP b23 0), (3, sl A2 l4 c3), (10, sl A_l l c_l), (11, vI (l.length : Int)), (12, vI i7)] (by kernel_rfl) ?_
     refine ops_mem (d := some 23) (an := [.v (.string x9.Name)]) (evs := [ld b23 0 (.string x9.Name)]) (v := .string x9.Name) ⟨by kernel_rfl⟩ (fun w_ hM hS => ⟨w_, ⟨hM.cell 0 rfl rfl, rfl⟩, hM, trivial⟩) ?_
     obtain ⟨x27, hv28, hp⟩ := obind hp
     refine ops_callI (σ := Unit) (d := some 24) (f := 101) (args := #[sl A2 l4 c3, .string x9.Name]) (v := (fun _ => .bool x27)) (I := (fun _ => True)) (M' := (fun _ => Mem w0 (.blk b23 [.string x9.Name, sl A20 x9.Fields c21] 35 :: ow A2 l4 c3 9 1 y5 :: Fz F W :: cs))) ⟨by kernel_rfl⟩ (fun w_ hM hS => (tourref3_twice_ok w_ w_ [] (fun b => b < w_.heap.size) w_ A2 c3 l4 x9.Name (Mem.fz0 w_) (hM.ordS 1 2 rfl rfl h6 rfl rfl) x27 hv28).mono (by rintro e w' ⟨-, rfl, h'⟩; have h' : Mem w_ [] w' := h'.pick 1 [] (by kernel_rfl) (by decide) rfl; exact ⟨(), trivial, rfl, hM.join h' rfl, trivial⟩)) ?_
     rintro _ -
     refine ops_nil (fin_then ?_)
     refine st_if (b := x27) rfl (fun hc29 => ?_) (fun hc29 => ?_)
     ·
      have hp := cnd_t hc29 hp
      refine st_seq (st_region [oF 0] (by rfl) ?_)
      refine oQ [oF 0] [(2, vI 5)] (by kernel_rfl) ?_
      refine ops_nil (fin_then (st_ret (fin_ret_then (fin_ret_block (fin_ret_then (fin_ret_then (fin_ret_block (fin_ret_then ?_))))))))
      obtain hq_ := Option.some.inj hp
      subst hq_
      obtain hq_ := hd2 _ rfl
      subst hq_
      have hp : some 5 = some i9001 := hk2
      have hq_ := Option.some.inj hp
      have hr0_ := hq_
      subst hr0_
      refine fin_ret [.tmp 2] [vI 5] rfl rfl (fun w_ hM => (.tmp rfl .nil)) (fun w_ hM => ?_)
      exact ⟨trivial, rfl, hM.pick 3 [2] (by kernel_rfl) (by decide) rfl⟩
     ·
      have hp := cnd_f hc29 hp
      refine st_skip (fin_then (st_region [oF 0, oF 1, oF 2, oF 3, oF 4, oF 5] (by rfl) ?_))
      refine oQ [oF 0, oF 1] [(26, vP b23 0), (25, sl A2 l4 c3), (3, sl A2 l4 c3), (10, sl A_l l c_l), (11, vI (l.length : Int)), (12, vI i7)] (by kernel_rfl) ?_
      refine ops_mem (d := some 27) (an := [.v (.string x9.Name)]) (evs := [ld b23 0 (.string x9.Name)]) (v := .string x9.Name) ⟨by kernel_rfl⟩ (fun w_ hM hS => ⟨w_, ⟨hM.cell 0 rfl rfl, rfl⟩, hM, trivial⟩) ?_
      have h30 : RepL Rep.str F W ([x9.Name] : List ByteArray) ([.string x9.Name]) := (RepL.cons (R := Rep.str) (F := F) (w := W) (vs := [.string x9.Name]) (ys := []) rfl RepL.nil)
      refine ops_new (d := some 28) (o := .cells ([.string x9.Name] : List Value).toArray 9) (v := fun g31 => .slice (sa g31) ([x9.Name] : List ByteArray).length 1) (M' := fun g31 => Mem w0 (orow (sa g31) ([x9.Name] : List ByteArray).length 1 9 1 ([.string x9.Name]) :: .blk b23 [.string x9.Name, sl A20 x9.Fields c21] 35 :: ow A2 l4 c3 9 1 y5 :: Fz F W :: cs)) (fun g31 => ⟨by kernel_rfl⟩) (fun w_ hM hS => ⟨hM.onew [.string x9.Name] 9 1 1 rfl (by decide), trivial⟩) (fun g31 => ?_)
      obtain ⟨l32, hv33, hp⟩ := obind hp
      obtain ⟨he34, hb35⟩ := app_some hv33
      obtain ⟨y36, hy37⟩ : ∃ y_, y5 ++ ([.string x9.Name]) = y_ := ⟨_, rfl⟩
      have h38 : RepL Rep.str F W l32 y36 := by rw [he34, ← hy37]; exact RepL.app h6 h30
      refine ops_appendO (x := (Go.Operand.tmp 25)) (y := (Go.Operand.tmp 28)) (t := 185) (e := 9) (d := some 29) (n' := l32.length) (z := 1) (m := ([x9.Name] : List ByteArray).length) (bytes := 16) (xs' := y36) (news := ([.string x9.Name])) (zv := .string ByteArray.empty) 2 ⟨by kernel_rfl⟩ rfl rfl Tryd.underlying185 (by kernel_rfl) (by rfl) rfl (fun w_ hM => hM.srcO 0 rfl) h30.len h30.one hb35 (by have z_ := congrArg List.length he34; rw [List.length_append] at z_; exact z_.symm) hy37 (fun _ _ _ _ hS h' => trivial) ?_
      rintro ⟨A39, c40⟩
      refine oQ [oF 5] [(3, sl A39 l32 c40), (10, sl A_l l c_l), (11, vI (l.length : Int)), (12, vI i7)] (by kernel_rfl) ?_
      refine ops_nil (fin_block (fin_then (st_region [oF 0, oF 1] (by rfl) ?_)))
      refine oQ [oF 0, oF 1] [(12, vI (IntKind.i64.wrap (i7 + 1))), (3, sl A39 l32 c40), (10, sl A_l l c_l), (11, vI (l.length : Int))] (by kernel_rfl) ?_
      refine ops_nil ?_
      exact fin_again (l32, IntKind.i64.wrap (i7 + 1)) (A39, c40, y36) (Option.some.inj hp).symm h38 (look_has ⟨rfl, rfl, rfl, rfl, trivial⟩) (fun w_ hM => hM.pick 4 [2, 3] (by kernel_rfl) (by decide) rfl)
   ·
    have hp := cnd_f hc8 hp
    refine st_exit (fin_exit_then (fin_exit_then (fin_exit ?_)))
    obtain hq_ := Option.some.inj hp
    subst hq_
    obtain hq_ := hd2 _ rfl
    subst hq_
    have hp : tourref3_KindsError_j1 = some i9001 := hk2
    exact fin_join HJ1 () hp (look_has trivial) (fun w_ hM => hM.pick 2 [1] (by kernel_rfl) (by decide) rfl)
end Go.Proofs.YtnnhijlgohlaeaaDoor.D
