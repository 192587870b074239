/- The Go functions come to what the plain functions tell. No condition. -/
import Derived.Test.YtnnhijlgohlaeaaDoorProg
import Derived.Test.YtnnhijlgohlaeaaDoorFnD
import Derived.Test.YtnnhijlgohlaeaaDoorWkD7
import Derived.Test.YtnnhijlgohlaeaaDoorWkD8
import Derived.Test.YtnnhijlgohlaeaaDoorWkD9
import Derived.Test.YtnnhijlgohlaeaaDoorExMap
namespace Go.Proofs.YtnnhijlgohlaeaaDoor.D
open Go Go.RowKit Go.Proofs.YtnnhijlgohlaeaaDoor.Sx
set_option linter.unusedVariables false
set_option maxHeartbeats 4000000
set_option maxRecDepth 100000
theorem tourref3_SystemError_ok (w0 w : World) (cs : List Chunk) (F : Nat → Prop) (W : World) (A_k : Option Addr) (c_k : Nat) (k : List api_Kind) (s_0 : ByteArray) (A_s_1 : Option Addr) (c_s_1 : Nat) (s_1 : List Int) (A_s_2 : Option Addr) (c_s_2 : Nat) (s_2 : List Int) (A_s_3 : Option Addr) (c_s_3 : Nat) (s_3 : List Int) (A_s_4 : Option Addr) (c_s_4 : Nat) (s_4 : List Int) (A_s_5 : Option Addr) (c_s_5 : Nat) (s_5 : List api_Op) (A_s_6 : Option Addr) (c_s_6 : Nat) (s_6 : List api_Comp) (hM0 : Mem w0 (Fz F W :: cs) w) (h_k : RdS R_api_Kind F W A_k c_k k) (h_s_1 : RdS (Rep.int .i64) F W A_s_1 c_s_1 s_1) (h_s_2 : RdS (Rep.int .i64) F W A_s_2 c_s_2 s_2) (h_s_3 : RdS (Rep.int .i64) F W A_s_3 c_s_3 s_3) (h_s_4 : RdS (Rep.int .i64) F W A_s_4 c_s_4 s_4) (h_s_5 : RdS R_api_Op F W A_s_5 c_s_5 s_5) (h_s_6 : RdS R_api_Comp F W A_s_6 c_s_6 s_6) (i9001 : Int) (hp : tourref3_SystemError k s_0 s_1 s_2 s_3 s_4 s_5 s_6 = some i9001) : Calls Tryd.prog 42 #[sl A_k k c_k, .agg #[.string s_0, sl A_s_1 s_1 c_s_1, sl A_s_2 s_2 c_s_2, sl A_s_3 s_3 c_s_3, sl A_s_4 s_4 c_s_4, sl A_s_5 s_5 c_s_5, sl A_s_6 s_6 c_s_6]] w fun e w' => ∃ (F9002 : Nat → Prop), ∃ (W9003 : World), ((Ext w0 F W F9002 W9003)) ∧ e = .returned (vI i9001) ∧ Mem w0 (Fz F9002 W9003 :: cs) w' := by
 unfold tourref3_SystemError at hp
 refine sx_calls Tryd.func42 rfl (n := 138) (by kernel_rfl) (l := [(0, sl A_k k c_k), (1, .agg #[.string s_0, sl A_s_1 s_1 c_s_1, sl A_s_2 s_2 c_s_2, sl A_s_3 s_3 c_s_3, sl A_s_4 s_4 c_s_4, sl A_s_5 s_5 c_s_5, sl A_s_6 s_6 c_s_6])]) rfl (by rfl) hM0 ?_
 refine st_seq (st_region [oF 0, oF 1] (by rfl) ?_)
 refine ops_newB (d := some 3) [.string s_0, sl A_s_1 s_1 c_s_1, sl A_s_2 s_2 c_s_2, sl A_s_3 s_3 c_s_3, sl A_s_4 s_4 c_s_4, sl A_s_5 s_5 c_s_5, sl A_s_6 s_6 c_s_6] 96 (fun b1 => ⟨by kernel_rfl⟩) (fun w_ hM hS => trivial) (fun b1 => ?_)
 refine oQ [oF 1] [(3, vP b1 0), (0, sl A_k k c_k)] (by kernel_rfl) ?_
 refine ops_nil (fin_then (st_seq (st_seq (st_region [oF 0, oF 1, oF 2] (by rfl) ?_))))
 refine oQ [oF 0] [(19, sl A_k k c_k), (3, vP b1 0), (0, sl A_k k c_k)] (by kernel_rfl) ?_
 obtain ⟨x2, hv3, hp⟩ := obind hp
 refine ops_callI (σ := Unit) (d := some 20) (f := 46) (args := #[sl A_k k c_k]) (v := (fun _ => vI x2)) (I := (fun _ => True)) (M' := (fun _ => Mem w0 (.blk b1 [.string s_0, sl A_s_1 s_1 c_s_1, sl A_s_2 s_2 c_s_2, sl A_s_3 s_3 c_s_3, sl A_s_4 s_4 c_s_4, sl A_s_5 s_5 c_s_5, sl A_s_6 s_6 c_s_6] 96 :: Fz F W :: cs))) ⟨by kernel_rfl⟩ (fun w_ hM hS => (tourref3_KindsError_ok w0 w_ (.blk b1 [.string s_0, sl A_s_1 s_1 c_s_1, sl A_s_2 s_2 c_s_2, sl A_s_3 s_3 c_s_3, sl A_s_4 s_4 c_s_4, sl A_s_5 s_5 c_s_5, sl A_s_6 s_6 c_s_6] 96 :: cs) F W A_k c_k k (hM.pick 2 [1, 0] (by kernel_rfl) (by decide) rfl) h_k x2 hv3).mono (by rintro e w' ⟨-, rfl, h'⟩; have h' : Mem w0 (.blk b1 [.string s_0, sl A_s_1 s_1 c_s_1, sl A_s_2 s_2 c_s_2, sl A_s_3 s_3 c_s_3, sl A_s_4 s_4 c_s_4, sl A_s_5 s_5 c_s_5, sl A_s_6 s_6 c_s_6] 96 :: Fz F W :: cs) w' := (h'.pick 2 [1, 0] (by kernel_rfl) (by decide) rfl); exact ⟨(), trivial, rfl, h', trivial⟩)) ?_
 rintro _ -
 refine oQ [oF 2] [(5, vI x2), (3, vP b1 0), (0, sl A_k k c_k)] (by kernel_rfl) ?_
 refine ops_nil (fin_then (st_seq (st_region [oF 0, oF 1] (by rfl) ?_)))
 refine oQ [oF 0, oF 1] [(22, .bool (!(x2 == 0))), (5, vI x2), (3, vP b1 0), (0, sl A_k k c_k)] (by kernel_rfl) ?_
 refine ops_nil (fin_then ?_)
 refine st_if (b := !(x2 == 0)) rfl (fun hc4 => ?_) (fun hc4 => ?_)
 ·
  have hp := cnd_t hc4 hp
  refine st_seq (st_region [oF 0, oF 1] (by rfl) ?_)
  refine oQ [oF 0, oF 1] [(4, vI x2)] (by kernel_rfl) ?_
  refine ops_nil (fin_then (st_ret (fin_ret_then ?_)))
  have hq_ := Option.some.inj hp
  have hr0_ := hq_
  subst hr0_
  refine fin_ret [.tmp 4] [vI x2] rfl rfl (fun w_ hM => (.tmp rfl .nil)) (fun w_ hM => ?_)
  exact ⟨F, W, (Ext.refl _ _ _), rfl, hM.pick 2 [1] (by kernel_rfl) (by decide) rfl⟩
 ·
  have hp := cnd_f hc4 hp
  refine st_skip (fin_then (st_seq (st_block (st_seq (st_region [oF 0, oF 1, oF 2, oF 3, oF 4] (by rfl) ?_)))))
  refine oQ [oF 0] [(25, vP b1 0), (3, vP b1 0), (0, sl A_k k c_k)] (by kernel_rfl) ?_
  refine ops_mem (d := some 26) (an := [.v (.string s_0)]) (evs := [ld b1 0 (.string s_0)]) (v := .string s_0) ⟨by kernel_rfl⟩ (fun w_ hM hS => ⟨w_, ⟨hM.cell 0 rfl rfl, rfl⟩, hM, trivial⟩) ?_
  obtain ⟨x5, hv6, hp⟩ := obind hp
  refine ops_callI (σ := Unit) (d := some 27) (f := 95) (args := #[.string s_0]) (v := (fun _ => .bool x5)) (I := (fun _ => True)) (M' := (fun _ => Mem w0 (.blk b1 [.string s_0, sl A_s_1 s_1 c_s_1, sl A_s_2 s_2 c_s_2, sl A_s_3 s_3 c_s_3, sl A_s_4 s_4 c_s_4, sl A_s_5 s_5 c_s_5, sl A_s_6 s_6 c_s_6] 96 :: Fz F W :: cs))) ⟨by kernel_rfl⟩ (fun w_ hM hS => (tourref3_IsName_ok w0 w_ (.blk b1 [.string s_0, sl A_s_1 s_1 c_s_1, sl A_s_2 s_2 c_s_2, sl A_s_3 s_3 c_s_3, sl A_s_4 s_4 c_s_4, sl A_s_5 s_5 c_s_5, sl A_s_6 s_6 c_s_6] 96 :: cs) F W s_0 (hM.pick 2 [1, 0] (by kernel_rfl) (by decide) rfl)  x5 hv6).mono (by rintro e w' ⟨-, rfl, h'⟩; have h' : Mem w0 (.blk b1 [.string s_0, sl A_s_1 s_1 c_s_1, sl A_s_2 s_2 c_s_2, sl A_s_3 s_3 c_s_3, sl A_s_4 s_4 c_s_4, sl A_s_5 s_5 c_s_5, sl A_s_6 s_6 c_s_6] 96 :: Fz F W :: cs) w' := (h'.pick 2 [1, 0] (by kernel_rfl) (by decide) rfl); exact ⟨(), trivial, rfl, h', trivial⟩)) ?_
  rintro _ -
  refine oQ [oF 3, oF 4] [(24, .bool (!x5)), (3, vP b1 0), (0, sl A_k k c_k)] (by kernel_rfl) ?_
  refine ops_nil (fin_then ?_)
  refine st_if (b := !x5) rfl (fun hc7 => ?_) (fun hc7 => ?_)
  ·
   have hp := cnd_t hc7 hp
   refine st_seq (st_region [oF 0] (by rfl) ?_)
   refine oQ [oF 0] [(4, vI 3)] (by kernel_rfl) ?_
   refine ops_nil (fin_then (st_ret (fin_ret_block (fin_ret_then ?_))))
   have hq_ := Option.some.inj hp
   have hr0_ := hq_
   subst hr0_
   refine fin_ret [.tmp 4] [vI 3] rfl rfl (fun w_ hM => (.tmp rfl .nil)) (fun w_ hM => ?_)
   exact ⟨F, W, (Ext.refl _ _ _), rfl, hM.pick 2 [1] (by kernel_rfl) (by decide) rfl⟩
  ·
   have hp := cnd_f hc7 hp
   refine st_seq (st_region [oF 0, oF 1, oF 2, oF 3, oF 4] (by rfl) ?_)
   refine oQ [oF 0] [(30, vP b1 5), (3, vP b1 0), (0, sl A_k k c_k)] (by kernel_rfl) ?_
   refine ops_mem (d := some 31) (an := [.v (sl A_s_5 s_5 c_s_5)]) (evs := [ld b1 5 (sl A_s_5 s_5 c_s_5)]) (v := sl A_s_5 s_5 c_s_5) ⟨by kernel_rfl⟩ (fun w_ hM hS => ⟨w_, ⟨hM.cell 0 rfl rfl, rfl⟩, hM, trivial⟩) ?_
   refine oQ [oF 2, oF 3, oF 4] [(29, .bool (decide (20 < (s_5.length : Int)))), (3, vP b1 0), (0, sl A_k k c_k)] (by kernel_rfl) ?_
   refine ops_nil (fin_then ?_)
   refine st_if (b := decide (20 < (s_5.length : Int))) rfl (fun hc8 => ?_) (fun hc8 => ?_)
   ·
    have hp := cnd_t hc8 hp
    refine st_seq (st_region [oF 0] (by rfl) ?_)
    refine oQ [oF 0] [(4, vI 2)] (by kernel_rfl) ?_
    refine ops_nil (fin_then (st_ret (fin_ret_block (fin_ret_then ?_))))
    have hq_ := Option.some.inj hp
    have hr0_ := hq_
    subst hr0_
    refine fin_ret [.tmp 4] [vI 2] rfl rfl (fun w_ hM => (.tmp rfl .nil)) (fun w_ hM => ?_)
    exact ⟨F, W, (Ext.refl _ _ _), rfl, hM.pick 2 [1] (by kernel_rfl) (by decide) rfl⟩
   ·
    have hp := cnd_f hc8 hp
    refine st_skip (fin_block (fin_then (st_seq (st_region [oF 0, oF 1] (by rfl) ?_))))
    have h10 := (MapOK.nil : MapOK (fun x_ : Int => Value.int .i64 x_) Rep.bool false F W ([] : List (Int × Bool)) #[] 0)
    refine ops_new (d := some 34) (o := .map #[] 0) (v := fun g9 => .map (some g9)) (M' := fun g9 => Mem w0 (.obj g9 (.map #[] 0) :: .blk b1 [.string s_0, sl A_s_1 s_1 c_s_1, sl A_s_2 s_2 c_s_2, sl A_s_3 s_3 c_s_3, sl A_s_4 s_4 c_s_4, sl A_s_5 s_5 c_s_5, sl A_s_6 s_6 c_s_6] 96 :: Fz F W :: cs)) (fun g9 => ⟨by kernel_rfl⟩) (fun w_ hM hS => ⟨hM.objNew _, trivial⟩) (fun g9 => ?_)
    refine oQ [oF 1] [(6, .map (some g9)), (3, vP b1 0), (0, sl A_k k c_k)] (by kernel_rfl) ?_
    refine ops_nil (fin_then ?_)
    refine st_join1 (σ := (Array MapEntry) × Nat × (List (Int × Bool))) (L := fun x_ => match x_ with | (es11, ck12, l13) => [(0, sl A_k k c_k), (3, vP b1 0), (6, .map (some g9))]) (N := fun x_ => match x_ with | (es11, ck12, l13) => Mem w0 (.blk b1 [.string s_0, sl A_s_1 s_1 c_s_1, sl A_s_2 s_2 c_s_2, sl A_s_3 s_3 c_s_3, sl A_s_4 s_4 c_s_4, sl A_s_5 s_5 c_s_5, sl A_s_6 s_6 c_s_6] 96 :: .obj g9 (.map es11 ck12) :: Fz F W :: cs)) (I := fun x_ => match x_ with | (es11, ck12, l13) => ((tourref3_SystemError_j1 k s_6 s_5) l13 = some i9001) ∧ (MapOK (fun x_ : Int => Value.int .i64 x_) Rep.bool false F W l13 es11 ck12)) ?_ ?_
    ·
     rintro ⟨es11, ck12, l13⟩ ⟨hp, h14⟩
     unfold tourref3_SystemError_j1 at hp
     refine st_join1 (σ := Unit) (L := fun _ => [(0, sl A_k k c_k), (3, vP b1 0), (6, .map (some g9))]) (N := fun _ => Mem w0 (.blk b1 [.string s_0, sl A_s_1 s_1 c_s_1, sl A_s_2 s_2 c_s_2, sl A_s_3 s_3 c_s_3, sl A_s_4 s_4 c_s_4, sl A_s_5 s_5 c_s_5, sl A_s_6 s_6 c_s_6] 96 :: .obj g9 (.map es11 ck12) :: Fz F W :: cs)) (I := fun _ => ((tourref3_SystemError_j2 k l13 s_6 s_5) = some i9001)) ?_ ?_
     ·
      rintro _ hp
      unfold tourref3_SystemError_j2 at hp
      refine st_join1 (σ := Unit) (L := fun _ => [(0, sl A_k k c_k), (3, vP b1 0), (6, .map (some g9))]) (N := fun _ => Mem w0 (.blk b1 [.string s_0, sl A_s_1 s_1 c_s_1, sl A_s_2 s_2 c_s_2, sl A_s_3 s_3 c_s_3, sl A_s_4 s_4 c_s_4, sl A_s_5 s_5 c_s_5, sl A_s_6 s_6 c_s_6] 96 :: .obj g9 (.map es11 ck12) :: Fz F W :: cs)) (I := fun _ => ((tourref3_SystemError_j3 k s_6 s_5 l13) = some i9001)) ?_ ?_
      ·
       rintro _ hp
       unfold tourref3_SystemError_j3 at hp
       refine st_seq (st_seq (st_region [oF 0, oF 1, oF 2, oF 3, oF 4, oF 5, oF 6, oF 7, oF 8] (by rfl) ?_))
       refine oQ [oF 0, oF 1] [(115, vP b1 6), (114, sl A_k k c_k), (0, sl A_k k c_k), (3, vP b1 0), (6, .map (some g9))] (by kernel_rfl) ?_
       refine ops_mem (d := some 116) (an := [.v (sl A_s_6 s_6 c_s_6)]) (evs := [ld b1 6 (sl A_s_6 s_6 c_s_6)]) (v := sl A_s_6 s_6 c_s_6) ⟨by kernel_rfl⟩ (fun w_ hM hS => ⟨w_, ⟨hM.cell 0 rfl rfl, rfl⟩, hM, trivial⟩) ?_
       obtain ⟨x15, x16, hv17, hp⟩ := obind2 hp
       refine ops_callI (σ := (Option Nat) × (Nat → Prop) × World) (d := some 117) (f := 59) (args := #[sl A_k k c_k, sl A_s_6 s_6 c_s_6]) (v := (fun x_ => match x_ with | (B18, F19, W20) => .tuple #[.map B18, vI x16])) (I := (fun x_ => match x_ with | (B18, F19, W20) => (RdM (fun x_ : Int => Value.int .i64 x_) (Rep.sl (Rep.int .i64)) false F19 W20 B18 x15) ∧ (Ext w0 F W F19 W20))) (M' := (fun x_ => match x_ with | (B18, F19, W20) => Mem w0 (.blk b1 [.string s_0, sl A_s_1 s_1 c_s_1, sl A_s_2 s_2 c_s_2, sl A_s_3 s_3 c_s_3, sl A_s_4 s_4 c_s_4, sl A_s_5 s_5 c_s_5, sl A_s_6 s_6 c_s_6] 96 :: .obj g9 (.map es11 ck12) :: Fz F19 W20 :: cs))) ⟨by kernel_rfl⟩ (fun w_ hM hS => (tourref3_FittedAll_ok w0 w_ (.blk b1 [.string s_0, sl A_s_1 s_1 c_s_1, sl A_s_2 s_2 c_s_2, sl A_s_3 s_3 c_s_3, sl A_s_4 s_4 c_s_4, sl A_s_5 s_5 c_s_5, sl A_s_6 s_6 c_s_6] 96 :: .obj g9 (.map es11 ck12) :: cs) F W A_k c_k k A_s_6 c_s_6 s_6 (hM.pick 3 [2, 0, 1] (by kernel_rfl) (by decide) rfl) h_k h_s_6 x15 x16 hv17).mono (by rintro e w' ⟨B18, F19, W20, ⟨h21, h22⟩, rfl, h'⟩; have h' : Mem w0 (.blk b1 [.string s_0, sl A_s_1 s_1 c_s_1, sl A_s_2 s_2 c_s_2, sl A_s_3 s_3 c_s_3, sl A_s_4 s_4 c_s_4, sl A_s_5 s_5 c_s_5, sl A_s_6 s_6 c_s_6] 96 :: .obj g9 (.map es11 ck12) :: Fz F19 W20 :: cs) w' := (h'.pick 3 [1, 2, 0] (by kernel_rfl) (by decide) rfl); exact ⟨(B18, F19, W20), ⟨h21, h22⟩, rfl, h', trivial⟩)) ?_
       rintro ⟨B18, F19, W20⟩ ⟨h21, h22⟩
       have h_s_6 := h_s_6.ext h22
       have h_k := h_k.ext h22
       have h_s_1 := h_s_1.ext h22
       have h_s_2 := h_s_2.ext h22
       have h_s_3 := h_s_3.ext h22
       have h_s_4 := h_s_4.ext h22
       have h_s_5 := h_s_5.ext h22
       have h14 := h14.ext h22
       refine oQ [oF 4, oF 5, oF 6, oF 7, oF 8] [(15, vI x16), (0, sl A_k k c_k), (3, vP b1 0), (6, .map (some g9))] (by kernel_rfl) ?_
       refine ops_nil (fin_then (st_seq (st_region [oF 0, oF 1] (by rfl) ?_)))
       refine oQ [oF 0, oF 1] [(121, .bool (!(x16 == 0))), (15, vI x16), (0, sl A_k k c_k), (3, vP b1 0), (6, .map (some g9))] (by kernel_rfl) ?_
       refine ops_nil (fin_then ?_)
       refine st_if (b := !(x16 == 0)) rfl (fun hc23 => ?_) (fun hc23 => ?_)
       ·
        have hp := cnd_t hc23 hp
        refine st_seq (st_region [oF 0, oF 1] (by rfl) ?_)
        refine oQ [oF 0, oF 1] [(4, vI x16)] (by kernel_rfl) ?_
        refine ops_nil (fin_then (st_ret (fin_ret_then ?_)))
        have hq_ := Option.some.inj hp
        have hr0_ := hq_
        subst hr0_
        refine fin_ret [.tmp 4] [vI x16] rfl rfl (fun w_ hM => (.tmp rfl .nil)) (fun w_ hM => ?_)
        exact ⟨F19, W20, h22, rfl, hM.pick 3 [2] (by kernel_rfl) (by decide) rfl⟩
       ·
        have hp := cnd_f hc23 hp
        refine st_skip (fin_then ?_)
        refine st_join1 (σ := Unit) (L := fun _ => []) (N := fun _ => Mem w0 (Fz F19 W20 :: cs)) (I := fun _ => (tourref3_SystemError_j4 = some i9001)) ?_ ?_
        ·
         rintro _ hp
         unfold tourref3_SystemError_j4 at hp
         refine st_seq (st_region [oF 0] (by rfl) ?_)
         refine oQ [oF 0] [(4, vI 0)] (by kernel_rfl) ?_
         refine ops_nil (fin_then (st_ret ?_))
         have hq_ := Option.some.inj hp
         have hr0_ := hq_
         subst hr0_
         refine fin_ret [.tmp 4] [vI 0] rfl rfl (fun w_ hM => (.tmp rfl .nil)) (fun w_ hM => ?_)
         exact ⟨F19, W20, h22, rfl, hM⟩
        ·
         intro HJ4
         refine st_seq (st_seq (st_region [oF 0, oF 1, oF 2, oF 3] (by rfl) ?_))
         refine oQ [oF 0] [(123, vP b1 5), (0, sl A_k k c_k), (6, .map (some g9))] (by kernel_rfl) ?_
         refine ops_mem (d := some 124) (an := [.v (sl A_s_5 s_5 c_s_5)]) (evs := [ld b1 5 (sl A_s_5 s_5 c_s_5)]) (v := sl A_s_5 s_5 c_s_5) ⟨by kernel_rfl⟩ (fun w_ hM hS => ⟨w_, ⟨hM.cell 0 rfl rfl, rfl⟩, hM, trivial⟩) ?_
         refine oQ [oF 2, oF 3] [(126, vI 0), (125, vI (s_5.length : Int)), (124, sl A_s_5 s_5 c_s_5), (0, sl A_k k c_k), (6, .map (some g9))] (by kernel_rfl) ?_
         refine ops_nil (fin_then (st_block ?_))
         obtain ⟨r5, hl5, hk5⟩ := obind hp
         refine st_loopP (σ := Int) (ρ := (Int ⊕ Unit)) (γ := (Array MapEntry) × Nat) hl5 (es11, ck12) (fun s_ g_ => match s_, g_ with | i27, (es24, ck25) => [(0, sl A_k k c_k), (6, .map (some g9)), (124, sl A_s_5 s_5 c_s_5), (125, vI (s_5.length : Int)), (126, vI i27)]) (fun s_ g_ => match s_, g_ with | i27, (es24, ck25) => Mem w0 (.obj g9 (.map es24 ck25) :: Fz F19 W20 :: cs)) (fun s_ g_ => match s_, g_ with | i27, (es24, ck25) => (MapOK (fun x_ : Int => Value.int .i64 x_) Rep.bool false F19 W20 l13 es24 ck25)) h14 (look_has ⟨rfl, rfl, rfl, rfl, rfl, trivial⟩) (fun w_ hM => hM.pick 3 [1, 2] (by kernel_rfl) (by decide) rfl) ?_
         rintro i27 ⟨es24, ck25⟩ o5 h26 hs_ hd5
         have hp : (tourref3_SystemError_l5 s_5 k l13) i27 = some o5 := hs_
         clear hs_
         unfold tourref3_SystemError_l5 at hp
         refine st_seq (st_region [oF 0] (by rfl) ?_)
         refine oQ [oF 0] [(127, .bool (decide (i27 < (s_5.length : Int)))), (0, sl A_k k c_k), (6, .map (some g9)), (124, sl A_s_5 s_5 c_s_5), (125, vI (s_5.length : Int)), (126, vI i27)] (by kernel_rfl) ?_
         refine ops_nil (fin_then (st_seq ?_))
         refine st_if (b := decide (i27 < (s_5.length : Int))) rfl (fun hc28 => ?_) (fun hc28 => ?_)
         ·
          have hp := cnd_t hc28 hp
          refine st_skip (fin_then (st_seq (st_block (st_seq (st_region [oF 0, oF 1, oF 2, oF 3] (by rfl) ?_)))))
          obtain ⟨x29, hv30, hp⟩ := obind hp
          obtain ⟨m31, hm32, hx33⟩ := idx_some hv30
          have hl36 := (List.getElem?_eq_some_iff.1 hx33).1
          obtain ⟨ad37, vs34, hA38, hr35, hq39⟩ := RdS.el h_s_5 hx33
          obtain rfl := dec_api_Op hr35
          refine ops_val (op := (.indexAddr 93 (.tmp 124) (.tmp 126))) (d := some 128) (v := .pointer (some (ad37.add (m31 * 11)))) ⟨by kernel_rfl⟩ (run_indexA hA38 Tryd.underlying93 (z := 11) (by kernel_rfl) rfl rfl hm32 hl36) ?_
          refine ops_mem (d := some 129) (an := [.v (vI x29.Do), .v (vI x29.To.Kind), .v (vI x29.To.Field), .v (.bool x29.A.Has), .v (vI x29.A.N), .v (vI x29.A.Ref.Kind), .v (vI x29.A.Ref.Field), .v (.bool x29.B.Has), .v (vI x29.B.N), .v (vI x29.B.Ref.Kind), .v (vI x29.B.Ref.Field)]) (evs := [.load (ad37.add (m31 * 11)) (vI x29.Do), .load ((ad37.add (m31 * 11)).add 1) (vI x29.To.Kind), .load ((ad37.add (m31 * 11)).add 2) (vI x29.To.Field), .load ((ad37.add (m31 * 11)).add 3) (.bool x29.A.Has), .load ((ad37.add (m31 * 11)).add 4) (vI x29.A.N), .load ((ad37.add (m31 * 11)).add 5) (vI x29.A.Ref.Kind), .load ((ad37.add (m31 * 11)).add 6) (vI x29.A.Ref.Field), .load ((ad37.add (m31 * 11)).add 7) (.bool x29.B.Has), .load ((ad37.add (m31 * 11)).add 8) (vI x29.B.N), .load ((ad37.add (m31 * 11)).add 9) (vI x29.B.Ref.Kind), .load ((ad37.add (m31 * 11)).add 10) (vI x29.B.Ref.Field)]) (v := .agg #[vI x29.Do, vI x29.To.Kind, vI x29.To.Field, .bool x29.A.Has, vI x29.A.N, vI x29.A.Ref.Kind, vI x29.A.Ref.Field, .bool x29.B.Has, vI x29.B.N, vI x29.B.Ref.Kind, vI x29.B.Ref.Field]) ⟨by kernel_rfl⟩ (fun w_ hM hS => ⟨w_, ⟨hM.elcell 1 rfl hq39 0 rfl, hM.elcell 1 rfl hq39 1 rfl, hM.elcell 1 rfl hq39 2 rfl, hM.elcell 1 rfl hq39 3 rfl, hM.elcell 1 rfl hq39 4 rfl, hM.elcell 1 rfl hq39 5 rfl, hM.elcell 1 rfl hq39 6 rfl, hM.elcell 1 rfl hq39 7 rfl, hM.elcell 1 rfl hq39 8 rfl, hM.elcell 1 rfl hq39 9 rfl, hM.elcell 1 rfl hq39 10 rfl, rfl⟩, hM, trivial⟩) ?_
          refine ops_newB (d := some 17) [vI 0, vI 0, vI 0, .bool false, vI 0, vI 0, vI 0, .bool false, vI 0, vI 0, vI 0] 170 (fun b40 => ⟨by kernel_rfl⟩) (fun w_ hM hS => trivial) (fun b40 => ?_)
          refine ops_store (an := []) (evs := [sr b40 0 (vI x29.Do), sr b40 1 (vI x29.To.Kind), sr b40 2 (vI x29.To.Field), sr b40 3 (.bool x29.A.Has), sr b40 4 (vI x29.A.N), sr b40 5 (vI x29.A.Ref.Kind), sr b40 6 (vI x29.A.Ref.Field), sr b40 7 (.bool x29.B.Has), sr b40 8 (vI x29.B.N), sr b40 9 (vI x29.B.Ref.Kind), sr b40 10 (vI x29.B.Ref.Field)]) ⟨by kernel_rfl⟩ (fun w_ hM hS => let ⟨w', he, h'⟩ := hM.evs_stores [vI x29.Do, vI x29.To.Kind, vI x29.To.Field, .bool x29.A.Has, vI x29.A.N, vI x29.A.Ref.Kind, vI x29.A.Ref.Field, .bool x29.B.Has, vI x29.B.N, vI x29.B.Ref.Kind, vI x29.B.Ref.Field] 0 rfl 0 (Nat.le_of_ble_eq_true rfl); ⟨w', he, h', trivial⟩) ?_
          refine ops_nil (fin_then (st_seq (st_region [oF 0, oF 1, oF 2, oF 3, oF 4] (by rfl) ?_)))
          refine oQ [oF 0, oF 1] [(131, .map (some g9)), (130, sl A_k k c_k), (17, vP b40 0), (0, sl A_k k c_k), (6, .map (some g9)), (124, sl A_s_5 s_5 c_s_5), (125, vI (s_5.length : Int)), (126, vI i27)] (by kernel_rfl) ?_
          refine ops_mem (d := some 132) (an := [.v (vI x29.Do), .v (vI x29.To.Kind), .v (vI x29.To.Field), .v (.bool x29.A.Has), .v (vI x29.A.N), .v (vI x29.A.Ref.Kind), .v (vI x29.A.Ref.Field), .v (.bool x29.B.Has), .v (vI x29.B.N), .v (vI x29.B.Ref.Kind), .v (vI x29.B.Ref.Field)]) (evs := [ld b40 0 (vI x29.Do), ld b40 1 (vI x29.To.Kind), ld b40 2 (vI x29.To.Field), ld b40 3 (.bool x29.A.Has), ld b40 4 (vI x29.A.N), ld b40 5 (vI x29.A.Ref.Kind), ld b40 6 (vI x29.A.Ref.Field), ld b40 7 (.bool x29.B.Has), ld b40 8 (vI x29.B.N), ld b40 9 (vI x29.B.Ref.Kind), ld b40 10 (vI x29.B.Ref.Field)]) (v := .agg #[vI x29.Do, vI x29.To.Kind, vI x29.To.Field, .bool x29.A.Has, vI x29.A.N, vI x29.A.Ref.Kind, vI x29.A.Ref.Field, .bool x29.B.Has, vI x29.B.N, vI x29.B.Ref.Kind, vI x29.B.Ref.Field]) ⟨by kernel_rfl⟩ (fun w_ hM hS => ⟨w_, ⟨hM.cell 0 rfl rfl, hM.cell 0 rfl rfl, hM.cell 0 rfl rfl, hM.cell 0 rfl rfl, hM.cell 0 rfl rfl, hM.cell 0 rfl rfl, hM.cell 0 rfl rfl, hM.cell 0 rfl rfl, hM.cell 0 rfl rfl, hM.cell 0 rfl rfl, hM.cell 0 rfl rfl, rfl⟩, hM, trivial⟩) ?_
          obtain ⟨x41, hv42, hp⟩ := obind hp
          refine ops_callI (σ := (Array MapEntry) × Nat) (d := some 133) (f := 96) (args := #[sl A_k k c_k, .map (some g9), .agg #[vI x29.Do, vI x29.To.Kind, vI x29.To.Field, .bool x29.A.Has, vI x29.A.N, vI x29.A.Ref.Kind, vI x29.A.Ref.Field, .bool x29.B.Has, vI x29.B.N, vI x29.B.Ref.Kind, vI x29.B.Ref.Field]]) (v := (fun x_ => match x_ with | (es43, ck44) => vI x41)) (I := (fun x_ => match x_ with | (es43, ck44) => (MapOK (fun x_ : Int => Value.int .i64 x_) Rep.bool false F19 W20 l13 es43 ck44))) (M' := (fun x_ => match x_ with | (es43, ck44) => Mem w0 (.blk b40 [vI x29.Do, vI x29.To.Kind, vI x29.To.Field, .bool x29.A.Has, vI x29.A.N, vI x29.A.Ref.Kind, vI x29.A.Ref.Field, .bool x29.B.Has, vI x29.B.N, vI x29.B.Ref.Kind, vI x29.B.Ref.Field] 170 :: .obj g9 (.map es43 ck44) :: Fz F19 W20 :: cs))) ⟨by kernel_rfl⟩ (fun w_ hM hS => (tourref3_opError_ok w0 w_ (.blk b40 [vI x29.Do, vI x29.To.Kind, vI x29.To.Field, .bool x29.A.Has, vI x29.A.N, vI x29.A.Ref.Kind, vI x29.A.Ref.Field, .bool x29.B.Has, vI x29.B.N, vI x29.B.Ref.Kind, vI x29.B.Ref.Field] 170 :: cs) F19 W20 A_k c_k k g9 es24 ck25 l13 x29.Do x29.To.Kind x29.To.Field x29.A.Has x29.A.N x29.A.Ref.Kind x29.A.Ref.Field x29.B.Has x29.B.N x29.B.Ref.Kind x29.B.Ref.Field (hM.pick 3 [1, 2, 0] (by kernel_rfl) (by decide) rfl) h_k h26 x41 hv42).mono (by rintro e w' ⟨es43, ck44, h45, rfl, h'⟩; have h' : Mem w0 (.blk b40 [vI x29.Do, vI x29.To.Kind, vI x29.To.Field, .bool x29.A.Has, vI x29.A.N, vI x29.A.Ref.Kind, vI x29.A.Ref.Field, .bool x29.B.Has, vI x29.B.N, vI x29.B.Ref.Kind, vI x29.B.Ref.Field] 170 :: .obj g9 (.map es43 ck44) :: Fz F19 W20 :: cs) w' := (h'.pick 3 [2, 0, 1] (by kernel_rfl) (by decide) rfl); exact ⟨(es43, ck44), h45, rfl, h', trivial⟩)) ?_
          rintro ⟨es43, ck44⟩ h45
          refine oQ [oF 4] [(18, vI x41), (0, sl A_k k c_k), (6, .map (some g9)), (124, sl A_s_5 s_5 c_s_5), (125, vI (s_5.length : Int)), (126, vI i27)] (by kernel_rfl) ?_
          refine ops_nil (fin_then (st_seq (st_region [oF 0, oF 1] (by rfl) ?_)))
          refine oQ [oF 0, oF 1] [(135, .bool (!(x41 == 0))), (18, vI x41), (0, sl A_k k c_k), (6, .map (some g9)), (124, sl A_s_5 s_5 c_s_5), (125, vI (s_5.length : Int)), (126, vI i27)] (by kernel_rfl) ?_
          refine ops_nil (fin_then ?_)
          refine st_if (b := !(x41 == 0)) rfl (fun hc46 => ?_) (fun hc46 => ?_)
          ·
           have hp := cnd_t hc46 hp
           refine st_seq (st_region [oF 0, oF 1] (by rfl) ?_)
           refine oQ [oF 0, oF 1] [(4, vI x41)] (by kernel_rfl) ?_
           refine ops_nil (fin_then (st_ret (fin_ret_block (fin_ret_then (fin_ret_then (fin_ret_block (fin_ret_then ?_)))))))
           obtain hq_ := Option.some.inj hp
           subst hq_
           obtain hq_ := hd5 _ rfl
           subst hq_
           have hp : some x41 = some i9001 := hk5
           have hq_ := Option.some.inj hp
           have hr0_ := hq_
           subst hr0_
           refine fin_ret [.tmp 4] [vI x41] rfl rfl (fun w_ hM => (.tmp rfl .nil)) (fun w_ hM => ?_)
           exact ⟨F19, W20, h22, rfl, hM.pick 3 [2] (by kernel_rfl) (by decide) rfl⟩
          ·
           have hp := cnd_f hc46 hp
           refine st_skip (fin_block (fin_then (st_region [oF 0, oF 1] (by rfl) ?_)))
           refine oQ [oF 0, oF 1] [(126, vI (IntKind.i64.wrap (i27 + 1))), (0, sl A_k k c_k), (6, .map (some g9)), (124, sl A_s_5 s_5 c_s_5), (125, vI (s_5.length : Int))] (by kernel_rfl) ?_
           refine ops_nil ?_
           exact fin_again (IntKind.i64.wrap (i27 + 1)) (es43, ck44) (Option.some.inj hp).symm h45 (look_has ⟨rfl, rfl, rfl, rfl, rfl, trivial⟩) (fun w_ hM => hM.pick 3 [1, 2] (by kernel_rfl) (by decide) rfl)
         ·
          have hp := cnd_f hc28 hp
          refine st_exit (fin_exit_then (fin_exit_then (fin_exit ?_)))
          obtain hq_ := Option.some.inj hp
          subst hq_
          obtain hq_ := hd5 _ rfl
          subst hq_
          have hp : tourref3_SystemError_j4 = some i9001 := hk5
          exact fin_join HJ4 () hp (look_has trivial) (fun w_ hM => hM.pick 2 [1] (by kernel_rfl) (by decide) rfl)
      ·
       intro HJ3
       refine st_seq (st_seq (st_region [oF 0, oF 1, oF 2] (by rfl) ?_))
       refine oQ [oF 0, oF 1, oF 2] [(93, vI 0), (92, vI (k.length : Int)), (0, sl A_k k c_k), (3, vP b1 0), (6, .map (some g9))] (by kernel_rfl) ?_
       refine ops_nil (fin_then (st_block ?_))
       obtain ⟨r6, hl6, hk6⟩ := obind hp
       refine st_loopP (σ := Int) (ρ := (Int ⊕ Unit)) (γ := Unit) hl6 () (fun s_ g_ => match s_, g_ with | i47, _ => [(0, sl A_k k c_k), (3, vP b1 0), (6, .map (some g9)), (92, vI (k.length : Int)), (93, vI i47)]) (fun s_ g_ => match s_, g_ with | i47, _ => Mem w0 (.blk b1 [.string s_0, sl A_s_1 s_1 c_s_1, sl A_s_2 s_2 c_s_2, sl A_s_3 s_3 c_s_3, sl A_s_4 s_4 c_s_4, sl A_s_5 s_5 c_s_5, sl A_s_6 s_6 c_s_6] 96 :: .obj g9 (.map es11 ck12) :: Fz F W :: cs)) (fun s_ g_ => match s_, g_ with | i47, _ => True) trivial (look_has ⟨rfl, rfl, rfl, rfl, rfl, trivial⟩) (fun w_ hM => hM) ?_
       rintro i47 _ o6 - hs_ hd6
       have hp : (tourref3_SystemError_l6 k l13) i47 = some o6 := hs_
       clear hs_
       unfold tourref3_SystemError_l6 at hp
       refine st_seq (st_region [oF 0] (by rfl) ?_)
       refine oQ [oF 0] [(94, .bool (decide (i47 < (k.length : Int)))), (0, sl A_k k c_k), (3, vP b1 0), (6, .map (some g9)), (92, vI (k.length : Int)), (93, vI i47)] (by kernel_rfl) ?_
       refine ops_nil (fin_then (st_seq ?_))
       refine st_if (b := decide (i47 < (k.length : Int))) rfl (fun hc48 => ?_) (fun hc48 => ?_)
       ·
        have hp := cnd_t hc48 hp
        refine st_skip (fin_then ?_)
        refine st_join1 (σ := Unit) (L := fun _ => [(0, sl A_k k c_k), (3, vP b1 0), (6, .map (some g9)), (92, vI (k.length : Int)), (93, vI i47)]) (N := fun _ => Mem w0 (.blk b1 [.string s_0, sl A_s_1 s_1 c_s_1, sl A_s_2 s_2 c_s_2, sl A_s_3 s_3 c_s_3, sl A_s_4 s_4 c_s_4, sl A_s_5 s_5 c_s_5, sl A_s_6 s_6 c_s_6] 96 :: .obj g9 (.map es11 ck12) :: Fz F W :: cs)) (I := fun _ => ((tourref3_SystemError_j7 i47) = some o6)) ?_ ?_
        ·
         rintro _ hp
         unfold tourref3_SystemError_j7 at hp
         refine st_region [oF 0, oF 1] (by rfl) ?_
         refine oQ [oF 0, oF 1] [(93, vI (IntKind.i64.wrap (i47 + 1))), (0, sl A_k k c_k), (3, vP b1 0), (6, .map (some g9)), (92, vI (k.length : Int))] (by kernel_rfl) ?_
         refine ops_nil ?_
         exact fin_again (IntKind.i64.wrap (i47 + 1)) () (Option.some.inj hp).symm trivial (look_has ⟨rfl, rfl, rfl, rfl, rfl, trivial⟩) (fun w_ hM => hM)
        ·
         intro HJ7
         refine st_seq (st_block (st_seq (st_region [oF 0, oF 1] (by rfl) ?_)))
         refine oQ [oF 0, oF 1] [(13, vI i47), (0, sl A_k k c_k), (3, vP b1 0), (6, .map (some g9)), (92, vI (k.length : Int)), (93, vI i47)] (by kernel_rfl) ?_
         refine ops_nil (fin_then (st_seq (st_region [oF 0, oF 1, oF 2, oF 3, oF 4, oF 5, oF 6, oF 7, oF 8, oF 9, oF 10, oF 11, oF 12, oF 13, oF 14, oF 15] (by rfl) ?_)))
         refine oQ [oF 0, oF 1] [(97, vI i47), (96, .map (some g9)), (13, vI i47), (0, sl A_k k c_k), (3, vP b1 0), (6, .map (some g9)), (92, vI (k.length : Int)), (93, vI i47)] (by kernel_rfl) ?_
         obtain ⟨x49, hv50, hp⟩ := obind hp
         obtain ⟨vs51, hr52, hrun53⟩ := h14.get (KeyLaw.int Tryd.underlying3) Tryd.underlying181 i47 false (rfl) (fun u_ => Tryd.zeroValue4 u_)
         have hr52 : Rep.bool.rd F W x49 vs51 := by rw [← Option.some.inj hv50]; exact hr52
         obtain rfl := hr52
         refine ops_law (op := (.lookup 181 (.tmp 96) (.tmp 97) false)) (d := some 98) (σ := Unit) (v := fun _ => .bool x49) (M' := fun _ => Mem w0 (.blk b1 [.string s_0, sl A_s_1 s_1 c_s_1, sl A_s_2 s_2 c_s_2, sl A_s_3 s_3 c_s_3, sl A_s_4 s_4 c_s_4, sl A_s_5 s_5 c_s_5, sl A_s_6 s_6 c_s_6] 96 :: .obj g9 (.map es11 ck12) :: Fz F W :: cs)) ⟨by kernel_rfl⟩ (fun o_ w_ ho_ hM hS => ⟨(), w_, run_lookupV rfl rfl (hrun53 false g9 w_ (hM.mapAt 1 rfl)) o_ ho_, hM, trivial⟩) (fun _ => ?_)
         refine oQ [oF 3, oF 4] [(100, .bool (!x49)), (13, vI i47), (0, sl A_k k c_k), (3, vP b1 0), (6, .map (some g9)), (92, vI (k.length : Int)), (93, vI i47)] (by kernel_rfl) ?_
         refine ops_bool (t := !x49) (l1 := [(100, .bool true), (13, vI i47), (0, sl A_k k c_k), (3, vP b1 0), (6, .map (some g9)), (92, vI (k.length : Int)), (93, vI i47)]) (l2 := [(100, .bool false), (13, vI i47), (0, sl A_k k c_k), (3, vP b1 0), (6, .map (some g9)), (92, vI (k.length : Int)), (93, vI i47)]) (fun h => by rw [h]) (fun h => by rw [h]) (fun hc54 => ?_) (fun hc54 => ?_)
         ·
          have hp := cnd_t hc54 hp
          refine oQ [oF 5, oF 6, oF 7] [(103, vI (IntKind.i64.wrap (200 + i47))), (101, .map (some g9)), (100, .bool true), (13, vI i47), (0, sl A_k k c_k), (3, vP b1 0), (6, .map (some g9)), (92, vI (k.length : Int)), (93, vI i47)] (by kernel_rfl) ?_
          obtain ⟨x55, hv56, hp⟩ := obind hp
          obtain ⟨vs57, hr58, hrun59⟩ := h14.get (KeyLaw.int Tryd.underlying3) Tryd.underlying181 (IntKind.i64.wrap (200 + i47)) false (rfl) (fun u_ => Tryd.zeroValue4 u_)
          have hr58 : Rep.bool.rd F W x55 vs57 := by rw [← Option.some.inj hv56]; exact hr58
          obtain rfl := hr58
          refine ops_law (op := (.lookup 181 (.tmp 101) (.tmp 103) false)) (d := some 104) (σ := Unit) (v := fun _ => .bool x55) (M' := fun _ => Mem w0 (.blk b1 [.string s_0, sl A_s_1 s_1 c_s_1, sl A_s_2 s_2 c_s_2, sl A_s_3 s_3 c_s_3, sl A_s_4 s_4 c_s_4, sl A_s_5 s_5 c_s_5, sl A_s_6 s_6 c_s_6] 96 :: .obj g9 (.map es11 ck12) :: Fz F W :: cs)) ⟨by kernel_rfl⟩ (fun o_ w_ ho_ hM hS => ⟨(), w_, run_lookupV rfl rfl (hrun59 false g9 w_ (hM.mapAt 1 rfl)) o_ ho_, hM, trivial⟩) (fun _ => ?_)
          refine oQ [oF 9] [(105, .bool x55), (100, .bool true), (13, vI i47), (0, sl A_k k c_k), (3, vP b1 0), (6, .map (some g9)), (92, vI (k.length : Int)), (93, vI i47)] (by kernel_rfl) ?_
          refine ops_bool (t := x55) (l1 := [(105, .bool true), (100, .bool true), (13, vI i47), (0, sl A_k k c_k), (3, vP b1 0), (6, .map (some g9)), (92, vI (k.length : Int)), (93, vI i47)]) (l2 := [(105, .bool false), (100, .bool true), (13, vI i47), (0, sl A_k k c_k), (3, vP b1 0), (6, .map (some g9)), (92, vI (k.length : Int)), (93, vI i47)]) (fun h => by rw [h]) (fun h => by rw [h]) (fun hc60 => ?_) (fun hc60 => ?_)
          ·
           have hp := cnd_t hc60 hp
           refine oQ [oF 10, oF 11, oF 12, oF 13, oF 14, oF 15] [(111, .bool true), (0, sl A_k k c_k), (3, vP b1 0), (6, .map (some g9)), (92, vI (k.length : Int)), (93, vI i47)] (by kernel_rfl) ?_
           refine ops_nil (fin_then (st_true rfl (st_seq (st_region [oF 0] (by rfl) ?_))))
           refine oQ [oF 0] [(4, vI 8)] (by kernel_rfl) ?_
           refine ops_nil (fin_then (st_ret (fin_ret_block (fin_ret_then (fin_ret_then (fin_ret_block (fin_ret_then ?_)))))))
           obtain hq_ := Option.some.inj hp
           subst hq_
           obtain hq_ := hd6 _ rfl
           subst hq_
           have hp : some 8 = some i9001 := hk6
           have hq_ := Option.some.inj hp
           have hr0_ := hq_
           subst hr0_
           refine fin_ret [.tmp 4] [vI 8] rfl rfl (fun w_ hM => (.tmp rfl .nil)) (fun w_ hM => ?_)
           exact ⟨F, W, (Ext.refl _ _ _), rfl, hM.pick 3 [2] (by kernel_rfl) (by decide) rfl⟩
          ·
           have hp := cnd_f hc60 hp
           refine oQ [oF 10, oF 11, oF 12] [(108, vI (IntKind.i64.wrap (300 + i47))), (106, .map (some g9)), (105, .bool false), (100, .bool true), (0, sl A_k k c_k), (3, vP b1 0), (6, .map (some g9)), (92, vI (k.length : Int)), (93, vI i47)] (by kernel_rfl) ?_
           obtain ⟨x61, hv62, hp⟩ := obind hp
           obtain ⟨vs63, hr64, hrun65⟩ := h14.get (KeyLaw.int Tryd.underlying3) Tryd.underlying181 (IntKind.i64.wrap (300 + i47)) false (rfl) (fun u_ => Tryd.zeroValue4 u_)
           have hr64 : Rep.bool.rd F W x61 vs63 := by rw [← Option.some.inj hv62]; exact hr64
           obtain rfl := hr64
           refine ops_law (op := (.lookup 181 (.tmp 106) (.tmp 108) false)) (d := some 109) (σ := Unit) (v := fun _ => .bool x61) (M' := fun _ => Mem w0 (.blk b1 [.string s_0, sl A_s_1 s_1 c_s_1, sl A_s_2 s_2 c_s_2, sl A_s_3 s_3 c_s_3, sl A_s_4 s_4 c_s_4, sl A_s_5 s_5 c_s_5, sl A_s_6 s_6 c_s_6] 96 :: .obj g9 (.map es11 ck12) :: Fz F W :: cs)) ⟨by kernel_rfl⟩ (fun o_ w_ ho_ hM hS => ⟨(), w_, run_lookupV rfl rfl (hrun65 false g9 w_ (hM.mapAt 1 rfl)) o_ ho_, hM, trivial⟩) (fun _ => ?_)
           refine oQ [oF 14, oF 15] [(111, .bool x61), (0, sl A_k k c_k), (3, vP b1 0), (6, .map (some g9)), (92, vI (k.length : Int)), (93, vI i47)] (by kernel_rfl) ?_
           refine ops_nil (fin_then ?_)
           refine st_if (b := x61) rfl (fun hc66 => ?_) (fun hc66 => ?_)
           ·
            have hp := cnd_t hc66 hp
            refine st_seq (st_region [oF 0] (by rfl) ?_)
            refine oQ [oF 0] [(4, vI 8)] (by kernel_rfl) ?_
            refine ops_nil (fin_then (st_ret (fin_ret_block (fin_ret_then (fin_ret_then (fin_ret_block (fin_ret_then ?_)))))))
            obtain hq_ := Option.some.inj hp
            subst hq_
            obtain hq_ := hd6 _ rfl
            subst hq_
            have hp : some 8 = some i9001 := hk6
            have hq_ := Option.some.inj hp
            have hr0_ := hq_
            subst hr0_
            refine fin_ret [.tmp 4] [vI 8] rfl rfl (fun w_ hM => (.tmp rfl .nil)) (fun w_ hM => ?_)
            exact ⟨F, W, (Ext.refl _ _ _), rfl, hM.pick 3 [2] (by kernel_rfl) (by decide) rfl⟩
           ·
            have hp := cnd_f hc66 hp
            refine st_skip (fin_block ?_)
            exact fin_join HJ7 () hp (look_has ⟨rfl, rfl, rfl, rfl, rfl, trivial⟩) (fun w_ hM => hM)
         ·
          have hp := cnd_f hc54 hp
          refine oQ [oF 5, oF 6, oF 7, oF 8, oF 9, oF 10, oF 11, oF 12, oF 13, oF 14, oF 15] [(111, .bool false), (0, sl A_k k c_k), (3, vP b1 0), (6, .map (some g9)), (92, vI (k.length : Int)), (93, vI i47)] (by kernel_rfl) ?_
          refine ops_nil (fin_then (st_false rfl (st_skip (fin_block ?_))))
          exact fin_join HJ7 () hp (look_has ⟨rfl, rfl, rfl, rfl, rfl, trivial⟩) (fun w_ hM => hM)
       ·
        have hp := cnd_f hc48 hp
        refine st_exit (fin_exit_then (fin_exit_then (fin_exit ?_)))
        obtain hq_ := Option.some.inj hp
        subst hq_
        obtain hq_ := hd6 _ rfl
        subst hq_
        have hp : (tourref3_SystemError_j3 k s_6 s_5 l13) = some i9001 := hk6
        exact fin_join HJ3 () hp (look_has ⟨rfl, rfl, rfl, trivial⟩) (fun w_ hM => hM)
     ·
      intro HJ2
      refine st_seq (st_seq (st_region [oF 0, oF 1, oF 2] (by rfl) ?_))
      refine oQ [oF 0, oF 1, oF 2] [(78, vI 0), (77, vI (k.length : Int)), (0, sl A_k k c_k), (3, vP b1 0), (6, .map (some g9))] (by kernel_rfl) ?_
      refine ops_nil (fin_then (st_block ?_))
      obtain ⟨r8, hl8, hk8⟩ := obind hp
      refine st_loopP (σ := Int) (ρ := (Int ⊕ Unit)) (γ := Unit) hl8 () (fun s_ g_ => match s_, g_ with | i67, _ => [(0, sl A_k k c_k), (3, vP b1 0), (6, .map (some g9)), (77, vI (k.length : Int)), (78, vI i67)]) (fun s_ g_ => match s_, g_ with | i67, _ => Mem w0 (.blk b1 [.string s_0, sl A_s_1 s_1 c_s_1, sl A_s_2 s_2 c_s_2, sl A_s_3 s_3 c_s_3, sl A_s_4 s_4 c_s_4, sl A_s_5 s_5 c_s_5, sl A_s_6 s_6 c_s_6] 96 :: .obj g9 (.map es11 ck12) :: Fz F W :: cs)) (fun s_ g_ => match s_, g_ with | i67, _ => True) trivial (look_has ⟨rfl, rfl, rfl, rfl, rfl, trivial⟩) (fun w_ hM => hM) ?_
      rintro i67 _ o8 - hs_ hd8
      have hp : (tourref3_SystemError_l8 k l13) i67 = some o8 := hs_
      clear hs_
      unfold tourref3_SystemError_l8 at hp
      refine st_seq (st_region [oF 0] (by rfl) ?_)
      refine oQ [oF 0] [(79, .bool (decide (i67 < (k.length : Int)))), (0, sl A_k k c_k), (3, vP b1 0), (6, .map (some g9)), (77, vI (k.length : Int)), (78, vI i67)] (by kernel_rfl) ?_
      refine ops_nil (fin_then (st_seq ?_))
      refine st_if (b := decide (i67 < (k.length : Int))) rfl (fun hc68 => ?_) (fun hc68 => ?_)
      ·
       have hp := cnd_t hc68 hp
       refine st_skip (fin_then ?_)
       refine st_join1 (σ := Unit) (L := fun _ => [(0, sl A_k k c_k), (3, vP b1 0), (6, .map (some g9)), (77, vI (k.length : Int)), (78, vI i67)]) (N := fun _ => Mem w0 (.blk b1 [.string s_0, sl A_s_1 s_1 c_s_1, sl A_s_2 s_2 c_s_2, sl A_s_3 s_3 c_s_3, sl A_s_4 s_4 c_s_4, sl A_s_5 s_5 c_s_5, sl A_s_6 s_6 c_s_6] 96 :: .obj g9 (.map es11 ck12) :: Fz F W :: cs)) (I := fun _ => ((tourref3_SystemError_j9 i67) = some o8)) ?_ ?_
       ·
        rintro _ hp
        unfold tourref3_SystemError_j9 at hp
        refine st_region [oF 0, oF 1] (by rfl) ?_
        refine oQ [oF 0, oF 1] [(78, vI (IntKind.i64.wrap (i67 + 1))), (0, sl A_k k c_k), (3, vP b1 0), (6, .map (some g9)), (77, vI (k.length : Int))] (by kernel_rfl) ?_
        refine ops_nil ?_
        exact fin_again (IntKind.i64.wrap (i67 + 1)) () (Option.some.inj hp).symm trivial (look_has ⟨rfl, rfl, rfl, rfl, rfl, trivial⟩) (fun w_ hM => hM)
       ·
        intro HJ9
        refine st_seq (st_block (st_seq (st_region [oF 0, oF 1] (by rfl) ?_)))
        refine oQ [oF 0, oF 1] [(12, vI i67), (0, sl A_k k c_k), (3, vP b1 0), (6, .map (some g9)), (77, vI (k.length : Int)), (78, vI i67)] (by kernel_rfl) ?_
        refine ops_nil (fin_then (st_seq (st_region [oF 0, oF 1, oF 2, oF 3, oF 4, oF 5, oF 6, oF 7, oF 8] (by rfl) ?_)))
        refine oQ [oF 0, oF 1] [(82, vI i67), (81, .map (some g9)), (12, vI i67), (0, sl A_k k c_k), (3, vP b1 0), (6, .map (some g9)), (77, vI (k.length : Int)), (78, vI i67)] (by kernel_rfl) ?_
        obtain ⟨x69, hv70, hp⟩ := obind hp
        obtain ⟨vs71, hr72, hrun73⟩ := h14.get (KeyLaw.int Tryd.underlying3) Tryd.underlying181 i67 false (rfl) (fun u_ => Tryd.zeroValue4 u_)
        have hr72 : Rep.bool.rd F W x69 vs71 := by rw [← Option.some.inj hv70]; exact hr72
        obtain rfl := hr72
        refine ops_law (op := (.lookup 181 (.tmp 81) (.tmp 82) false)) (d := some 83) (σ := Unit) (v := fun _ => .bool x69) (M' := fun _ => Mem w0 (.blk b1 [.string s_0, sl A_s_1 s_1 c_s_1, sl A_s_2 s_2 c_s_2, sl A_s_3 s_3 c_s_3, sl A_s_4 s_4 c_s_4, sl A_s_5 s_5 c_s_5, sl A_s_6 s_6 c_s_6] 96 :: .obj g9 (.map es11 ck12) :: Fz F W :: cs)) ⟨by kernel_rfl⟩ (fun o_ w_ ho_ hM hS => ⟨(), w_, run_lookupV rfl rfl (hrun73 false g9 w_ (hM.mapAt 1 rfl)) o_ ho_, hM, trivial⟩) (fun _ => ?_)
        refine oQ [oF 3] [(84, .bool x69), (12, vI i67), (0, sl A_k k c_k), (3, vP b1 0), (6, .map (some g9)), (77, vI (k.length : Int)), (78, vI i67)] (by kernel_rfl) ?_
        refine ops_bool (t := x69) (l1 := [(84, .bool true), (12, vI i67), (0, sl A_k k c_k), (3, vP b1 0), (6, .map (some g9)), (77, vI (k.length : Int)), (78, vI i67)]) (l2 := [(84, .bool false), (12, vI i67), (0, sl A_k k c_k), (3, vP b1 0), (6, .map (some g9)), (77, vI (k.length : Int)), (78, vI i67)]) (fun h => by rw [h]) (fun h => by rw [h]) (fun hc74 => ?_) (fun hc74 => ?_)
        ·
         have hp := cnd_t hc74 hp
         refine oQ [oF 4, oF 5, oF 6] [(87, vI (IntKind.i64.wrap (100 + i67))), (85, .map (some g9)), (84, .bool true), (0, sl A_k k c_k), (3, vP b1 0), (6, .map (some g9)), (77, vI (k.length : Int)), (78, vI i67)] (by kernel_rfl) ?_
         obtain ⟨x75, hv76, hp⟩ := obind hp
         obtain ⟨vs77, hr78, hrun79⟩ := h14.get (KeyLaw.int Tryd.underlying3) Tryd.underlying181 (IntKind.i64.wrap (100 + i67)) false (rfl) (fun u_ => Tryd.zeroValue4 u_)
         have hr78 : Rep.bool.rd F W x75 vs77 := by rw [← Option.some.inj hv76]; exact hr78
         obtain rfl := hr78
         refine ops_law (op := (.lookup 181 (.tmp 85) (.tmp 87) false)) (d := some 88) (σ := Unit) (v := fun _ => .bool x75) (M' := fun _ => Mem w0 (.blk b1 [.string s_0, sl A_s_1 s_1 c_s_1, sl A_s_2 s_2 c_s_2, sl A_s_3 s_3 c_s_3, sl A_s_4 s_4 c_s_4, sl A_s_5 s_5 c_s_5, sl A_s_6 s_6 c_s_6] 96 :: .obj g9 (.map es11 ck12) :: Fz F W :: cs)) ⟨by kernel_rfl⟩ (fun o_ w_ ho_ hM hS => ⟨(), w_, run_lookupV rfl rfl (hrun79 false g9 w_ (hM.mapAt 1 rfl)) o_ ho_, hM, trivial⟩) (fun _ => ?_)
         refine oQ [oF 8] [(89, .bool x75), (0, sl A_k k c_k), (3, vP b1 0), (6, .map (some g9)), (77, vI (k.length : Int)), (78, vI i67)] (by kernel_rfl) ?_
         refine ops_nil (fin_then ?_)
         refine st_if (b := x75) rfl (fun hc80 => ?_) (fun hc80 => ?_)
         ·
          have hp := cnd_t hc80 hp
          refine st_seq (st_region [oF 0] (by rfl) ?_)
          refine oQ [oF 0] [(4, vI 10)] (by kernel_rfl) ?_
          refine ops_nil (fin_then (st_ret (fin_ret_block (fin_ret_then (fin_ret_then (fin_ret_block (fin_ret_then ?_)))))))
          obtain hq_ := Option.some.inj hp
          subst hq_
          obtain hq_ := hd8 _ rfl
          subst hq_
          have hp : some 10 = some i9001 := hk8
          have hq_ := Option.some.inj hp
          have hr0_ := hq_
          subst hr0_
          refine fin_ret [.tmp 4] [vI 10] rfl rfl (fun w_ hM => (.tmp rfl .nil)) (fun w_ hM => ?_)
          exact ⟨F, W, (Ext.refl _ _ _), rfl, hM.pick 3 [2] (by kernel_rfl) (by decide) rfl⟩
         ·
          have hp := cnd_f hc80 hp
          refine st_skip (fin_block ?_)
          exact fin_join HJ9 () hp (look_has ⟨rfl, rfl, rfl, rfl, rfl, trivial⟩) (fun w_ hM => hM)
        ·
         have hp := cnd_f hc74 hp
         refine oQ [oF 4, oF 5, oF 6, oF 7, oF 8] [(89, .bool false), (0, sl A_k k c_k), (3, vP b1 0), (6, .map (some g9)), (77, vI (k.length : Int)), (78, vI i67)] (by kernel_rfl) ?_
         refine ops_nil (fin_then (st_false rfl (st_skip (fin_block ?_))))
         exact fin_join HJ9 () hp (look_has ⟨rfl, rfl, rfl, rfl, rfl, trivial⟩) (fun w_ hM => hM)
      ·
       have hp := cnd_f hc68 hp
       refine st_exit (fin_exit_then (fin_exit_then (fin_exit ?_)))
       obtain hq_ := Option.some.inj hp
       subst hq_
       obtain hq_ := hd8 _ rfl
       subst hq_
       have hp : (tourref3_SystemError_j2 k l13 s_6 s_5) = some i9001 := hk8
       exact fin_join HJ2 () hp (look_has ⟨rfl, rfl, rfl, trivial⟩) (fun w_ hM => hM)
    ·
     intro HJ1
     refine st_seq (st_seq (st_region [oF 0, oF 1, oF 2, oF 3, oF 4, oF 5, oF 6, oF 7, oF 8, oF 9, oF 10] (by rfl) ?_))
     refine oQ [oF 0] [(35, vP b1 1), (6, .map (some g9)), (3, vP b1 0), (0, sl A_k k c_k)] (by kernel_rfl) ?_
     refine ops_mem (d := some 36) (an := [.v (sl A_s_1 s_1 c_s_1)]) (evs := [ld b1 1 (sl A_s_1 s_1 c_s_1)]) (v := sl A_s_1 s_1 c_s_1) ⟨by kernel_rfl⟩ (fun w_ hM hS => ⟨w_, ⟨hM.cell 1 rfl rfl, rfl⟩, hM, trivial⟩) ?_
     refine oQ [oF 2] [(37, vP b1 2), (36, sl A_s_1 s_1 c_s_1), (6, .map (some g9)), (3, vP b1 0), (0, sl A_k k c_k)] (by kernel_rfl) ?_
     refine ops_mem (d := some 38) (an := [.v (sl A_s_2 s_2 c_s_2)]) (evs := [ld b1 2 (sl A_s_2 s_2 c_s_2)]) (v := sl A_s_2 s_2 c_s_2) ⟨by kernel_rfl⟩ (fun w_ hM hS => ⟨w_, ⟨hM.cell 1 rfl rfl, rfl⟩, hM, trivial⟩) ?_
     refine oQ [oF 4] [(39, vP b1 3), (38, sl A_s_2 s_2 c_s_2), (36, sl A_s_1 s_1 c_s_1), (6, .map (some g9)), (3, vP b1 0), (0, sl A_k k c_k)] (by kernel_rfl) ?_
     refine ops_mem (d := some 40) (an := [.v (sl A_s_3 s_3 c_s_3)]) (evs := [ld b1 3 (sl A_s_3 s_3 c_s_3)]) (v := sl A_s_3 s_3 c_s_3) ⟨by kernel_rfl⟩ (fun w_ hM hS => ⟨w_, ⟨hM.cell 1 rfl rfl, rfl⟩, hM, trivial⟩) ?_
     refine oQ [oF 6] [(41, vP b1 4), (40, sl A_s_3 s_3 c_s_3), (38, sl A_s_2 s_2 c_s_2), (36, sl A_s_1 s_1 c_s_1), (6, .map (some g9)), (3, vP b1 0), (0, sl A_k k c_k)] (by kernel_rfl) ?_
     refine ops_mem (d := some 42) (an := [.v (sl A_s_4 s_4 c_s_4)]) (evs := [ld b1 4 (sl A_s_4 s_4 c_s_4)]) (v := sl A_s_4 s_4 c_s_4) ⟨by kernel_rfl⟩ (fun w_ hM hS => ⟨w_, ⟨hM.cell 1 rfl rfl, rfl⟩, hM, trivial⟩) ?_
     have h81 : RepL (Rep.sl (Rep.int .i64)) F W ([s_1, s_2, s_3, s_4] : List (List Int)) ([sl A_s_1 s_1 c_s_1, sl A_s_2 s_2 c_s_2, sl A_s_3 s_3 c_s_3, sl A_s_4 s_4 c_s_4]) := (RepL.cons (R := (Rep.sl (Rep.int .i64))) (F := F) (w := W) (vs := [sl A_s_1 s_1 c_s_1]) (ys := [sl A_s_2 s_2 c_s_2, sl A_s_3 s_3 c_s_3, sl A_s_4 s_4 c_s_4]) (slrd h_s_1) (RepL.cons (R := (Rep.sl (Rep.int .i64))) (F := F) (w := W) (vs := [sl A_s_2 s_2 c_s_2]) (ys := [sl A_s_3 s_3 c_s_3, sl A_s_4 s_4 c_s_4]) (slrd h_s_2) (RepL.cons (R := (Rep.sl (Rep.int .i64))) (F := F) (w := W) (vs := [sl A_s_3 s_3 c_s_3]) (ys := [sl A_s_4 s_4 c_s_4]) (slrd h_s_3) (RepL.cons (R := (Rep.sl (Rep.int .i64))) (F := F) (w := W) (vs := [sl A_s_4 s_4 c_s_4]) (ys := []) (slrd h_s_4) RepL.nil))))
     refine ops_new (d := some 43) (o := .cells ([sl A_s_1 s_1 c_s_1, sl A_s_2 s_2 c_s_2, sl A_s_3 s_3 c_s_3, sl A_s_4 s_4 c_s_4] : List Value).toArray 44) (v := fun g82 => .slice (sa g82) ([s_1, s_2, s_3, s_4] : List (List Int)).length 4) (M' := fun g82 => Mem w0 (orow (sa g82) ([s_1, s_2, s_3, s_4] : List (List Int)).length 4 44 1 ([sl A_s_1 s_1 c_s_1, sl A_s_2 s_2 c_s_2, sl A_s_3 s_3 c_s_3, sl A_s_4 s_4 c_s_4]) :: .obj g9 (.map #[] 0) :: .blk b1 [.string s_0, sl A_s_1 s_1 c_s_1, sl A_s_2 s_2 c_s_2, sl A_s_3 s_3 c_s_3, sl A_s_4 s_4 c_s_4, sl A_s_5 s_5 c_s_5, sl A_s_6 s_6 c_s_6] 96 :: Fz F W :: cs)) (fun g82 => ⟨by kernel_rfl⟩) (fun w_ hM hS => ⟨hM.onew [sl A_s_1 s_1 c_s_1, sl A_s_2 s_2 c_s_2, sl A_s_3 s_3 c_s_3, sl A_s_4 s_4 c_s_4] 44 4 1 rfl (by decide), trivial⟩) (fun g82 => ?_)
     refine oQ [oF 9, oF 10] [(45, vI 0), (44, vI (([s_1, s_2, s_3, s_4] : List (List Int)).length : Int)), (43, .slice (sa g82) ([s_1, s_2, s_3, s_4] : List (List Int)).length 4), (6, .map (some g9)), (3, vP b1 0), (0, sl A_k k c_k)] (by kernel_rfl) ?_
     refine ops_nil (fin_then (st_block ?_))
     obtain ⟨r10, hl10, hk10⟩ := obind hp
     refine st_loopP (σ := (List (Int × Bool)) × Int) (ρ := (Int ⊕ (List (Int × Bool)))) (γ := (Array MapEntry) × Nat) hl10 (#[], 0) (fun s_ g_ => match s_, g_ with | (l85, i87), (es83, ck84) => [(0, sl A_k k c_k), (3, vP b1 0), (6, .map (some g9)), (43, .slice (sa g82) ([s_1, s_2, s_3, s_4] : List (List Int)).length 4), (44, vI (([s_1, s_2, s_3, s_4] : List (List Int)).length : Int)), (45, vI i87)]) (fun s_ g_ => match s_, g_ with | (l85, i87), (es83, ck84) => Mem w0 (.blk b1 [.string s_0, sl A_s_1 s_1 c_s_1, sl A_s_2 s_2 c_s_2, sl A_s_3 s_3 c_s_3, sl A_s_4 s_4 c_s_4, sl A_s_5 s_5 c_s_5, sl A_s_6 s_6 c_s_6] 96 :: .obj g9 (.map es83 ck84) :: orow (sa g82) ([s_1, s_2, s_3, s_4] : List (List Int)).length 4 44 1 ([sl A_s_1 s_1 c_s_1, sl A_s_2 s_2 c_s_2, sl A_s_3 s_3 c_s_3, sl A_s_4 s_4 c_s_4]) :: Fz F W :: cs)) (fun s_ g_ => match s_, g_ with | (l85, i87), (es83, ck84) => (MapOK (fun x_ : Int => Value.int .i64 x_) Rep.bool false F W l85 es83 ck84)) h10 (look_has ⟨rfl, rfl, rfl, rfl, rfl, rfl, trivial⟩) (fun w_ hM => hM.pick 4 [2, 1, 0, 3] (by kernel_rfl) (by decide) rfl) ?_
     rintro ⟨l85, i87⟩ ⟨es83, ck84⟩ o10 h86 hs_ hd10
     have hp : (tourref3_SystemError_l10 s_1 s_2 s_3 s_4 k) l85 i87 = some o10 := hs_
     clear hs_
     unfold tourref3_SystemError_l10 at hp
     refine st_seq (st_region [oF 0] (by rfl) ?_)
     refine oQ [oF 0] [(46, .bool (decide (i87 < (([s_1, s_2, s_3, s_4] : List (List Int)).length : Int)))), (0, sl A_k k c_k), (3, vP b1 0), (6, .map (some g9)), (43, .slice (sa g82) ([s_1, s_2, s_3, s_4] : List (List Int)).length 4), (44, vI (([s_1, s_2, s_3, s_4] : List (List Int)).length : Int)), (45, vI i87)] (by kernel_rfl) ?_
     refine ops_nil (fin_then (st_seq ?_))
     refine st_if (b := decide (i87 < (([s_1, s_2, s_3, s_4] : List (List Int)).length : Int))) rfl (fun hc88 => ?_) (fun hc88 => ?_)
     ·
      have hp := cnd_t hc88 hp
      refine st_skip (fin_then ?_)
      refine st_join1 (σ := (Array MapEntry) × Nat × (List (Int × Bool))) (L := fun x_ => match x_ with | (es89, ck90, l91) => [(0, sl A_k k c_k), (3, vP b1 0), (6, .map (some g9)), (43, .slice (sa g82) ([s_1, s_2, s_3, s_4] : List (List Int)).length 4), (44, vI (([s_1, s_2, s_3, s_4] : List (List Int)).length : Int)), (45, vI i87)]) (N := fun x_ => match x_ with | (es89, ck90, l91) => Mem w0 (.blk b1 [.string s_0, sl A_s_1 s_1 c_s_1, sl A_s_2 s_2 c_s_2, sl A_s_3 s_3 c_s_3, sl A_s_4 s_4 c_s_4, sl A_s_5 s_5 c_s_5, sl A_s_6 s_6 c_s_6] 96 :: .obj g9 (.map es89 ck90) :: orow (sa g82) ([s_1, s_2, s_3, s_4] : List (List Int)).length 4 44 1 ([sl A_s_1 s_1 c_s_1, sl A_s_2 s_2 c_s_2, sl A_s_3 s_3 c_s_3, sl A_s_4 s_4 c_s_4]) :: Fz F W :: cs)) (I := fun x_ => match x_ with | (es89, ck90, l91) => ((tourref3_SystemError_j11 i87) l91 = some o10) ∧ (MapOK (fun x_ : Int => Value.int .i64 x_) Rep.bool false F W l91 es89 ck90)) ?_ ?_
      ·
       rintro ⟨es89, ck90, l91⟩ ⟨hp, h92⟩
       unfold tourref3_SystemError_j11 at hp
       refine st_region [oF 0, oF 1] (by rfl) ?_
       refine oQ [oF 0, oF 1] [(45, vI (IntKind.i64.wrap (i87 + 1))), (0, sl A_k k c_k), (3, vP b1 0), (6, .map (some g9)), (43, .slice (sa g82) ([s_1, s_2, s_3, s_4] : List (List Int)).length 4), (44, vI (([s_1, s_2, s_3, s_4] : List (List Int)).length : Int))] (by kernel_rfl) ?_
       refine ops_nil ?_
       exact fin_again (l91, IntKind.i64.wrap (i87 + 1)) (es89, ck90) (Option.some.inj hp).symm h92 (look_has ⟨rfl, rfl, rfl, rfl, rfl, rfl, trivial⟩) (fun w_ hM => hM)
      ·
       intro HJ11
       refine st_seq (st_block (st_seq (st_region [oF 0, oF 1, oF 2, oF 3, oF 4] (by rfl) ?_)))
       refine oQ [oF 0] [(47, vI i87), (0, sl A_k k c_k), (3, vP b1 0), (6, .map (some g9)), (43, .slice (sa g82) ([s_1, s_2, s_3, s_4] : List (List Int)).length 4), (44, vI (([s_1, s_2, s_3, s_4] : List (List Int)).length : Int)), (45, vI i87)] (by kernel_rfl) ?_
       obtain ⟨x93, hv94, hp⟩ := obind hp
       obtain ⟨m95, hm96, hx97⟩ := idx_some hv94
       have hl100 := (List.getElem?_eq_some_iff.1 hx97).1
       obtain ⟨vs98, hr99, hq101⟩ := h81.at_ m95 x93 hx97
       obtain ⟨A102, c103, rfl, h104⟩ := hr99
       refine ops_val (op := (.indexAddr 172 (.tmp 43) (.tmp 45))) (d := some 48) (v := vP g82 (m95 * 1)) ⟨by kernel_rfl⟩ (run_indexRow Tryd.underlying172 (z := 1) (by kernel_rfl) rfl rfl hm96 hl100 rfl) ?_
       refine ops_mem (d := some 49) (an := [.v (sl A102 x93 c103)]) (evs := [.load ⟨g82, m95 * 1, none⟩ (sl A102 x93 c103)]) (v := sl A102 x93 c103) ⟨by kernel_rfl⟩ (fun w_ hM hS => ⟨w_, ⟨hM.ocell 2 rfl (hq101 0 _ rfl), rfl⟩, hM, trivial⟩) ?_
       refine oQ [oF 3, oF 4] [(8, sl A102 x93 c103), (7, vI i87), (0, sl A_k k c_k), (3, vP b1 0), (6, .map (some g9)), (43, .slice (sa g82) ([s_1, s_2, s_3, s_4] : List (List Int)).length 4), (44, vI (([s_1, s_2, s_3, s_4] : List (List Int)).length : Int)), (45, vI i87)] (by kernel_rfl) ?_
       refine ops_nil (fin_then (st_seq (st_region [oF 0] (by rfl) ?_)))
       refine oQ [oF 0] [(9, vI (-1)), (8, sl A102 x93 c103), (7, vI i87), (0, sl A_k k c_k), (3, vP b1 0), (6, .map (some g9)), (43, .slice (sa g82) ([s_1, s_2, s_3, s_4] : List (List Int)).length 4), (44, vI (([s_1, s_2, s_3, s_4] : List (List Int)).length : Int)), (45, vI i87)] (by kernel_rfl) ?_
       refine ops_nil (fin_then (st_seq (st_region [oF 0, oF 1, oF 2] (by rfl) ?_)))
       refine oQ [oF 0, oF 1, oF 2] [(52, vI 0), (51, vI (x93.length : Int)), (50, sl A102 x93 c103), (9, vI (-1)), (7, vI i87), (0, sl A_k k c_k), (3, vP b1 0), (6, .map (some g9)), (43, .slice (sa g82) ([s_1, s_2, s_3, s_4] : List (List Int)).length 4), (44, vI (([s_1, s_2, s_3, s_4] : List (List Int)).length : Int)), (45, vI i87)] (by kernel_rfl) ?_
       refine ops_nil (fin_then (st_block ?_))
       obtain ⟨r12, hl12, hk12⟩ := obind hp
       refine st_loopP (σ := (List (Int × Bool)) × Int × Int) (ρ := (Int ⊕ (List (Int × Bool)))) (γ := (Array MapEntry) × Nat) hl12 (es83, ck84) (fun s_ g_ => match s_, g_ with | (l107, i109, i110), (es105, ck106) => [(0, sl A_k k c_k), (3, vP b1 0), (6, .map (some g9)), (7, vI i87), (9, vI i109), (43, .slice (sa g82) ([s_1, s_2, s_3, s_4] : List (List Int)).length 4), (44, vI (([s_1, s_2, s_3, s_4] : List (List Int)).length : Int)), (45, vI i87), (50, sl A102 x93 c103), (51, vI (x93.length : Int)), (52, vI i110)]) (fun s_ g_ => match s_, g_ with | (l107, i109, i110), (es105, ck106) => Mem w0 (.blk b1 [.string s_0, sl A_s_1 s_1 c_s_1, sl A_s_2 s_2 c_s_2, sl A_s_3 s_3 c_s_3, sl A_s_4 s_4 c_s_4, sl A_s_5 s_5 c_s_5, sl A_s_6 s_6 c_s_6] 96 :: .obj g9 (.map es105 ck106) :: orow (sa g82) ([s_1, s_2, s_3, s_4] : List (List Int)).length 4 44 1 ([sl A_s_1 s_1 c_s_1, sl A_s_2 s_2 c_s_2, sl A_s_3 s_3 c_s_3, sl A_s_4 s_4 c_s_4]) :: Fz F W :: cs)) (fun s_ g_ => match s_, g_ with | (l107, i109, i110), (es105, ck106) => (MapOK (fun x_ : Int => Value.int .i64 x_) Rep.bool false F W l107 es105 ck106)) h86 (look_has ⟨rfl, rfl, rfl, rfl, rfl, rfl, rfl, rfl, rfl, rfl, rfl, trivial⟩) (fun w_ hM => hM) ?_
       rintro ⟨l107, i109, i110⟩ ⟨es105, ck106⟩ o12 h108 hs_ hd12
       have hp : (tourref3_SystemError_l12 x93 k i87) l107 i109 i110 = some o12 := hs_
       clear hs_
       unfold tourref3_SystemError_l12 at hp
       refine st_seq (st_region [oF 0] (by rfl) ?_)
       refine oQ [oF 0] [(53, .bool (decide (i110 < (x93.length : Int)))), (0, sl A_k k c_k), (3, vP b1 0), (6, .map (some g9)), (7, vI i87), (9, vI i109), (43, .slice (sa g82) ([s_1, s_2, s_3, s_4] : List (List Int)).length 4), (44, vI (([s_1, s_2, s_3, s_4] : List (List Int)).length : Int)), (45, vI i87), (50, sl A102 x93 c103), (51, vI (x93.length : Int)), (52, vI i110)] (by kernel_rfl) ?_
       refine ops_nil (fin_then (st_seq ?_))
       refine st_if (b := decide (i110 < (x93.length : Int))) rfl (fun hc111 => ?_) (fun hc111 => ?_)
       ·
        have hp := cnd_t hc111 hp
        refine st_skip (fin_then (st_seq (st_block (st_seq (st_region [oF 0, oF 1, oF 2] (by rfl) ?_)))))
        obtain ⟨x112, hv113, hp⟩ := obind hp
        obtain ⟨m114, hm115, hx116⟩ := idx_some hv113
        have hl119 := (List.getElem?_eq_some_iff.1 hx116).1
        obtain ⟨ad120, vs117, hA121, hr118, hq122⟩ := RdS.el h104 hx116
        obtain rfl := hr118
        refine ops_val (op := (.indexAddr 44 (.tmp 50) (.tmp 52))) (d := some 54) (v := .pointer (some (ad120.add (m114 * 1)))) ⟨by kernel_rfl⟩ (run_indexA hA121 Tryd.underlying44 (z := 1) (by kernel_rfl) rfl rfl hm115 hl119) ?_
        refine ops_mem (d := some 55) (an := [.v (vI x112)]) (evs := [.load (ad120.add (m114 * 1)) (vI x112)]) (v := vI x112) ⟨by kernel_rfl⟩ (fun w_ hM hS => ⟨w_, ⟨hM.elcell 3 rfl hq122 0 rfl, rfl⟩, hM, trivial⟩) ?_
        refine oQ [oF 2] [(11, vI x112), (0, sl A_k k c_k), (3, vP b1 0), (6, .map (some g9)), (7, vI i87), (9, vI i109), (43, .slice (sa g82) ([s_1, s_2, s_3, s_4] : List (List Int)).length 4), (44, vI (([s_1, s_2, s_3, s_4] : List (List Int)).length : Int)), (45, vI i87), (50, sl A102 x93 c103), (51, vI (x93.length : Int)), (52, vI i110)] (by kernel_rfl) ?_
        refine ops_nil (fin_then (st_seq (st_seq (st_region [oF 0, oF 1, oF 2, oF 3, oF 4, oF 5, oF 6, oF 7, oF 8] (by rfl) ?_))))
        refine oQ [oF 0, oF 1, oF 2] [(58, .bool (decide (x112 < 0))), (11, vI x112), (0, sl A_k k c_k), (3, vP b1 0), (6, .map (some g9)), (7, vI i87), (9, vI i109), (43, .slice (sa g82) ([s_1, s_2, s_3, s_4] : List (List Int)).length 4), (44, vI (([s_1, s_2, s_3, s_4] : List (List Int)).length : Int)), (45, vI i87), (50, sl A102 x93 c103), (51, vI (x93.length : Int)), (52, vI i110)] (by kernel_rfl) ?_
        refine ops_bool (t := decide (x112 < 0)) (l1 := [(58, .bool true), (11, vI x112), (0, sl A_k k c_k), (3, vP b1 0), (6, .map (some g9)), (7, vI i87), (9, vI i109), (43, .slice (sa g82) ([s_1, s_2, s_3, s_4] : List (List Int)).length 4), (44, vI (([s_1, s_2, s_3, s_4] : List (List Int)).length : Int)), (45, vI i87), (50, sl A102 x93 c103), (51, vI (x93.length : Int)), (52, vI i110)]) (l2 := [(58, .bool false), (11, vI x112), (0, sl A_k k c_k), (3, vP b1 0), (6, .map (some g9)), (7, vI i87), (9, vI i109), (43, .slice (sa g82) ([s_1, s_2, s_3, s_4] : List (List Int)).length 4), (44, vI (([s_1, s_2, s_3, s_4] : List (List Int)).length : Int)), (45, vI i87), (50, sl A102 x93 c103), (51, vI (x93.length : Int)), (52, vI i110)]) (fun h => by rw [h]) (fun h => by rw [h]) (fun hc123 => ?_) (fun hc123 => ?_)
        ·
         have hp := cnd_t hc123 hp
         refine oQ [oF 3, oF 4, oF 5, oF 6, oF 7, oF 8] [(64, .bool true), (11, vI x112), (0, sl A_k k c_k), (3, vP b1 0), (6, .map (some g9)), (7, vI i87), (9, vI i109), (43, .slice (sa g82) ([s_1, s_2, s_3, s_4] : List (List Int)).length 4), (44, vI (([s_1, s_2, s_3, s_4] : List (List Int)).length : Int)), (45, vI i87), (50, sl A102 x93 c103), (51, vI (x93.length : Int)), (52, vI i110)] (by kernel_rfl) ?_
         refine ops_nil (fin_then (st_true rfl (st_seq (st_region [oF 0] (by rfl) ?_))))
         refine oQ [oF 0] [(4, vI 1)] (by kernel_rfl) ?_
         refine ops_nil (fin_then (st_ret (fin_ret_then (fin_ret_block (fin_ret_then (fin_ret_then (fin_ret_block (fin_ret_block (fin_ret_then (fin_ret_then (fin_ret_block (fin_ret_then ?_))))))))))))
         obtain hq_ := Option.some.inj hp
         subst hq_
         obtain hq_ := hd12 _ rfl
         subst hq_
         have hp : some (.inr (.inl 1)) = some o10 := hk12
         obtain hq_ := Option.some.inj hp
         subst hq_
         obtain hq_ := hd10 _ rfl
         subst hq_
         have hp : some 1 = some i9001 := hk10
         have hq_ := Option.some.inj hp
         have hr0_ := hq_
         subst hr0_
         refine fin_ret [.tmp 4] [vI 1] rfl rfl (fun w_ hM => (.tmp rfl .nil)) (fun w_ hM => ?_)
         exact ⟨F, W, (Ext.refl _ _ _), rfl, hM.pick 4 [3] (by kernel_rfl) (by decide) rfl⟩
        ·
         have hp := cnd_f hc123 hp
         refine oQ [oF 3, oF 4, oF 5, oF 6, oF 7, oF 8] [(64, .bool (decide (IntKind.i64.wrap ((k.length : Int) - 1) < x112))), (11, vI x112), (0, sl A_k k c_k), (3, vP b1 0), (6, .map (some g9)), (7, vI i87), (9, vI i109), (43, .slice (sa g82) ([s_1, s_2, s_3, s_4] : List (List Int)).length 4), (44, vI (([s_1, s_2, s_3, s_4] : List (List Int)).length : Int)), (45, vI i87), (50, sl A102 x93 c103), (51, vI (x93.length : Int)), (52, vI i110)] (by kernel_rfl) ?_
         refine ops_nil (fin_then ?_)
         refine st_if (b := decide (IntKind.i64.wrap ((k.length : Int) - 1) < x112)) rfl (fun hc124 => ?_) (fun hc124 => ?_)
         ·
          have hp := cnd_t hc124 hp
          refine st_seq (st_region [oF 0] (by rfl) ?_)
          refine oQ [oF 0] [(4, vI 1)] (by kernel_rfl) ?_
          refine ops_nil (fin_then (st_ret (fin_ret_then (fin_ret_block (fin_ret_then (fin_ret_then (fin_ret_block (fin_ret_block (fin_ret_then (fin_ret_then (fin_ret_block (fin_ret_then ?_))))))))))))
          obtain hq_ := Option.some.inj hp
          subst hq_
          obtain hq_ := hd12 _ rfl
          subst hq_
          have hp : some (.inr (.inl 1)) = some o10 := hk12
          obtain hq_ := Option.some.inj hp
          subst hq_
          obtain hq_ := hd10 _ rfl
          subst hq_
          have hp : some 1 = some i9001 := hk10
          have hq_ := Option.some.inj hp
          have hr0_ := hq_
          subst hr0_
          refine fin_ret [.tmp 4] [vI 1] rfl rfl (fun w_ hM => (.tmp rfl .nil)) (fun w_ hM => ?_)
          exact ⟨F, W, (Ext.refl _ _ _), rfl, hM.pick 4 [3] (by kernel_rfl) (by decide) rfl⟩
         ·
          have hp := cnd_f hc124 hp
          refine st_skip (fin_then (st_seq (st_seq (st_region [oF 0, oF 1, oF 2] (by rfl) ?_))))
          refine oQ [oF 0, oF 1, oF 2] [(67, .bool (decide (x112 ≤ i109))), (11, vI x112), (0, sl A_k k c_k), (3, vP b1 0), (6, .map (some g9)), (7, vI i87), (43, .slice (sa g82) ([s_1, s_2, s_3, s_4] : List (List Int)).length 4), (44, vI (([s_1, s_2, s_3, s_4] : List (List Int)).length : Int)), (45, vI i87), (50, sl A102 x93 c103), (51, vI (x93.length : Int)), (52, vI i110)] (by kernel_rfl) ?_
          refine ops_nil (fin_then ?_)
          refine st_if (b := decide (x112 ≤ i109)) rfl (fun hc125 => ?_) (fun hc125 => ?_)
          ·
           have hp := cnd_t hc125 hp
           refine st_seq (st_region [oF 0] (by rfl) ?_)
           refine oQ [oF 0] [(4, vI 9)] (by kernel_rfl) ?_
           refine ops_nil (fin_then (st_ret (fin_ret_then (fin_ret_block (fin_ret_then (fin_ret_then (fin_ret_block (fin_ret_block (fin_ret_then (fin_ret_then (fin_ret_block (fin_ret_then ?_))))))))))))
           obtain hq_ := Option.some.inj hp
           subst hq_
           obtain hq_ := hd12 _ rfl
           subst hq_
           have hp : some (.inr (.inl 9)) = some o10 := hk12
           obtain hq_ := Option.some.inj hp
           subst hq_
           obtain hq_ := hd10 _ rfl
           subst hq_
           have hp : some 9 = some i9001 := hk10
           have hq_ := Option.some.inj hp
           have hr0_ := hq_
           subst hr0_
           refine fin_ret [.tmp 4] [vI 9] rfl rfl (fun w_ hM => (.tmp rfl .nil)) (fun w_ hM => ?_)
           exact ⟨F, W, (Ext.refl _ _ _), rfl, hM.pick 4 [3] (by kernel_rfl) (by decide) rfl⟩
          ·
           have hp := cnd_f hc125 hp
           refine st_skip (fin_then (st_seq (st_region [oF 0, oF 1] (by rfl) ?_)))
           refine oQ [oF 0, oF 1] [(9, vI x112), (11, vI x112), (0, sl A_k k c_k), (3, vP b1 0), (6, .map (some g9)), (7, vI i87), (43, .slice (sa g82) ([s_1, s_2, s_3, s_4] : List (List Int)).length 4), (44, vI (([s_1, s_2, s_3, s_4] : List (List Int)).length : Int)), (45, vI i87), (50, sl A102 x93 c103), (51, vI (x93.length : Int)), (52, vI i110)] (by kernel_rfl) ?_
           refine ops_nil (fin_then (st_region [oF 0, oF 1, oF 2, oF 3, oF 4, oF 5] (by rfl) ?_))
           refine oQ [oF 0, oF 1, oF 2, oF 3, oF 4] [(73, vI (IntKind.i64.wrap (IntKind.i64.wrap (100 * i87) + x112))), (69, .map (some g9)), (9, vI x112), (0, sl A_k k c_k), (3, vP b1 0), (6, .map (some g9)), (7, vI i87), (43, .slice (sa g82) ([s_1, s_2, s_3, s_4] : List (List Int)).length 4), (44, vI (([s_1, s_2, s_3, s_4] : List (List Int)).length : Int)), (45, vI i87), (50, sl A102 x93 c103), (51, vI (x93.length : Int)), (52, vI i110)] (by kernel_rfl) ?_
           obtain ⟨l126, hv127, hp⟩ := obind hp
           obtain ⟨es128, ck129, h130, hrun131⟩ := MapOK.update h108 (KeyLaw.int Tryd.underlying3) Tryd.underlying181 (IntKind.i64.wrap (IntKind.i64.wrap (100 * i87) + x112)) (v := true) (vs := [.bool true]) (rfl)
           rw [Option.some.inj hv127] at h130
           refine ops_unit (op := (.mapUpdate 181 (.tmp 69) (.tmp 73) (.const (Go.Value.bool true)))) (σ := Unit) (M' := fun _ => Mem w0 (.blk b1 [.string s_0, sl A_s_1 s_1 c_s_1, sl A_s_2 s_2 c_s_2, sl A_s_3 s_3 c_s_3, sl A_s_4 s_4 c_s_4, sl A_s_5 s_5 c_s_5, sl A_s_6 s_6 c_s_6] 96 :: .obj g9 (.map es128 ck129) :: orow (sa g82) ([s_1, s_2, s_3, s_4] : List (List Int)).length 4 44 1 ([sl A_s_1 s_1 c_s_1, sl A_s_2 s_2 c_s_2, sl A_s_3 s_3 c_s_3, sl A_s_4 s_4 c_s_4]) :: Fz F W :: cs)) ⟨by kernel_rfl⟩ (fun o_ w_ ho_ hM hS => have h' := hM.setObj 1 rfl _; ⟨(), _, run_updateV rfl rfl rfl (hrun131 g9 w_ (hM.mapAt 1 rfl)) o_ ho_, h', trivial⟩) (fun _ => ?_)
           refine ops_nil (fin_block (fin_then (st_region [oF 0, oF 1] (by rfl) ?_)))
           refine oQ [oF 0, oF 1] [(52, vI (IntKind.i64.wrap (i110 + 1))), (9, vI x112), (0, sl A_k k c_k), (3, vP b1 0), (6, .map (some g9)), (7, vI i87), (43, .slice (sa g82) ([s_1, s_2, s_3, s_4] : List (List Int)).length 4), (44, vI (([s_1, s_2, s_3, s_4] : List (List Int)).length : Int)), (45, vI i87), (50, sl A102 x93 c103), (51, vI (x93.length : Int))] (by kernel_rfl) ?_
           refine ops_nil ?_
           exact fin_again (l126, x112, IntKind.i64.wrap (i110 + 1)) (es128, ck129) (Option.some.inj hp).symm h130 (look_has ⟨rfl, rfl, rfl, rfl, rfl, rfl, rfl, rfl, rfl, rfl, rfl, trivial⟩) (fun w_ hM => hM)
       ·
        have hp := cnd_f hc111 hp
        refine st_exit (fin_exit_then (fin_exit_then (fin_exit (fin_block ?_))))
        obtain hq_ := Option.some.inj hp
        subst hq_
        obtain hq_ := hd12 _ rfl
        subst hq_
        have hp : (tourref3_SystemError_j11 i87) l107 = some o10 := hk12
        exact fin_join HJ11 (es105, ck106, l107) ⟨hp, h108⟩ (look_has ⟨rfl, rfl, rfl, rfl, rfl, rfl, trivial⟩) (fun w_ hM => hM)
     ·
      have hp := cnd_f hc88 hp
      refine st_exit (fin_exit_then (fin_exit_then (fin_exit ?_)))
      obtain hq_ := Option.some.inj hp
      subst hq_
      obtain hq_ := hd10 _ rfl
      subst hq_
      have hp : (tourref3_SystemError_j1 k s_6 s_5) l85 = some i9001 := hk10
      exact fin_join HJ1 (es83, ck84, l85) ⟨hp, h86⟩ (look_has ⟨rfl, rfl, rfl, trivial⟩) (fun w_ hM => hM.pick 4 [0, 1, 3] (by kernel_rfl) (by decide) rfl)
end Go.Proofs.YtnnhijlgohlaeaaDoor.D
