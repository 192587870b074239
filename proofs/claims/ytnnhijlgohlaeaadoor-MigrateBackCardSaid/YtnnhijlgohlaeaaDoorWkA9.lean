/- The Go functions come to what the plain functions tell. No condition. -/
import Derived.Test.YtnnhijlgohlaeaaDoorProg
import Derived.Test.YtnnhijlgohlaeaaDoorFnA
import Derived.Test.YtnnhijlgohlaeaaDoorWkA7
import Derived.Test.YtnnhijlgohlaeaaDoorWkA8
import Derived.Test.YtnnhijlgohlaeaaDoorExOwnM
namespace Go.Proofs.YtnnhijlgohlaeaaDoor.A
open Go Go.RowKit Go.Proofs.YtnnhijlgohlaeaaDoor.Sx
set_option linter.unusedVariables false
set_option maxHeartbeats 4000000
set_option maxRecDepth 100000
theorem tourref3_KindsAfter_ok (w0 w : World) (cs : List Chunk) (F : Nat → Prop) (W : World) (A_k : Option Addr) (c_k : Nat) (k : List api_Kind) (m_0 : Int) (m_1 : ByteArray) (m_2 : ByteArray) (m_3 : ByteArray) (m_4 : Int) (m_5 : ByteArray) (m_6 : Int) (m_7 : Int) (m_8 : ByteArray) (A_m_9 : Option Addr) (c_m_9 : Nat) (m_9 : List api_Field) (hM0 : Mem w0 (Fz F W :: cs) w) (h_k : RdS R_api_Kind F W A_k c_k k) (h_m_9 : RdS R_api_Field F W A_m_9 c_m_9 m_9) (l9003 : List api_Kind) (i9006 : Int) (hp : tourref3_KindsAfter k m_0 m_1 m_2 m_3 m_4 m_5 m_6 m_7 m_8 m_9 = some (l9003, i9006)) : Calls Tryd.prog 13 #[sl A_k k c_k, .agg #[vI m_0, .string m_1, .string m_2, .string m_3, vI m_4, .string m_5, vI m_6, vI m_7, .string m_8, sl A_m_9 m_9 c_m_9]] w fun e w' => ∃ (A9001 : Option Addr), ∃ (c9002 : Nat), ∃ (y9004 : List Value), ∃ (F9007 : Nat → Prop), ∃ (W9008 : World), ((RepL R_api_Kind F9007 W9008 l9003 y9004) ∧ (Ext w0 F W F9007 W9008)) ∧ e = .returned (.tuple #[sl A9001 l9003 c9002, vI i9006]) ∧ Mem w0 (ow A9001 l9003 c9002 35 2 y9004 :: Fz F9007 W9008 :: cs) w' := by
 unfold tourref3_KindsAfter at hp
 refine sx_calls Tryd.func13 rfl (n := 165) (by kernel_rfl) (l := [(0, sl A_k k c_k), (1, .agg #[vI m_0, .string m_1, .string m_2, .string m_3, vI m_4, .string m_5, vI m_6, vI m_7, .string m_8, sl A_m_9 m_9 c_m_9])]) rfl (by rfl) hM0 ?_
 refine st_seq (st_region [oF 0, oF 1, oF 2] (by rfl) ?_)
 refine ops_newB (d := some 3) [vI m_0, .string m_1, .string m_2, .string m_3, vI m_4, .string m_5, vI m_6, vI m_7, .string m_8, sl A_m_9 m_9 c_m_9] 37 (fun b1 => ⟨by kernel_rfl⟩) (fun w_ hM hS => trivial) (fun b1 => ?_)
 refine oQ [oF 1, oF 2] [(3, vP b1 0), (0, sl A_k k c_k)] (by kernel_rfl) ?_
 refine ops_nil (fin_then (st_seq (st_seq (st_region [oF 0, oF 1, oF 2, oF 3, oF 4, oF 5, oF 6, oF 7] (by rfl) ?_))))
 refine oQ [oF 0] [(16, vP b1 0), (3, vP b1 0), (0, sl A_k k c_k)] (by kernel_rfl) ?_
 refine ops_mem (d := some 17) (an := [.v (vI m_0)]) (evs := [ld b1 0 (vI m_0)]) (v := vI m_0) ⟨by kernel_rfl⟩ (fun w_ hM hS => ⟨w_, ⟨hM.cell 0 rfl rfl, rfl⟩, hM, trivial⟩) ?_
 refine oQ [oF 2, oF 3] [(19, .bool (decide (m_0 < 0))), (3, vP b1 0), (0, sl A_k k c_k)] (by kernel_rfl) ?_
 refine ops_bool (t := decide (m_0 < 0)) (l1 := [(19, .bool true), (3, vP b1 0), (0, sl A_k k c_k)]) (l2 := [(19, .bool false), (3, vP b1 0), (0, sl A_k k c_k)]) (fun h => by rw [h]) (fun h => by rw [h]) (fun hc2 => ?_) (fun hc2 => ?_)
 ·
  have hp := cnd_t hc2 hp
  refine oQ [oF 4, oF 5, oF 6, oF 7] [(23, .bool true), (3, vP b1 0), (0, sl A_k k c_k)] (by kernel_rfl) ?_
  refine ops_nil (fin_then (st_true rfl (st_seq (st_region [oF 0, oF 1] (by rfl) ?_))))
  refine oQ [oF 0, oF 1] [(5, vI 1), (4, .slice none 0 0)] (by kernel_rfl) ?_
  refine ops_nil (fin_then (st_ret (fin_ret_then ?_)))
  refine fin_conv (l' := [(5, vI 1), (4, .slice none 0 0)]) (M' := Mem w0 (ow none ([] : List api_Kind) 0 35 2 [] :: .blk b1 [vI m_0, .string m_1, .string m_2, .string m_3, vI m_4, .string m_5, vI m_6, vI m_7, .string m_8, sl A_m_9 m_9 c_m_9] 37 :: Fz F W :: cs)) rfl (fun w_ h => h.onil none 35 2) ?_
  refine fin_conv (l' := [(5, vI 1), (4, sl none ([] : List api_Kind) 0)]) (M' := Mem w0 (ow none ([] : List api_Kind) 0 35 2 [] :: .blk b1 [vI m_0, .string m_1, .string m_2, .string m_3, vI m_4, .string m_5, vI m_6, vI m_7, .string m_8, sl A_m_9 m_9 c_m_9] 37 :: Fz F W :: cs)) rfl (fun _ h => h) ?_
  have hq_ := Option.some.inj hp
  obtain ⟨hr0_, hq_⟩ := Prod.mk.inj hq_
  have hr1_ := hq_
  subst hr0_
  subst hr1_
  refine fin_ret [.tmp 4, .tmp 5] [sl none ([] : List api_Kind) 0, vI 1] rfl rfl (fun w_ hM => (.tmp rfl (.tmp rfl .nil))) (fun w_ hM => ?_)
  exact ⟨none, 0, [], F, W, ⟨(RepL.nil (R := R_api_Kind)), (Ext.refl _ _ _)⟩, rfl, hM.pick 3 [0, 2] (by kernel_rfl) (by decide) rfl⟩
 ·
  have hp := cnd_f hc2 hp
  refine oQ [oF 4] [(20, vP b1 0), (19, .bool false), (3, vP b1 0), (0, sl A_k k c_k)] (by kernel_rfl) ?_
  refine ops_mem (d := some 21) (an := [.v (vI m_0)]) (evs := [ld b1 0 (vI m_0)]) (v := vI m_0) ⟨by kernel_rfl⟩ (fun w_ hM hS => ⟨w_, ⟨hM.cell 0 rfl rfl, rfl⟩, hM, trivial⟩) ?_
  refine oQ [oF 6, oF 7] [(23, .bool (decide (6 < m_0))), (3, vP b1 0), (0, sl A_k k c_k)] (by kernel_rfl) ?_
  refine ops_nil (fin_then ?_)
  refine st_if (b := decide (6 < m_0)) rfl (fun hc3 => ?_) (fun hc3 => ?_)
  ·
   have hp := cnd_t hc3 hp
   refine st_seq (st_region [oF 0, oF 1] (by rfl) ?_)
   refine oQ [oF 0, oF 1] [(5, vI 1), (4, .slice none 0 0)] (by kernel_rfl) ?_
   refine ops_nil (fin_then (st_ret (fin_ret_then ?_)))
   refine fin_conv (l' := [(5, vI 1), (4, .slice none 0 0)]) (M' := Mem w0 (ow none ([] : List api_Kind) 0 35 2 [] :: .blk b1 [vI m_0, .string m_1, .string m_2, .string m_3, vI m_4, .string m_5, vI m_6, vI m_7, .string m_8, sl A_m_9 m_9 c_m_9] 37 :: Fz F W :: cs)) rfl (fun w_ h => h.onil none 35 2) ?_
   refine fin_conv (l' := [(5, vI 1), (4, sl none ([] : List api_Kind) 0)]) (M' := Mem w0 (ow none ([] : List api_Kind) 0 35 2 [] :: .blk b1 [vI m_0, .string m_1, .string m_2, .string m_3, vI m_4, .string m_5, vI m_6, vI m_7, .string m_8, sl A_m_9 m_9 c_m_9] 37 :: Fz F W :: cs)) rfl (fun _ h => h) ?_
   have hq_ := Option.some.inj hp
   obtain ⟨hr0_, hq_⟩ := Prod.mk.inj hq_
   have hr1_ := hq_
   subst hr0_
   subst hr1_
   refine fin_ret [.tmp 4, .tmp 5] [sl none ([] : List api_Kind) 0, vI 1] rfl rfl (fun w_ hM => (.tmp rfl (.tmp rfl .nil))) (fun w_ hM => ?_)
   exact ⟨none, 0, [], F, W, ⟨(RepL.nil (R := R_api_Kind)), (Ext.refl _ _ _)⟩, rfl, hM.pick 3 [0, 2] (by kernel_rfl) (by decide) rfl⟩
  ·
   have hp := cnd_f hc3 hp
   refine st_skip (fin_then (st_seq (st_region [oF 0, oF 1, oF 2, oF 3, oF 4, oF 5, oF 6, oF 7, oF 8, oF 9, oF 10] (by rfl) ?_)))
   refine oQ [oF 0, oF 1] [(26, vP b1 1), (25, sl A_k k c_k), (3, vP b1 0), (0, sl A_k k c_k)] (by kernel_rfl) ?_
   refine ops_mem (d := some 27) (an := [.v (.string m_1)]) (evs := [ld b1 1 (.string m_1)]) (v := .string m_1) ⟨by kernel_rfl⟩ (fun w_ hM hS => ⟨w_, ⟨hM.cell 0 rfl rfl, rfl⟩, hM, trivial⟩) ?_
   refine oQ [oF 3] [(28, vP b1 2), (27, .string m_1), (25, sl A_k k c_k), (3, vP b1 0), (0, sl A_k k c_k)] (by kernel_rfl) ?_
   refine ops_mem (d := some 29) (an := [.v (.string m_2)]) (evs := [ld b1 2 (.string m_2)]) (v := .string m_2) ⟨by kernel_rfl⟩ (fun w_ hM hS => ⟨w_, ⟨hM.cell 0 rfl rfl, rfl⟩, hM, trivial⟩) ?_
   obtain ⟨x4, x5, hv6, hp⟩ := obind2 hp
   refine ops_callI (σ := Unit) (d := some 30) (f := 47) (args := #[sl A_k k c_k, .string m_1, .string m_2]) (v := (fun _ => .tuple #[vI x4, vI x5])) (I := (fun _ => True)) (M' := (fun _ => Mem w0 (.blk b1 [vI m_0, .string m_1, .string m_2, .string m_3, vI m_4, .string m_5, vI m_6, vI m_7, .string m_8, sl A_m_9 m_9 c_m_9] 37 :: Fz F W :: cs))) ⟨by kernel_rfl⟩ (fun w_ hM hS => (tourref3_where_ok w0 w_ (.blk b1 [vI m_0, .string m_1, .string m_2, .string m_3, vI m_4, .string m_5, vI m_6, vI m_7, .string m_8, sl A_m_9 m_9 c_m_9] 37 :: cs) F W A_k c_k k m_1 m_2 (hM.pick 2 [1, 0] (by kernel_rfl) (by decide) rfl) h_k x4 x5 hv6).mono (by rintro e w' ⟨-, rfl, h'⟩; have h' : Mem w0 (.blk b1 [vI m_0, .string m_1, .string m_2, .string m_3, vI m_4, .string m_5, vI m_6, vI m_7, .string m_8, sl A_m_9 m_9 c_m_9] 37 :: Fz F W :: cs) w' := (h'.pick 2 [1, 0] (by kernel_rfl) (by decide) rfl); exact ⟨(), trivial, rfl, h', trivial⟩)) ?_
   rintro _ -
   refine oQ [oF 6, oF 7, oF 8, oF 9, oF 10] [(7, vI x5), (6, vI x4), (3, vP b1 0), (0, sl A_k k c_k)] (by kernel_rfl) ?_
   refine ops_nil (fin_then ?_)
   refine st_join1 (σ := Unit) (L := fun _ => [(0, sl A_k k c_k), (3, vP b1 0), (6, vI x4), (7, vI x5)]) (N := fun _ => Mem w0 (.blk b1 [vI m_0, .string m_1, .string m_2, .string m_3, vI m_4, .string m_5, vI m_6, vI m_7, .string m_8, sl A_m_9 m_9 c_m_9] 37 :: Fz F W :: cs)) (I := fun _ => ((tourref3_KindsAfter_j1 k x4 m_0 m_6 m_7 m_3 x5 m_5 m_8 m_9) = some (l9003, i9006))) ?_ ?_
   ·
    rintro _ hp
    unfold tourref3_KindsAfter_j1 at hp
    refine st_seq (st_region [oF 0] (by rfl) ?_)
    refine oQ [oF 0] [(8, .slice none 0 0), (0, sl A_k k c_k), (3, vP b1 0), (6, vI x4), (7, vI x5)] (by kernel_rfl) ?_
    refine ops_nil (fin_then ?_)
    refine st_join1 (σ := (Option Addr) × Nat × (List api_Kind) × (List Value) × (Nat → Prop) × World) (L := fun x_ => match x_ with | (A7, c8, l9, y10, F12, W13) => [(3, vP b1 0), (8, sl A7 l9 c8)]) (N := fun x_ => match x_ with | (A7, c8, l9, y10, F12, W13) => Mem w0 (.blk b1 [vI m_0, .string m_1, .string m_2, .string m_3, vI m_4, .string m_5, vI m_6, vI m_7, .string m_8, sl A_m_9 m_9 c_m_9] 37 :: ow A7 l9 c8 35 2 y10 :: Fz F12 W13 :: cs)) (I := fun x_ => match x_ with | (A7, c8, l9, y10, F12, W13) => ((tourref3_KindsAfter_j2 m_0 m_8 m_9) l9 = some (l9003, i9006)) ∧ (RepL R_api_Kind F12 W13 l9 y10) ∧ (Ext w0 F W F12 W13)) ?_ ?_
    ·
     rintro ⟨A7, c8, l9, y10, F12, W13⟩ ⟨hp, h11, hx2⟩
     have h_m_9 := h_m_9.ext hx2
     unfold tourref3_KindsAfter_j2 at hp
     refine st_join1 (σ := (Option Addr) × Nat × (List api_Kind) × (List Value)) (L := fun x_ => match x_ with | (A14, c15, l16, y17) => [(8, sl A14 l16 c15)]) (N := fun x_ => match x_ with | (A14, c15, l16, y17) => Mem w0 (ow A14 l16 c15 35 2 y17 :: Fz F12 W13 :: cs)) (I := fun x_ => match x_ with | (A14, c15, l16, y17) => (tourref3_KindsAfter_j3 l16 = some (l9003, i9006)) ∧ (RepL R_api_Kind F12 W13 l16 y17)) ?_ ?_
     ·
      rintro ⟨A14, c15, l16, y17⟩ ⟨hp, h18⟩
      unfold tourref3_KindsAfter_j3 at hp
      refine st_seq (st_seq (st_region [oF 0, oF 1, oF 2] (by rfl) ?_))
      refine oQ [oF 0] [(159, sl A14 l16 c15), (8, sl A14 l16 c15)] (by kernel_rfl) ?_
      obtain ⟨x19, hv20, hp⟩ := obind hp
      refine ops_callI (σ := Unit) (d := some 160) (f := 46) (args := #[sl A14 l16 c15]) (v := (fun _ => vI x19)) (I := (fun _ => True)) (M' := (fun _ => Mem w0 (ow A14 l16 c15 35 2 y17 :: Fz F12 W13 :: cs))) ⟨by kernel_rfl⟩ (fun w_ hM hS => (tourref3_KindsError_ok w_ w_ [] (fun b => b < w_.heap.size) w_ A14 c15 l16 (Mem.fz0 w_) (hM.ordS 0 1 rfl rfl h18 rfl rfl) x19 hv20).mono (by rintro e w' ⟨-, rfl, h'⟩; have h' : Mem w_ [] w' := h'.pick 1 [] (by kernel_rfl) (by decide) rfl; exact ⟨(), trivial, rfl, hM.join h' rfl, trivial⟩)) ?_
      rintro _ -
      refine oQ [oF 2] [(15, vI x19), (8, sl A14 l16 c15)] (by kernel_rfl) ?_
      refine ops_nil (fin_then (st_seq (st_region [oF 0, oF 1] (by rfl) ?_)))
      refine oQ [oF 0, oF 1] [(162, .bool (!(x19 == 0))), (15, vI x19), (8, sl A14 l16 c15)] (by kernel_rfl) ?_
      refine ops_nil (fin_then ?_)
      refine st_if (b := !(x19 == 0)) rfl (fun hc21 => ?_) (fun hc21 => ?_)
      ·
       have hp := cnd_t hc21 hp
       refine st_seq (st_region [oF 0, oF 1, oF 2] (by rfl) ?_)
       refine oQ [oF 0, oF 1, oF 2] [(5, vI x19), (4, .slice none 0 0)] (by kernel_rfl) ?_
       refine ops_nil (fin_then (st_ret (fin_ret_then ?_)))
       refine fin_conv (l' := [(5, vI x19), (4, .slice none 0 0)]) (M' := Mem w0 (ow none ([] : List api_Kind) 0 35 2 [] :: ow A14 l16 c15 35 2 y17 :: Fz F12 W13 :: cs)) rfl (fun w_ h => h.onil none 35 2) ?_
       refine fin_conv (l' := [(5, vI x19), (4, sl none ([] : List api_Kind) 0)]) (M' := Mem w0 (ow none ([] : List api_Kind) 0 35 2 [] :: ow A14 l16 c15 35 2 y17 :: Fz F12 W13 :: cs)) rfl (fun _ h => h) ?_
       have hq_ := Option.some.inj hp
       obtain ⟨hr0_, hq_⟩ := Prod.mk.inj hq_
       have hr1_ := hq_
       subst hr0_
       subst hr1_
       refine fin_ret [.tmp 4, .tmp 5] [sl none ([] : List api_Kind) 0, vI x19] rfl rfl (fun w_ hM => (.tmp rfl (.tmp rfl .nil))) (fun w_ hM => ?_)
       exact ⟨none, 0, [], F12, W13, ⟨(RepL.nil (R := R_api_Kind)), hx2⟩, rfl, hM.pick 3 [0, 2] (by kernel_rfl) (by decide) rfl⟩
      ·
       have hp := cnd_f hc21 hp
       refine st_skip (fin_then (st_seq (st_region [oF 0, oF 1, oF 2] (by rfl) ?_)))
       refine oQ [oF 0, oF 1, oF 2] [(5, vI 0), (4, sl A14 l16 c15)] (by kernel_rfl) ?_
       refine ops_nil (fin_then (st_ret ?_))
       have hq_ := Option.some.inj hp
       obtain ⟨hr0_, hq_⟩ := Prod.mk.inj hq_
       have hr1_ := hq_
       subst hr0_
       subst hr1_
       refine fin_ret [.tmp 4, .tmp 5] [sl A14 l16 c15, vI 0] rfl rfl (fun w_ hM => (.tmp rfl (.tmp rfl .nil))) (fun w_ hM => ?_)
       exact ⟨A14, c15, y17, F12, W13, ⟨h18, hx2⟩, rfl, hM⟩
     ·
      intro HJ3
      refine st_seq (st_seq (st_region [oF 0, oF 1, oF 2] (by rfl) ?_))
      refine oQ [oF 0] [(151, vP b1 0), (3, vP b1 0), (8, sl A7 l9 c8)] (by kernel_rfl) ?_
      refine ops_mem (d := some 152) (an := [.v (vI m_0)]) (evs := [ld b1 0 (vI m_0)]) (v := vI m_0) ⟨by kernel_rfl⟩ (fun w_ hM hS => ⟨w_, ⟨hM.cell 0 rfl rfl, rfl⟩, hM, trivial⟩) ?_
      refine oQ [oF 2] [(153, .bool (m_0 == 0)), (3, vP b1 0), (8, sl A7 l9 c8)] (by kernel_rfl) ?_
      refine ops_nil (fin_then ?_)
      refine st_if (b := (m_0 == 0)) rfl (fun hc22 => ?_) (fun hc22 => ?_)
      ·
       have hp := cnd_t hc22 hp
       refine st_region [oF 0, oF 1, oF 2, oF 3, oF 4, oF 5] (by rfl) ?_
       refine oQ [oF 0, oF 1] [(155, vP b1 8), (154, sl A7 l9 c8), (8, sl A7 l9 c8)] (by kernel_rfl) ?_
       refine ops_mem (d := some 156) (an := [.v (.string m_8), .v (sl A_m_9 m_9 c_m_9)]) (evs := [ld b1 8 (.string m_8), ld b1 9 (sl A_m_9 m_9 c_m_9)]) (v := .agg #[.string m_8, sl A_m_9 m_9 c_m_9]) ⟨by kernel_rfl⟩ (fun w_ hM hS => ⟨w_, ⟨hM.cell 0 rfl rfl, hM.cell 0 rfl rfl, rfl⟩, hM, trivial⟩) ?_
       have h23 : RepL R_api_Kind F12 W13 ([(api_Kind.mk m_8 m_9)] : List api_Kind) ([.string m_8, sl A_m_9 m_9 c_m_9]) := (RepL.cons (R := R_api_Kind) (F := F12) (w := W13) (vs := [.string m_8, sl A_m_9 m_9 c_m_9]) (ys := []) (enc_api_Kind h_m_9) RepL.nil)
       refine ops_new (d := some 157) (o := .cells ([.string m_8, sl A_m_9 m_9 c_m_9]).toArray 35) (v := fun g24 => .slice (sa g24) ([(api_Kind.mk m_8 m_9)] : List api_Kind).length 1) (M' := fun g24 => Mem w0 (orow (sa g24) ([(api_Kind.mk m_8 m_9)] : List api_Kind).length 1 35 2 ([.string m_8, sl A_m_9 m_9 c_m_9]) :: .blk b1 [vI m_0, .string m_1, .string m_2, .string m_3, vI m_4, .string m_5, vI m_6, vI m_7, .string m_8, sl A_m_9 m_9 c_m_9] 37 :: ow A7 l9 c8 35 2 y10 :: Fz F12 W13 :: cs)) (fun g24 => ⟨by kernel_rfl⟩) (fun w_ hM hS => ⟨hM.onew [.string m_8, sl A_m_9 m_9 c_m_9] 35 1 2 rfl (by decide), trivial⟩) (fun g24 => ?_)
       obtain ⟨l25, hv26, hp⟩ := obind hp
       obtain ⟨he27, hb28⟩ := app_some hv26
       obtain ⟨y29, hy30⟩ : ∃ y_, y10 ++ ([.string m_8, sl A_m_9 m_9 c_m_9]) = y_ := ⟨_, rfl⟩
       have h31 : RepL R_api_Kind F12 W13 l25 y29 := by rw [he27, ← hy30]; exact RepL.app h11 h23
       refine ops_appendO (x := (Go.Operand.tmp 154)) (y := (Go.Operand.tmp 157)) (t := 22) (e := 35) (d := some 158) (n' := l25.length) (z := 2) (m := ([(api_Kind.mk m_8 m_9)] : List api_Kind).length) (bytes := 40) (xs' := y29) (news := ([.string m_8, sl A_m_9 m_9 c_m_9])) (zv := .agg #[.string ByteArray.empty, .slice none 0 0]) 2 ⟨by kernel_rfl⟩ rfl rfl Tryd.underlying22 (by kernel_rfl) (by rfl) rfl (fun w_ hM => hM.srcO 0 rfl) h23.len h23.one hb28 (by have z_ := congrArg List.length he27; rw [List.length_append] at z_; exact z_.symm) hy30 (fun _ _ _ _ hS h' => trivial) ?_
       rintro ⟨A32, c33⟩
       refine oQ [oF 5] [(8, sl A32 l25 c33)] (by kernel_rfl) ?_
       refine ops_nil ?_
       exact fin_join HJ3 (A32, c33, l25, y29) ⟨hp, h31⟩ (look_has ⟨rfl, trivial⟩) (fun w_ hM => hM.pick 4 [2, 3] (by kernel_rfl) (by decide) rfl)
      ·
       have hp := cnd_f hc22 hp
       refine st_skip ?_
       exact fin_join HJ3 (A7, c8, l9, y10) ⟨hp, h11⟩ (look_has ⟨rfl, trivial⟩) (fun w_ hM => hM.pick 3 [1, 2] (by kernel_rfl) (by decide) rfl)
    ·
     intro HJ2
     refine st_seq (st_seq (st_region [oF 0, oF 1, oF 2] (by rfl) ?_))
     refine oQ [oF 0, oF 1, oF 2] [(51, vI 0), (50, vI (k.length : Int)), (49, sl A_k k c_k), (8, .slice none 0 0), (3, vP b1 0), (6, vI x4), (7, vI x5)] (by kernel_rfl) ?_
     refine ops_nil (fin_then (st_block ?_))
     refine st_conv (l' := [(51, vI 0), (50, vI (k.length : Int)), (49, sl A_k k c_k), (8, .slice none 0 0), (3, vP b1 0), (6, vI x4), (7, vI x5)]) (M' := Mem w0 (ow none ([] : List api_Kind) 0 35 2 [] :: .blk b1 [vI m_0, .string m_1, .string m_2, .string m_3, vI m_4, .string m_5, vI m_6, vI m_7, .string m_8, sl A_m_9 m_9 c_m_9] 37 :: Fz F W :: cs)) rfl (fun w_ h => h.onil none 35 2) ?_
     obtain ⟨r4, hl4, hk4⟩ := obind hp
     refine st_loopP (σ := (List api_Kind) × Int) (ρ := (List api_Kind)) (γ := (Option Addr) × Nat × (List Value) × (Nat → Prop) × World) hl4 (none, 0, [], F, W) (fun s_ g_ => match s_, g_ with | (l36, i39), (A34, c35, y37, F40, W41) => [(3, vP b1 0), (6, vI x4), (7, vI x5), (8, sl A34 l36 c35), (49, sl A_k k c_k), (50, vI (k.length : Int)), (51, vI i39)]) (fun s_ g_ => match s_, g_ with | (l36, i39), (A34, c35, y37, F40, W41) => Mem w0 (.blk b1 [vI m_0, .string m_1, .string m_2, .string m_3, vI m_4, .string m_5, vI m_6, vI m_7, .string m_8, sl A_m_9 m_9 c_m_9] 37 :: ow A34 l36 c35 35 2 y37 :: Fz F40 W41 :: cs)) (fun s_ g_ => match s_, g_ with | (l36, i39), (A34, c35, y37, F40, W41) => (RepL R_api_Kind F40 W41 l36 y37) ∧ (Ext w0 F W F40 W41)) ⟨(RepL.nil (R := R_api_Kind)), (Ext.refl _ _ _)⟩ (look_has ⟨rfl, rfl, rfl, rfl, rfl, rfl, rfl, trivial⟩) (fun w_ hM => hM.pick 3 [1, 0, 2] (by kernel_rfl) (by decide) rfl) ?_
     rintro ⟨l36, i39⟩ ⟨A34, c35, y37, F40, W41⟩ o4 ⟨h38, hx4⟩ hs_ hd4
     have hp : (tourref3_KindsAfter_l4 k x4 m_0 m_6 m_7 m_3 x5 m_5) l36 i39 = some o4 := hs_
     clear hs_
     unfold tourref3_KindsAfter_l4 at hp
     have h_k := h_k.ext hx4
     have h_m_9 := h_m_9.ext hx4
     refine st_seq (st_region [oF 0] (by rfl) ?_)
     refine oQ [oF 0] [(52, .bool (decide (i39 < (k.length : Int)))), (3, vP b1 0), (6, vI x4), (7, vI x5), (8, sl A34 l36 c35), (49, sl A_k k c_k), (50, vI (k.length : Int)), (51, vI i39)] (by kernel_rfl) ?_
     refine ops_nil (fin_then (st_seq ?_))
     refine st_if (b := decide (i39 < (k.length : Int))) rfl (fun hc42 => ?_) (fun hc42 => ?_)
     ·
      have hp := cnd_t hc42 hp
      refine st_skip (fin_then ?_)
      refine st_join1 (σ := (Option Addr) × Nat × (List api_Kind) × (List Value) × (Nat → Prop) × World) (L := fun x_ => match x_ with | (A43, c44, l45, y46, F48, W49) => [(3, vP b1 0), (6, vI x4), (7, vI x5), (8, sl A43 l45 c44), (49, sl A_k k c_k), (50, vI (k.length : Int)), (51, vI i39)]) (N := fun x_ => match x_ with | (A43, c44, l45, y46, F48, W49) => Mem w0 (.blk b1 [vI m_0, .string m_1, .string m_2, .string m_3, vI m_4, .string m_5, vI m_6, vI m_7, .string m_8, sl A_m_9 m_9 c_m_9] 37 :: ow A43 l45 c44 35 2 y46 :: Fz F48 W49 :: cs)) (I := fun x_ => match x_ with | (A43, c44, l45, y46, F48, W49) => ((tourref3_KindsAfter_j5 i39) l45 = some o4) ∧ (RepL R_api_Kind F48 W49 l45 y46) ∧ (Ext w0 F40 W41 F48 W49)) ?_ ?_
      ·
       rintro ⟨A43, c44, l45, y46, F48, W49⟩ ⟨hp, h47, hx5⟩
       have h_k := h_k.ext hx5
       have h_m_9 := h_m_9.ext hx5
       unfold tourref3_KindsAfter_j5 at hp
       refine st_region [oF 0, oF 1] (by rfl) ?_
       refine oQ [oF 0, oF 1] [(51, vI (IntKind.i64.wrap (i39 + 1))), (3, vP b1 0), (6, vI x4), (7, vI x5), (8, sl A43 l45 c44), (49, sl A_k k c_k), (50, vI (k.length : Int))] (by kernel_rfl) ?_
       refine ops_nil ?_
       exact fin_again (l45, IntKind.i64.wrap (i39 + 1)) (A43, c44, y46, F48, W49) (Option.some.inj hp).symm ⟨h47, (hx4.trans hx5)⟩ (look_has ⟨rfl, rfl, rfl, rfl, rfl, rfl, rfl, trivial⟩) (fun w_ hM => hM)
      ·
       intro HJ5
       refine st_seq (st_block (st_seq (st_region [oF 0, oF 1, oF 2, oF 3, oF 4, oF 5] (by rfl) ?_)))
       refine oQ [oF 0] [(53, vI i39), (3, vP b1 0), (6, vI x4), (7, vI x5), (8, sl A34 l36 c35), (49, sl A_k k c_k), (50, vI (k.length : Int)), (51, vI i39)] (by kernel_rfl) ?_
       obtain ⟨x50, hv51, hp⟩ := obind hp
       obtain ⟨m52, hm53, hx54⟩ := idx_some hv51
       have hl57 := (List.getElem?_eq_some_iff.1 hx54).1
       obtain ⟨ad58, vs55, hA59, hr56, hq60⟩ := RdS.el h_k hx54
       obtain ⟨A61, c62, rfl, h63⟩ := dec_api_Kind hr56
       refine ops_val (op := (.indexAddr 22 (.tmp 49) (.tmp 51))) (d := some 54) (v := .pointer (some (ad58.add (m52 * 2)))) ⟨by kernel_rfl⟩ (run_indexA hA59 Tryd.underlying22 (z := 2) (by kernel_rfl) rfl rfl hm53 hl57) ?_
       refine ops_mem (d := some 55) (an := [.v (.string x50.Name), .v (sl A61 x50.Fields c62)]) (evs := [.load (ad58.add (m52 * 2)) (.string x50.Name), .load ((ad58.add (m52 * 2)).add 1) (sl A61 x50.Fields c62)]) (v := .agg #[.string x50.Name, sl A61 x50.Fields c62]) ⟨by kernel_rfl⟩ (fun w_ hM hS => ⟨w_, ⟨hM.elcell 2 rfl hq60 0 rfl, hM.elcell 2 rfl hq60 1 rfl, rfl⟩, hM, trivial⟩) ?_
       refine ops_newB (d := some 10) [.string ByteArray.empty, .slice none 0 0] 35 (fun b64 => ⟨by kernel_rfl⟩) (fun w_ hM hS => trivial) (fun b64 => ?_)
       refine oQ [oF 4] [(9, vI i39), (10, vP b64 0), (55, .agg #[.string x50.Name, sl A61 x50.Fields c62]), (3, vP b1 0), (6, vI x4), (7, vI x5), (8, sl A34 l36 c35), (49, sl A_k k c_k), (50, vI (k.length : Int)), (51, vI i39)] (by kernel_rfl) ?_
       refine ops_store (an := []) (evs := [sr b64 0 (.string x50.Name), sr b64 1 (sl A61 x50.Fields c62)]) ⟨by kernel_rfl⟩ (fun w_ hM hS => let ⟨w', he, h'⟩ := hM.evs_stores [.string x50.Name, sl A61 x50.Fields c62] 0 rfl 0 (Nat.le_of_ble_eq_true rfl); ⟨w', he, h', trivial⟩) ?_
       refine ops_nil (fin_then (st_seq (st_region [oF 0, oF 1, oF 2, oF 3, oF 4] (by rfl) ?_)))
       refine oQ [oF 0] [(56, vP b64 0), (9, vI i39), (10, vP b64 0), (3, vP b1 0), (6, vI x4), (7, vI x5), (8, sl A34 l36 c35), (49, sl A_k k c_k), (50, vI (k.length : Int)), (51, vI i39)] (by kernel_rfl) ?_
       refine ops_mem (d := some 57) (an := [.v (.string x50.Name)]) (evs := [ld b64 0 (.string x50.Name)]) (v := .string x50.Name) ⟨by kernel_rfl⟩ (fun w_ hM hS => ⟨w_, ⟨hM.cell 0 rfl rfl, rfl⟩, hM, trivial⟩) ?_
       refine oQ [oF 2] [(58, .agg #[.string x50.Name, .slice none 0 0]), (9, vI i39), (10, vP b64 0), (3, vP b1 0), (6, vI x4), (7, vI x5), (8, sl A34 l36 c35), (49, sl A_k k c_k), (50, vI (k.length : Int)), (51, vI i39)] (by kernel_rfl) ?_
       refine ops_newB (d := some 11) [.string ByteArray.empty, .slice none 0 0] 35 (fun b65 => ⟨by kernel_rfl⟩) (fun w_ hM hS => trivial) (fun b65 => ?_)
       refine ops_store (an := []) (evs := [sr b65 0 (.string x50.Name), sr b65 1 (.slice none 0 0)]) ⟨by kernel_rfl⟩ (fun w_ hM hS => let ⟨w', he, h'⟩ := hM.evs_stores [.string x50.Name, .slice none 0 0] 0 rfl 0 (Nat.le_of_ble_eq_true rfl); ⟨w', he, h', trivial⟩) ?_
       refine ops_nil (fin_then ?_)
       refine st_join1 (σ := (Option Addr) × Nat × (List api_Field) × (List Value)) (L := fun x_ => match x_ with | (A66, c67, l68, y69) => [(3, vP b1 0), (6, vI x4), (7, vI x5), (8, sl A34 l36 c35), (9, vI i39), (11, vP b65 0), (49, sl A_k k c_k), (50, vI (k.length : Int)), (51, vI i39)]) (N := fun x_ => match x_ with | (A66, c67, l68, y69) => Mem w0 (.blk b1 [vI m_0, .string m_1, .string m_2, .string m_3, vI m_4, .string m_5, vI m_6, vI m_7, .string m_8, sl A_m_9 m_9 c_m_9] 37 :: ow A34 l36 c35 35 2 y37 :: .blk b65 [.string x50.Name, sl A66 l68 c67] 35 :: ow A66 l68 c67 32 3 y69 :: Fz F40 W41 :: cs)) (I := fun x_ => match x_ with | (A66, c67, l68, y69) => ((tourref3_KindsAfter_j6 i39 x4 m_0 m_5 m_6 m_7 l36 m_3 x50) l68 = some o4) ∧ (RepL R_api_Field F40 W41 l68 y69)) ?_ ?_
       ·
        rintro ⟨A66, c67, l68, y69⟩ ⟨hp, h70⟩
        unfold tourref3_KindsAfter_j6 at hp
        refine st_join1 (σ := (Option Addr) × Nat × (List api_Field) × (List Value)) (L := fun x_ => match x_ with | (A71, c72, l73, y74) => [(3, vP b1 0), (6, vI x4), (7, vI x5), (8, sl A34 l36 c35), (9, vI i39), (11, vP b65 0), (49, sl A_k k c_k), (50, vI (k.length : Int)), (51, vI i39)]) (N := fun x_ => match x_ with | (A71, c72, l73, y74) => Mem w0 (.blk b1 [vI m_0, .string m_1, .string m_2, .string m_3, vI m_4, .string m_5, vI m_6, vI m_7, .string m_8, sl A_m_9 m_9 c_m_9] 37 :: ow A34 l36 c35 35 2 y37 :: .blk b65 [.string x50.Name, sl A71 l73 c72] 35 :: ow A71 l73 c72 32 3 y74 :: Fz F40 W41 :: cs)) (I := fun x_ => match x_ with | (A71, c72, l73, y74) => ((tourref3_KindsAfter_j7 i39 x4 m_0 l36 m_3 x50) l73 = some o4) ∧ (RepL R_api_Field F40 W41 l73 y74)) ?_ ?_
        ·
         rintro ⟨A71, c72, l73, y74⟩ ⟨hp, h75⟩
         unfold tourref3_KindsAfter_j7 at hp
         refine st_join1 (σ := ByteArray) (L := fun x_ => match x_ with | u76 => [(3, vP b1 0), (6, vI x4), (7, vI x5), (8, sl A34 l36 c35), (9, vI i39), (11, vP b65 0), (49, sl A_k k c_k), (50, vI (k.length : Int)), (51, vI i39)]) (N := fun x_ => match x_ with | u76 => Mem w0 (.blk b1 [vI m_0, .string m_1, .string m_2, .string m_3, vI m_4, .string m_5, vI m_6, vI m_7, .string m_8, sl A_m_9 m_9 c_m_9] 37 :: ow A34 l36 c35 35 2 y37 :: .blk b65 [.string u76, sl A71 l73 c72] 35 :: ow A71 l73 c72 32 3 y74 :: Fz F40 W41 :: cs)) (I := fun x_ => match x_ with | u76 => ((tourref3_KindsAfter_j8 i39 x4 l36 l73 m_0) u76 = some o4)) ?_ ?_
         ·
          rintro u76 hp
          unfold tourref3_KindsAfter_j8 at hp
          refine st_seq (st_region [oF 0, oF 1, oF 2, oF 3, oF 4, oF 5, oF 6, oF 7] (by rfl) ?_)
          refine oQ [oF 0, oF 1, oF 2, oF 3] [(141, .bool (!(i39 == x4))), (3, vP b1 0), (6, vI x4), (7, vI x5), (8, sl A34 l36 c35), (11, vP b65 0), (49, sl A_k k c_k), (50, vI (k.length : Int)), (51, vI i39)] (by kernel_rfl) ?_
          refine ops_bool (t := !(i39 == x4)) (l1 := [(141, .bool true), (3, vP b1 0), (6, vI x4), (7, vI x5), (8, sl A34 l36 c35), (11, vP b65 0), (49, sl A_k k c_k), (50, vI (k.length : Int)), (51, vI i39)]) (l2 := [(141, .bool false), (3, vP b1 0), (6, vI x4), (7, vI x5), (8, sl A34 l36 c35), (11, vP b65 0), (49, sl A_k k c_k), (50, vI (k.length : Int)), (51, vI i39)]) (fun h => by rw [h]) (fun h => by rw [h]) (fun hc77 => ?_) (fun hc77 => ?_)
          ·
           have hp := cnd_t hc77 hp
           refine oQ [oF 4, oF 5, oF 6, oF 7] [(145, .bool true), (3, vP b1 0), (6, vI x4), (7, vI x5), (8, sl A34 l36 c35), (11, vP b65 0), (49, sl A_k k c_k), (50, vI (k.length : Int)), (51, vI i39)] (by kernel_rfl) ?_
           refine ops_nil (fin_then (st_true rfl (st_region [oF 0, oF 1, oF 2, oF 3, oF 4] (by rfl) ?_)))
           refine oQ [oF 0] [(146, sl A34 l36 c35), (3, vP b1 0), (6, vI x4), (7, vI x5), (8, sl A34 l36 c35), (11, vP b65 0), (49, sl A_k k c_k), (50, vI (k.length : Int)), (51, vI i39)] (by kernel_rfl) ?_
           refine ops_mem (d := some 147) (an := [.v (.string u76), .v (sl A71 l73 c72)]) (evs := [ld b65 0 (.string u76), ld b65 1 (sl A71 l73 c72)]) (v := .agg #[.string u76, sl A71 l73 c72]) ⟨by kernel_rfl⟩ (fun w_ hM hS => ⟨w_, ⟨hM.cell 2 rfl rfl, hM.cell 2 rfl rfl, rfl⟩, hM, trivial⟩) ?_
           refine ops_ex (σ := (Nat → Prop) × World) (I := fun x_ => Ext w0 F40 W41 x_.1 x_.2 ∧ RdS R_api_Field x_.1 x_.2 A71 c72 l73) (M' := fun x_ => Mem w0 (.blk b1 [vI m_0, .string m_1, .string m_2, .string m_3, vI m_4, .string m_5, vI m_6, vI m_7, .string m_8, sl A_m_9 m_9 c_m_9] 37 :: ow A34 l36 c35 35 2 y37 :: .blk b65 [.string u76, sl A71 l73 c72] 35 :: Fz x_.1 x_.2 :: cs)) (fun w_ hM => ?_) ?_
           · obtain ⟨F_, h1_, h2_, h3_⟩ := (hM.pick 5 [3, 4, 0, 1, 2] (by kernel_rfl) (by decide) rfl : Mem w0 (ow A71 l73 c72 32 3 y74 :: Fz F40 W41 :: .blk b1 [vI m_0, .string m_1, .string m_2, .string m_3, vI m_4, .string m_5, vI m_6, vI m_7, .string m_8, sl A_m_9 m_9 c_m_9] 37 :: ow A34 l36 c35 35 2 y37 :: .blk b65 [.string u76, sl A71 l73 c72] 35 :: cs) w_).freeze (z := 3) h75 rfl rfl
             exact ⟨(F_, w_), ⟨h1_, h2_⟩, h3_.pick 4 [1, 2, 3, 0] (by kernel_rfl) (by decide) rfl⟩
           rintro ⟨F78, W79⟩ ⟨hx80, h81⟩
           have hx80 : Ext w0 F40 W41 F78 W79 := hx80
           have h81 : RdS R_api_Field F78 W79 A71 c72 l73 := h81
           have h_k := h_k.ext hx80
           have h_m_9 := h_m_9.ext hx80
           have h38 := h38.ext hx80
           have h82 : RepL R_api_Kind F78 W79 ([(api_Kind.mk u76 l73)] : List api_Kind) ([.string u76, sl A71 l73 c72]) := (RepL.cons (R := R_api_Kind) (F := F78) (w := W79) (vs := [.string u76, sl A71 l73 c72]) (ys := []) (enc_api_Kind h81) RepL.nil)
           refine ops_new (d := some 148) (o := .cells ([.string u76, sl A71 l73 c72]).toArray 35) (v := fun g83 => .slice (sa g83) ([(api_Kind.mk u76 l73)] : List api_Kind).length 1) (M' := fun g83 => Mem w0 (orow (sa g83) ([(api_Kind.mk u76 l73)] : List api_Kind).length 1 35 2 ([.string u76, sl A71 l73 c72]) :: .blk b1 [vI m_0, .string m_1, .string m_2, .string m_3, vI m_4, .string m_5, vI m_6, vI m_7, .string m_8, sl A_m_9 m_9 c_m_9] 37 :: ow A34 l36 c35 35 2 y37 :: .blk b65 [.string u76, sl A71 l73 c72] 35 :: Fz F78 W79 :: cs)) (fun g83 => ⟨by kernel_rfl⟩) (fun w_ hM hS => ⟨hM.onew [.string u76, sl A71 l73 c72] 35 1 2 rfl (by decide), trivial⟩) (fun g83 => ?_)
           obtain ⟨l84, hv85, hp⟩ := obind hp
           obtain ⟨he86, hb87⟩ := app_some hv85
           obtain ⟨y88, hy89⟩ : ∃ y_, y37 ++ ([.string u76, sl A71 l73 c72]) = y_ := ⟨_, rfl⟩
           have h90 : RepL R_api_Kind F78 W79 l84 y88 := by rw [he86, ← hy89]; exact RepL.app h38 h82
           refine ops_appendO (x := (Go.Operand.tmp 146)) (y := (Go.Operand.tmp 148)) (t := 22) (e := 35) (d := some 149) (n' := l84.length) (z := 2) (m := ([(api_Kind.mk u76 l73)] : List api_Kind).length) (bytes := 40) (xs' := y88) (news := ([.string u76, sl A71 l73 c72])) (zv := .agg #[.string ByteArray.empty, .slice none 0 0]) 2 ⟨by kernel_rfl⟩ rfl rfl Tryd.underlying22 (by kernel_rfl) (by rfl) rfl (fun w_ hM => hM.srcO 0 rfl) h82.len h82.one hb87 (by have z_ := congrArg List.length he86; rw [List.length_append] at z_; exact z_.symm) hy89 (fun _ _ _ _ hS h' => trivial) ?_
           rintro ⟨A91, c92⟩
           refine oQ [oF 4] [(8, sl A91 l84 c92), (3, vP b1 0), (6, vI x4), (7, vI x5), (49, sl A_k k c_k), (50, vI (k.length : Int)), (51, vI i39)] (by kernel_rfl) ?_
           refine ops_nil (fin_block ?_)
           exact fin_join HJ5 (A91, c92, l84, y88, F78, W79) ⟨hp, h90, hx80⟩ (look_has ⟨rfl, rfl, rfl, rfl, rfl, rfl, rfl, trivial⟩) (fun w_ hM => hM.pick 5 [1, 2, 4] (by kernel_rfl) (by decide) rfl)
          ·
           have hp := cnd_f hc77 hp
           refine oQ [oF 4] [(142, vP b1 0), (141, .bool false), (3, vP b1 0), (6, vI x4), (7, vI x5), (8, sl A34 l36 c35), (11, vP b65 0), (49, sl A_k k c_k), (50, vI (k.length : Int)), (51, vI i39)] (by kernel_rfl) ?_
           refine ops_mem (d := some 143) (an := [.v (vI m_0)]) (evs := [ld b1 0 (vI m_0)]) (v := vI m_0) ⟨by kernel_rfl⟩ (fun w_ hM hS => ⟨w_, ⟨hM.cell 0 rfl rfl, rfl⟩, hM, trivial⟩) ?_
           refine oQ [oF 6, oF 7] [(145, .bool (!(m_0 == 1))), (3, vP b1 0), (6, vI x4), (7, vI x5), (8, sl A34 l36 c35), (11, vP b65 0), (49, sl A_k k c_k), (50, vI (k.length : Int)), (51, vI i39)] (by kernel_rfl) ?_
           refine ops_nil (fin_then ?_)
           refine st_if (b := !(m_0 == 1)) rfl (fun hc93 => ?_) (fun hc93 => ?_)
           ·
            have hp := cnd_t hc93 hp
            refine st_region [oF 0, oF 1, oF 2, oF 3, oF 4] (by rfl) ?_
            refine oQ [oF 0] [(146, sl A34 l36 c35), (3, vP b1 0), (6, vI x4), (7, vI x5), (8, sl A34 l36 c35), (11, vP b65 0), (49, sl A_k k c_k), (50, vI (k.length : Int)), (51, vI i39)] (by kernel_rfl) ?_
            refine ops_mem (d := some 147) (an := [.v (.string u76), .v (sl A71 l73 c72)]) (evs := [ld b65 0 (.string u76), ld b65 1 (sl A71 l73 c72)]) (v := .agg #[.string u76, sl A71 l73 c72]) ⟨by kernel_rfl⟩ (fun w_ hM hS => ⟨w_, ⟨hM.cell 2 rfl rfl, hM.cell 2 rfl rfl, rfl⟩, hM, trivial⟩) ?_
            refine ops_ex (σ := (Nat → Prop) × World) (I := fun x_ => Ext w0 F40 W41 x_.1 x_.2 ∧ RdS R_api_Field x_.1 x_.2 A71 c72 l73) (M' := fun x_ => Mem w0 (.blk b1 [vI m_0, .string m_1, .string m_2, .string m_3, vI m_4, .string m_5, vI m_6, vI m_7, .string m_8, sl A_m_9 m_9 c_m_9] 37 :: ow A34 l36 c35 35 2 y37 :: .blk b65 [.string u76, sl A71 l73 c72] 35 :: Fz x_.1 x_.2 :: cs)) (fun w_ hM => ?_) ?_
            · obtain ⟨F_, h1_, h2_, h3_⟩ := (hM.pick 5 [3, 4, 0, 1, 2] (by kernel_rfl) (by decide) rfl : Mem w0 (ow A71 l73 c72 32 3 y74 :: Fz F40 W41 :: .blk b1 [vI m_0, .string m_1, .string m_2, .string m_3, vI m_4, .string m_5, vI m_6, vI m_7, .string m_8, sl A_m_9 m_9 c_m_9] 37 :: ow A34 l36 c35 35 2 y37 :: .blk b65 [.string u76, sl A71 l73 c72] 35 :: cs) w_).freeze (z := 3) h75 rfl rfl
              exact ⟨(F_, w_), ⟨h1_, h2_⟩, h3_.pick 4 [1, 2, 3, 0] (by kernel_rfl) (by decide) rfl⟩
            rintro ⟨F94, W95⟩ ⟨hx96, h97⟩
            have hx96 : Ext w0 F40 W41 F94 W95 := hx96
            have h97 : RdS R_api_Field F94 W95 A71 c72 l73 := h97
            have h_k := h_k.ext hx96
            have h_m_9 := h_m_9.ext hx96
            have h38 := h38.ext hx96
            have h98 : RepL R_api_Kind F94 W95 ([(api_Kind.mk u76 l73)] : List api_Kind) ([.string u76, sl A71 l73 c72]) := (RepL.cons (R := R_api_Kind) (F := F94) (w := W95) (vs := [.string u76, sl A71 l73 c72]) (ys := []) (enc_api_Kind h97) RepL.nil)
            refine ops_new (d := some 148) (o := .cells ([.string u76, sl A71 l73 c72]).toArray 35) (v := fun g99 => .slice (sa g99) ([(api_Kind.mk u76 l73)] : List api_Kind).length 1) (M' := fun g99 => Mem w0 (orow (sa g99) ([(api_Kind.mk u76 l73)] : List api_Kind).length 1 35 2 ([.string u76, sl A71 l73 c72]) :: .blk b1 [vI m_0, .string m_1, .string m_2, .string m_3, vI m_4, .string m_5, vI m_6, vI m_7, .string m_8, sl A_m_9 m_9 c_m_9] 37 :: ow A34 l36 c35 35 2 y37 :: .blk b65 [.string u76, sl A71 l73 c72] 35 :: Fz F94 W95 :: cs)) (fun g99 => ⟨by kernel_rfl⟩) (fun w_ hM hS => ⟨hM.onew [.string u76, sl A71 l73 c72] 35 1 2 rfl (by decide), trivial⟩) (fun g99 => ?_)
            obtain ⟨l100, hv101, hp⟩ := obind hp
            obtain ⟨he102, hb103⟩ := app_some hv101
            obtain ⟨y104, hy105⟩ : ∃ y_, y37 ++ ([.string u76, sl A71 l73 c72]) = y_ := ⟨_, rfl⟩
            have h106 : RepL R_api_Kind F94 W95 l100 y104 := by rw [he102, ← hy105]; exact RepL.app h38 h98
            refine ops_appendO (x := (Go.Operand.tmp 146)) (y := (Go.Operand.tmp 148)) (t := 22) (e := 35) (d := some 149) (n' := l100.length) (z := 2) (m := ([(api_Kind.mk u76 l73)] : List api_Kind).length) (bytes := 40) (xs' := y104) (news := ([.string u76, sl A71 l73 c72])) (zv := .agg #[.string ByteArray.empty, .slice none 0 0]) 2 ⟨by kernel_rfl⟩ rfl rfl Tryd.underlying22 (by kernel_rfl) (by rfl) rfl (fun w_ hM => hM.srcO 0 rfl) h98.len h98.one hb103 (by have z_ := congrArg List.length he102; rw [List.length_append] at z_; exact z_.symm) hy105 (fun _ _ _ _ hS h' => trivial) ?_
            rintro ⟨A107, c108⟩
            refine oQ [oF 4] [(8, sl A107 l100 c108), (3, vP b1 0), (6, vI x4), (7, vI x5), (49, sl A_k k c_k), (50, vI (k.length : Int)), (51, vI i39)] (by kernel_rfl) ?_
            refine ops_nil (fin_block ?_)
            exact fin_join HJ5 (A107, c108, l100, y104, F94, W95) ⟨hp, h106, hx96⟩ (look_has ⟨rfl, rfl, rfl, rfl, rfl, rfl, rfl, trivial⟩) (fun w_ hM => hM.pick 5 [1, 2, 4] (by kernel_rfl) (by decide) rfl)
           ·
            have hp := cnd_f hc93 hp
            refine st_skip (fin_block ?_)
            exact fin_join HJ5 (A34, c35, l36, y37, F40, W41) ⟨hp, h38, (Ext.refl _ _ _)⟩ (look_has ⟨rfl, rfl, rfl, rfl, rfl, rfl, rfl, trivial⟩) (fun w_ hM => hM.pick 5 [0, 1, 4] (by kernel_rfl) (by decide) rfl)
         ·
          intro HJ8
          refine st_seq (st_seq (st_region [oF 0, oF 1, oF 2, oF 3, oF 4, oF 5, oF 6, oF 7] (by rfl) ?_))
          refine oQ [oF 0, oF 1, oF 2, oF 3] [(130, .bool (i39 == x4)), (3, vP b1 0), (6, vI x4), (7, vI x5), (8, sl A34 l36 c35), (9, vI i39), (11, vP b65 0), (49, sl A_k k c_k), (50, vI (k.length : Int)), (51, vI i39)] (by kernel_rfl) ?_
          refine ops_bool (t := (i39 == x4)) (l1 := [(130, .bool true), (3, vP b1 0), (6, vI x4), (7, vI x5), (8, sl A34 l36 c35), (9, vI i39), (11, vP b65 0), (49, sl A_k k c_k), (50, vI (k.length : Int)), (51, vI i39)]) (l2 := [(130, .bool false), (3, vP b1 0), (6, vI x4), (7, vI x5), (8, sl A34 l36 c35), (9, vI i39), (11, vP b65 0), (49, sl A_k k c_k), (50, vI (k.length : Int)), (51, vI i39)]) (fun h => by rw [h]) (fun h => by rw [h]) (fun hc109 => ?_) (fun hc109 => ?_)
          ·
           have hp := cnd_t hc109 hp
           refine oQ [oF 4] [(131, vP b1 0), (130, .bool true), (3, vP b1 0), (6, vI x4), (7, vI x5), (8, sl A34 l36 c35), (9, vI i39), (11, vP b65 0), (49, sl A_k k c_k), (50, vI (k.length : Int)), (51, vI i39)] (by kernel_rfl) ?_
           refine ops_mem (d := some 132) (an := [.v (vI m_0)]) (evs := [ld b1 0 (vI m_0)]) (v := vI m_0) ⟨by kernel_rfl⟩ (fun w_ hM hS => ⟨w_, ⟨hM.cell 0 rfl rfl, rfl⟩, hM, trivial⟩) ?_
           refine oQ [oF 6, oF 7] [(134, .bool (m_0 == 2)), (3, vP b1 0), (6, vI x4), (7, vI x5), (8, sl A34 l36 c35), (9, vI i39), (11, vP b65 0), (49, sl A_k k c_k), (50, vI (k.length : Int)), (51, vI i39)] (by kernel_rfl) ?_
           refine ops_nil (fin_then ?_)
           refine st_if (b := (m_0 == 2)) rfl (fun hc110 => ?_) (fun hc110 => ?_)
           ·
            have hp := cnd_t hc110 hp
            refine st_region [oF 0, oF 1, oF 2, oF 3] (by rfl) ?_
            refine oQ [oF 0] [(135, vP b1 3), (3, vP b1 0), (6, vI x4), (7, vI x5), (8, sl A34 l36 c35), (9, vI i39), (11, vP b65 0), (49, sl A_k k c_k), (50, vI (k.length : Int)), (51, vI i39)] (by kernel_rfl) ?_
            refine ops_mem (d := some 136) (an := [.v (.string m_3)]) (evs := [ld b1 3 (.string m_3)]) (v := .string m_3) ⟨by kernel_rfl⟩ (fun w_ hM hS => ⟨w_, ⟨hM.cell 0 rfl rfl, rfl⟩, hM, trivial⟩) ?_
            refine oQ [oF 2] [(137, vP b65 0), (136, .string m_3), (3, vP b1 0), (6, vI x4), (7, vI x5), (8, sl A34 l36 c35), (9, vI i39), (11, vP b65 0), (49, sl A_k k c_k), (50, vI (k.length : Int)), (51, vI i39)] (by kernel_rfl) ?_
            refine ops_store (an := []) (evs := [sr b65 0 (.string m_3)]) ⟨by kernel_rfl⟩ (fun w_ hM hS => let ⟨w', he, h'⟩ := hM.evs_stores [.string m_3] 2 rfl 0 (Nat.le_of_ble_eq_true rfl); ⟨w', he, h', trivial⟩) ?_
            refine ops_nil ?_
            exact fin_join HJ8 m_3 hp (look_has ⟨rfl, rfl, rfl, rfl, rfl, rfl, rfl, rfl, rfl, trivial⟩) (fun w_ hM => hM)
           ·
            have hp := cnd_f hc110 hp
            refine st_skip ?_
            exact fin_join HJ8 x50.Name hp (look_has ⟨rfl, rfl, rfl, rfl, rfl, rfl, rfl, rfl, rfl, trivial⟩) (fun w_ hM => hM)
          ·
           have hp := cnd_f hc109 hp
           refine oQ [oF 4, oF 5, oF 6, oF 7] [(134, .bool false), (3, vP b1 0), (6, vI x4), (7, vI x5), (8, sl A34 l36 c35), (9, vI i39), (11, vP b65 0), (49, sl A_k k c_k), (50, vI (k.length : Int)), (51, vI i39)] (by kernel_rfl) ?_
           refine ops_nil (fin_then (st_false rfl (st_skip ?_)))
           exact fin_join HJ8 x50.Name hp (look_has ⟨rfl, rfl, rfl, rfl, rfl, rfl, rfl, rfl, rfl, trivial⟩) (fun w_ hM => hM)
        ·
         intro HJ7
         refine st_seq (st_seq (st_region [oF 0, oF 1, oF 2, oF 3, oF 4, oF 5, oF 6, oF 7] (by rfl) ?_))
         refine oQ [oF 0, oF 1, oF 2, oF 3] [(115, .bool (i39 == x4)), (3, vP b1 0), (6, vI x4), (7, vI x5), (8, sl A34 l36 c35), (9, vI i39), (11, vP b65 0), (49, sl A_k k c_k), (50, vI (k.length : Int)), (51, vI i39)] (by kernel_rfl) ?_
         refine ops_bool (t := (i39 == x4)) (l1 := [(115, .bool true), (3, vP b1 0), (6, vI x4), (7, vI x5), (8, sl A34 l36 c35), (9, vI i39), (11, vP b65 0), (49, sl A_k k c_k), (50, vI (k.length : Int)), (51, vI i39)]) (l2 := [(115, .bool false), (3, vP b1 0), (6, vI x4), (7, vI x5), (8, sl A34 l36 c35), (9, vI i39), (11, vP b65 0), (49, sl A_k k c_k), (50, vI (k.length : Int)), (51, vI i39)]) (fun h => by rw [h]) (fun h => by rw [h]) (fun hc111 => ?_) (fun hc111 => ?_)
         ·
          have hp := cnd_t hc111 hp
          refine oQ [oF 4] [(116, vP b1 0), (115, .bool true), (3, vP b1 0), (6, vI x4), (7, vI x5), (8, sl A34 l36 c35), (9, vI i39), (11, vP b65 0), (49, sl A_k k c_k), (50, vI (k.length : Int)), (51, vI i39)] (by kernel_rfl) ?_
          refine ops_mem (d := some 117) (an := [.v (vI m_0)]) (evs := [ld b1 0 (vI m_0)]) (v := vI m_0) ⟨by kernel_rfl⟩ (fun w_ hM hS => ⟨w_, ⟨hM.cell 0 rfl rfl, rfl⟩, hM, trivial⟩) ?_
          refine oQ [oF 6, oF 7] [(119, .bool (m_0 == 3)), (3, vP b1 0), (6, vI x4), (7, vI x5), (8, sl A34 l36 c35), (9, vI i39), (11, vP b65 0), (49, sl A_k k c_k), (50, vI (k.length : Int)), (51, vI i39)] (by kernel_rfl) ?_
          refine ops_nil (fin_then ?_)
          refine st_if (b := (m_0 == 3)) rfl (fun hc112 => ?_) (fun hc112 => ?_)
          ·
           have hp := cnd_t hc112 hp
           refine st_region [oF 0, oF 1, oF 2, oF 3, oF 4, oF 5, oF 6, oF 7] (by rfl) ?_
           refine oQ [oF 0] [(120, vP b65 1), (3, vP b1 0), (6, vI x4), (7, vI x5), (8, sl A34 l36 c35), (9, vI i39), (11, vP b65 0), (49, sl A_k k c_k), (50, vI (k.length : Int)), (51, vI i39)] (by kernel_rfl) ?_
           refine ops_mem (d := some 121) (an := [.v (sl A66 l68 c67)]) (evs := [ld b65 1 (sl A66 l68 c67)]) (v := sl A66 l68 c67) ⟨by kernel_rfl⟩ (fun w_ hM hS => ⟨w_, ⟨hM.cell 2 rfl rfl, rfl⟩, hM, trivial⟩) ?_
           refine oQ [oF 2] [(122, vP b1 5), (121, sl A66 l68 c67), (3, vP b1 0), (6, vI x4), (7, vI x5), (8, sl A34 l36 c35), (9, vI i39), (11, vP b65 0), (49, sl A_k k c_k), (50, vI (k.length : Int)), (51, vI i39)] (by kernel_rfl) ?_
           refine ops_mem (d := some 123) (an := [.v (.string m_5), .v (vI m_6), .v (vI m_7)]) (evs := [ld b1 5 (.string m_5), ld b1 6 (vI m_6), ld b1 7 (vI m_7)]) (v := .agg #[.string m_5, vI m_6, vI m_7]) ⟨by kernel_rfl⟩ (fun w_ hM hS => ⟨w_, ⟨hM.cell 0 rfl rfl, hM.cell 0 rfl rfl, hM.cell 0 rfl rfl, rfl⟩, hM, trivial⟩) ?_
           have h113 : RepL R_api_Field F40 W41 ([(api_Field.mk m_5 m_6 m_7)] : List api_Field) ([.string m_5, vI m_6, vI m_7]) := (RepL.cons (R := R_api_Field) (F := F40) (w := W41) (vs := [.string m_5, vI m_6, vI m_7]) (ys := []) (enc_api_Field) RepL.nil)
           refine ops_new (d := some 124) (o := .cells ([.string m_5, vI m_6, vI m_7]).toArray 32) (v := fun g114 => .slice (sa g114) ([(api_Field.mk m_5 m_6 m_7)] : List api_Field).length 1) (M' := fun g114 => Mem w0 (orow (sa g114) ([(api_Field.mk m_5 m_6 m_7)] : List api_Field).length 1 32 3 ([.string m_5, vI m_6, vI m_7]) :: .blk b1 [vI m_0, .string m_1, .string m_2, .string m_3, vI m_4, .string m_5, vI m_6, vI m_7, .string m_8, sl A_m_9 m_9 c_m_9] 37 :: ow A34 l36 c35 35 2 y37 :: .blk b65 [.string x50.Name, sl A66 l68 c67] 35 :: ow A66 l68 c67 32 3 y69 :: Fz F40 W41 :: cs)) (fun g114 => ⟨by kernel_rfl⟩) (fun w_ hM hS => ⟨hM.onew [.string m_5, vI m_6, vI m_7] 32 1 3 rfl (by decide), trivial⟩) (fun g114 => ?_)
           obtain ⟨l115, hv116, hp⟩ := obind hp
           obtain ⟨he117, hb118⟩ := app_some hv116
           obtain ⟨y119, hy120⟩ : ∃ y_, y69 ++ ([.string m_5, vI m_6, vI m_7]) = y_ := ⟨_, rfl⟩
           have h121 : RepL R_api_Field F40 W41 l115 y119 := by rw [he117, ← hy120]; exact RepL.app h70 h113
           refine ops_appendO (x := (Go.Operand.tmp 121)) (y := (Go.Operand.tmp 124)) (t := 33) (e := 32) (d := some 125) (n' := l115.length) (z := 3) (m := ([(api_Field.mk m_5 m_6 m_7)] : List api_Field).length) (bytes := 32) (xs' := y119) (news := ([.string m_5, vI m_6, vI m_7])) (zv := .agg #[.string ByteArray.empty, vI 0, vI 0]) 4 ⟨by kernel_rfl⟩ rfl rfl Tryd.underlying33 (by kernel_rfl) (by rfl) rfl (fun w_ hM => hM.srcO 0 rfl) h113.len h113.one hb118 (by have z_ := congrArg List.length he117; rw [List.length_append] at z_; exact z_.symm) hy120 (fun _ _ _ _ hS h' => trivial) ?_
           rintro ⟨A122, c123⟩
           refine oQ [oF 6] [(126, vP b65 1), (125, sl A122 l115 c123), (3, vP b1 0), (6, vI x4), (7, vI x5), (8, sl A34 l36 c35), (9, vI i39), (11, vP b65 0), (49, sl A_k k c_k), (50, vI (k.length : Int)), (51, vI i39)] (by kernel_rfl) ?_
           refine ops_store (an := []) (evs := [sr b65 1 (sl A122 l115 c123)]) ⟨by kernel_rfl⟩ (fun w_ hM hS => let ⟨w', he, h'⟩ := hM.evs_stores [sl A122 l115 c123] 3 rfl 1 (Nat.le_of_ble_eq_true rfl); ⟨w', he, h', trivial⟩) ?_
           refine ops_nil ?_
           exact fin_join HJ7 (A122, c123, l115, y119) ⟨hp, h121⟩ (look_has ⟨rfl, rfl, rfl, rfl, rfl, rfl, rfl, rfl, rfl, trivial⟩) (fun w_ hM => hM.pick 6 [1, 2, 3, 4, 5] (by kernel_rfl) (by decide) rfl)
          ·
           have hp := cnd_f hc112 hp
           refine st_skip ?_
           exact fin_join HJ7 (A66, c67, l68, y69) ⟨hp, h70⟩ (look_has ⟨rfl, rfl, rfl, rfl, rfl, rfl, rfl, rfl, rfl, trivial⟩) (fun w_ hM => hM)
         ·
          have hp := cnd_f hc111 hp
          refine oQ [oF 4, oF 5, oF 6, oF 7] [(119, .bool false), (3, vP b1 0), (6, vI x4), (7, vI x5), (8, sl A34 l36 c35), (9, vI i39), (11, vP b65 0), (49, sl A_k k c_k), (50, vI (k.length : Int)), (51, vI i39)] (by kernel_rfl) ?_
          refine ops_nil (fin_then (st_false rfl (st_skip ?_)))
          exact fin_join HJ7 (A66, c67, l68, y69) ⟨hp, h70⟩ (look_has ⟨rfl, rfl, rfl, rfl, rfl, rfl, rfl, rfl, rfl, trivial⟩) (fun w_ hM => hM)
       ·
        intro HJ6
        refine st_seq (st_seq (st_region [oF 0, oF 1, oF 2, oF 3] (by rfl) ?_))
        refine oQ [oF 0] [(59, vP b64 1), (11, vP b65 0), (9, vI i39), (3, vP b1 0), (6, vI x4), (7, vI x5), (8, sl A34 l36 c35), (49, sl A_k k c_k), (50, vI (k.length : Int)), (51, vI i39)] (by kernel_rfl) ?_
        refine ops_mem (d := some 60) (an := [.v (sl A61 x50.Fields c62)]) (evs := [ld b64 1 (sl A61 x50.Fields c62)]) (v := sl A61 x50.Fields c62) ⟨by kernel_rfl⟩ (fun w_ hM hS => ⟨w_, ⟨hM.cell 1 rfl rfl, rfl⟩, hM, trivial⟩) ?_
        refine oQ [oF 2, oF 3] [(62, vI 0), (61, vI (x50.Fields.length : Int)), (60, sl A61 x50.Fields c62), (11, vP b65 0), (9, vI i39), (3, vP b1 0), (6, vI x4), (7, vI x5), (8, sl A34 l36 c35), (49, sl A_k k c_k), (50, vI (k.length : Int)), (51, vI i39)] (by kernel_rfl) ?_
        refine ops_nil (fin_then (st_block ?_))
        refine st_conv (l' := [(62, vI 0), (61, vI (x50.Fields.length : Int)), (60, sl A61 x50.Fields c62), (11, vP b65 0), (9, vI i39), (3, vP b1 0), (6, vI x4), (7, vI x5), (8, sl A34 l36 c35), (49, sl A_k k c_k), (50, vI (k.length : Int)), (51, vI i39)]) (M' := Mem w0 (ow none ([] : List api_Field) 0 32 3 [] :: .blk b65 [.string x50.Name, .slice none 0 0] 35 :: .blk b64 [.string x50.Name, sl A61 x50.Fields c62] 35 :: .blk b1 [vI m_0, .string m_1, .string m_2, .string m_3, vI m_4, .string m_5, vI m_6, vI m_7, .string m_8, sl A_m_9 m_9 c_m_9] 37 :: ow A34 l36 c35 35 2 y37 :: Fz F40 W41 :: cs)) rfl (fun w_ h => h.onil none 32 3) ?_
        obtain ⟨r9, hl9, hk9⟩ := obind hp
        refine st_loopP (σ := (List api_Field) × Int) (ρ := (List api_Field)) (γ := (Option Addr) × Nat × (List Value)) hl9 (none, 0, []) (fun s_ g_ => match s_, g_ with | (l130, i133), (A128, c129, y131) => [(3, vP b1 0), (6, vI x4), (7, vI x5), (8, sl A34 l36 c35), (9, vI i39), (11, vP b65 0), (49, sl A_k k c_k), (50, vI (k.length : Int)), (51, vI i39), (60, sl A61 x50.Fields c62), (61, vI (x50.Fields.length : Int)), (62, vI i133)]) (fun s_ g_ => match s_, g_ with | (l130, i133), (A128, c129, y131) => Mem w0 (.blk b1 [vI m_0, .string m_1, .string m_2, .string m_3, vI m_4, .string m_5, vI m_6, vI m_7, .string m_8, sl A_m_9 m_9 c_m_9] 37 :: ow A34 l36 c35 35 2 y37 :: .blk b65 [.string x50.Name, sl A128 l130 c129] 35 :: ow A128 l130 c129 32 3 y131 :: Fz F40 W41 :: cs)) (fun s_ g_ => match s_, g_ with | (l130, i133), (A128, c129, y131) => (RepL R_api_Field F40 W41 l130 y131)) (RepL.nil (R := R_api_Field)) (look_has ⟨rfl, rfl, rfl, rfl, rfl, rfl, rfl, rfl, rfl, rfl, rfl, rfl, trivial⟩) (fun w_ hM => hM.pick 6 [3, 4, 1, 0, 5] (by kernel_rfl) (by decide) rfl) ?_
        rintro ⟨l130, i133⟩ ⟨A128, c129, y131⟩ o9 h132 hs_ hd9
        have hp : (tourref3_KindsAfter_l9 x50 i39 x4 m_0 m_6 m_7 m_3 x5) l130 i133 = some o9 := hs_
        clear hs_
        unfold tourref3_KindsAfter_l9 at hp
        refine st_seq (st_region [oF 0] (by rfl) ?_)
        refine oQ [oF 0] [(63, .bool (decide (i133 < (x50.Fields.length : Int)))), (3, vP b1 0), (6, vI x4), (7, vI x5), (8, sl A34 l36 c35), (9, vI i39), (11, vP b65 0), (49, sl A_k k c_k), (50, vI (k.length : Int)), (51, vI i39), (60, sl A61 x50.Fields c62), (61, vI (x50.Fields.length : Int)), (62, vI i133)] (by kernel_rfl) ?_
        refine ops_nil (fin_then (st_seq ?_))
        refine st_if (b := decide (i133 < (x50.Fields.length : Int))) rfl (fun hc134 => ?_) (fun hc134 => ?_)
        ·
         have hp := cnd_t hc134 hp
         refine st_skip (fin_then ?_)
         refine st_join1 (σ := (Option Addr) × Nat × (List api_Field) × (List Value)) (L := fun x_ => match x_ with | (A135, c136, l137, y138) => [(3, vP b1 0), (6, vI x4), (7, vI x5), (8, sl A34 l36 c35), (9, vI i39), (11, vP b65 0), (49, sl A_k k c_k), (50, vI (k.length : Int)), (51, vI i39), (60, sl A61 x50.Fields c62), (61, vI (x50.Fields.length : Int)), (62, vI i133)]) (N := fun x_ => match x_ with | (A135, c136, l137, y138) => Mem w0 (.blk b1 [vI m_0, .string m_1, .string m_2, .string m_3, vI m_4, .string m_5, vI m_6, vI m_7, .string m_8, sl A_m_9 m_9 c_m_9] 37 :: ow A34 l36 c35 35 2 y37 :: .blk b65 [.string x50.Name, sl A135 l137 c136] 35 :: ow A135 l137 c136 32 3 y138 :: Fz F40 W41 :: cs)) (I := fun x_ => match x_ with | (A135, c136, l137, y138) => ((tourref3_KindsAfter_j10 i133) l137 = some o9) ∧ (RepL R_api_Field F40 W41 l137 y138)) ?_ ?_
         ·
          rintro ⟨A135, c136, l137, y138⟩ ⟨hp, h139⟩
          unfold tourref3_KindsAfter_j10 at hp
          refine st_region [oF 0, oF 1] (by rfl) ?_
          refine oQ [oF 0, oF 1] [(62, vI (IntKind.i64.wrap (i133 + 1))), (3, vP b1 0), (6, vI x4), (7, vI x5), (8, sl A34 l36 c35), (9, vI i39), (11, vP b65 0), (49, sl A_k k c_k), (50, vI (k.length : Int)), (51, vI i39), (60, sl A61 x50.Fields c62), (61, vI (x50.Fields.length : Int))] (by kernel_rfl) ?_
          refine ops_nil ?_
          exact fin_again (l137, IntKind.i64.wrap (i133 + 1)) (A135, c136, y138) (Option.some.inj hp).symm h139 (look_has ⟨rfl, rfl, rfl, rfl, rfl, rfl, rfl, rfl, rfl, rfl, rfl, rfl, trivial⟩) (fun w_ hM => hM)
         ·
          intro HJ10
          refine st_seq (st_block (st_seq (st_region [oF 0, oF 1, oF 2, oF 3, oF 4, oF 5] (by rfl) ?_)))
          refine oQ [oF 0] [(64, vI i133), (3, vP b1 0), (6, vI x4), (7, vI x5), (8, sl A34 l36 c35), (9, vI i39), (11, vP b65 0), (49, sl A_k k c_k), (50, vI (k.length : Int)), (51, vI i39), (60, sl A61 x50.Fields c62), (61, vI (x50.Fields.length : Int)), (62, vI i133)] (by kernel_rfl) ?_
          obtain ⟨x140, hv141, hp⟩ := obind hp
          obtain ⟨m142, hm143, hx144⟩ := idx_some hv141
          have hl147 := (List.getElem?_eq_some_iff.1 hx144).1
          obtain ⟨ad148, vs145, hA149, hr146, hq150⟩ := RdS.el h63 hx144
          obtain rfl := dec_api_Field hr146
          refine ops_val (op := (.indexAddr 33 (.tmp 60) (.tmp 62))) (d := some 65) (v := .pointer (some (ad148.add (m142 * 3)))) ⟨by kernel_rfl⟩ (run_indexA hA149 Tryd.underlying33 (z := 3) (by kernel_rfl) rfl rfl hm143 hl147) ?_
          refine ops_mem (d := some 66) (an := [.v (.string x140.Name), .v (vI x140.Bits), .v (vI x140.Low)]) (evs := [.load (ad148.add (m142 * 3)) (.string x140.Name), .load ((ad148.add (m142 * 3)).add 1) (vI x140.Bits), .load ((ad148.add (m142 * 3)).add 2) (vI x140.Low)]) (v := .agg #[.string x140.Name, vI x140.Bits, vI x140.Low]) ⟨by kernel_rfl⟩ (fun w_ hM hS => ⟨w_, ⟨hM.elcell 4 rfl hq150 0 rfl, hM.elcell 4 rfl hq150 1 rfl, hM.elcell 4 rfl hq150 2 rfl, rfl⟩, hM, trivial⟩) ?_
          refine ops_newB (d := some 13) [.string ByteArray.empty, vI 0, vI 0] 32 (fun b151 => ⟨by kernel_rfl⟩) (fun w_ hM hS => trivial) (fun b151 => ?_)
          refine oQ [oF 4] [(12, vI i133), (13, vP b151 0), (66, .agg #[.string x140.Name, vI x140.Bits, vI x140.Low]), (3, vP b1 0), (6, vI x4), (7, vI x5), (8, sl A34 l36 c35), (9, vI i39), (11, vP b65 0), (49, sl A_k k c_k), (50, vI (k.length : Int)), (51, vI i39), (60, sl A61 x50.Fields c62), (61, vI (x50.Fields.length : Int)), (62, vI i133)] (by kernel_rfl) ?_
          refine ops_store (an := []) (evs := [sr b151 0 (.string x140.Name), sr b151 1 (vI x140.Bits), sr b151 2 (vI x140.Low)]) ⟨by kernel_rfl⟩ (fun w_ hM hS => let ⟨w', he, h'⟩ := hM.evs_stores [.string x140.Name, vI x140.Bits, vI x140.Low] 0 rfl 0 (Nat.le_of_ble_eq_true rfl); ⟨w', he, h', trivial⟩) ?_
          refine ops_nil (fin_then ?_)
          refine st_join1 (σ := Bool) (L := fun x_ => match x_ with | t152 => [(3, vP b1 0), (6, vI x4), (7, vI x5), (8, sl A34 l36 c35), (9, vI i39), (11, vP b65 0), (13, vP b151 0), (14, .bool t152), (49, sl A_k k c_k), (50, vI (k.length : Int)), (51, vI i39), (60, sl A61 x50.Fields c62), (61, vI (x50.Fields.length : Int)), (62, vI i133)]) (N := fun x_ => match x_ with | t152 => Mem w0 (.blk b1 [vI m_0, .string m_1, .string m_2, .string m_3, vI m_4, .string m_5, vI m_6, vI m_7, .string m_8, sl A_m_9 m_9 c_m_9] 37 :: ow A34 l36 c35 35 2 y37 :: .blk b65 [.string x50.Name, sl A128 l130 c129] 35 :: ow A128 l130 c129 32 3 y131 :: .blk b151 [.string x140.Name, vI x140.Bits, vI x140.Low] 32 :: Fz F40 W41 :: cs)) (I := fun x_ => match x_ with | t152 => ((tourref3_KindsAfter_j11 m_0 i133 l130 m_6 m_7 x140 m_3) t152 = some o9)) ?_ ?_
          ·
           rintro t152 hp
           unfold tourref3_KindsAfter_j11 at hp
           refine st_join1 (σ := Bool) (L := fun x_ => match x_ with | t153 => [(3, vP b1 0), (6, vI x4), (7, vI x5), (8, sl A34 l36 c35), (9, vI i39), (11, vP b65 0), (13, vP b151 0), (14, .bool t153), (49, sl A_k k c_k), (50, vI (k.length : Int)), (51, vI i39), (60, sl A61 x50.Fields c62), (61, vI (x50.Fields.length : Int)), (62, vI i133)]) (N := fun x_ => match x_ with | t153 => Mem w0 (.blk b1 [vI m_0, .string m_1, .string m_2, .string m_3, vI m_4, .string m_5, vI m_6, vI m_7, .string m_8, sl A_m_9 m_9 c_m_9] 37 :: ow A34 l36 c35 35 2 y37 :: .blk b65 [.string x50.Name, sl A128 l130 c129] 35 :: ow A128 l130 c129 32 3 y131 :: .blk b151 [.string x140.Name, vI x140.Bits, vI x140.Low] 32 :: Fz F40 W41 :: cs)) (I := fun x_ => match x_ with | t153 => ((tourref3_KindsAfter_j12 m_0 l130 i133 m_6 m_7 x140 m_3) t153 = some o9)) ?_ ?_
           ·
            rintro t153 hp
            unfold tourref3_KindsAfter_j12 at hp
            refine st_join1 (σ := ByteArray × Bool) (L := fun x_ => match x_ with | (u154, t155) => [(3, vP b1 0), (6, vI x4), (7, vI x5), (8, sl A34 l36 c35), (9, vI i39), (11, vP b65 0), (13, vP b151 0), (14, .bool t155), (49, sl A_k k c_k), (50, vI (k.length : Int)), (51, vI i39), (60, sl A61 x50.Fields c62), (61, vI (x50.Fields.length : Int)), (62, vI i133)]) (N := fun x_ => match x_ with | (u154, t155) => Mem w0 (.blk b1 [vI m_0, .string m_1, .string m_2, .string m_3, vI m_4, .string m_5, vI m_6, vI m_7, .string m_8, sl A_m_9 m_9 c_m_9] 37 :: ow A34 l36 c35 35 2 y37 :: .blk b65 [.string x50.Name, sl A128 l130 c129] 35 :: ow A128 l130 c129 32 3 y131 :: .blk b151 [.string u154, vI x140.Bits, vI x140.Low] 32 :: Fz F40 W41 :: cs)) (I := fun x_ => match x_ with | (u154, t155) => ((tourref3_KindsAfter_j13 m_0 l130 i133 m_6 m_7 x140) u154 t155 = some o9)) ?_ ?_
            ·
             rintro ⟨u154, t155⟩ hp
             unfold tourref3_KindsAfter_j13 at hp
             refine st_join1 (σ := Int × Int) (L := fun x_ => match x_ with | (i156, i157) => [(3, vP b1 0), (6, vI x4), (7, vI x5), (8, sl A34 l36 c35), (9, vI i39), (11, vP b65 0), (13, vP b151 0), (49, sl A_k k c_k), (50, vI (k.length : Int)), (51, vI i39), (60, sl A61 x50.Fields c62), (61, vI (x50.Fields.length : Int)), (62, vI i133)]) (N := fun x_ => match x_ with | (i156, i157) => Mem w0 (.blk b1 [vI m_0, .string m_1, .string m_2, .string m_3, vI m_4, .string m_5, vI m_6, vI m_7, .string m_8, sl A_m_9 m_9 c_m_9] 37 :: ow A34 l36 c35 35 2 y37 :: .blk b65 [.string x50.Name, sl A128 l130 c129] 35 :: ow A128 l130 c129 32 3 y131 :: .blk b151 [.string u154, vI i156, vI i157] 32 :: Fz F40 W41 :: cs)) (I := fun x_ => match x_ with | (i156, i157) => ((tourref3_KindsAfter_j14 l130 u154 i133) i156 i157 = some o9)) ?_ ?_
             ·
              rintro ⟨i156, i157⟩ hp
              unfold tourref3_KindsAfter_j14 at hp
              refine st_region [oF 0, oF 1, oF 2, oF 3, oF 4, oF 5, oF 6] (by rfl) ?_
              refine oQ [oF 0] [(105, vP b65 1), (3, vP b1 0), (6, vI x4), (7, vI x5), (8, sl A34 l36 c35), (9, vI i39), (11, vP b65 0), (13, vP b151 0), (49, sl A_k k c_k), (50, vI (k.length : Int)), (51, vI i39), (60, sl A61 x50.Fields c62), (61, vI (x50.Fields.length : Int)), (62, vI i133)] (by kernel_rfl) ?_
              refine ops_mem (d := some 106) (an := [.v (sl A128 l130 c129)]) (evs := [ld b65 1 (sl A128 l130 c129)]) (v := sl A128 l130 c129) ⟨by kernel_rfl⟩ (fun w_ hM hS => ⟨w_, ⟨hM.cell 2 rfl rfl, rfl⟩, hM, trivial⟩) ?_
              refine ops_mem (d := some 107) (an := [.v (.string u154), .v (vI i156), .v (vI i157)]) (evs := [ld b151 0 (.string u154), ld b151 1 (vI i156), ld b151 2 (vI i157)]) (v := .agg #[.string u154, vI i156, vI i157]) ⟨by kernel_rfl⟩ (fun w_ hM hS => ⟨w_, ⟨hM.cell 4 rfl rfl, hM.cell 4 rfl rfl, hM.cell 4 rfl rfl, rfl⟩, hM, trivial⟩) ?_
              have h158 : RepL R_api_Field F40 W41 ([(api_Field.mk u154 i156 i157)] : List api_Field) ([.string u154, vI i156, vI i157]) := (RepL.cons (R := R_api_Field) (F := F40) (w := W41) (vs := [.string u154, vI i156, vI i157]) (ys := []) (enc_api_Field) RepL.nil)
              refine ops_new (d := some 108) (o := .cells ([.string u154, vI i156, vI i157]).toArray 32) (v := fun g159 => .slice (sa g159) ([(api_Field.mk u154 i156 i157)] : List api_Field).length 1) (M' := fun g159 => Mem w0 (orow (sa g159) ([(api_Field.mk u154 i156 i157)] : List api_Field).length 1 32 3 ([.string u154, vI i156, vI i157]) :: .blk b1 [vI m_0, .string m_1, .string m_2, .string m_3, vI m_4, .string m_5, vI m_6, vI m_7, .string m_8, sl A_m_9 m_9 c_m_9] 37 :: ow A34 l36 c35 35 2 y37 :: .blk b65 [.string x50.Name, sl A128 l130 c129] 35 :: ow A128 l130 c129 32 3 y131 :: .blk b151 [.string u154, vI i156, vI i157] 32 :: Fz F40 W41 :: cs)) (fun g159 => ⟨by kernel_rfl⟩) (fun w_ hM hS => ⟨hM.onew [.string u154, vI i156, vI i157] 32 1 3 rfl (by decide), trivial⟩) (fun g159 => ?_)
              obtain ⟨l160, hv161, hp⟩ := obind hp
              obtain ⟨he162, hb163⟩ := app_some hv161
              obtain ⟨y164, hy165⟩ : ∃ y_, y131 ++ ([.string u154, vI i156, vI i157]) = y_ := ⟨_, rfl⟩
              have h166 : RepL R_api_Field F40 W41 l160 y164 := by rw [he162, ← hy165]; exact RepL.app h132 h158
              refine ops_appendO (x := (Go.Operand.tmp 106)) (y := (Go.Operand.tmp 108)) (t := 33) (e := 32) (d := some 109) (n' := l160.length) (z := 3) (m := ([(api_Field.mk u154 i156 i157)] : List api_Field).length) (bytes := 32) (xs' := y164) (news := ([.string u154, vI i156, vI i157])) (zv := .agg #[.string ByteArray.empty, vI 0, vI 0]) 4 ⟨by kernel_rfl⟩ rfl rfl Tryd.underlying33 (by kernel_rfl) (by rfl) rfl (fun w_ hM => hM.srcO 0 rfl) h158.len h158.one hb163 (by have z_ := congrArg List.length he162; rw [List.length_append] at z_; exact z_.symm) hy165 (fun _ _ _ _ hS h' => trivial) ?_
              rintro ⟨A167, c168⟩
              refine oQ [oF 5] [(110, vP b65 1), (109, sl A167 l160 c168), (3, vP b1 0), (6, vI x4), (7, vI x5), (8, sl A34 l36 c35), (9, vI i39), (11, vP b65 0), (49, sl A_k k c_k), (50, vI (k.length : Int)), (51, vI i39), (60, sl A61 x50.Fields c62), (61, vI (x50.Fields.length : Int)), (62, vI i133)] (by kernel_rfl) ?_
              refine ops_store (an := []) (evs := [sr b65 1 (sl A167 l160 c168)]) ⟨by kernel_rfl⟩ (fun w_ hM hS => let ⟨w', he, h'⟩ := hM.evs_stores [sl A167 l160 c168] 3 rfl 1 (Nat.le_of_ble_eq_true rfl); ⟨w', he, h', trivial⟩) ?_
              refine ops_nil (fin_block ?_)
              exact fin_join HJ10 (A167, c168, l160, y164) ⟨hp, h166⟩ (look_has ⟨rfl, rfl, rfl, rfl, rfl, rfl, rfl, rfl, rfl, rfl, rfl, rfl, trivial⟩) (fun w_ hM => hM.pick 7 [1, 2, 3, 4, 6] (by kernel_rfl) (by decide) rfl)
             ·
              intro HJ14
              refine st_seq (st_seq (st_region [oF 0, oF 1, oF 2, oF 3, oF 4, oF 5] (by rfl) ?_))
              refine oQ [oF 0, oF 1] [(91, .bool t155), (3, vP b1 0), (6, vI x4), (7, vI x5), (8, sl A34 l36 c35), (9, vI i39), (11, vP b65 0), (13, vP b151 0), (49, sl A_k k c_k), (50, vI (k.length : Int)), (51, vI i39), (60, sl A61 x50.Fields c62), (61, vI (x50.Fields.length : Int)), (62, vI i133)] (by kernel_rfl) ?_
              refine ops_bool (t := t155) (l1 := [(91, .bool true), (3, vP b1 0), (6, vI x4), (7, vI x5), (8, sl A34 l36 c35), (9, vI i39), (11, vP b65 0), (13, vP b151 0), (49, sl A_k k c_k), (50, vI (k.length : Int)), (51, vI i39), (60, sl A61 x50.Fields c62), (61, vI (x50.Fields.length : Int)), (62, vI i133)]) (l2 := [(91, .bool false), (3, vP b1 0), (6, vI x4), (7, vI x5), (8, sl A34 l36 c35), (9, vI i39), (11, vP b65 0), (13, vP b151 0), (49, sl A_k k c_k), (50, vI (k.length : Int)), (51, vI i39), (60, sl A61 x50.Fields c62), (61, vI (x50.Fields.length : Int)), (62, vI i133)]) (fun h => by rw [h]) (fun h => by rw [h]) (fun hc169 => ?_) (fun hc169 => ?_)
              ·
               have hp := cnd_t hc169 hp
               refine oQ [oF 2] [(92, vP b1 0), (91, .bool true), (3, vP b1 0), (6, vI x4), (7, vI x5), (8, sl A34 l36 c35), (9, vI i39), (11, vP b65 0), (13, vP b151 0), (49, sl A_k k c_k), (50, vI (k.length : Int)), (51, vI i39), (60, sl A61 x50.Fields c62), (61, vI (x50.Fields.length : Int)), (62, vI i133)] (by kernel_rfl) ?_
               refine ops_mem (d := some 93) (an := [.v (vI m_0)]) (evs := [ld b1 0 (vI m_0)]) (v := vI m_0) ⟨by kernel_rfl⟩ (fun w_ hM hS => ⟨w_, ⟨hM.cell 0 rfl rfl, rfl⟩, hM, trivial⟩) ?_
               refine oQ [oF 4, oF 5] [(95, .bool (m_0 == 6)), (3, vP b1 0), (6, vI x4), (7, vI x5), (8, sl A34 l36 c35), (9, vI i39), (11, vP b65 0), (13, vP b151 0), (49, sl A_k k c_k), (50, vI (k.length : Int)), (51, vI i39), (60, sl A61 x50.Fields c62), (61, vI (x50.Fields.length : Int)), (62, vI i133)] (by kernel_rfl) ?_
               refine ops_nil (fin_then ?_)
               refine st_if (b := (m_0 == 6)) rfl (fun hc170 => ?_) (fun hc170 => ?_)
               ·
                have hp := cnd_t hc170 hp
                refine st_region [oF 0, oF 1, oF 2, oF 3, oF 4, oF 5, oF 6, oF 7, oF 8, oF 9] (by rfl) ?_
                refine oQ [oF 0] [(96, vP b151 0), (3, vP b1 0), (6, vI x4), (7, vI x5), (8, sl A34 l36 c35), (9, vI i39), (11, vP b65 0), (13, vP b151 0), (49, sl A_k k c_k), (50, vI (k.length : Int)), (51, vI i39), (60, sl A61 x50.Fields c62), (61, vI (x50.Fields.length : Int)), (62, vI i133)] (by kernel_rfl) ?_
                refine ops_mem (d := some 97) (an := [.v (.string u154)]) (evs := [ld b151 0 (.string u154)]) (v := .string u154) ⟨by kernel_rfl⟩ (fun w_ hM hS => ⟨w_, ⟨hM.cell 4 rfl rfl, rfl⟩, hM, trivial⟩) ?_
                refine oQ [oF 2, oF 3] [(99, vP b1 6), (97, .string u154), (3, vP b1 0), (6, vI x4), (7, vI x5), (8, sl A34 l36 c35), (9, vI i39), (11, vP b65 0), (13, vP b151 0), (49, sl A_k k c_k), (50, vI (k.length : Int)), (51, vI i39), (60, sl A61 x50.Fields c62), (61, vI (x50.Fields.length : Int)), (62, vI i133)] (by kernel_rfl) ?_
                refine ops_mem (d := some 100) (an := [.v (vI m_6)]) (evs := [ld b1 6 (vI m_6)]) (v := vI m_6) ⟨by kernel_rfl⟩ (fun w_ hM hS => ⟨w_, ⟨hM.cell 0 rfl rfl, rfl⟩, hM, trivial⟩) ?_
                refine oQ [oF 5, oF 6] [(102, vP b1 7), (100, vI m_6), (97, .string u154), (3, vP b1 0), (6, vI x4), (7, vI x5), (8, sl A34 l36 c35), (9, vI i39), (11, vP b65 0), (13, vP b151 0), (49, sl A_k k c_k), (50, vI (k.length : Int)), (51, vI i39), (60, sl A61 x50.Fields c62), (61, vI (x50.Fields.length : Int)), (62, vI i133)] (by kernel_rfl) ?_
                refine ops_mem (d := some 103) (an := [.v (vI m_7)]) (evs := [ld b1 7 (vI m_7)]) (v := vI m_7) ⟨by kernel_rfl⟩ (fun w_ hM hS => ⟨w_, ⟨hM.cell 0 rfl rfl, rfl⟩, hM, trivial⟩) ?_
                refine oQ [oF 8] [(104, .agg #[.string u154, vI m_6, vI m_7]), (3, vP b1 0), (6, vI x4), (7, vI x5), (8, sl A34 l36 c35), (9, vI i39), (11, vP b65 0), (13, vP b151 0), (49, sl A_k k c_k), (50, vI (k.length : Int)), (51, vI i39), (60, sl A61 x50.Fields c62), (61, vI (x50.Fields.length : Int)), (62, vI i133)] (by kernel_rfl) ?_
                refine ops_store (an := []) (evs := [sr b151 0 (.string u154), sr b151 1 (vI m_6), sr b151 2 (vI m_7)]) ⟨by kernel_rfl⟩ (fun w_ hM hS => let ⟨w', he, h'⟩ := hM.evs_stores [.string u154, vI m_6, vI m_7] 4 rfl 0 (Nat.le_of_ble_eq_true rfl); ⟨w', he, h', trivial⟩) ?_
                refine ops_nil ?_
                exact fin_join HJ14 (m_6, m_7) hp (look_has ⟨rfl, rfl, rfl, rfl, rfl, rfl, rfl, rfl, rfl, rfl, rfl, rfl, rfl, trivial⟩) (fun w_ hM => hM)
               ·
                have hp := cnd_f hc170 hp
                refine st_skip ?_
                exact fin_join HJ14 (x140.Bits, x140.Low) hp (look_has ⟨rfl, rfl, rfl, rfl, rfl, rfl, rfl, rfl, rfl, rfl, rfl, rfl, rfl, trivial⟩) (fun w_ hM => hM)
              ·
               have hp := cnd_f hc169 hp
               refine oQ [oF 2, oF 3, oF 4, oF 5] [(95, .bool false), (3, vP b1 0), (6, vI x4), (7, vI x5), (8, sl A34 l36 c35), (9, vI i39), (11, vP b65 0), (13, vP b151 0), (49, sl A_k k c_k), (50, vI (k.length : Int)), (51, vI i39), (60, sl A61 x50.Fields c62), (61, vI (x50.Fields.length : Int)), (62, vI i133)] (by kernel_rfl) ?_
               refine ops_nil (fin_then (st_false rfl (st_skip ?_)))
               exact fin_join HJ14 (x140.Bits, x140.Low) hp (look_has ⟨rfl, rfl, rfl, rfl, rfl, rfl, rfl, rfl, rfl, rfl, rfl, rfl, rfl, trivial⟩) (fun w_ hM => hM)
            ·
             intro HJ13
             refine st_seq (st_seq (st_region [oF 0, oF 1, oF 2, oF 3, oF 4, oF 5] (by rfl) ?_))
             refine oQ [oF 0, oF 1] [(82, .bool t153), (3, vP b1 0), (6, vI x4), (7, vI x5), (8, sl A34 l36 c35), (9, vI i39), (11, vP b65 0), (13, vP b151 0), (14, .bool t153), (49, sl A_k k c_k), (50, vI (k.length : Int)), (51, vI i39), (60, sl A61 x50.Fields c62), (61, vI (x50.Fields.length : Int)), (62, vI i133)] (by kernel_rfl) ?_
             refine ops_bool (t := t153) (l1 := [(82, .bool true), (3, vP b1 0), (6, vI x4), (7, vI x5), (8, sl A34 l36 c35), (9, vI i39), (11, vP b65 0), (13, vP b151 0), (14, .bool true), (49, sl A_k k c_k), (50, vI (k.length : Int)), (51, vI i39), (60, sl A61 x50.Fields c62), (61, vI (x50.Fields.length : Int)), (62, vI i133)]) (l2 := [(82, .bool false), (3, vP b1 0), (6, vI x4), (7, vI x5), (8, sl A34 l36 c35), (9, vI i39), (11, vP b65 0), (13, vP b151 0), (14, .bool false), (49, sl A_k k c_k), (50, vI (k.length : Int)), (51, vI i39), (60, sl A61 x50.Fields c62), (61, vI (x50.Fields.length : Int)), (62, vI i133)]) (fun h => by rw [h]) (fun h => by rw [h]) (fun hc171 => ?_) (fun hc171 => ?_)
             ·
              have hp := cnd_t hc171 hp
              refine oQ [oF 2] [(83, vP b1 0), (82, .bool true), (3, vP b1 0), (6, vI x4), (7, vI x5), (8, sl A34 l36 c35), (9, vI i39), (11, vP b65 0), (13, vP b151 0), (14, .bool true), (49, sl A_k k c_k), (50, vI (k.length : Int)), (51, vI i39), (60, sl A61 x50.Fields c62), (61, vI (x50.Fields.length : Int)), (62, vI i133)] (by kernel_rfl) ?_
              refine ops_mem (d := some 84) (an := [.v (vI m_0)]) (evs := [ld b1 0 (vI m_0)]) (v := vI m_0) ⟨by kernel_rfl⟩ (fun w_ hM hS => ⟨w_, ⟨hM.cell 0 rfl rfl, rfl⟩, hM, trivial⟩) ?_
              refine oQ [oF 4, oF 5] [(86, .bool (m_0 == 5)), (3, vP b1 0), (6, vI x4), (7, vI x5), (8, sl A34 l36 c35), (9, vI i39), (11, vP b65 0), (13, vP b151 0), (14, .bool true), (49, sl A_k k c_k), (50, vI (k.length : Int)), (51, vI i39), (60, sl A61 x50.Fields c62), (61, vI (x50.Fields.length : Int)), (62, vI i133)] (by kernel_rfl) ?_
              refine ops_nil (fin_then ?_)
              refine st_if (b := (m_0 == 5)) rfl (fun hc172 => ?_) (fun hc172 => ?_)
              ·
               have hp := cnd_t hc172 hp
               refine st_region [oF 0, oF 1, oF 2, oF 3] (by rfl) ?_
               refine oQ [oF 0] [(87, vP b1 3), (3, vP b1 0), (6, vI x4), (7, vI x5), (8, sl A34 l36 c35), (9, vI i39), (11, vP b65 0), (13, vP b151 0), (14, .bool true), (49, sl A_k k c_k), (50, vI (k.length : Int)), (51, vI i39), (60, sl A61 x50.Fields c62), (61, vI (x50.Fields.length : Int)), (62, vI i133)] (by kernel_rfl) ?_
               refine ops_mem (d := some 88) (an := [.v (.string m_3)]) (evs := [ld b1 3 (.string m_3)]) (v := .string m_3) ⟨by kernel_rfl⟩ (fun w_ hM hS => ⟨w_, ⟨hM.cell 0 rfl rfl, rfl⟩, hM, trivial⟩) ?_
               refine oQ [oF 2] [(89, vP b151 0), (88, .string m_3), (3, vP b1 0), (6, vI x4), (7, vI x5), (8, sl A34 l36 c35), (9, vI i39), (11, vP b65 0), (13, vP b151 0), (14, .bool true), (49, sl A_k k c_k), (50, vI (k.length : Int)), (51, vI i39), (60, sl A61 x50.Fields c62), (61, vI (x50.Fields.length : Int)), (62, vI i133)] (by kernel_rfl) ?_
               refine ops_store (an := []) (evs := [sr b151 0 (.string m_3)]) ⟨by kernel_rfl⟩ (fun w_ hM hS => let ⟨w', he, h'⟩ := hM.evs_stores [.string m_3] 4 rfl 0 (Nat.le_of_ble_eq_true rfl); ⟨w', he, h', trivial⟩) ?_
               refine ops_nil ?_
               exact fin_join HJ13 (m_3, true) hp (look_has ⟨rfl, rfl, rfl, rfl, rfl, rfl, rfl, rfl, rfl, rfl, rfl, rfl, rfl, rfl, trivial⟩) (fun w_ hM => hM)
              ·
               have hp := cnd_f hc172 hp
               refine st_skip ?_
               exact fin_join HJ13 (x140.Name, true) hp (look_has ⟨rfl, rfl, rfl, rfl, rfl, rfl, rfl, rfl, rfl, rfl, rfl, rfl, rfl, rfl, trivial⟩) (fun w_ hM => hM)
             ·
              have hp := cnd_f hc171 hp
              refine oQ [oF 2, oF 3, oF 4, oF 5] [(86, .bool false), (3, vP b1 0), (6, vI x4), (7, vI x5), (8, sl A34 l36 c35), (9, vI i39), (11, vP b65 0), (13, vP b151 0), (14, .bool false), (49, sl A_k k c_k), (50, vI (k.length : Int)), (51, vI i39), (60, sl A61 x50.Fields c62), (61, vI (x50.Fields.length : Int)), (62, vI i133)] (by kernel_rfl) ?_
              refine ops_nil (fin_then (st_false rfl (st_skip ?_)))
              exact fin_join HJ13 (x140.Name, false) hp (look_has ⟨rfl, rfl, rfl, rfl, rfl, rfl, rfl, rfl, rfl, rfl, rfl, rfl, rfl, rfl, trivial⟩) (fun w_ hM => hM)
           ·
            intro HJ12
            refine st_seq (st_seq (st_region [oF 0, oF 1, oF 2, oF 3, oF 4, oF 5] (by rfl) ?_))
            refine oQ [oF 0, oF 1] [(76, .bool t152), (3, vP b1 0), (6, vI x4), (7, vI x5), (8, sl A34 l36 c35), (9, vI i39), (11, vP b65 0), (13, vP b151 0), (14, .bool t152), (49, sl A_k k c_k), (50, vI (k.length : Int)), (51, vI i39), (60, sl A61 x50.Fields c62), (61, vI (x50.Fields.length : Int)), (62, vI i133)] (by kernel_rfl) ?_
            refine ops_bool (t := t152) (l1 := [(76, .bool true), (3, vP b1 0), (6, vI x4), (7, vI x5), (8, sl A34 l36 c35), (9, vI i39), (11, vP b65 0), (13, vP b151 0), (14, .bool true), (49, sl A_k k c_k), (50, vI (k.length : Int)), (51, vI i39), (60, sl A61 x50.Fields c62), (61, vI (x50.Fields.length : Int)), (62, vI i133)]) (l2 := [(76, .bool false), (3, vP b1 0), (6, vI x4), (7, vI x5), (8, sl A34 l36 c35), (9, vI i39), (11, vP b65 0), (13, vP b151 0), (14, .bool false), (49, sl A_k k c_k), (50, vI (k.length : Int)), (51, vI i39), (60, sl A61 x50.Fields c62), (61, vI (x50.Fields.length : Int)), (62, vI i133)]) (fun h => by rw [h]) (fun h => by rw [h]) (fun hc173 => ?_) (fun hc173 => ?_)
            ·
             have hp := cnd_t hc173 hp
             refine oQ [oF 2] [(77, vP b1 0), (76, .bool true), (3, vP b1 0), (6, vI x4), (7, vI x5), (8, sl A34 l36 c35), (9, vI i39), (11, vP b65 0), (13, vP b151 0), (14, .bool true), (49, sl A_k k c_k), (50, vI (k.length : Int)), (51, vI i39), (60, sl A61 x50.Fields c62), (61, vI (x50.Fields.length : Int)), (62, vI i133)] (by kernel_rfl) ?_
             refine ops_mem (d := some 78) (an := [.v (vI m_0)]) (evs := [ld b1 0 (vI m_0)]) (v := vI m_0) ⟨by kernel_rfl⟩ (fun w_ hM hS => ⟨w_, ⟨hM.cell 0 rfl rfl, rfl⟩, hM, trivial⟩) ?_
             refine oQ [oF 4, oF 5] [(80, .bool (m_0 == 4)), (3, vP b1 0), (6, vI x4), (7, vI x5), (8, sl A34 l36 c35), (9, vI i39), (11, vP b65 0), (13, vP b151 0), (14, .bool true), (49, sl A_k k c_k), (50, vI (k.length : Int)), (51, vI i39), (60, sl A61 x50.Fields c62), (61, vI (x50.Fields.length : Int)), (62, vI i133)] (by kernel_rfl) ?_
             refine ops_nil (fin_then ?_)
             refine st_if (b := (m_0 == 4)) rfl (fun hc174 => ?_) (fun hc174 => ?_)
             ·
              have hp := cnd_t hc174 hp
              refine st_exit (fin_exit_then (fin_exit ?_))
              exact fin_join HJ10 (A128, c129, l130, y131) ⟨hp, h132⟩ (look_has ⟨rfl, rfl, rfl, rfl, rfl, rfl, rfl, rfl, rfl, rfl, rfl, rfl, trivial⟩) (fun w_ hM => hM.pick 6 [0, 1, 2, 3, 5] (by kernel_rfl) (by decide) rfl)
             ·
              have hp := cnd_f hc174 hp
              refine st_skip ?_
              exact fin_join HJ12 true hp (look_has ⟨rfl, rfl, rfl, rfl, rfl, rfl, rfl, rfl, rfl, rfl, rfl, rfl, rfl, rfl, trivial⟩) (fun w_ hM => hM)
            ·
             have hp := cnd_f hc173 hp
             refine oQ [oF 2, oF 3, oF 4, oF 5] [(80, .bool false), (3, vP b1 0), (6, vI x4), (7, vI x5), (8, sl A34 l36 c35), (9, vI i39), (11, vP b65 0), (13, vP b151 0), (14, .bool false), (49, sl A_k k c_k), (50, vI (k.length : Int)), (51, vI i39), (60, sl A61 x50.Fields c62), (61, vI (x50.Fields.length : Int)), (62, vI i133)] (by kernel_rfl) ?_
             refine ops_nil (fin_then (st_false rfl (st_skip ?_)))
             exact fin_join HJ12 false hp (look_has ⟨rfl, rfl, rfl, rfl, rfl, rfl, rfl, rfl, rfl, rfl, rfl, rfl, rfl, rfl, trivial⟩) (fun w_ hM => hM)
          ·
           intro HJ11
           refine st_seq (st_region [oF 0, oF 1, oF 2, oF 3, oF 4, oF 5, oF 6, oF 7, oF 8] (by rfl) ?_)
           refine oQ [oF 0, oF 1, oF 2, oF 3] [(70, .bool (i39 == x4)), (12, vI i133), (13, vP b151 0), (3, vP b1 0), (6, vI x4), (7, vI x5), (8, sl A34 l36 c35), (9, vI i39), (11, vP b65 0), (49, sl A_k k c_k), (50, vI (k.length : Int)), (51, vI i39), (60, sl A61 x50.Fields c62), (61, vI (x50.Fields.length : Int)), (62, vI i133)] (by kernel_rfl) ?_
           refine ops_bool (t := (i39 == x4)) (l1 := [(70, .bool true), (12, vI i133), (13, vP b151 0), (3, vP b1 0), (6, vI x4), (7, vI x5), (8, sl A34 l36 c35), (9, vI i39), (11, vP b65 0), (49, sl A_k k c_k), (50, vI (k.length : Int)), (51, vI i39), (60, sl A61 x50.Fields c62), (61, vI (x50.Fields.length : Int)), (62, vI i133)]) (l2 := [(70, .bool false), (12, vI i133), (13, vP b151 0), (3, vP b1 0), (6, vI x4), (7, vI x5), (8, sl A34 l36 c35), (9, vI i39), (11, vP b65 0), (49, sl A_k k c_k), (50, vI (k.length : Int)), (51, vI i39), (60, sl A61 x50.Fields c62), (61, vI (x50.Fields.length : Int)), (62, vI i133)]) (fun h => by rw [h]) (fun h => by rw [h]) (fun hc175 => ?_) (fun hc175 => ?_)
           ·
            have hp := cnd_t hc175 hp
            refine oQ [oF 4, oF 5, oF 6, oF 7, oF 8] [(14, .bool (i133 == x5)), (13, vP b151 0), (3, vP b1 0), (6, vI x4), (7, vI x5), (8, sl A34 l36 c35), (9, vI i39), (11, vP b65 0), (49, sl A_k k c_k), (50, vI (k.length : Int)), (51, vI i39), (60, sl A61 x50.Fields c62), (61, vI (x50.Fields.length : Int)), (62, vI i133)] (by kernel_rfl) ?_
            refine ops_nil ?_
            exact fin_join HJ11 (i133 == x5) hp (look_has ⟨rfl, rfl, rfl, rfl, rfl, rfl, rfl, rfl, rfl, rfl, rfl, rfl, rfl, rfl, trivial⟩) (fun w_ hM => hM.pick 6 [1, 2, 3, 4, 0, 5] (by kernel_rfl) (by decide) rfl)
           ·
            have hp := cnd_f hc175 hp
            refine oQ [oF 4, oF 5, oF 6, oF 7, oF 8] [(14, .bool false), (13, vP b151 0), (3, vP b1 0), (6, vI x4), (7, vI x5), (8, sl A34 l36 c35), (9, vI i39), (11, vP b65 0), (49, sl A_k k c_k), (50, vI (k.length : Int)), (51, vI i39), (60, sl A61 x50.Fields c62), (61, vI (x50.Fields.length : Int)), (62, vI i133)] (by kernel_rfl) ?_
            refine ops_nil ?_
            exact fin_join HJ11 false hp (look_has ⟨rfl, rfl, rfl, rfl, rfl, rfl, rfl, rfl, rfl, rfl, rfl, rfl, rfl, rfl, trivial⟩) (fun w_ hM => hM.pick 6 [1, 2, 3, 4, 0, 5] (by kernel_rfl) (by decide) rfl)
        ·
         have hp := cnd_f hc134 hp
         refine st_exit (fin_exit_then (fin_exit_then (fin_exit ?_)))
         obtain hq_ := Option.some.inj hp
         subst hq_
         obtain hq_ := hd9 _ rfl
         subst hq_
         have hp : (tourref3_KindsAfter_j6 i39 x4 m_0 m_5 m_6 m_7 l36 m_3 x50) l130 = some o4 := hk9
         exact fin_join HJ6 (A128, c129, l130, y131) ⟨hp, h132⟩ (look_has ⟨rfl, rfl, rfl, rfl, rfl, rfl, rfl, rfl, rfl, trivial⟩) (fun w_ hM => hM)
     ·
      have hp := cnd_f hc42 hp
      refine st_exit (fin_exit_then (fin_exit_then (fin_exit ?_)))
      obtain hq_ := Option.some.inj hp
      subst hq_
      obtain hq_ := hd4 _ rfl
      subst hq_
      have hp : (tourref3_KindsAfter_j2 m_0 m_8 m_9) l36 = some (l9003, i9006) := hk4
      exact fin_join HJ2 (A34, c35, l36, y37, F40, W41) ⟨hp, h38, hx4⟩ (look_has ⟨rfl, rfl, trivial⟩) (fun w_ hM => hM)
   ·
    intro HJ1
    refine st_seq (st_seq (st_region [oF 0, oF 1, oF 2, oF 3, oF 4, oF 5, oF 6, oF 7, oF 8, oF 9, oF 10, oF 11, oF 12, oF 13, oF 14, oF 15] (by rfl) ?_))
    refine oQ [oF 0] [(33, vP b1 0), (7, vI x5), (6, vI x4), (3, vP b1 0), (0, sl A_k k c_k)] (by kernel_rfl) ?_
    refine ops_mem (d := some 34) (an := [.v (vI m_0)]) (evs := [ld b1 0 (vI m_0)]) (v := vI m_0) ⟨by kernel_rfl⟩ (fun w_ hM hS => ⟨w_, ⟨hM.cell 0 rfl rfl, rfl⟩, hM, trivial⟩) ?_
    refine oQ [oF 2, oF 3] [(36, .bool (decide (0 < m_0))), (7, vI x5), (6, vI x4), (3, vP b1 0), (0, sl A_k k c_k)] (by kernel_rfl) ?_
    refine ops_bool (t := decide (0 < m_0)) (l1 := [(36, .bool true), (7, vI x5), (6, vI x4), (3, vP b1 0), (0, sl A_k k c_k)]) (l2 := [(36, .bool false), (7, vI x5), (6, vI x4), (3, vP b1 0), (0, sl A_k k c_k)]) (fun h => by rw [h]) (fun h => by rw [h]) (fun hc176 => ?_) (fun hc176 => ?_)
    ·
     have hp := cnd_t hc176 hp
     refine oQ [oF 4, oF 5, oF 6, oF 7] [(40, .bool (decide (x4 < 0))), (7, vI x5), (6, vI x4), (3, vP b1 0), (0, sl A_k k c_k)] (by kernel_rfl) ?_
     refine ops_bool (t := decide (x4 < 0)) (l1 := [(40, .bool true), (7, vI x5), (6, vI x4), (3, vP b1 0), (0, sl A_k k c_k)]) (l2 := [(40, .bool false), (7, vI x5), (6, vI x4), (3, vP b1 0), (0, sl A_k k c_k)]) (fun h => by rw [h]) (fun h => by rw [h]) (fun hc177 => ?_) (fun hc177 => ?_)
     ·
      have hp := cnd_t hc177 hp
      refine oQ [oF 8, oF 9, oF 10, oF 11, oF 12, oF 13, oF 14, oF 15] [(48, .bool true), (7, vI x5), (6, vI x4), (3, vP b1 0), (0, sl A_k k c_k)] (by kernel_rfl) ?_
      refine ops_nil (fin_then (st_true rfl (st_seq (st_region [oF 0, oF 1] (by rfl) ?_))))
      refine oQ [oF 0, oF 1] [(5, vI 4), (4, .slice none 0 0)] (by kernel_rfl) ?_
      refine ops_nil (fin_then (st_ret (fin_ret_then ?_)))
      refine fin_conv (l' := [(5, vI 4), (4, .slice none 0 0)]) (M' := Mem w0 (ow none ([] : List api_Kind) 0 35 2 [] :: .blk b1 [vI m_0, .string m_1, .string m_2, .string m_3, vI m_4, .string m_5, vI m_6, vI m_7, .string m_8, sl A_m_9 m_9 c_m_9] 37 :: Fz F W :: cs)) rfl (fun w_ h => h.onil none 35 2) ?_
      refine fin_conv (l' := [(5, vI 4), (4, sl none ([] : List api_Kind) 0)]) (M' := Mem w0 (ow none ([] : List api_Kind) 0 35 2 [] :: .blk b1 [vI m_0, .string m_1, .string m_2, .string m_3, vI m_4, .string m_5, vI m_6, vI m_7, .string m_8, sl A_m_9 m_9 c_m_9] 37 :: Fz F W :: cs)) rfl (fun _ h => h) ?_
      have hq_ := Option.some.inj hp
      obtain ⟨hr0_, hq_⟩ := Prod.mk.inj hq_
      have hr1_ := hq_
      subst hr0_
      subst hr1_
      refine fin_ret [.tmp 4, .tmp 5] [sl none ([] : List api_Kind) 0, vI 4] rfl rfl (fun w_ hM => (.tmp rfl (.tmp rfl .nil))) (fun w_ hM => ?_)
      exact ⟨none, 0, [], F, W, ⟨(RepL.nil (R := R_api_Kind)), (Ext.refl _ _ _)⟩, rfl, hM.pick 3 [0, 2] (by kernel_rfl) (by decide) rfl⟩
     ·
      have hp := cnd_f hc177 hp
      refine oQ [oF 8] [(41, vP b1 0), (40, .bool false), (7, vI x5), (6, vI x4), (3, vP b1 0), (0, sl A_k k c_k)] (by kernel_rfl) ?_
      refine ops_mem (d := some 42) (an := [.v (vI m_0)]) (evs := [ld b1 0 (vI m_0)]) (v := vI m_0) ⟨by kernel_rfl⟩ (fun w_ hM hS => ⟨w_, ⟨hM.cell 0 rfl rfl, rfl⟩, hM, trivial⟩) ?_
      refine oQ [oF 10, oF 11] [(44, .bool (decide (3 < m_0))), (40, .bool false), (7, vI x5), (6, vI x4), (3, vP b1 0), (0, sl A_k k c_k)] (by kernel_rfl) ?_
      refine ops_bool (t := decide (3 < m_0)) (l1 := [(44, .bool true), (40, .bool false), (7, vI x5), (6, vI x4), (3, vP b1 0), (0, sl A_k k c_k)]) (l2 := [(44, .bool false), (40, .bool false), (7, vI x5), (6, vI x4), (3, vP b1 0), (0, sl A_k k c_k)]) (fun h => by rw [h]) (fun h => by rw [h]) (fun hc178 => ?_) (fun hc178 => ?_)
      ·
       have hp := cnd_t hc178 hp
       refine oQ [oF 12, oF 13, oF 14, oF 15] [(48, .bool (decide (x5 < 0))), (7, vI x5), (6, vI x4), (3, vP b1 0), (0, sl A_k k c_k)] (by kernel_rfl) ?_
       refine ops_nil (fin_then ?_)
       refine st_if (b := decide (x5 < 0)) rfl (fun hc179 => ?_) (fun hc179 => ?_)
       ·
        have hp := cnd_t hc179 hp
        refine st_seq (st_region [oF 0, oF 1] (by rfl) ?_)
        refine oQ [oF 0, oF 1] [(5, vI 4), (4, .slice none 0 0)] (by kernel_rfl) ?_
        refine ops_nil (fin_then (st_ret (fin_ret_then ?_)))
        refine fin_conv (l' := [(5, vI 4), (4, .slice none 0 0)]) (M' := Mem w0 (ow none ([] : List api_Kind) 0 35 2 [] :: .blk b1 [vI m_0, .string m_1, .string m_2, .string m_3, vI m_4, .string m_5, vI m_6, vI m_7, .string m_8, sl A_m_9 m_9 c_m_9] 37 :: Fz F W :: cs)) rfl (fun w_ h => h.onil none 35 2) ?_
        refine fin_conv (l' := [(5, vI 4), (4, sl none ([] : List api_Kind) 0)]) (M' := Mem w0 (ow none ([] : List api_Kind) 0 35 2 [] :: .blk b1 [vI m_0, .string m_1, .string m_2, .string m_3, vI m_4, .string m_5, vI m_6, vI m_7, .string m_8, sl A_m_9 m_9 c_m_9] 37 :: Fz F W :: cs)) rfl (fun _ h => h) ?_
        have hq_ := Option.some.inj hp
        obtain ⟨hr0_, hq_⟩ := Prod.mk.inj hq_
        have hr1_ := hq_
        subst hr0_
        subst hr1_
        refine fin_ret [.tmp 4, .tmp 5] [sl none ([] : List api_Kind) 0, vI 4] rfl rfl (fun w_ hM => (.tmp rfl (.tmp rfl .nil))) (fun w_ hM => ?_)
        exact ⟨none, 0, [], F, W, ⟨(RepL.nil (R := R_api_Kind)), (Ext.refl _ _ _)⟩, rfl, hM.pick 3 [0, 2] (by kernel_rfl) (by decide) rfl⟩
       ·
        have hp := cnd_f hc179 hp
        refine st_skip ?_
        exact fin_join HJ1 () hp (look_has ⟨rfl, rfl, rfl, rfl, trivial⟩) (fun w_ hM => hM)
      ·
       have hp := cnd_f hc178 hp
       refine oQ [oF 12, oF 13, oF 14, oF 15] [(48, .bool false), (7, vI x5), (6, vI x4), (3, vP b1 0), (0, sl A_k k c_k)] (by kernel_rfl) ?_
       refine ops_nil (fin_then (st_false rfl (st_skip ?_)))
       exact fin_join HJ1 () hp (look_has ⟨rfl, rfl, rfl, rfl, trivial⟩) (fun w_ hM => hM)
    ·
     have hp := cnd_f hc176 hp
     refine oQ [oF 4, oF 5, oF 6, oF 7, oF 8] [(41, vP b1 0), (40, .bool false), (7, vI x5), (6, vI x4), (3, vP b1 0), (0, sl A_k k c_k)] (by kernel_rfl) ?_
     refine ops_mem (d := some 42) (an := [.v (vI m_0)]) (evs := [ld b1 0 (vI m_0)]) (v := vI m_0) ⟨by kernel_rfl⟩ (fun w_ hM hS => ⟨w_, ⟨hM.cell 0 rfl rfl, rfl⟩, hM, trivial⟩) ?_
     refine oQ [oF 10, oF 11] [(44, .bool (decide (3 < m_0))), (40, .bool false), (7, vI x5), (6, vI x4), (3, vP b1 0), (0, sl A_k k c_k)] (by kernel_rfl) ?_
     refine ops_bool (t := decide (3 < m_0)) (l1 := [(44, .bool true), (40, .bool false), (7, vI x5), (6, vI x4), (3, vP b1 0), (0, sl A_k k c_k)]) (l2 := [(44, .bool false), (40, .bool false), (7, vI x5), (6, vI x4), (3, vP b1 0), (0, sl A_k k c_k)]) (fun h => by rw [h]) (fun h => by rw [h]) (fun hc180 => ?_) (fun hc180 => ?_)
     ·
      have hp := cnd_t hc180 hp
      refine oQ [oF 12, oF 13, oF 14, oF 15] [(48, .bool (decide (x5 < 0))), (7, vI x5), (6, vI x4), (3, vP b1 0), (0, sl A_k k c_k)] (by kernel_rfl) ?_
      refine ops_nil (fin_then ?_)
      refine st_if (b := decide (x5 < 0)) rfl (fun hc181 => ?_) (fun hc181 => ?_)
      ·
       have hp := cnd_t hc181 hp
       refine st_seq (st_region [oF 0, oF 1] (by rfl) ?_)
       refine oQ [oF 0, oF 1] [(5, vI 4), (4, .slice none 0 0)] (by kernel_rfl) ?_
       refine ops_nil (fin_then (st_ret (fin_ret_then ?_)))
       refine fin_conv (l' := [(5, vI 4), (4, .slice none 0 0)]) (M' := Mem w0 (ow none ([] : List api_Kind) 0 35 2 [] :: .blk b1 [vI m_0, .string m_1, .string m_2, .string m_3, vI m_4, .string m_5, vI m_6, vI m_7, .string m_8, sl A_m_9 m_9 c_m_9] 37 :: Fz F W :: cs)) rfl (fun w_ h => h.onil none 35 2) ?_
       refine fin_conv (l' := [(5, vI 4), (4, sl none ([] : List api_Kind) 0)]) (M' := Mem w0 (ow none ([] : List api_Kind) 0 35 2 [] :: .blk b1 [vI m_0, .string m_1, .string m_2, .string m_3, vI m_4, .string m_5, vI m_6, vI m_7, .string m_8, sl A_m_9 m_9 c_m_9] 37 :: Fz F W :: cs)) rfl (fun _ h => h) ?_
       have hq_ := Option.some.inj hp
       obtain ⟨hr0_, hq_⟩ := Prod.mk.inj hq_
       have hr1_ := hq_
       subst hr0_
       subst hr1_
       refine fin_ret [.tmp 4, .tmp 5] [sl none ([] : List api_Kind) 0, vI 4] rfl rfl (fun w_ hM => (.tmp rfl (.tmp rfl .nil))) (fun w_ hM => ?_)
       exact ⟨none, 0, [], F, W, ⟨(RepL.nil (R := R_api_Kind)), (Ext.refl _ _ _)⟩, rfl, hM.pick 3 [0, 2] (by kernel_rfl) (by decide) rfl⟩
      ·
       have hp := cnd_f hc181 hp
       refine st_skip ?_
       exact fin_join HJ1 () hp (look_has ⟨rfl, rfl, rfl, rfl, trivial⟩) (fun w_ hM => hM)
     ·
      have hp := cnd_f hc180 hp
      refine oQ [oF 12, oF 13, oF 14, oF 15] [(48, .bool false), (7, vI x5), (6, vI x4), (3, vP b1 0), (0, sl A_k k c_k)] (by kernel_rfl) ?_
      refine ops_nil (fin_then (st_false rfl (st_skip ?_)))
      exact fin_join HJ1 () hp (look_has ⟨rfl, rfl, rfl, rfl, trivial⟩) (fun w_ hM => hM)
end Go.Proofs.YtnnhijlgohlaeaaDoor.A
