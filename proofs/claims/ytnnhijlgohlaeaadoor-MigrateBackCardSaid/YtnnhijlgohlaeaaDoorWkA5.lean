/- The Go functions come to what the plain functions tell. No condition. -/
import Derived.Test.YtnnhijlgohlaeaaDoorProg
import Derived.Test.YtnnhijlgohlaeaaDoorFnA
import Derived.Test.YtnnhijlgohlaeaaDoorWkA0
import Derived.Test.YtnnhijlgohlaeaaDoorWkA1
import Derived.Test.YtnnhijlgohlaeaaDoorWkA3
import Derived.Test.YtnnhijlgohlaeaaDoorWkA4
import Derived.Test.YtnnhijlgohlaeaaDoorExOwnM
namespace Go.Proofs.YtnnhijlgohlaeaaDoor.A
open Go Go.RowKit Go.Proofs.YtnnhijlgohlaeaaDoor.Sx
set_option linter.unusedVariables false
set_option maxHeartbeats 4000000
set_option maxRecDepth 100000
theorem migrate_one_ok (w0 w : World) (cs : List Chunk) (F : Nat → Prop) (W : World) (A_k : Option Addr) (c_k : Nat) (k : List api_Kind) (m_0 : Int) (m_1 : ByteArray) (m_2 : ByteArray) (m_3 : ByteArray) (m_4 : Int) (m_5 : ByteArray) (m_6 : Int) (m_7 : Int) (m_8 : ByteArray) (A_m_9 : Option Addr) (c_m_9 : Nat) (m_9 : List api_Field) (hM0 : Mem w0 (Fz F W :: cs) w) (h_k : RdS R_api_Kind F W A_k c_k k) (h_m_9 : RdS R_api_Field F W A_m_9 c_m_9 m_9) (l9003 : List api_Kind) (i9007 : Int) (hp : migrate_one k m_0 m_1 m_2 m_3 m_4 m_5 m_6 m_7 m_8 m_9 = some (l9003, i9007)) : Calls Tryd.prog 44 #[sl A_k k c_k, .agg #[vI m_0, .string m_1, .string m_2, .string m_3, vI m_4, .string m_5, vI m_6, vI m_7, .string m_8, sl A_m_9 m_9 c_m_9]] w fun e w' => ∃ (A9001 : Option Addr), ∃ (c9002 : Nat), ∃ (y9004 : List Value), ∃ (K9006 : Chunk), ∃ (F9008 : Nat → Prop), ∃ (W9009 : World), ((OwL O_api_Kind_rw F9008 W9009 l9003 y9004 K9006) ∧ (Ext w0 F W F9008 W9009)) ∧ e = .returned (.tuple #[sl A9001 l9003 c9002, vI i9007]) ∧ Mem w0 (ow A9001 l9003 c9002 35 2 y9004 :: K9006 :: Fz F9008 W9009 :: cs) w' := by
 unfold migrate_one at hp
 refine sx_calls Tryd.func44 rfl (n := 120) (by kernel_rfl) (l := [(0, sl A_k k c_k), (1, .agg #[vI m_0, .string m_1, .string m_2, .string m_3, vI m_4, .string m_5, vI m_6, vI m_7, .string m_8, sl A_m_9 m_9 c_m_9])]) rfl (by rfl) hM0 ?_
 refine st_seq (st_region [oF 0, oF 1, oF 2] (by rfl) ?_)
 refine ops_newB (d := some 3) [vI m_0, .string m_1, .string m_2, .string m_3, vI m_4, .string m_5, vI m_6, vI m_7, .string m_8, sl A_m_9 m_9 c_m_9] 37 (fun b1 => ⟨by kernel_rfl⟩) (fun w_ hM hS => trivial) (fun b1 => ?_)
 refine oQ [oF 1, oF 2] [(3, vP b1 0), (0, sl A_k k c_k)] (by kernel_rfl) ?_
 refine ops_nil (fin_then (st_seq (st_region [oF 0, oF 1, oF 2, oF 3, oF 4, oF 5, oF 6, oF 7, oF 8, oF 9] (by rfl) ?_)))
 refine oQ [oF 0] [(12, sl A_k k c_k), (3, vP b1 0), (0, sl A_k k c_k)] (by kernel_rfl) ?_
 refine ops_mem (d := some 13) (an := [.v (vI m_0), .v (.string m_1), .v (.string m_2), .v (.string m_3), .v (vI m_4), .v (.string m_5), .v (vI m_6), .v (vI m_7), .v (.string m_8), .v (sl A_m_9 m_9 c_m_9)]) (evs := [ld b1 0 (vI m_0), ld b1 1 (.string m_1), ld b1 2 (.string m_2), ld b1 3 (.string m_3), ld b1 4 (vI m_4), ld b1 5 (.string m_5), ld b1 6 (vI m_6), ld b1 7 (vI m_7), ld b1 8 (.string m_8), ld b1 9 (sl A_m_9 m_9 c_m_9)]) (v := .agg #[vI m_0, .string m_1, .string m_2, .string m_3, vI m_4, .string m_5, vI m_6, vI m_7, .string m_8, sl A_m_9 m_9 c_m_9]) ⟨by kernel_rfl⟩ (fun w_ hM hS => ⟨w_, ⟨hM.cell 0 rfl rfl, hM.cell 0 rfl rfl, hM.cell 0 rfl rfl, hM.cell 0 rfl rfl, hM.cell 0 rfl rfl, hM.cell 0 rfl rfl, hM.cell 0 rfl rfl, hM.cell 0 rfl rfl, hM.cell 0 rfl rfl, hM.cell 0 rfl rfl, rfl⟩, hM, trivial⟩) ?_
 obtain ⟨x2, x3, x4, hv5, hp⟩ := obind3 hp
 refine ops_callI (σ := Unit) (d := some 14) (f := 55) (args := #[sl A_k k c_k, .agg #[vI m_0, .string m_1, .string m_2, .string m_3, vI m_4, .string m_5, vI m_6, vI m_7, .string m_8, sl A_m_9 m_9 c_m_9]]) (v := (fun _ => .tuple #[vI x2, vI x3, vI x4])) (I := (fun _ => True)) (M' := (fun _ => Mem w0 (.blk b1 [vI m_0, .string m_1, .string m_2, .string m_3, vI m_4, .string m_5, vI m_6, vI m_7, .string m_8, sl A_m_9 m_9 c_m_9] 37 :: Fz F W :: cs))) ⟨by kernel_rfl⟩ (fun w_ hM hS => (migrate_place_ok w0 w_ (.blk b1 [vI m_0, .string m_1, .string m_2, .string m_3, vI m_4, .string m_5, vI m_6, vI m_7, .string m_8, sl A_m_9 m_9 c_m_9] 37 :: cs) F W A_k c_k k m_0 m_1 m_2 m_3 m_4 m_5 m_6 m_7 m_8 A_m_9 c_m_9 m_9 (hM.pick 2 [1, 0] (by kernel_rfl) (by decide) rfl) h_k h_m_9 x2 x3 x4 hv5).mono (by rintro e w' ⟨-, rfl, h'⟩; have h' : Mem w0 (.blk b1 [vI m_0, .string m_1, .string m_2, .string m_3, vI m_4, .string m_5, vI m_6, vI m_7, .string m_8, sl A_m_9 m_9 c_m_9] 37 :: Fz F W :: cs) w' := (h'.pick 2 [1, 0] (by kernel_rfl) (by decide) rfl); exact ⟨(), trivial, rfl, h', trivial⟩)) ?_
 rintro _ -
 refine oQ [oF 3, oF 4, oF 5, oF 6, oF 7, oF 8, oF 9] [(8, vI x4), (7, vI x3), (6, vI x2), (3, vP b1 0), (0, sl A_k k c_k)] (by kernel_rfl) ?_
 refine ops_nil (fin_then (st_seq (st_seq (st_region [oF 0, oF 1] (by rfl) ?_))))
 refine oQ [oF 0, oF 1] [(19, .bool (!(x4 == 0))), (8, vI x4), (7, vI x3), (6, vI x2), (3, vP b1 0), (0, sl A_k k c_k)] (by kernel_rfl) ?_
 refine ops_nil (fin_then ?_)
 refine st_if (b := !(x4 == 0)) rfl (fun hc6 => ?_) (fun hc6 => ?_)
 ·
  have hp := cnd_t hc6 hp
  refine st_seq (st_region [oF 0, oF 1, oF 2] (by rfl) ?_)
  refine oQ [oF 0, oF 1, oF 2] [(5, vI x4), (4, .slice none 0 0)] (by kernel_rfl) ?_
  refine ops_nil (fin_then (st_ret (fin_ret_then ?_)))
  refine fin_conv (l' := [(5, vI x4), (4, .slice none 0 0)]) (M' := Mem w0 (ow none ([] : List api_Kind) 0 35 2 [] :: (Sx.bundle []) :: .blk b1 [vI m_0, .string m_1, .string m_2, .string m_3, vI m_4, .string m_5, vI m_6, vI m_7, .string m_8, sl A_m_9 m_9 c_m_9] 37 :: Fz F W :: cs)) rfl (fun w_ h => h.bnil.onil none 35 2) ?_
  refine fin_conv (l' := [(5, vI x4), (4, sl none ([] : List api_Kind) 0)]) (M' := Mem w0 (ow none ([] : List api_Kind) 0 35 2 [] :: (Sx.bundle []) :: .blk b1 [vI m_0, .string m_1, .string m_2, .string m_3, vI m_4, .string m_5, vI m_6, vI m_7, .string m_8, sl A_m_9 m_9 c_m_9] 37 :: Fz F W :: cs)) rfl (fun _ h => h) ?_
  have hq_ := Option.some.inj hp
  obtain ⟨hr0_, hq_⟩ := Prod.mk.inj hq_
  have hr1_ := hq_
  subst hr0_
  subst hr1_
  refine fin_ret [.tmp 4, .tmp 5] [sl none ([] : List api_Kind) 0, vI x4] rfl rfl (fun w_ hM => (.tmp rfl (.tmp rfl .nil))) (fun w_ hM => ?_)
  exact ⟨none, 0, [], (Sx.bundle []), F, W, ⟨(OwL.nil (O := O_api_Kind_rw)), (Ext.refl _ _ _)⟩, rfl, hM.pick 4 [0, 1, 3] (by kernel_rfl) (by decide) rfl⟩
 ·
  have hp := cnd_f hc6 hp
  refine st_skip (fin_then (st_seq (st_region [oF 0, oF 1, oF 2] (by rfl) ?_)))
  refine oQ [oF 0] [(21, sl A_k k c_k), (7, vI x3), (6, vI x2), (3, vP b1 0)] (by kernel_rfl) ?_
  obtain ⟨x7, hv8, hp⟩ := obind hp
  refine ops_callI (σ := (Option Addr) × Nat × (List Value) × Chunk) (d := some 22) (f := 51) (args := #[sl A_k k c_k]) (v := (fun x_ => match x_ with | (A9, c10, y11, K12) => sl A9 x7 c10)) (I := (fun x_ => match x_ with | (A9, c10, y11, K12) => (OwL O_api_Kind_rw F W x7 y11 K12))) (M' := (fun x_ => match x_ with | (A9, c10, y11, K12) => Mem w0 (ow A9 x7 c10 35 2 y11 :: K12 :: .blk b1 [vI m_0, .string m_1, .string m_2, .string m_3, vI m_4, .string m_5, vI m_6, vI m_7, .string m_8, sl A_m_9 m_9 c_m_9] 37 :: Fz F W :: cs))) ⟨by kernel_rfl⟩ (fun w_ hM hS => (kind_Copy_ok w0 w_ (.blk b1 [vI m_0, .string m_1, .string m_2, .string m_3, vI m_4, .string m_5, vI m_6, vI m_7, .string m_8, sl A_m_9 m_9 c_m_9] 37 :: cs) F W A_k c_k k (hM.pick 2 [1, 0] (by kernel_rfl) (by decide) rfl) h_k x7 hv8).mono (by rintro e w' ⟨A9, c10, y11, K12, h13, rfl, h'⟩; have h' : Mem w0 (ow A9 x7 c10 35 2 y11 :: K12 :: .blk b1 [vI m_0, .string m_1, .string m_2, .string m_3, vI m_4, .string m_5, vI m_6, vI m_7, .string m_8, sl A_m_9 m_9 c_m_9] 37 :: Fz F W :: cs) w' := (h'.pick 4 [0, 1, 3, 2] (by kernel_rfl) (by decide) rfl); exact ⟨(A9, c10, y11, K12), h13, rfl, h', trivial⟩)) ?_
  rintro ⟨A9, c10, y11, K12⟩ h13
  refine oQ [oF 2] [(9, sl A9 x7 c10), (7, vI x3), (6, vI x2), (3, vP b1 0)] (by kernel_rfl) ?_
  refine ops_nil (fin_then ?_)
  refine st_join1 (σ := (Option Addr) × Nat × (List api_Kind) × (List Value) × Chunk × (Nat → Prop) × World) (L := fun x_ => match x_ with | (A14, c15, l16, y17, K19, F20, W21) => [(9, sl A14 l16 c15)]) (N := fun x_ => match x_ with | (A14, c15, l16, y17, K19, F20, W21) => Mem w0 (ow A14 l16 c15 35 2 y17 :: K19 :: Fz F20 W21 :: cs)) (I := fun x_ => match x_ with | (A14, c15, l16, y17, K19, F20, W21) => (migrate_one_j1 l16 = some (l9003, i9007)) ∧ (OwL O_api_Kind_rw F20 W21 l16 y17 K19) ∧ (Ext w0 F W F20 W21)) ?_ ?_
  ·
   rintro ⟨A14, c15, l16, y17, K19, F20, W21⟩ ⟨hp, h18, hx1⟩
   unfold migrate_one_j1 at hp
   refine st_seq (st_seq (st_region [oF 0, oF 1, oF 2] (by rfl) ?_))
   refine oQ [oF 0] [(114, sl A14 l16 c15), (9, sl A14 l16 c15)] (by kernel_rfl) ?_
   obtain ⟨x22, hv23, hp⟩ := obind hp
   refine ops_callI (σ := Unit) (d := some 115) (f := 50) (args := #[sl A14 l16 c15]) (v := (fun _ => vI x22)) (I := (fun _ => True)) (M' := (fun _ => Mem w0 (ow A14 l16 c15 35 2 y17 :: K19 :: Fz F20 W21 :: cs))) ⟨by kernel_rfl⟩ (fun w_ hM hS => (kind_Check_ok w_ w_ [] (fun b => b < w_.heap.size) w_ A14 c15 l16 (Mem.fz0 w_) ((hM.pick 3 [0, 1, 2] (by kernel_rfl) (by decide) rfl : Mem w0 (ow A14 l16 c15 35 2 y17 :: K19 :: Fz F20 W21 :: cs) w_).ownS h18 rfl rfl) x22 hv23).mono (by rintro e w' ⟨-, rfl, h'⟩; have h' : Mem w_ [] w' := h'.pick 1 [] (by kernel_rfl) (by decide) rfl; exact ⟨(), trivial, rfl, hM.join h' rfl, trivial⟩)) ?_
   rintro _ -
   refine oQ [oF 2] [(10, vI x22), (9, sl A14 l16 c15)] (by kernel_rfl) ?_
   refine ops_nil (fin_then (st_seq (st_region [oF 0, oF 1] (by rfl) ?_)))
   refine oQ [oF 0, oF 1] [(117, .bool (!(x22 == 0))), (10, vI x22), (9, sl A14 l16 c15)] (by kernel_rfl) ?_
   refine ops_nil (fin_then ?_)
   refine st_if (b := !(x22 == 0)) rfl (fun hc24 => ?_) (fun hc24 => ?_)
   ·
    have hp := cnd_t hc24 hp
    refine st_seq (st_region [oF 0, oF 1, oF 2] (by rfl) ?_)
    refine oQ [oF 0, oF 1, oF 2] [(5, vI x22), (4, .slice none 0 0)] (by kernel_rfl) ?_
    refine ops_nil (fin_then (st_ret (fin_ret_then ?_)))
    refine fin_conv (l' := [(5, vI x22), (4, .slice none 0 0)]) (M' := Mem w0 (ow none ([] : List api_Kind) 0 35 2 [] :: (Sx.bundle []) :: ow A14 l16 c15 35 2 y17 :: K19 :: Fz F20 W21 :: cs)) rfl (fun w_ h => h.bnil.onil none 35 2) ?_
    refine fin_conv (l' := [(5, vI x22), (4, sl none ([] : List api_Kind) 0)]) (M' := Mem w0 (ow none ([] : List api_Kind) 0 35 2 [] :: (Sx.bundle []) :: ow A14 l16 c15 35 2 y17 :: K19 :: Fz F20 W21 :: cs)) rfl (fun _ h => h) ?_
    have hq_ := Option.some.inj hp
    obtain ⟨hr0_, hq_⟩ := Prod.mk.inj hq_
    have hr1_ := hq_
    subst hr0_
    subst hr1_
    refine fin_ret [.tmp 4, .tmp 5] [sl none ([] : List api_Kind) 0, vI x22] rfl rfl (fun w_ hM => (.tmp rfl (.tmp rfl .nil))) (fun w_ hM => ?_)
    exact ⟨none, 0, [], (Sx.bundle []), F20, W21, ⟨(OwL.nil (O := O_api_Kind_rw)), hx1⟩, rfl, hM.pick 5 [0, 1, 4] (by kernel_rfl) (by decide) rfl⟩
   ·
    have hp := cnd_f hc24 hp
    refine st_skip (fin_then (st_seq (st_region [oF 0, oF 1, oF 2] (by rfl) ?_)))
    refine oQ [oF 0, oF 1, oF 2] [(5, vI 0), (4, sl A14 l16 c15)] (by kernel_rfl) ?_
    refine ops_nil (fin_then (st_ret ?_))
    have hq_ := Option.some.inj hp
    obtain ⟨hr0_, hq_⟩ := Prod.mk.inj hq_
    have hr1_ := hq_
    subst hr0_
    subst hr1_
    refine fin_ret [.tmp 4, .tmp 5] [sl A14 l16 c15, vI 0] rfl rfl (fun w_ hM => (.tmp rfl (.tmp rfl .nil))) (fun w_ hM => ?_)
    exact ⟨A14, c15, y17, K19, F20, W21, ⟨h18, hx1⟩, rfl, hM⟩
  ·
   intro HJ1
   refine st_seq (st_seq (st_region [oF 0, oF 1] (by rfl) ?_))
   refine oQ [oF 0] [(23, vP b1 0), (9, sl A9 x7 c10), (7, vI x3), (6, vI x2), (3, vP b1 0)] (by kernel_rfl) ?_
   refine ops_mem (d := some 24) (an := [.v (vI m_0)]) (evs := [ld b1 0 (vI m_0)]) (v := vI m_0) ⟨by kernel_rfl⟩ (fun w_ hM hS => ⟨w_, ⟨hM.cell 2 rfl rfl, rfl⟩, hM, trivial⟩) ?_
   refine ops_nil (fin_then (st_block (st_seq (st_region [oF 0, oF 1] (by rfl) ?_))))
   refine oQ [oF 0, oF 1] [(25, .bool (m_0 == 0)), (24, vI m_0), (9, sl A9 x7 c10), (7, vI x3), (6, vI x2), (3, vP b1 0)] (by kernel_rfl) ?_
   refine ops_nil (fin_then ?_)
   refine st_if (b := (m_0 == 0)) rfl (fun hc25 => ?_) (fun hc25 => ?_)
   ·
    have hp := cnd_t hc25 hp
    refine st_region [oF 0, oF 1, oF 2, oF 3, oF 4, oF 5, oF 6] (by rfl) ?_
    refine oQ [oF 0, oF 1] [(28, vP b1 8), (27, sl A9 x7 c10), (9, sl A9 x7 c10)] (by kernel_rfl) ?_
    refine ops_mem (d := some 29) (an := [.v (.string m_8), .v (sl A_m_9 m_9 c_m_9)]) (evs := [ld b1 8 (.string m_8), ld b1 9 (sl A_m_9 m_9 c_m_9)]) (v := .agg #[.string m_8, sl A_m_9 m_9 c_m_9]) ⟨by kernel_rfl⟩ (fun w_ hM hS => ⟨w_, ⟨hM.cell 2 rfl rfl, hM.cell 2 rfl rfl, rfl⟩, hM, trivial⟩) ?_
    have h26 : RepL R_api_Kind F W ([(api_Kind.mk m_8 m_9)] : List api_Kind) ([.string m_8, sl A_m_9 m_9 c_m_9]) := (RepL.cons (R := R_api_Kind) (F := F) (w := W) (vs := [.string m_8, sl A_m_9 m_9 c_m_9]) (ys := []) (enc_api_Kind h_m_9) RepL.nil)
    refine ops_new (d := some 30) (o := .cells ([.string m_8, sl A_m_9 m_9 c_m_9]).toArray 35) (v := fun g27 => .slice (sa g27) ([(api_Kind.mk m_8 m_9)] : List api_Kind).length 1) (M' := fun g27 => Mem w0 (orow (sa g27) ([(api_Kind.mk m_8 m_9)] : List api_Kind).length 1 35 2 ([.string m_8, sl A_m_9 m_9 c_m_9]) :: ow A9 x7 c10 35 2 y11 :: K12 :: .blk b1 [vI m_0, .string m_1, .string m_2, .string m_3, vI m_4, .string m_5, vI m_6, vI m_7, .string m_8, sl A_m_9 m_9 c_m_9] 37 :: Fz F W :: cs)) (fun g27 => ⟨by kernel_rfl⟩) (fun w_ hM hS => ⟨hM.onew [.string m_8, sl A_m_9 m_9 c_m_9] 35 1 2 rfl (by decide), trivial⟩) (fun g27 => ?_)
    refine ops_ex (σ := (Nat → Prop) × World) (I := fun x_ => Ext w0 F W x_.1 x_.2 ∧ RdS R_api_Kind x_.1 x_.2 (sa g27) 1 ([(api_Kind.mk m_8 m_9)] : List api_Kind)) (M' := fun x_ => Mem w0 (ow A9 x7 c10 35 2 y11 :: K12 :: .blk b1 [vI m_0, .string m_1, .string m_2, .string m_3, vI m_4, .string m_5, vI m_6, vI m_7, .string m_8, sl A_m_9 m_9 c_m_9] 37 :: Fz x_.1 x_.2 :: cs)) (fun w_ hM => ?_) ?_
    · obtain ⟨F_, h1_, h2_, h3_⟩ := (hM.pick 5 [0, 4, 1, 2, 3] (by kernel_rfl) (by decide) rfl : Mem w0 (orow (sa g27) ([(api_Kind.mk m_8 m_9)] : List api_Kind).length 1 35 2 ([.string m_8, sl A_m_9 m_9 c_m_9]) :: Fz F W :: ow A9 x7 c10 35 2 y11 :: K12 :: .blk b1 [vI m_0, .string m_1, .string m_2, .string m_3, vI m_4, .string m_5, vI m_6, vI m_7, .string m_8, sl A_m_9 m_9 c_m_9] 37 :: cs) w_).freeze (z := 2) h26 rfl rfl
      exact ⟨(F_, w_), ⟨h1_, h2_⟩, h3_.pick 4 [1, 2, 3, 0] (by kernel_rfl) (by decide) rfl⟩
    rintro ⟨F28, W29⟩ ⟨hx30, h31⟩
    have hx30 : Ext w0 F W F28 W29 := hx30
    have h31 : RdS R_api_Kind F28 W29 (sa g27) 1 ([(api_Kind.mk m_8 m_9)] : List api_Kind) := h31
    have h13 := h13.ext hx30
    have h_m_9 := h_m_9.ext hx30
    obtain ⟨x32, hv33, hp⟩ := obind hp
    refine ops_callI (σ := (Option Addr) × Nat × (List Value) × Chunk) (d := some 31) (f := 51) (args := #[.slice (sa g27) ([(api_Kind.mk m_8 m_9)] : List api_Kind).length 1]) (v := (fun x_ => match x_ with | (A34, c35, y36, K37) => sl A34 x32 c35)) (I := (fun x_ => match x_ with | (A34, c35, y36, K37) => (OwL O_api_Kind_rw F28 W29 x32 y36 K37))) (M' := (fun x_ => match x_ with | (A34, c35, y36, K37) => Mem w0 (ow A34 x32 c35 35 2 y36 :: K37 :: ow A9 x7 c10 35 2 y11 :: K12 :: .blk b1 [vI m_0, .string m_1, .string m_2, .string m_3, vI m_4, .string m_5, vI m_6, vI m_7, .string m_8, sl A_m_9 m_9 c_m_9] 37 :: Fz F28 W29 :: cs))) ⟨by kernel_rfl⟩ (fun w_ hM hS => (kind_Copy_ok w0 w_ (ow A9 x7 c10 35 2 y11 :: K12 :: .blk b1 [vI m_0, .string m_1, .string m_2, .string m_3, vI m_4, .string m_5, vI m_6, vI m_7, .string m_8, sl A_m_9 m_9 c_m_9] 37 :: cs) F28 W29 (sa g27) 1 ([(api_Kind.mk m_8 m_9)] : List api_Kind) (hM.pick 4 [3, 0, 1, 2] (by kernel_rfl) (by decide) rfl) h31 x32 hv33).mono (by rintro e w' ⟨A34, c35, y36, K37, h38, rfl, h'⟩; have h' : Mem w0 (ow A34 x32 c35 35 2 y36 :: K37 :: ow A9 x7 c10 35 2 y11 :: K12 :: .blk b1 [vI m_0, .string m_1, .string m_2, .string m_3, vI m_4, .string m_5, vI m_6, vI m_7, .string m_8, sl A_m_9 m_9 c_m_9] 37 :: Fz F28 W29 :: cs) w' := (h'.pick 6 [0, 1, 3, 4, 5, 2] (by kernel_rfl) (by decide) rfl); exact ⟨(A34, c35, y36, K37), h38, rfl, h', trivial⟩)) ?_
    rintro ⟨A34, c35, y36, K37⟩ h38
    refine oQ [] [(31, sl A34 x32 c35), (27, sl A9 x7 c10), (9, sl A9 x7 c10)] (by kernel_rfl) ?_
    obtain ⟨l39, hv40, hp⟩ := obind hp
    obtain ⟨he41, hb42⟩ := app_some hv40
    obtain ⟨y43, hy44⟩ : ∃ y_, y11 ++ y36 = y_ := ⟨_, rfl⟩
    obtain ⟨K47, h45, hm46⟩ := OwL.app h13 h38
    rw [← he41, hy44] at h45
    refine ops_appendO (x := (Go.Operand.tmp 27)) (y := (Go.Operand.tmp 31)) (t := 22) (e := 35) (d := some 32) (n' := l39.length) (z := 2) (m := x32.length) (bytes := 40) (xs' := y43) (news := y36) (zv := .agg #[.string ByteArray.empty, .slice none 0 0]) 2 ⟨by kernel_rfl⟩ rfl rfl Tryd.underlying22 (by kernel_rfl) (by rfl) rfl (fun w_ hM => hM.srcO 0 rfl) h38.len h38.one hb42 (by have z_ := congrArg List.length he41; rw [List.length_append] at z_; exact z_.symm) hy44 (fun _ _ _ _ hS h' => trivial) ?_
    rintro ⟨A48, c49⟩
    refine ops_conv (l' := [(32, sl A48 l39 c49), (31, sl A34 x32 c35), (27, sl A9 x7 c10), (9, sl A9 x7 c10)]) (M' := Mem w0 (ow A48 l39 c49 35 2 y43 :: K47 :: .blk b1 [vI m_0, .string m_1, .string m_2, .string m_3, vI m_4, .string m_5, vI m_6, vI m_7, .string m_8, sl A_m_9 m_9 c_m_9] 37 :: Fz F28 W29 :: cs)) rfl (fun w_ h => (hm46 (h.pick 6 [3, 1, 2, 4, 5] (by kernel_rfl) (by decide) rfl)).pick 4 [1, 0, 2, 3] (by kernel_rfl) (by decide) rfl) ?_
    refine oQ [oF 6] [(9, sl A48 l39 c49)] (by kernel_rfl) ?_
    refine ops_nil (fin_block ?_)
    exact fin_join HJ1 (A48, c49, l39, y43, K47, F28, W29) ⟨hp, h45, hx30⟩ (look_has ⟨rfl, trivial⟩) (fun w_ hM => hM.pick 4 [0, 1, 3] (by kernel_rfl) (by decide) rfl)
   ·
    have hp := cnd_f hc25 hp
    refine st_seq (st_region [oF 0, oF 1] (by rfl) ?_)
    refine oQ [oF 0, oF 1] [(33, .bool (m_0 == 1)), (24, vI m_0), (9, sl A9 x7 c10), (7, vI x3), (6, vI x2), (3, vP b1 0)] (by kernel_rfl) ?_
    refine ops_nil (fin_then ?_)
    refine st_if (b := (m_0 == 1)) rfl (fun hc50 => ?_) (fun hc50 => ?_)
    ·
     have hp := cnd_t hc50 hp
     refine st_region [oF 0, oF 1, oF 2, oF 3, oF 4, oF 5] (by rfl) ?_
     refine oQ [oF 0, oF 1, oF 2, oF 3] [(38, vI (IntKind.i64.wrap (x2 + 1))), (36, vI x2), (35, sl A9 x7 c10), (9, sl A9 x7 c10)] (by kernel_rfl) ?_
     obtain ⟨x51, hv52, hp⟩ := obind hp
     refine ops_callI (σ := (List Value) × Chunk) (d := some 39) (f := 98) (args := #[sl A9 x7 c10, vI x2, vI (IntKind.i64.wrap (x2 + 1))]) (v := (fun x_ => match x_ with | (y53, K54) => sl A9 x51 c10)) (I := (fun x_ => match x_ with | (y53, K54) => (OwL O_api_Kind_rw F W x51 y53 K54))) (M' := (fun x_ => match x_ with | (y53, K54) => Mem w0 (ow A9 x51 c10 35 2 y53 :: K54 :: .blk b1 [vI m_0, .string m_1, .string m_2, .string m_3, vI m_4, .string m_5, vI m_6, vI m_7, .string m_8, sl A_m_9 m_9 c_m_9] 37 :: Fz F W :: cs))) ⟨by kernel_rfl⟩ (fun w_ hM hS => (slices_Delete_api_Kind_api_Kind_ok w0 w_ (.blk b1 [vI m_0, .string m_1, .string m_2, .string m_3, vI m_4, .string m_5, vI m_6, vI m_7, .string m_8, sl A_m_9 m_9 c_m_9] 37 :: cs) F W A9 c10 x7 y11 K12 x2 (IntKind.i64.wrap (x2 + 1)) (hM.pick 4 [0, 1, 3, 2] (by kernel_rfl) (by decide) rfl) h13 x51 hv52).mono (by rintro e w' ⟨y53, K54, h55, rfl, h'⟩; have h' : Mem w0 (ow A9 x51 c10 35 2 y53 :: K54 :: .blk b1 [vI m_0, .string m_1, .string m_2, .string m_3, vI m_4, .string m_5, vI m_6, vI m_7, .string m_8, sl A_m_9 m_9 c_m_9] 37 :: Fz F W :: cs) w' := (h'.pick 4 [0, 1, 3, 2] (by kernel_rfl) (by decide) rfl); exact ⟨(y53, K54), h55, rfl, h', trivial⟩)) ?_
     rintro ⟨y53, K54⟩ h55
     refine oQ [oF 5] [(9, sl A9 x51 c10)] (by kernel_rfl) ?_
     refine ops_nil (fin_block ?_)
     exact fin_join HJ1 (A9, c10, x51, y53, K54, F, W) ⟨hp, h55, (Ext.refl _ _ _)⟩ (look_has ⟨rfl, trivial⟩) (fun w_ hM => hM.pick 4 [0, 1, 3] (by kernel_rfl) (by decide) rfl)
    ·
     have hp := cnd_f hc50 hp
     refine st_seq (st_region [oF 0, oF 1] (by rfl) ?_)
     refine oQ [oF 0, oF 1] [(40, .bool (m_0 == 2)), (24, vI m_0), (9, sl A9 x7 c10), (7, vI x3), (6, vI x2), (3, vP b1 0)] (by kernel_rfl) ?_
     refine ops_nil (fin_then ?_)
     refine st_if (b := (m_0 == 2)) rfl (fun hc56 => ?_) (fun hc56 => ?_)
     ·
      have hp := cnd_t hc56 hp
      refine st_region [oF 0, oF 1, oF 2, oF 3, oF 4, oF 5, oF 6] (by rfl) ?_
      refine oQ [oF 0, oF 1, oF 2] [(44, vP b1 3), (43, vI x2), (42, sl A9 x7 c10), (9, sl A9 x7 c10)] (by kernel_rfl) ?_
      refine ops_mem (d := some 45) (an := [.v (.string m_3)]) (evs := [ld b1 3 (.string m_3)]) (v := .string m_3) ⟨by kernel_rfl⟩ (fun w_ hM hS => ⟨w_, ⟨hM.cell 2 rfl rfl, rfl⟩, hM, trivial⟩) ?_
      refine oQ [] [(45, .string m_3), (43, vI x2), (42, sl A9 x7 c10), (9, sl A9 x7 c10)] (by kernel_rfl) ?_
      obtain ⟨x57, hv58, hp⟩ := obind hp
      obtain ⟨m59, hm60, hx61⟩ := idx_some hv58
      have hl62 := (List.getElem?_eq_some_iff.1 hx61).1
      refine ops_fact (fun w_ hM => hM.orowSome 0 rfl (Nat.lt_of_le_of_lt (Nat.zero_le _) hl62)) ?_
      rintro ⟨g69, rfl, -⟩
      obtain ⟨vs63, Kx64, K65, ho66, ha67, hm68⟩ := OwL.open_ h13 hx61
      obtain ⟨A70, c71, y73, rfl, rfl, h72⟩ := odec_api_Kind_rw ha67
      have hq74 : ∀ (i : Nat) (u : Value), [.string x57.Name, sl A70 x57.Fields c71][i]? = some u → y11[m59 * 2 + i]? = some u := fun i u hi => OwO.cell ho66 hi
      refine ops_val (op := (.indexAddr 22 (.tmp 42) (.tmp 43))) (d := some 46) (v := vP g69 (m59 * 2)) ⟨by kernel_rfl⟩ (run_indexRow Tryd.underlying22 (z := 2) (by kernel_rfl) rfl rfl hm60 hl62 rfl) ?_
      refine ops_conv (l' := [(46, vP g69 (m59 * 2)), (45, .string m_3), (43, vI x2), (42, sl (sa g69) x7 c10), (9, sl (sa g69) x7 c10)]) (M' := Mem w0 (ow A70 x57.Fields c71 32 3 y73 :: ow (sa g69) x7 c10 35 2 y11 :: K65 :: .blk b1 [vI m_0, .string m_1, .string m_2, .string m_3, vI m_4, .string m_5, vI m_6, vI m_7, .string m_8, sl A_m_9 m_9 c_m_9] 37 :: Fz F W :: cs)) rfl (fun w_ h => (hm68 (h.pick 4 [1, 0, 2, 3] (by kernel_rfl) (by decide) rfl)).pick 5 [1, 2, 0, 3, 4] (by kernel_rfl) (by decide) rfl) ?_
      refine oQ [oF 5] [(47, vP g69 (m59 * 2)), (45, .string m_3), (9, sl (sa g69) x7 c10)] (by kernel_rfl) ?_
      obtain ⟨y75, hy76⟩ : ∃ y_, setAll y11 (m59 * 2 + 0) [.string m_3] = y_ := ⟨_, rfl⟩
      have ho77 : OwO O_api_Kind_rw F W x7 m59 y75 [.string m_3, sl A70 x57.Fields c71] K65 := by rw [← hy76]; exact OwO.put (us := [.string m_3]) (o := 0) ho66 (Nat.le_of_ble_eq_true rfl)
      have hq78 : ∀ (i : Nat) (u : Value), [.string m_3, sl A70 x57.Fields c71][i]? = some u → y75[m59 * 2 + i]? = some u := fun i u hi => OwO.cell ho77 hi
      refine ops_store (an := []) (evs := [.store ⟨g69, m59 * 2, none⟩ (.string m_3)]) ⟨by kernel_rfl⟩ (fun w_ hM hS => let ⟨w', he, h'⟩ := hM.ostore' 1 rfl (m59 * 2 + 0) [.string m_3] (by have z_ : y11.length = x7.length * 2 := OwO.len ho66; have y_ : (m59 + 1) * 2 ≤ x7.length * 2 := Nat.mul_le_mul_right _ (OwO.lt ho66); rw [Nat.add_mul] at y_; simp only [List.length_cons, List.length_nil]; omega) rfl hy76; ⟨w', he, h', trivial⟩) ?_
      refine oQ [] [(9, sl (sa g69) x7 c10)] (by kernel_rfl) ?_
      refine ops_nil (fin_block ?_)
      obtain ⟨l82, hv83, hp⟩ := obind hp
      obtain ⟨m84, hm85, hl86, he87⟩ := upd_some hv83
      obtain rfl : m59 = m84 := by have := hm60; omega
      have hl88 : x7.length = l82.length := by rw [he87, List.length_set]
      obtain ⟨K79, h80, hm81⟩ := OwO.close (x := (api_Kind.mk m_3 x57.Fields)) (Kx := [ow A70 x57.Fields c71 32 3 y73]) ho77 (oenc_api_Kind_rw h72)
      rw [← he87] at h80
      refine fin_conv (l' := [(9, sl (sa g69) x7 c10)]) (M' := Mem w0 (ow (sa g69) x7 c10 35 2 y75 :: K79 :: .blk b1 [vI m_0, .string m_1, .string m_2, .string m_3, vI m_4, .string m_5, vI m_6, vI m_7, .string m_8, sl A_m_9 m_9 c_m_9] 37 :: Fz F W :: cs)) rfl (fun w_ h => (hm81 (h.pick 5 [2, 0, 1, 3, 4] (by kernel_rfl) (by decide) rfl)).pick 4 [1, 0, 2, 3] (by kernel_rfl) (by decide) rfl) ?_
      refine fin_conv (l' := [(9, sl (sa g69) l82 c10)]) (M' := Mem w0 (ow (sa g69) l82 c10 35 2 y75 :: K79 :: .blk b1 [vI m_0, .string m_1, .string m_2, .string m_3, vI m_4, .string m_5, vI m_6, vI m_7, .string m_8, sl A_m_9 m_9 c_m_9] 37 :: Fz F W :: cs)) (by first | rfl | ((try dsimp only [sl, ow]); rw [hl88])) (fun w_ hM => by first | exact hM | ((try dsimp only [sl, ow] at hM ⊢); rw [hl88] at hM; exact hM)) ?_
      exact fin_join HJ1 ((sa g69), c10, l82, y75, K79, F, W) ⟨hp, h80, (Ext.refl _ _ _)⟩ (look_has ⟨rfl, trivial⟩) (fun w_ hM => hM.pick 4 [0, 1, 3] (by kernel_rfl) (by decide) rfl)
     ·
      have hp := cnd_f hc56 hp
      refine st_seq (st_region [oF 0, oF 1] (by rfl) ?_)
      refine oQ [oF 0, oF 1] [(48, .bool (m_0 == 3)), (24, vI m_0), (9, sl A9 x7 c10), (7, vI x3), (6, vI x2), (3, vP b1 0)] (by kernel_rfl) ?_
      refine ops_nil (fin_then ?_)
      refine st_if (b := (m_0 == 3)) rfl (fun hc89 => ?_) (fun hc89 => ?_)
      ·
       have hp := cnd_t hc89 hp
       obtain ⟨x90, hv91, hp⟩ := obind hp
       obtain ⟨l110, hv111, hp⟩ := obind hp
       refine st_region_tree (.node [oT 0, oT 1, oT 2, oT 3, oT 4, oT 5, oT 7, oT 8] (.leaf [oF 6, oF 9, oF 10, oT 11, oT 12, oF 13]) (.leaf [oF 9, oF 6, oF 10, oT 11, oT 12, oF 13])) (Mem w0 (.blk b1 [vI m_0, .string m_1, .string m_2, .string m_3, vI m_4, .string m_5, vI m_6, vI m_7, .string m_8, sl A_m_9 m_9 c_m_9] 37 :: Fz F W :: cs)) (by kernel_rfl) (by kernel_rfl) (by kernel_rfl) (fun _ d _ _ _ h => by cases d <;> exact h) (M' := Mem w0 (ow A9 x7 c10 35 2 y11 :: K12 :: .blk b1 [vI m_0, .string m_1, .string m_2, .string m_3, vI m_4, .string m_5, vI m_6, vI m_7, .string m_8, sl A_m_9 m_9 c_m_9] 37 :: Fz F W :: cs)) (fun w_ hM => ⟨hM.drew, hM.drew.sub (.cons _ (.cons _ (.cons_cons _ (.cons_cons _ (.refl _)))))⟩) ?_
       refine tree_node ?_
       refine oQ [oT 0, oT 1, oT 2, oT 3] [(53, vI x2), (52, sl A9 x7 c10), (51, vI x2), (50, sl A9 x7 c10), (9, sl A9 x7 c10), (3, vP b1 0)] (by kernel_rfl) ?_
       obtain ⟨m112, hm113, hx114⟩ := idx_some hv91
       have hl115 := (List.getElem?_eq_some_iff.1 hx114).1
       refine ops_fact (fun w_ hM => hM.orowSome 0 rfl (Nat.lt_of_le_of_lt (Nat.zero_le _) hl115)) ?_
       rintro ⟨g122, rfl, -⟩
       obtain ⟨vs116, Kx117, K118, ho119, ha120, hm121⟩ := OwL.open_ h13 hx114
       obtain ⟨A123, c124, y126, rfl, rfl, h125⟩ := odec_api_Kind_rw ha120
       have hq127 : ∀ (i : Nat) (u : Value), [.string x90.Name, sl A123 x90.Fields c124][i]? = some u → y11[m112 * 2 + i]? = some u := fun i u hi => OwO.cell ho119 hi
       refine ops_val (op := (.indexAddr 22 (.tmp 52) (.tmp 53))) (d := some 54) (v := vP g122 (m112 * 2)) ⟨by kernel_rfl⟩ (run_indexRow Tryd.underlying22 (z := 2) (by kernel_rfl) rfl rfl hm113 hl115 rfl) ?_
       refine ops_conv (l' := [(54, vP g122 (m112 * 2)), (53, vI x2), (52, sl (sa g122) x7 c10), (51, vI x2), (50, sl (sa g122) x7 c10), (9, sl (sa g122) x7 c10), (3, vP b1 0)]) (M' := Mem w0 (ow A123 x90.Fields c124 32 3 y126 :: ow (sa g122) x7 c10 35 2 y11 :: K118 :: .blk b1 [vI m_0, .string m_1, .string m_2, .string m_3, vI m_4, .string m_5, vI m_6, vI m_7, .string m_8, sl A_m_9 m_9 c_m_9] 37 :: Fz F W :: cs)) rfl (fun w_ h => (hm121 (h.pick 4 [1, 0, 2, 3] (by kernel_rfl) (by decide) rfl)).pick 5 [1, 2, 0, 3, 4] (by kernel_rfl) (by decide) rfl) ?_
       refine oQ [oT 5, oT 7] [(57, vP b1 5), (55, vP g122 (m112 * 2 + 1)), (51, vI x2), (50, sl (sa g122) x7 c10), (9, sl (sa g122) x7 c10)] (by kernel_rfl) ?_
       refine ops_load (d := some 58) (an := [.v (.string m_5), .v (vI m_6), .v (vI m_7)]) (evs := [ld b1 5 (.string m_5), ld b1 6 (vI m_6), ld b1 7 (vI m_7)]) (v := .agg #[.string m_5, vI m_6, vI m_7]) ⟨by kernel_rfl⟩ (fun w_ hM => ⟨hM.cell 0 rfl rfl, hM.cell 0 rfl rfl, hM.cell 0 rfl rfl, rfl⟩) ?_
       refine ops_nil ?_
       refine tree_both ?_ ?_
       ·
        refine tree_leaf ?_
        refine ops_mem (d := some 56) (an := [.v (sl A123 x90.Fields c124)]) (evs := [.load ⟨g122, m112 * 2 + 1, none⟩ (sl A123 x90.Fields c124)]) (v := sl A123 x90.Fields c124) ⟨by kernel_rfl⟩ (fun w_ hM hS => ⟨w_, ⟨hM.ocell 1 rfl (hq127 1 _ rfl), rfl⟩, hM, hS⟩) ?_
        have h128 : RepL R_api_Field F W ([(api_Field.mk m_5 m_6 m_7)] : List api_Field) ([.string m_5, vI m_6, vI m_7]) := (RepL.cons (R := R_api_Field) (F := F) (w := W) (vs := [.string m_5, vI m_6, vI m_7]) (ys := []) (enc_api_Field) RepL.nil)
        refine ops_new (d := some 59) (o := .cells ([.string m_5, vI m_6, vI m_7]).toArray 32) (v := fun g129 => .slice (sa g129) ([(api_Field.mk m_5 m_6 m_7)] : List api_Field).length 1) (M' := fun g129 => Mem w0 (orow (sa g129) ([(api_Field.mk m_5 m_6 m_7)] : List api_Field).length 1 32 3 ([.string m_5, vI m_6, vI m_7]) :: ow A123 x90.Fields c124 32 3 y126 :: ow (sa g122) x7 c10 35 2 y11 :: K118 :: .blk b1 [vI m_0, .string m_1, .string m_2, .string m_3, vI m_4, .string m_5, vI m_6, vI m_7, .string m_8, sl A_m_9 m_9 c_m_9] 37 :: Fz F W :: cs)) (fun g129 => ⟨by kernel_rfl⟩) (fun w_ hM hS => ⟨hM.onew [.string m_5, vI m_6, vI m_7] 32 1 3 rfl (by decide), hS.alloc _⟩) (fun g129 => ?_)
        obtain ⟨he130, hb131⟩ := app_some hv111
        obtain ⟨y132, hy133⟩ : ∃ y_, y126 ++ ([.string m_5, vI m_6, vI m_7]) = y_ := ⟨_, rfl⟩
        have h134 : RepL R_api_Field F W l110 y132 := by rw [he130, ← hy133]; exact RepL.app h125 h128
        refine ops_appendO (x := (Go.Operand.tmp 56)) (y := (Go.Operand.tmp 59)) (t := 33) (e := 32) (d := some 60) (n' := l110.length) (z := 3) (m := ([(api_Field.mk m_5 m_6 m_7)] : List api_Field).length) (bytes := 32) (xs' := y132) (news := ([.string m_5, vI m_6, vI m_7])) (zv := .agg #[.string ByteArray.empty, vI 0, vI 0]) 1 ⟨by kernel_rfl⟩ rfl rfl Tryd.underlying33 (by kernel_rfl) (by rfl) rfl (fun w_ hM => hM.srcO 0 rfl) h128.len h128.one hb131 (by have z_ := congrArg List.length he130; rw [List.length_append] at z_; exact z_.symm) hy133 (fun _ _ _ _ hS h' => (by exact h'.sub (.cons _ (.cons _ (.cons _ (.cons _ (.cons_cons _ (.cons_cons _ (.refl _))))))))) ?_
        rintro ⟨A135, c136⟩
        refine ops_val (op := (.indexAddr 22 (.tmp 50) (.tmp 51))) (d := some 61) (v := vP g122 (m112 * 2)) ⟨by kernel_rfl⟩ (run_indexRow Tryd.underlying22 (z := 2) (by kernel_rfl) rfl rfl hm113 ho119.lt rfl) ?_
        refine oQ [oT 12] [(62, vP g122 (m112 * 2 + 1)), (60, sl A135 l110 c136), (9, sl (sa g122) x7 c10)] (by kernel_rfl) ?_
        obtain ⟨y137, hy138⟩ : ∃ y_, setAll y11 (m112 * 2 + 1) [sl A135 l110 c136] = y_ := ⟨_, rfl⟩
        have ho139 : OwO O_api_Kind_rw F W x7 m112 y137 [.string x90.Name, sl A135 l110 c136] K118 := by rw [← hy138]; exact OwO.put (us := [sl A135 l110 c136]) (o := 1) ho119 (Nat.le_of_ble_eq_true rfl)
        have hq140 : ∀ (i : Nat) (u : Value), [.string x90.Name, sl A135 l110 c136][i]? = some u → y137[m112 * 2 + i]? = some u := fun i u hi => OwO.cell ho139 hi
        refine ops_store (an := []) (evs := [.store ⟨g122, m112 * 2 + 1, none⟩ (sl A135 l110 c136)]) ⟨by kernel_rfl⟩ (fun w_ hM hS => let ⟨w', he, h'⟩ := hM.ostore' 2 rfl (m112 * 2 + 1) [sl A135 l110 c136] (by have z_ : y11.length = x7.length * 2 := OwO.len ho119; have y_ : (m112 + 1) * 2 ≤ x7.length * 2 := Nat.mul_le_mul_right _ (OwO.lt ho119); rw [Nat.add_mul] at y_; simp only [List.length_cons, List.length_nil]; omega) rfl hy138; ⟨w', he, h', (by exact h'.sub (.cons _ (.cons _ (.cons _ (.cons _ (.cons_cons _ (.cons_cons _ (.refl _))))))))⟩) ?_
        refine oQ [] [(9, sl (sa g122) x7 c10)] (by kernel_rfl) ?_
        refine ops_nil (fin_block ?_)
        obtain ⟨l144, hv145, hp⟩ := obind hp
        obtain ⟨m146, hm147, hl148, he149⟩ := upd_some hv145
        obtain rfl : m112 = m146 := by have := hm113; omega
        have hl150 : x7.length = l144.length := by rw [he149, List.length_set]
        obtain ⟨K141, h142, hm143⟩ := OwO.close (x := (api_Kind.mk x90.Name l110)) (Kx := [ow A135 l110 c136 32 3 y132]) ho139 (oenc_api_Kind_rw h134)
        rw [← he149] at h142
        refine fin_conv (l' := [(9, sl (sa g122) x7 c10)]) (M' := Mem w0 (orow (sa g129) ([(api_Field.mk m_5 m_6 m_7)] : List api_Field).length 1 32 3 ([.string m_5, vI m_6, vI m_7]) :: ow (sa g122) x7 c10 35 2 y137 :: K141 :: .blk b1 [vI m_0, .string m_1, .string m_2, .string m_3, vI m_4, .string m_5, vI m_6, vI m_7, .string m_8, sl A_m_9 m_9 c_m_9] 37 :: Fz F W :: cs)) rfl (fun w_ h => (hm143 (h.pick 6 [3, 1, 0, 2, 4, 5] (by kernel_rfl) (by decide) rfl)).pick 5 [1, 2, 0, 3, 4] (by kernel_rfl) (by decide) rfl) ?_
        refine fin_conv (l' := [(9, sl (sa g122) l144 c10)]) (M' := Mem w0 (orow (sa g129) ([(api_Field.mk m_5 m_6 m_7)] : List api_Field).length 1 32 3 ([.string m_5, vI m_6, vI m_7]) :: ow (sa g122) l144 c10 35 2 y137 :: K141 :: .blk b1 [vI m_0, .string m_1, .string m_2, .string m_3, vI m_4, .string m_5, vI m_6, vI m_7, .string m_8, sl A_m_9 m_9 c_m_9] 37 :: Fz F W :: cs)) (by first | rfl | ((try dsimp only [sl, ow]); rw [hl150])) (fun w_ hM => by first | exact hM | ((try dsimp only [sl, ow] at hM ⊢); rw [hl150] at hM; exact hM)) ?_
        exact fin_join HJ1 ((sa g122), c10, l144, y137, K141, F, W) ⟨hp, h142, (Ext.refl _ _ _)⟩ (look_has ⟨rfl, trivial⟩) (fun w_ hM => hM.pick 5 [1, 2, 4] (by kernel_rfl) (by decide) rfl)
       ·
        refine tree_leaf ?_
        have h151 : RepL R_api_Field F W ([(api_Field.mk m_5 m_6 m_7)] : List api_Field) ([.string m_5, vI m_6, vI m_7]) := (RepL.cons (R := R_api_Field) (F := F) (w := W) (vs := [.string m_5, vI m_6, vI m_7]) (ys := []) (enc_api_Field) RepL.nil)
        refine ops_new (d := some 59) (o := .cells ([.string m_5, vI m_6, vI m_7]).toArray 32) (v := fun g152 => .slice (sa g152) ([(api_Field.mk m_5 m_6 m_7)] : List api_Field).length 1) (M' := fun g152 => Mem w0 (orow (sa g152) ([(api_Field.mk m_5 m_6 m_7)] : List api_Field).length 1 32 3 ([.string m_5, vI m_6, vI m_7]) :: ow A123 x90.Fields c124 32 3 y126 :: ow (sa g122) x7 c10 35 2 y11 :: K118 :: .blk b1 [vI m_0, .string m_1, .string m_2, .string m_3, vI m_4, .string m_5, vI m_6, vI m_7, .string m_8, sl A_m_9 m_9 c_m_9] 37 :: Fz F W :: cs)) (fun g152 => ⟨by kernel_rfl⟩) (fun w_ hM hS => ⟨hM.onew [.string m_5, vI m_6, vI m_7] 32 1 3 rfl (by decide), hS.alloc _⟩) (fun g152 => ?_)
        refine ops_mem (d := some 56) (an := [.v (sl A123 x90.Fields c124)]) (evs := [.load ⟨g122, m112 * 2 + 1, none⟩ (sl A123 x90.Fields c124)]) (v := sl A123 x90.Fields c124) ⟨by kernel_rfl⟩ (fun w_ hM hS => ⟨w_, ⟨hM.ocell 2 rfl (hq127 1 _ rfl), rfl⟩, hM, hS⟩) ?_
        obtain ⟨he153, hb154⟩ := app_some hv111
        obtain ⟨y155, hy156⟩ : ∃ y_, y126 ++ ([.string m_5, vI m_6, vI m_7]) = y_ := ⟨_, rfl⟩
        have h157 : RepL R_api_Field F W l110 y155 := by rw [he153, ← hy156]; exact RepL.app h125 h151
        refine ops_appendO (x := (Go.Operand.tmp 56)) (y := (Go.Operand.tmp 59)) (t := 33) (e := 32) (d := some 60) (n' := l110.length) (z := 3) (m := ([(api_Field.mk m_5 m_6 m_7)] : List api_Field).length) (bytes := 32) (xs' := y155) (news := ([.string m_5, vI m_6, vI m_7])) (zv := .agg #[.string ByteArray.empty, vI 0, vI 0]) 1 ⟨by kernel_rfl⟩ rfl rfl Tryd.underlying33 (by kernel_rfl) (by rfl) rfl (fun w_ hM => hM.srcO 0 rfl) h151.len h151.one hb154 (by have z_ := congrArg List.length he153; rw [List.length_append] at z_; exact z_.symm) hy156 (fun _ _ _ _ hS h' => (by exact h'.sub (.cons _ (.cons _ (.cons _ (.cons _ (.cons_cons _ (.cons_cons _ (.refl _))))))))) ?_
        rintro ⟨A158, c159⟩
        refine ops_val (op := (.indexAddr 22 (.tmp 50) (.tmp 51))) (d := some 61) (v := vP g122 (m112 * 2)) ⟨by kernel_rfl⟩ (run_indexRow Tryd.underlying22 (z := 2) (by kernel_rfl) rfl rfl hm113 ho119.lt rfl) ?_
        refine oQ [oT 12] [(62, vP g122 (m112 * 2 + 1)), (60, sl A158 l110 c159), (9, sl (sa g122) x7 c10)] (by kernel_rfl) ?_
        obtain ⟨y160, hy161⟩ : ∃ y_, setAll y11 (m112 * 2 + 1) [sl A158 l110 c159] = y_ := ⟨_, rfl⟩
        have ho162 : OwO O_api_Kind_rw F W x7 m112 y160 [.string x90.Name, sl A158 l110 c159] K118 := by rw [← hy161]; exact OwO.put (us := [sl A158 l110 c159]) (o := 1) ho119 (Nat.le_of_ble_eq_true rfl)
        have hq163 : ∀ (i : Nat) (u : Value), [.string x90.Name, sl A158 l110 c159][i]? = some u → y160[m112 * 2 + i]? = some u := fun i u hi => OwO.cell ho162 hi
        refine ops_store (an := []) (evs := [.store ⟨g122, m112 * 2 + 1, none⟩ (sl A158 l110 c159)]) ⟨by kernel_rfl⟩ (fun w_ hM hS => let ⟨w', he, h'⟩ := hM.ostore' 2 rfl (m112 * 2 + 1) [sl A158 l110 c159] (by have z_ : y11.length = x7.length * 2 := OwO.len ho119; have y_ : (m112 + 1) * 2 ≤ x7.length * 2 := Nat.mul_le_mul_right _ (OwO.lt ho119); rw [Nat.add_mul] at y_; simp only [List.length_cons, List.length_nil]; omega) rfl hy161; ⟨w', he, h', (by exact h'.sub (.cons _ (.cons _ (.cons _ (.cons _ (.cons_cons _ (.cons_cons _ (.refl _))))))))⟩) ?_
        refine oQ [] [(9, sl (sa g122) x7 c10)] (by kernel_rfl) ?_
        refine ops_nil (fin_block ?_)
        obtain ⟨l167, hv168, hp⟩ := obind hp
        obtain ⟨m169, hm170, hl171, he172⟩ := upd_some hv168
        obtain rfl : m112 = m169 := by have := hm113; omega
        have hl173 : x7.length = l167.length := by rw [he172, List.length_set]
        obtain ⟨K164, h165, hm166⟩ := OwO.close (x := (api_Kind.mk x90.Name l110)) (Kx := [ow A158 l110 c159 32 3 y155]) ho162 (oenc_api_Kind_rw h157)
        rw [← he172] at h165
        refine fin_conv (l' := [(9, sl (sa g122) x7 c10)]) (M' := Mem w0 (orow (sa g152) ([(api_Field.mk m_5 m_6 m_7)] : List api_Field).length 1 32 3 ([.string m_5, vI m_6, vI m_7]) :: ow (sa g122) x7 c10 35 2 y160 :: K164 :: .blk b1 [vI m_0, .string m_1, .string m_2, .string m_3, vI m_4, .string m_5, vI m_6, vI m_7, .string m_8, sl A_m_9 m_9 c_m_9] 37 :: Fz F W :: cs)) rfl (fun w_ h => (hm166 (h.pick 6 [3, 1, 0, 2, 4, 5] (by kernel_rfl) (by decide) rfl)).pick 5 [1, 2, 0, 3, 4] (by kernel_rfl) (by decide) rfl) ?_
        refine fin_conv (l' := [(9, sl (sa g122) l167 c10)]) (M' := Mem w0 (orow (sa g152) ([(api_Field.mk m_5 m_6 m_7)] : List api_Field).length 1 32 3 ([.string m_5, vI m_6, vI m_7]) :: ow (sa g122) l167 c10 35 2 y160 :: K164 :: .blk b1 [vI m_0, .string m_1, .string m_2, .string m_3, vI m_4, .string m_5, vI m_6, vI m_7, .string m_8, sl A_m_9 m_9 c_m_9] 37 :: Fz F W :: cs)) (by first | rfl | ((try dsimp only [sl, ow]); rw [hl173])) (fun w_ hM => by first | exact hM | ((try dsimp only [sl, ow] at hM ⊢); rw [hl173] at hM; exact hM)) ?_
        exact fin_join HJ1 ((sa g122), c10, l167, y160, K164, F, W) ⟨hp, h165, (Ext.refl _ _ _)⟩ (look_has ⟨rfl, trivial⟩) (fun w_ hM => hM.pick 5 [1, 2, 4] (by kernel_rfl) (by decide) rfl)
      ·
       have hp := cnd_f hc89 hp
       refine st_seq (st_region [oF 0, oF 1] (by rfl) ?_)
       refine oQ [oF 0, oF 1] [(63, .bool (m_0 == 4)), (24, vI m_0), (9, sl A9 x7 c10), (7, vI x3), (6, vI x2), (3, vP b1 0)] (by kernel_rfl) ?_
       refine ops_nil (fin_then ?_)
       refine st_if (b := (m_0 == 4)) rfl (fun hc174 => ?_) (fun hc174 => ?_)
       ·
        have hp := cnd_t hc174 hp
        refine st_region [oF 0, oF 1, oF 2, oF 3, oF 4, oF 5, oF 6, oF 7, oF 8, oF 9, oF 10, oF 11, oF 12, oF 13] (by rfl) ?_
        refine oQ [oF 0, oF 1, oF 2, oF 3] [(68, vI x2), (67, sl A9 x7 c10), (66, vI x2), (65, sl A9 x7 c10), (9, sl A9 x7 c10), (7, vI x3)] (by kernel_rfl) ?_
        obtain ⟨x175, hv176, hp⟩ := obind hp
        obtain ⟨m177, hm178, hx179⟩ := idx_some hv176
        have hl180 := (List.getElem?_eq_some_iff.1 hx179).1
        refine ops_fact (fun w_ hM => hM.orowSome 0 rfl (Nat.lt_of_le_of_lt (Nat.zero_le _) hl180)) ?_
        rintro ⟨g187, rfl, -⟩
        obtain ⟨vs181, Kx182, K183, ho184, ha185, hm186⟩ := OwL.open_ h13 hx179
        obtain ⟨A188, c189, y191, rfl, rfl, h190⟩ := odec_api_Kind_rw ha185
        have hq192 : ∀ (i : Nat) (u : Value), [.string x175.Name, sl A188 x175.Fields c189][i]? = some u → y11[m177 * 2 + i]? = some u := fun i u hi => OwO.cell ho184 hi
        refine ops_val (op := (.indexAddr 22 (.tmp 67) (.tmp 68))) (d := some 69) (v := vP g187 (m177 * 2)) ⟨by kernel_rfl⟩ (run_indexRow Tryd.underlying22 (z := 2) (by kernel_rfl) rfl rfl hm178 hl180 rfl) ?_
        refine ops_conv (l' := [(69, vP g187 (m177 * 2)), (68, vI x2), (67, sl (sa g187) x7 c10), (66, vI x2), (65, sl (sa g187) x7 c10), (9, sl (sa g187) x7 c10), (7, vI x3)]) (M' := Mem w0 (ow A188 x175.Fields c189 32 3 y191 :: ow (sa g187) x7 c10 35 2 y11 :: K183 :: .blk b1 [vI m_0, .string m_1, .string m_2, .string m_3, vI m_4, .string m_5, vI m_6, vI m_7, .string m_8, sl A_m_9 m_9 c_m_9] 37 :: Fz F W :: cs)) rfl (fun w_ h => (hm186 (h.pick 4 [1, 0, 2, 3] (by kernel_rfl) (by decide) rfl)).pick 5 [1, 2, 0, 3, 4] (by kernel_rfl) (by decide) rfl) ?_
        refine oQ [oF 5] [(70, vP g187 (m177 * 2 + 1)), (66, vI x2), (65, sl (sa g187) x7 c10), (9, sl (sa g187) x7 c10), (7, vI x3)] (by kernel_rfl) ?_
        refine ops_mem (d := some 71) (an := [.v (sl A188 x175.Fields c189)]) (evs := [.load ⟨g187, m177 * 2 + 1, none⟩ (sl A188 x175.Fields c189)]) (v := sl A188 x175.Fields c189) ⟨by kernel_rfl⟩ (fun w_ hM hS => ⟨w_, ⟨hM.ocell 1 rfl (hq192 1 _ rfl), rfl⟩, hM, trivial⟩) ?_
        refine oQ [oF 7, oF 8, oF 9] [(74, vI (IntKind.i64.wrap (x3 + 1))), (72, vI x3), (71, sl A188 x175.Fields c189), (66, vI x2), (65, sl (sa g187) x7 c10), (9, sl (sa g187) x7 c10)] (by kernel_rfl) ?_
        obtain ⟨x193, hv194, hp⟩ := obind hp
        refine ops_callI (σ := (List Value)) (d := some 75) (f := 99) (args := #[sl A188 x175.Fields c189, vI x3, vI (IntKind.i64.wrap (x3 + 1))]) (v := (fun x_ => match x_ with | y195 => sl A188 x193 c189)) (I := (fun x_ => match x_ with | y195 => (RepL R_api_Field F W x193 y195))) (M' := (fun x_ => match x_ with | y195 => Mem w0 (ow A188 x193 c189 32 3 y195 :: ow (sa g187) x7 c10 35 2 y11 :: K183 :: .blk b1 [vI m_0, .string m_1, .string m_2, .string m_3, vI m_4, .string m_5, vI m_6, vI m_7, .string m_8, sl A_m_9 m_9 c_m_9] 37 :: Fz F W :: cs))) ⟨by kernel_rfl⟩ (fun w_ hM hS => (slices_Delete_api_Field_api_Field_ok w0 w_ (ow (sa g187) x7 c10 35 2 y11 :: K183 :: .blk b1 [vI m_0, .string m_1, .string m_2, .string m_3, vI m_4, .string m_5, vI m_6, vI m_7, .string m_8, sl A_m_9 m_9 c_m_9] 37 :: cs) F W A188 c189 x175.Fields y191 x3 (IntKind.i64.wrap (x3 + 1)) (hM.pick 5 [0, 4, 1, 2, 3] (by kernel_rfl) (by decide) rfl) h190 x193 hv194).mono (by rintro e w' ⟨y195, h196, rfl, h'⟩; have h' : Mem w0 (ow A188 x193 c189 32 3 y195 :: ow (sa g187) x7 c10 35 2 y11 :: K183 :: .blk b1 [vI m_0, .string m_1, .string m_2, .string m_3, vI m_4, .string m_5, vI m_6, vI m_7, .string m_8, sl A_m_9 m_9 c_m_9] 37 :: Fz F W :: cs) w' := (h'.pick 5 [0, 2, 3, 4, 1] (by kernel_rfl) (by decide) rfl); exact ⟨y195, h196, rfl, h', trivial⟩)) ?_
        rintro y195 h196
        refine ops_val (op := (.indexAddr 22 (.tmp 65) (.tmp 66))) (d := some 76) (v := vP g187 (m177 * 2)) ⟨by kernel_rfl⟩ (run_indexRow Tryd.underlying22 (z := 2) (by kernel_rfl) rfl rfl hm178 ho184.lt rfl) ?_
        refine oQ [oF 12] [(77, vP g187 (m177 * 2 + 1)), (75, sl A188 x193 c189), (9, sl (sa g187) x7 c10)] (by kernel_rfl) ?_
        obtain ⟨y197, hy198⟩ : ∃ y_, setAll y11 (m177 * 2 + 1) [sl A188 x193 c189] = y_ := ⟨_, rfl⟩
        have ho199 : OwO O_api_Kind_rw F W x7 m177 y197 [.string x175.Name, sl A188 x193 c189] K183 := by rw [← hy198]; exact OwO.put (us := [sl A188 x193 c189]) (o := 1) ho184 (Nat.le_of_ble_eq_true rfl)
        have hq200 : ∀ (i : Nat) (u : Value), [.string x175.Name, sl A188 x193 c189][i]? = some u → y197[m177 * 2 + i]? = some u := fun i u hi => OwO.cell ho199 hi
        refine ops_store (an := []) (evs := [.store ⟨g187, m177 * 2 + 1, none⟩ (sl A188 x193 c189)]) ⟨by kernel_rfl⟩ (fun w_ hM hS => let ⟨w', he, h'⟩ := hM.ostore' 1 rfl (m177 * 2 + 1) [sl A188 x193 c189] (by have z_ : y11.length = x7.length * 2 := OwO.len ho184; have y_ : (m177 + 1) * 2 ≤ x7.length * 2 := Nat.mul_le_mul_right _ (OwO.lt ho184); rw [Nat.add_mul] at y_; simp only [List.length_cons, List.length_nil]; omega) rfl hy198; ⟨w', he, h', trivial⟩) ?_
        refine oQ [] [(9, sl (sa g187) x7 c10)] (by kernel_rfl) ?_
        refine ops_nil (fin_block ?_)
        obtain ⟨l204, hv205, hp⟩ := obind hp
        obtain ⟨m206, hm207, hl208, he209⟩ := upd_some hv205
        obtain rfl : m177 = m206 := by have := hm178; omega
        have hl210 : x7.length = l204.length := by rw [he209, List.length_set]
        obtain ⟨K201, h202, hm203⟩ := OwO.close (x := (api_Kind.mk x175.Name x193)) (Kx := [ow A188 x193 c189 32 3 y195]) ho199 (oenc_api_Kind_rw h196)
        rw [← he209] at h202
        refine fin_conv (l' := [(9, sl (sa g187) x7 c10)]) (M' := Mem w0 (ow (sa g187) x7 c10 35 2 y197 :: K201 :: .blk b1 [vI m_0, .string m_1, .string m_2, .string m_3, vI m_4, .string m_5, vI m_6, vI m_7, .string m_8, sl A_m_9 m_9 c_m_9] 37 :: Fz F W :: cs)) rfl (fun w_ h => (hm203 (h.pick 5 [2, 0, 1, 3, 4] (by kernel_rfl) (by decide) rfl)).pick 4 [1, 0, 2, 3] (by kernel_rfl) (by decide) rfl) ?_
        refine fin_conv (l' := [(9, sl (sa g187) l204 c10)]) (M' := Mem w0 (ow (sa g187) l204 c10 35 2 y197 :: K201 :: .blk b1 [vI m_0, .string m_1, .string m_2, .string m_3, vI m_4, .string m_5, vI m_6, vI m_7, .string m_8, sl A_m_9 m_9 c_m_9] 37 :: Fz F W :: cs)) (by first | rfl | ((try dsimp only [sl, ow]); rw [hl210])) (fun w_ hM => by first | exact hM | ((try dsimp only [sl, ow] at hM ⊢); rw [hl210] at hM; exact hM)) ?_
        exact fin_join HJ1 ((sa g187), c10, l204, y197, K201, F, W) ⟨hp, h202, (Ext.refl _ _ _)⟩ (look_has ⟨rfl, trivial⟩) (fun w_ hM => hM.pick 4 [0, 1, 3] (by kernel_rfl) (by decide) rfl)
       ·
        have hp := cnd_f hc174 hp
        refine st_seq (st_region [oF 0, oF 1] (by rfl) ?_)
        refine oQ [oF 0, oF 1] [(78, .bool (m_0 == 5)), (24, vI m_0), (9, sl A9 x7 c10), (7, vI x3), (6, vI x2), (3, vP b1 0)] (by kernel_rfl) ?_
        refine ops_nil (fin_then ?_)
        refine st_if (b := (m_0 == 5)) rfl (fun hc211 => ?_) (fun hc211 => ?_)
        ·
         have hp := cnd_t hc211 hp
         refine st_region_draw [oT 0, oT 1, oT 2, oT 3, oT 5, oT 6, oT 7, oF 4, oT 8, oT 9, oF 10] (Mem w0 (.blk b1 [vI m_0, .string m_1, .string m_2, .string m_3, vI m_4, .string m_5, vI m_6, vI m_7, .string m_8, sl A_m_9 m_9 c_m_9] 37 :: Fz F W :: cs)) (by kernel_rfl) (by kernel_rfl) (by kernel_rfl) (fun _ d _ _ _ h => by cases d <;> exact h) (M' := Mem w0 (ow A9 x7 c10 35 2 y11 :: K12 :: .blk b1 [vI m_0, .string m_1, .string m_2, .string m_3, vI m_4, .string m_5, vI m_6, vI m_7, .string m_8, sl A_m_9 m_9 c_m_9] 37 :: Fz F W :: cs)) (fun w_ hM => ⟨hM.drew, hM.drew.sub (.cons _ (.cons _ (.cons_cons _ (.cons_cons _ (.refl _)))))⟩) ?_
         refine oQ [oT 0, oT 1] [(81, vI x2), (80, sl A9 x7 c10), (9, sl A9 x7 c10), (7, vI x3), (3, vP b1 0)] (by kernel_rfl) ?_
         obtain ⟨x212, hv213, hp⟩ := obind hp
         obtain ⟨m214, hm215, hx216⟩ := idx_some hv213
         have hl217 := (List.getElem?_eq_some_iff.1 hx216).1
         refine ops_fact (fun w_ hM => hM.orowSome 0 rfl (Nat.lt_of_le_of_lt (Nat.zero_le _) hl217)) ?_
         rintro ⟨g224, rfl, -⟩
         obtain ⟨vs218, Kx219, K220, ho221, ha222, hm223⟩ := OwL.open_ h13 hx216
         obtain ⟨A225, c226, y228, rfl, rfl, h227⟩ := odec_api_Kind_rw ha222
         have hq229 : ∀ (i : Nat) (u : Value), [.string x212.Name, sl A225 x212.Fields c226][i]? = some u → y11[m214 * 2 + i]? = some u := fun i u hi => OwO.cell ho221 hi
         refine ops_val (op := (.indexAddr 22 (.tmp 80) (.tmp 81))) (d := some 82) (v := vP g224 (m214 * 2)) ⟨by kernel_rfl⟩ (run_indexRow Tryd.underlying22 (z := 2) (by kernel_rfl) rfl rfl hm215 hl217 rfl) ?_
         refine ops_conv (l' := [(82, vP g224 (m214 * 2)), (81, vI x2), (80, sl (sa g224) x7 c10), (9, sl (sa g224) x7 c10), (7, vI x3), (3, vP b1 0)]) (M' := Mem w0 (ow A225 x212.Fields c226 32 3 y228 :: ow (sa g224) x7 c10 35 2 y11 :: K220 :: .blk b1 [vI m_0, .string m_1, .string m_2, .string m_3, vI m_4, .string m_5, vI m_6, vI m_7, .string m_8, sl A_m_9 m_9 c_m_9] 37 :: Fz F W :: cs)) rfl (fun w_ h => (hm223 (h.pick 4 [1, 0, 2, 3] (by kernel_rfl) (by decide) rfl)).pick 5 [1, 2, 0, 3, 4] (by kernel_rfl) (by decide) rfl) ?_
         refine oQ [oT 3, oT 5, oT 6] [(86, vP b1 3), (85, vI x3), (83, vP g224 (m214 * 2 + 1)), (9, sl (sa g224) x7 c10)] (by kernel_rfl) ?_
         refine ops_load (d := some 87) (an := [.v (.string m_3)]) (evs := [ld b1 3 (.string m_3)]) (v := .string m_3) ⟨by kernel_rfl⟩ (fun w_ hM => ⟨hM.cell 0 rfl rfl, rfl⟩) ?_
         refine ops_mem (d := some 84) (an := [.v (sl A225 x212.Fields c226)]) (evs := [.load ⟨g224, m214 * 2 + 1, none⟩ (sl A225 x212.Fields c226)]) (v := sl A225 x212.Fields c226) ⟨by kernel_rfl⟩ (fun w_ hM hS => ⟨w_, ⟨hM.ocell 1 rfl (hq229 1 _ rfl), rfl⟩, hM, hS⟩) ?_
         obtain ⟨x230, hv231, hp⟩ := obind hp
         obtain ⟨m232, hm233, hx234⟩ := idx_some hv231
         have hl237 := (List.getElem?_eq_some_iff.1 hx234).1
         refine ops_fact (fun w_ hM => hM.orowSome 0 rfl (Nat.lt_of_le_of_lt (Nat.zero_le _) hl237)) ?_
         rintro ⟨g238, rfl, -⟩
         obtain ⟨vs235, hr236, hq239⟩ := h227.at_ m232 x230 hx234
         obtain rfl := dec_api_Field hr236
         refine ops_val (op := (.indexAddr 33 (.tmp 84) (.tmp 85))) (d := some 88) (v := vP g238 (m232 * 3)) ⟨by kernel_rfl⟩ (run_indexRow Tryd.underlying33 (z := 3) (by kernel_rfl) rfl rfl hm233 hl237 rfl) ?_
         refine oQ [oT 9] [(89, vP g238 (m232 * 3)), (87, .string m_3), (9, sl (sa g224) x7 c10)] (by kernel_rfl) ?_
         obtain ⟨l240, hv241, hp⟩ := obind hp
         obtain ⟨m242, hm243, hl244, he245⟩ := upd_some hv241
         obtain rfl : m232 = m242 := by have := hm233; omega
         have hl246 : x212.Fields.length = l240.length := by rw [he245, List.length_set]
         obtain ⟨y247, hy248⟩ : ∃ y_, setAll y228 (m232 * 3 + 0) [.string m_3] = y_ := ⟨_, rfl⟩
         have h249 : RepL R_api_Field F W l240 y247 := by rw [he245, ← hy248]; exact RepL.set h227 hx234 (fun vs_ hr_ _ => by obtain rfl := dec_api_Field hr_; exact ⟨(enc_api_Field), Nat.le_of_ble_eq_true rfl⟩)
         refine ops_store (an := []) (evs := [.store ⟨g238, m232 * 3, none⟩ (.string m_3)]) ⟨by kernel_rfl⟩ (fun w_ hM hS => let ⟨w', he, h'⟩ := hM.ostore' 0 rfl (m232 * 3 + 0) [.string m_3] (by have z_ : y228.length = x212.Fields.length * 3 := h227.len; have y_ : (m232 + 1) * 3 ≤ x212.Fields.length * 3 := Nat.mul_le_mul_right _ hl244; rw [Nat.add_mul] at y_; simp only [List.length_cons, List.length_nil]; omega) hl246 hy248; ⟨w', he, h', (by exact h'.sub (.cons _ (.cons _ (.cons _ (.cons_cons _ (.cons_cons _ (.refl _)))))))⟩) ?_
         have ho251 : OwO O_api_Kind_rw F W x7 m214 y11 [.string x212.Name, sl (sa g238) l240 c226] K220 := by first | exact ho221 | ((try dsimp only [sl, ow]); rw [← hl246]; exact ho221)
         have hq252 : ∀ (i : Nat) (u : Value), [.string x212.Name, sl (sa g238) l240 c226][i]? = some u → y11[m214 * 2 + i]? = some u := fun i u hi => OwO.cell ho251 hi
         refine oQ [] [(9, sl (sa g224) x7 c10)] (by kernel_rfl) ?_
         refine ops_nil (fin_block ?_)
         obtain ⟨l256, hv257, hp⟩ := obind hp
         obtain ⟨m258, hm259, hl260, he261⟩ := upd_some hv257
         obtain rfl : m214 = m258 := by have := hm215; omega
         have hl262 : x7.length = l256.length := by rw [he261, List.length_set]
         obtain ⟨K253, h254, hm255⟩ := OwO.close (x := (api_Kind.mk x212.Name l240)) (Kx := [ow (sa g238) l240 c226 32 3 y247]) ho251 (oenc_api_Kind_rw h249)
         rw [← he261] at h254
         refine fin_conv (l' := [(9, sl (sa g224) x7 c10)]) (M' := Mem w0 (ow (sa g224) x7 c10 35 2 y11 :: K253 :: .blk b1 [vI m_0, .string m_1, .string m_2, .string m_3, vI m_4, .string m_5, vI m_6, vI m_7, .string m_8, sl A_m_9 m_9 c_m_9] 37 :: Fz F W :: cs)) rfl (fun w_ h => (hm255 (h.pick 5 [2, 0, 1, 3, 4] (by kernel_rfl) (by decide) rfl)).pick 4 [1, 0, 2, 3] (by kernel_rfl) (by decide) rfl) ?_
         refine fin_conv (l' := [(9, sl (sa g224) l256 c10)]) (M' := Mem w0 (ow (sa g224) l256 c10 35 2 y11 :: K253 :: .blk b1 [vI m_0, .string m_1, .string m_2, .string m_3, vI m_4, .string m_5, vI m_6, vI m_7, .string m_8, sl A_m_9 m_9 c_m_9] 37 :: Fz F W :: cs)) (by first | rfl | ((try dsimp only [sl, ow]); rw [hl262])) (fun w_ hM => by first | exact hM | ((try dsimp only [sl, ow] at hM ⊢); rw [hl262] at hM; exact hM)) ?_
         exact fin_join HJ1 ((sa g224), c10, l256, y11, K253, F, W) ⟨hp, h254, (Ext.refl _ _ _)⟩ (look_has ⟨rfl, trivial⟩) (fun w_ hM => hM.pick 4 [0, 1, 3] (by kernel_rfl) (by decide) rfl)
        ·
         have hp := cnd_f hc211 hp
         refine st_seq (st_region [oF 0, oF 1] (by rfl) ?_)
         refine oQ [oF 0, oF 1] [(90, .bool (m_0 == 6)), (9, sl A9 x7 c10), (7, vI x3), (6, vI x2), (3, vP b1 0)] (by kernel_rfl) ?_
         refine ops_nil (fin_then ?_)
         refine st_if (b := (m_0 == 6)) rfl (fun hc263 => ?_) (fun hc263 => ?_)
         ·
          have hp := cnd_t hc263 hp
          obtain ⟨x264, hv265, hp⟩ := obind hp
          obtain ⟨x282, hv283, hp⟩ := obind hp
          obtain ⟨l292, hv293, hp⟩ := obind hp
          obtain ⟨x305, hv306, hp⟩ := obind hp
          obtain ⟨l314, hv315, hp⟩ := obind hp
          refine st_region_tree (.node [oT 0, oT 1, oT 2, oT 3, oT 5, oT 6, oT 7, oT 8, oT 9, oT 11, oT 12, oT 13, oT 14, oT 15, oT 16, oT 17] (.leaf [oF 4, oF 10, oT 18, oT 19, oF 20, oT 21, oT 22, oF 23]) (.leaf [oF 10, oF 4, oT 18, oT 19, oF 20, oT 21, oT 22, oF 23])) (Mem w0 (.blk b1 [vI m_0, .string m_1, .string m_2, .string m_3, vI m_4, .string m_5, vI m_6, vI m_7, .string m_8, sl A_m_9 m_9 c_m_9] 37 :: Fz F W :: cs)) (by kernel_rfl) (by kernel_rfl) (by kernel_rfl) (fun _ d _ _ _ h => by cases d <;> exact h) (M' := Mem w0 (ow A9 x7 c10 35 2 y11 :: K12 :: .blk b1 [vI m_0, .string m_1, .string m_2, .string m_3, vI m_4, .string m_5, vI m_6, vI m_7, .string m_8, sl A_m_9 m_9 c_m_9] 37 :: Fz F W :: cs)) (fun w_ hM => ⟨hM.drew, hM.drew.sub (.cons _ (.cons _ (.cons_cons _ (.cons_cons _ (.refl _)))))⟩) ?_
          refine tree_node ?_
          refine oQ [oT 0, oT 1] [(93, vI x2), (92, sl A9 x7 c10), (9, sl A9 x7 c10), (7, vI x3), (6, vI x2), (3, vP b1 0)] (by kernel_rfl) ?_
          obtain ⟨m316, hm317, hx318⟩ := idx_some hv265
          have hl319 := (List.getElem?_eq_some_iff.1 hx318).1
          refine ops_fact (fun w_ hM => hM.orowSome 0 rfl (Nat.lt_of_le_of_lt (Nat.zero_le _) hl319)) ?_
          rintro ⟨g326, rfl, -⟩
          obtain ⟨vs320, Kx321, K322, ho323, ha324, hm325⟩ := OwL.open_ h13 hx318
          obtain ⟨A327, c328, y330, rfl, rfl, h329⟩ := odec_api_Kind_rw ha324
          have hq331 : ∀ (i : Nat) (u : Value), [.string x264.Name, sl A327 x264.Fields c328][i]? = some u → y11[m316 * 2 + i]? = some u := fun i u hi => OwO.cell ho323 hi
          refine ops_val (op := (.indexAddr 22 (.tmp 92) (.tmp 93))) (d := some 94) (v := vP g326 (m316 * 2)) ⟨by kernel_rfl⟩ (run_indexRow Tryd.underlying22 (z := 2) (by kernel_rfl) rfl rfl hm317 hl319 rfl) ?_
          refine ops_conv (l' := [(94, vP g326 (m316 * 2)), (93, vI x2), (92, sl (sa g326) x7 c10), (9, sl (sa g326) x7 c10), (7, vI x3), (6, vI x2), (3, vP b1 0)]) (M' := Mem w0 (ow A327 x264.Fields c328 32 3 y330 :: ow (sa g326) x7 c10 35 2 y11 :: K322 :: .blk b1 [vI m_0, .string m_1, .string m_2, .string m_3, vI m_4, .string m_5, vI m_6, vI m_7, .string m_8, sl A_m_9 m_9 c_m_9] 37 :: Fz F W :: cs)) rfl (fun w_ h => (hm325 (h.pick 4 [1, 0, 2, 3] (by kernel_rfl) (by decide) rfl)).pick 5 [1, 2, 0, 3, 4] (by kernel_rfl) (by decide) rfl) ?_
          refine oQ [oT 3, oT 5, oT 6, oT 7] [(99, vI x2), (98, sl (sa g326) x7 c10), (97, vI x3), (95, vP g326 (m316 * 2 + 1)), (9, sl (sa g326) x7 c10), (7, vI x3), (3, vP b1 0)] (by kernel_rfl) ?_
          refine ops_val (op := (.indexAddr 22 (.tmp 98) (.tmp 99))) (d := some 100) (v := vP g326 (m316 * 2)) ⟨by kernel_rfl⟩ (run_indexRow Tryd.underlying22 (z := 2) (by kernel_rfl) rfl rfl hm317 ho323.lt rfl) ?_
          refine oQ [oT 9, oT 11, oT 12, oT 13] [(105, vP b1 6), (103, vI x3), (101, vP g326 (m316 * 2 + 1)), (97, vI x3), (95, vP g326 (m316 * 2 + 1)), (9, sl (sa g326) x7 c10), (3, vP b1 0)] (by kernel_rfl) ?_
          refine ops_load (d := some 106) (an := [.v (vI m_6)]) (evs := [ld b1 6 (vI m_6)]) (v := vI m_6) ⟨by kernel_rfl⟩ (fun w_ hM => ⟨hM.cell 0 rfl rfl, rfl⟩) ?_
          refine oQ [oT 15, oT 16] [(108, vP b1 7), (106, vI m_6), (103, vI x3), (101, vP g326 (m316 * 2 + 1)), (97, vI x3), (95, vP g326 (m316 * 2 + 1)), (9, sl (sa g326) x7 c10)] (by kernel_rfl) ?_
          refine ops_load (d := some 109) (an := [.v (vI m_7)]) (evs := [ld b1 7 (vI m_7)]) (v := vI m_7) ⟨by kernel_rfl⟩ (fun w_ hM => ⟨hM.cell 0 rfl rfl, rfl⟩) ?_
          refine ops_nil ?_
          refine tree_both ?_ ?_
          ·
           refine tree_leaf ?_
           refine ops_mem (d := some 96) (an := [.v (sl A327 x264.Fields c328)]) (evs := [.load ⟨g326, m316 * 2 + 1, none⟩ (sl A327 x264.Fields c328)]) (v := sl A327 x264.Fields c328) ⟨by kernel_rfl⟩ (fun w_ hM hS => ⟨w_, ⟨hM.ocell 1 rfl (hq331 1 _ rfl), rfl⟩, hM, hS⟩) ?_
           refine ops_mem (d := some 102) (an := [.v (sl A327 x264.Fields c328)]) (evs := [.load ⟨g326, m316 * 2 + 1, none⟩ (sl A327 x264.Fields c328)]) (v := sl A327 x264.Fields c328) ⟨by kernel_rfl⟩ (fun w_ hM hS => ⟨w_, ⟨hM.ocell 1 rfl (hq331 1 _ rfl), rfl⟩, hM, hS⟩) ?_
           obtain ⟨m332, hm333, hx334⟩ := idx_some hv283
           have hl337 := (List.getElem?_eq_some_iff.1 hx334).1
           refine ops_fact (fun w_ hM => hM.orowSome 0 rfl (Nat.lt_of_le_of_lt (Nat.zero_le _) hl337)) ?_
           rintro ⟨g338, rfl, -⟩
           obtain ⟨vs335, hr336, hq339⟩ := h329.at_ m332 x282 hx334
           obtain rfl := dec_api_Field hr336
           refine ops_val (op := (.indexAddr 33 (.tmp 96) (.tmp 97))) (d := some 110) (v := vP g338 (m332 * 3)) ⟨by kernel_rfl⟩ (run_indexRow Tryd.underlying33 (z := 3) (by kernel_rfl) rfl rfl hm333 hl337 rfl) ?_
           refine oQ [oT 19] [(111, vP g338 (m332 * 3 + 1)), (102, sl (sa g338) x264.Fields c328), (109, vI m_7), (106, vI m_6), (103, vI x3), (9, sl (sa g326) x7 c10)] (by kernel_rfl) ?_
           obtain ⟨m340, hm341, hl342, he343⟩ := upd_some hv293
           obtain rfl : m332 = m340 := by have := hm333; omega
           have hl344 : x264.Fields.length = l292.length := by rw [he343, List.length_set]
           obtain ⟨y345, hy346⟩ : ∃ y_, setAll y330 (m332 * 3 + 1) [vI m_6] = y_ := ⟨_, rfl⟩
           have h347 : RepL R_api_Field F W l292 y345 := by rw [he343, ← hy346]; exact RepL.set h329 hx334 (fun vs_ hr_ _ => by obtain rfl := dec_api_Field hr_; exact ⟨(enc_api_Field), Nat.le_of_ble_eq_true rfl⟩)
           refine ops_store (an := []) (evs := [.store ⟨g338, m332 * 3 + 1, none⟩ (vI m_6)]) ⟨by kernel_rfl⟩ (fun w_ hM hS => let ⟨w', he, h'⟩ := hM.ostore' 0 rfl (m332 * 3 + 1) [vI m_6] (by have z_ : y330.length = x264.Fields.length * 3 := h329.len; have y_ : (m332 + 1) * 3 ≤ x264.Fields.length * 3 := Nat.mul_le_mul_right _ hl342; rw [Nat.add_mul] at y_; simp only [List.length_cons, List.length_nil]; omega) hl344 hy346; ⟨w', he, h', (by exact h'.sub (.cons _ (.cons _ (.cons _ (.cons_cons _ (.cons_cons _ (.refl _)))))))⟩) ?_
           have ho349 : OwO O_api_Kind_rw F W x7 m316 y11 [.string x264.Name, sl (sa g338) l292 c328] K322 := by first | exact ho323 | ((try dsimp only [sl, ow]); rw [← hl344]; exact ho323)
           have hq350 : ∀ (i : Nat) (u : Value), [.string x264.Name, sl (sa g338) l292 c328][i]? = some u → y11[m316 * 2 + i]? = some u := fun i u hi => OwO.cell ho349 hi
           refine ops_conv (l' := [(111, vP g338 (m332 * 3 + 1)), (102, sl (sa g338) l292 c328), (109, vI m_7), (106, vI m_6), (103, vI x3), (9, sl (sa g326) x7 c10)]) (M' := Mem w0 (ow (sa g338) l292 c328 32 3 y345 :: ow (sa g326) x7 c10 35 2 y11 :: K322 :: .blk b1 [vI m_0, .string m_1, .string m_2, .string m_3, vI m_4, .string m_5, vI m_6, vI m_7, .string m_8, sl A_m_9 m_9 c_m_9] 37 :: Fz F W :: cs)) (by first | rfl | ((try dsimp only [sl, ow]); rw [hl344])) (fun w_ hM => by first | exact hM | ((try dsimp only [sl, ow] at hM ⊢); rw [hl344] at hM; exact hM)) ?_
           obtain ⟨m351, hm352, hx353⟩ := idx_some hv306
           have hl356 := (List.getElem?_eq_some_iff.1 hx353).1
           obtain ⟨vs354, hr355, hq357⟩ := h347.at_ m351 x305 hx353
           obtain rfl := dec_api_Field hr355
           refine ops_val (op := (.indexAddr 33 (.tmp 102) (.tmp 103))) (d := some 112) (v := vP g338 (m351 * 3)) ⟨by kernel_rfl⟩ (run_indexRow Tryd.underlying33 (z := 3) (by kernel_rfl) rfl rfl hm352 hl356 rfl) ?_
           refine oQ [oT 22] [(113, vP g338 (m351 * 3 + 2)), (109, vI m_7), (9, sl (sa g326) x7 c10)] (by kernel_rfl) ?_
           obtain ⟨m358, hm359, hl360, he361⟩ := upd_some hv315
           obtain rfl : m351 = m358 := by have := hm352; omega
           have hl362 : l292.length = l314.length := by rw [he361, List.length_set]
           obtain ⟨y363, hy364⟩ : ∃ y_, setAll y345 (m351 * 3 + 2) [vI m_7] = y_ := ⟨_, rfl⟩
           have h365 : RepL R_api_Field F W l314 y363 := by rw [he361, ← hy364]; exact RepL.set h347 hx353 (fun vs_ hr_ _ => by obtain rfl := dec_api_Field hr_; exact ⟨(enc_api_Field), Nat.le_of_ble_eq_true rfl⟩)
           refine ops_store (an := []) (evs := [.store ⟨g338, m351 * 3 + 2, none⟩ (vI m_7)]) ⟨by kernel_rfl⟩ (fun w_ hM hS => let ⟨w', he, h'⟩ := hM.ostore' 0 rfl (m351 * 3 + 2) [vI m_7] (by have z_ : y345.length = l292.length * 3 := h347.len; have y_ : (m351 + 1) * 3 ≤ l292.length * 3 := Nat.mul_le_mul_right _ hl360; rw [Nat.add_mul] at y_; simp only [List.length_cons, List.length_nil]; omega) hl362 hy364; ⟨w', he, h', (by exact h'.sub (.cons _ (.cons _ (.cons _ (.cons_cons _ (.cons_cons _ (.refl _)))))))⟩) ?_
           have ho367 : OwO O_api_Kind_rw F W x7 m316 y11 [.string x264.Name, sl (sa g338) l314 c328] K322 := by first | exact ho349 | ((try dsimp only [sl, ow]); rw [← hl362]; exact ho349)
           have hq368 : ∀ (i : Nat) (u : Value), [.string x264.Name, sl (sa g338) l314 c328][i]? = some u → y11[m316 * 2 + i]? = some u := fun i u hi => OwO.cell ho367 hi
           refine oQ [] [(9, sl (sa g326) x7 c10)] (by kernel_rfl) ?_
           refine ops_nil (fin_block ?_)
           obtain ⟨l372, hv373, hp⟩ := obind hp
           obtain ⟨m374, hm375, hl376, he377⟩ := upd_some hv373
           obtain rfl : m316 = m374 := by have := hm317; omega
           have hl378 : x7.length = l372.length := by rw [he377, List.length_set]
           obtain ⟨K369, h370, hm371⟩ := OwO.close (x := (api_Kind.mk x264.Name l314)) (Kx := [ow (sa g338) l314 c328 32 3 y363]) ho367 (oenc_api_Kind_rw h365)
           rw [← he377] at h370
           refine fin_conv (l' := [(9, sl (sa g326) x7 c10)]) (M' := Mem w0 (ow (sa g326) x7 c10 35 2 y11 :: K369 :: .blk b1 [vI m_0, .string m_1, .string m_2, .string m_3, vI m_4, .string m_5, vI m_6, vI m_7, .string m_8, sl A_m_9 m_9 c_m_9] 37 :: Fz F W :: cs)) rfl (fun w_ h => (hm371 (h.pick 5 [2, 0, 1, 3, 4] (by kernel_rfl) (by decide) rfl)).pick 4 [1, 0, 2, 3] (by kernel_rfl) (by decide) rfl) ?_
           refine fin_conv (l' := [(9, sl (sa g326) l372 c10)]) (M' := Mem w0 (ow (sa g326) l372 c10 35 2 y11 :: K369 :: .blk b1 [vI m_0, .string m_1, .string m_2, .string m_3, vI m_4, .string m_5, vI m_6, vI m_7, .string m_8, sl A_m_9 m_9 c_m_9] 37 :: Fz F W :: cs)) (by first | rfl | ((try dsimp only [sl, ow]); rw [hl378])) (fun w_ hM => by first | exact hM | ((try dsimp only [sl, ow] at hM ⊢); rw [hl378] at hM; exact hM)) ?_
           exact fin_join HJ1 ((sa g326), c10, l372, y11, K369, F, W) ⟨hp, h370, (Ext.refl _ _ _)⟩ (look_has ⟨rfl, trivial⟩) (fun w_ hM => hM.pick 4 [0, 1, 3] (by kernel_rfl) (by decide) rfl)
          ·
           refine tree_leaf ?_
           refine ops_mem (d := some 102) (an := [.v (sl A327 x264.Fields c328)]) (evs := [.load ⟨g326, m316 * 2 + 1, none⟩ (sl A327 x264.Fields c328)]) (v := sl A327 x264.Fields c328) ⟨by kernel_rfl⟩ (fun w_ hM hS => ⟨w_, ⟨hM.ocell 1 rfl (hq331 1 _ rfl), rfl⟩, hM, hS⟩) ?_
           refine ops_mem (d := some 96) (an := [.v (sl A327 x264.Fields c328)]) (evs := [.load ⟨g326, m316 * 2 + 1, none⟩ (sl A327 x264.Fields c328)]) (v := sl A327 x264.Fields c328) ⟨by kernel_rfl⟩ (fun w_ hM hS => ⟨w_, ⟨hM.ocell 1 rfl (hq331 1 _ rfl), rfl⟩, hM, hS⟩) ?_
           obtain ⟨m379, hm380, hx381⟩ := idx_some hv283
           have hl384 := (List.getElem?_eq_some_iff.1 hx381).1
           refine ops_fact (fun w_ hM => hM.orowSome 0 rfl (Nat.lt_of_le_of_lt (Nat.zero_le _) hl384)) ?_
           rintro ⟨g385, rfl, -⟩
           obtain ⟨vs382, hr383, hq386⟩ := h329.at_ m379 x282 hx381
           obtain rfl := dec_api_Field hr383
           refine ops_val (op := (.indexAddr 33 (.tmp 96) (.tmp 97))) (d := some 110) (v := vP g385 (m379 * 3)) ⟨by kernel_rfl⟩ (run_indexRow Tryd.underlying33 (z := 3) (by kernel_rfl) rfl rfl hm380 hl384 rfl) ?_
           refine oQ [oT 19] [(111, vP g385 (m379 * 3 + 1)), (102, sl (sa g385) x264.Fields c328), (109, vI m_7), (106, vI m_6), (103, vI x3), (9, sl (sa g326) x7 c10)] (by kernel_rfl) ?_
           obtain ⟨m387, hm388, hl389, he390⟩ := upd_some hv293
           obtain rfl : m379 = m387 := by have := hm380; omega
           have hl391 : x264.Fields.length = l292.length := by rw [he390, List.length_set]
           obtain ⟨y392, hy393⟩ : ∃ y_, setAll y330 (m379 * 3 + 1) [vI m_6] = y_ := ⟨_, rfl⟩
           have h394 : RepL R_api_Field F W l292 y392 := by rw [he390, ← hy393]; exact RepL.set h329 hx381 (fun vs_ hr_ _ => by obtain rfl := dec_api_Field hr_; exact ⟨(enc_api_Field), Nat.le_of_ble_eq_true rfl⟩)
           refine ops_store (an := []) (evs := [.store ⟨g385, m379 * 3 + 1, none⟩ (vI m_6)]) ⟨by kernel_rfl⟩ (fun w_ hM hS => let ⟨w', he, h'⟩ := hM.ostore' 0 rfl (m379 * 3 + 1) [vI m_6] (by have z_ : y330.length = x264.Fields.length * 3 := h329.len; have y_ : (m379 + 1) * 3 ≤ x264.Fields.length * 3 := Nat.mul_le_mul_right _ hl389; rw [Nat.add_mul] at y_; simp only [List.length_cons, List.length_nil]; omega) hl391 hy393; ⟨w', he, h', (by exact h'.sub (.cons _ (.cons _ (.cons _ (.cons_cons _ (.cons_cons _ (.refl _)))))))⟩) ?_
           have ho396 : OwO O_api_Kind_rw F W x7 m316 y11 [.string x264.Name, sl (sa g385) l292 c328] K322 := by first | exact ho323 | ((try dsimp only [sl, ow]); rw [← hl391]; exact ho323)
           have hq397 : ∀ (i : Nat) (u : Value), [.string x264.Name, sl (sa g385) l292 c328][i]? = some u → y11[m316 * 2 + i]? = some u := fun i u hi => OwO.cell ho396 hi
           refine ops_conv (l' := [(111, vP g385 (m379 * 3 + 1)), (102, sl (sa g385) l292 c328), (109, vI m_7), (106, vI m_6), (103, vI x3), (9, sl (sa g326) x7 c10)]) (M' := Mem w0 (ow (sa g385) l292 c328 32 3 y392 :: ow (sa g326) x7 c10 35 2 y11 :: K322 :: .blk b1 [vI m_0, .string m_1, .string m_2, .string m_3, vI m_4, .string m_5, vI m_6, vI m_7, .string m_8, sl A_m_9 m_9 c_m_9] 37 :: Fz F W :: cs)) (by first | rfl | ((try dsimp only [sl, ow]); rw [hl391])) (fun w_ hM => by first | exact hM | ((try dsimp only [sl, ow] at hM ⊢); rw [hl391] at hM; exact hM)) ?_
           obtain ⟨m398, hm399, hx400⟩ := idx_some hv306
           have hl403 := (List.getElem?_eq_some_iff.1 hx400).1
           obtain ⟨vs401, hr402, hq404⟩ := h394.at_ m398 x305 hx400
           obtain rfl := dec_api_Field hr402
           refine ops_val (op := (.indexAddr 33 (.tmp 102) (.tmp 103))) (d := some 112) (v := vP g385 (m398 * 3)) ⟨by kernel_rfl⟩ (run_indexRow Tryd.underlying33 (z := 3) (by kernel_rfl) rfl rfl hm399 hl403 rfl) ?_
           refine oQ [oT 22] [(113, vP g385 (m398 * 3 + 2)), (109, vI m_7), (9, sl (sa g326) x7 c10)] (by kernel_rfl) ?_
           obtain ⟨m405, hm406, hl407, he408⟩ := upd_some hv315
           obtain rfl : m398 = m405 := by have := hm399; omega
           have hl409 : l292.length = l314.length := by rw [he408, List.length_set]
           obtain ⟨y410, hy411⟩ : ∃ y_, setAll y392 (m398 * 3 + 2) [vI m_7] = y_ := ⟨_, rfl⟩
           have h412 : RepL R_api_Field F W l314 y410 := by rw [he408, ← hy411]; exact RepL.set h394 hx400 (fun vs_ hr_ _ => by obtain rfl := dec_api_Field hr_; exact ⟨(enc_api_Field), Nat.le_of_ble_eq_true rfl⟩)
           refine ops_store (an := []) (evs := [.store ⟨g385, m398 * 3 + 2, none⟩ (vI m_7)]) ⟨by kernel_rfl⟩ (fun w_ hM hS => let ⟨w', he, h'⟩ := hM.ostore' 0 rfl (m398 * 3 + 2) [vI m_7] (by have z_ : y392.length = l292.length * 3 := h394.len; have y_ : (m398 + 1) * 3 ≤ l292.length * 3 := Nat.mul_le_mul_right _ hl407; rw [Nat.add_mul] at y_; simp only [List.length_cons, List.length_nil]; omega) hl409 hy411; ⟨w', he, h', (by exact h'.sub (.cons _ (.cons _ (.cons _ (.cons_cons _ (.cons_cons _ (.refl _)))))))⟩) ?_
           have ho414 : OwO O_api_Kind_rw F W x7 m316 y11 [.string x264.Name, sl (sa g385) l314 c328] K322 := by first | exact ho396 | ((try dsimp only [sl, ow]); rw [← hl409]; exact ho396)
           have hq415 : ∀ (i : Nat) (u : Value), [.string x264.Name, sl (sa g385) l314 c328][i]? = some u → y11[m316 * 2 + i]? = some u := fun i u hi => OwO.cell ho414 hi
           refine oQ [] [(9, sl (sa g326) x7 c10)] (by kernel_rfl) ?_
           refine ops_nil (fin_block ?_)
           obtain ⟨l419, hv420, hp⟩ := obind hp
           obtain ⟨m421, hm422, hl423, he424⟩ := upd_some hv420
           obtain rfl : m316 = m421 := by have := hm317; omega
           have hl425 : x7.length = l419.length := by rw [he424, List.length_set]
           obtain ⟨K416, h417, hm418⟩ := OwO.close (x := (api_Kind.mk x264.Name l314)) (Kx := [ow (sa g385) l314 c328 32 3 y410]) ho414 (oenc_api_Kind_rw h412)
           rw [← he424] at h417
           refine fin_conv (l' := [(9, sl (sa g326) x7 c10)]) (M' := Mem w0 (ow (sa g326) x7 c10 35 2 y11 :: K416 :: .blk b1 [vI m_0, .string m_1, .string m_2, .string m_3, vI m_4, .string m_5, vI m_6, vI m_7, .string m_8, sl A_m_9 m_9 c_m_9] 37 :: Fz F W :: cs)) rfl (fun w_ h => (hm418 (h.pick 5 [2, 0, 1, 3, 4] (by kernel_rfl) (by decide) rfl)).pick 4 [1, 0, 2, 3] (by kernel_rfl) (by decide) rfl) ?_
           refine fin_conv (l' := [(9, sl (sa g326) l419 c10)]) (M' := Mem w0 (ow (sa g326) l419 c10 35 2 y11 :: K416 :: .blk b1 [vI m_0, .string m_1, .string m_2, .string m_3, vI m_4, .string m_5, vI m_6, vI m_7, .string m_8, sl A_m_9 m_9 c_m_9] 37 :: Fz F W :: cs)) (by first | rfl | ((try dsimp only [sl, ow]); rw [hl425])) (fun w_ hM => by first | exact hM | ((try dsimp only [sl, ow] at hM ⊢); rw [hl425] at hM; exact hM)) ?_
           exact fin_join HJ1 ((sa g326), c10, l419, y11, K416, F, W) ⟨hp, h417, (Ext.refl _ _ _)⟩ (look_has ⟨rfl, trivial⟩) (fun w_ hM => hM.pick 4 [0, 1, 3] (by kernel_rfl) (by decide) rfl)
         ·
          have hp := cnd_f hc263 hp
          refine st_skip (fin_block ?_)
          exact fin_join HJ1 (A9, c10, x7, y11, K12, F, W) ⟨hp, h13, (Ext.refl _ _ _)⟩ (look_has ⟨rfl, trivial⟩) (fun w_ hM => hM.pick 4 [0, 1, 3] (by kernel_rfl) (by decide) rfl)
theorem migrate_Kinds_ok (w0 w : World) (cs : List Chunk) (F : Nat → Prop) (W : World) (A_k : Option Addr) (c_k : Nat) (k : List api_Kind) (A_l : Option Addr) (c_l : Nat) (l : List migrate_Move) (hM0 : Mem w0 (Fz F W :: cs) w) (h_k : RdS R_api_Kind F W A_k c_k k) (h_l : RdS R_migrate_Move F W A_l c_l l) (l9003 : List api_Kind) (i9007 : Int) (hp : migrate_Kinds k l = some (l9003, i9007)) : Calls Tryd.prog 16 #[sl A_k k c_k, sl A_l l c_l] w fun e w' => ∃ (A9001 : Option Addr), ∃ (c9002 : Nat), ∃ (y9004 : List Value), ∃ (K9006 : Chunk), ∃ (F9008 : Nat → Prop), ∃ (W9009 : World), ((OwL O_api_Kind_rw F9008 W9009 l9003 y9004 K9006) ∧ (Ext w0 F W F9008 W9009)) ∧ e = .returned (.tuple #[sl A9001 l9003 c9002, vI i9007]) ∧ Mem w0 (ow A9001 l9003 c9002 35 2 y9004 :: K9006 :: Fz F9008 W9009 :: cs) w' := by
 unfold migrate_Kinds at hp
 refine sx_calls Tryd.func16 rfl (n := 39) (by kernel_rfl) (l := [(0, sl A_k k c_k), (1, sl A_l l c_l)]) rfl (by rfl) hM0 ?_
 refine st_seq (st_region [oF 0, oF 1] (by rfl) ?_)
 refine oQ [oF 0, oF 1] [(0, sl A_k k c_k), (1, sl A_l l c_l)] (by kernel_rfl) ?_
 refine ops_nil (fin_then (st_seq (st_seq (st_region [oF 0, oF 1, oF 2] (by rfl) ?_))))
 refine oQ [oF 0] [(11, sl A_k k c_k), (0, sl A_k k c_k), (1, sl A_l l c_l)] (by kernel_rfl) ?_
 obtain ⟨x1, hv2, hp⟩ := obind hp
 refine ops_callI (σ := Unit) (d := some 12) (f := 50) (args := #[sl A_k k c_k]) (v := (fun _ => vI x1)) (I := (fun _ => True)) (M' := (fun _ => Mem w0 (Fz F W :: cs))) ⟨by kernel_rfl⟩ (fun w_ hM hS => (kind_Check_ok w0 w_ (cs) F W A_k c_k k hM h_k x1 hv2).mono (by rintro e w' ⟨-, rfl, h'⟩; have h' : Mem w0 (Fz F W :: cs) w' := h'; exact ⟨(), trivial, rfl, h', trivial⟩)) ?_
 rintro _ -
 refine oQ [oF 2] [(6, vI x1), (0, sl A_k k c_k), (1, sl A_l l c_l)] (by kernel_rfl) ?_
 refine ops_nil (fin_then (st_seq (st_region [oF 0, oF 1] (by rfl) ?_)))
 refine oQ [oF 0, oF 1] [(14, .bool (!(x1 == 0))), (6, vI x1), (0, sl A_k k c_k), (1, sl A_l l c_l)] (by kernel_rfl) ?_
 refine ops_nil (fin_then ?_)
 refine st_if (b := !(x1 == 0)) rfl (fun hc3 => ?_) (fun hc3 => ?_)
 ·
  have hp := cnd_t hc3 hp
  refine st_seq (st_region [oF 0, oF 1, oF 2] (by rfl) ?_)
  refine oQ [oF 0, oF 1, oF 2] [(5, vI x1), (4, .slice none 0 0)] (by kernel_rfl) ?_
  refine ops_nil (fin_then (st_ret (fin_ret_then ?_)))
  refine fin_conv (l' := [(5, vI x1), (4, .slice none 0 0)]) (M' := Mem w0 (ow none ([] : List api_Kind) 0 35 2 [] :: (Sx.bundle []) :: Fz F W :: cs)) rfl (fun w_ h => h.bnil.onil none 35 2) ?_
  refine fin_conv (l' := [(5, vI x1), (4, sl none ([] : List api_Kind) 0)]) (M' := Mem w0 (ow none ([] : List api_Kind) 0 35 2 [] :: (Sx.bundle []) :: Fz F W :: cs)) rfl (fun _ h => h) ?_
  have hq_ := Option.some.inj hp
  obtain ⟨hr0_, hq_⟩ := Prod.mk.inj hq_
  have hr1_ := hq_
  subst hr0_
  subst hr1_
  refine fin_ret [.tmp 4, .tmp 5] [sl none ([] : List api_Kind) 0, vI x1] rfl rfl (fun w_ hM => (.tmp rfl (.tmp rfl .nil))) (fun w_ hM => ?_)
  exact ⟨none, 0, [], (Sx.bundle []), F, W, ⟨(OwL.nil (O := O_api_Kind_rw)), (Ext.refl _ _ _)⟩, rfl, hM⟩
 ·
  have hp := cnd_f hc3 hp
  refine st_skip (fin_then (st_seq (st_seq (st_region [oF 0, oF 1, oF 2] (by rfl) ?_))))
  refine oQ [oF 0, oF 1, oF 2] [(18, .bool (decide (100 < (l.length : Int)))), (0, sl A_k k c_k), (1, sl A_l l c_l)] (by kernel_rfl) ?_
  refine ops_nil (fin_then ?_)
  refine st_if (b := decide (100 < (l.length : Int))) rfl (fun hc4 => ?_) (fun hc4 => ?_)
  ·
   have hp := cnd_t hc4 hp
   refine st_seq (st_region [oF 0, oF 1] (by rfl) ?_)
   refine oQ [oF 0, oF 1] [(5, vI 2), (4, .slice none 0 0)] (by kernel_rfl) ?_
   refine ops_nil (fin_then (st_ret (fin_ret_then ?_)))
   refine fin_conv (l' := [(5, vI 2), (4, .slice none 0 0)]) (M' := Mem w0 (ow none ([] : List api_Kind) 0 35 2 [] :: (Sx.bundle []) :: Fz F W :: cs)) rfl (fun w_ h => h.bnil.onil none 35 2) ?_
   refine fin_conv (l' := [(5, vI 2), (4, sl none ([] : List api_Kind) 0)]) (M' := Mem w0 (ow none ([] : List api_Kind) 0 35 2 [] :: (Sx.bundle []) :: Fz F W :: cs)) rfl (fun _ h => h) ?_
   have hq_ := Option.some.inj hp
   obtain ⟨hr0_, hq_⟩ := Prod.mk.inj hq_
   have hr1_ := hq_
   subst hr0_
   subst hr1_
   refine fin_ret [.tmp 4, .tmp 5] [sl none ([] : List api_Kind) 0, vI 2] rfl rfl (fun w_ hM => (.tmp rfl (.tmp rfl .nil))) (fun w_ hM => ?_)
   exact ⟨none, 0, [], (Sx.bundle []), F, W, ⟨(OwL.nil (O := O_api_Kind_rw)), (Ext.refl _ _ _)⟩, rfl, hM⟩
  ·
   have hp := cnd_f hc4 hp
   refine st_skip (fin_then (st_seq (st_region [oF 0, oF 1, oF 2] (by rfl) ?_)))
   refine oQ [oF 0] [(19, sl A_k k c_k), (0, sl A_k k c_k), (1, sl A_l l c_l)] (by kernel_rfl) ?_
   obtain ⟨x5, hv6, hp⟩ := obind hp
   refine ops_callI (σ := (Option Addr) × Nat × (List Value) × Chunk) (d := some 20) (f := 51) (args := #[sl A_k k c_k]) (v := (fun x_ => match x_ with | (A7, c8, y9, K10) => sl A7 x5 c8)) (I := (fun x_ => match x_ with | (A7, c8, y9, K10) => (OwL O_api_Kind_rw F W x5 y9 K10))) (M' := (fun x_ => match x_ with | (A7, c8, y9, K10) => Mem w0 (ow A7 x5 c8 35 2 y9 :: K10 :: Fz F W :: cs))) ⟨by kernel_rfl⟩ (fun w_ hM hS => (kind_Copy_ok w0 w_ (cs) F W A_k c_k k hM h_k x5 hv6).mono (by rintro e w' ⟨A7, c8, y9, K10, h11, rfl, h'⟩; have h' : Mem w0 (ow A7 x5 c8 35 2 y9 :: K10 :: Fz F W :: cs) w' := h'; exact ⟨(A7, c8, y9, K10), h11, rfl, h', trivial⟩)) ?_
   rintro ⟨A7, c8, y9, K10⟩ h11
   refine oQ [oF 2] [(0, sl A7 x5 c8), (1, sl A_l l c_l)] (by kernel_rfl) ?_
   refine ops_nil (fin_then ?_)
   refine st_join1 (σ := (Option Addr) × Nat × (List api_Kind) × (List Value) × Chunk × (Nat → Prop) × World) (L := fun x_ => match x_ with | (A12, c13, l14, y15, K17, F18, W19) => [(0, sl A12 l14 c13)]) (N := fun x_ => match x_ with | (A12, c13, l14, y15, K17, F18, W19) => Mem w0 (ow A12 l14 c13 35 2 y15 :: K17 :: Fz F18 W19 :: cs)) (I := fun x_ => match x_ with | (A12, c13, l14, y15, K17, F18, W19) => (migrate_Kinds_j1 l14 = some (l9003, i9007)) ∧ (OwL O_api_Kind_rw F18 W19 l14 y15 K17) ∧ (Ext w0 F W F18 W19)) ?_ ?_
   ·
    rintro ⟨A12, c13, l14, y15, K17, F18, W19⟩ ⟨hp, h16, hx1⟩
    unfold migrate_Kinds_j1 at hp
    refine st_seq (st_region [oF 0, oF 1, oF 2] (by rfl) ?_)
    refine oQ [oF 0, oF 1, oF 2] [(5, vI 0), (4, sl A12 l14 c13)] (by kernel_rfl) ?_
    refine ops_nil (fin_then (st_ret ?_))
    have hq_ := Option.some.inj hp
    obtain ⟨hr0_, hq_⟩ := Prod.mk.inj hq_
    have hr1_ := hq_
    subst hr0_
    subst hr1_
    refine fin_ret [.tmp 4, .tmp 5] [sl A12 l14 c13, vI 0] rfl rfl (fun w_ hM => (.tmp rfl (.tmp rfl .nil))) (fun w_ hM => ?_)
    exact ⟨A12, c13, y15, K17, F18, W19, ⟨h16, hx1⟩, rfl, hM⟩
   ·
    intro HJ1
    refine st_seq (st_seq (st_region [oF 0, oF 1, oF 2] (by rfl) ?_))
    refine oQ [oF 0, oF 1, oF 2] [(23, vI 0), (22, vI (l.length : Int)), (21, sl A_l l c_l), (0, sl A7 x5 c8)] (by kernel_rfl) ?_
    refine ops_nil (fin_then (st_block ?_))
    obtain ⟨r2, hl2, hk2⟩ := obind hp
    refine st_loopP (σ := (List api_Kind) × Int) (ρ := (((List api_Kind) × Int) ⊕ (List api_Kind))) (γ := (Option Addr) × Nat × (List Value) × Chunk × (Nat → Prop) × World) hl2 (A7, c8, y9, K10, F, W) (fun s_ g_ => match s_, g_ with | (l22, i26), (A20, c21, y23, K25, F27, W28) => [(0, sl A20 l22 c21), (21, sl A_l l c_l), (22, vI (l.length : Int)), (23, vI i26)]) (fun s_ g_ => match s_, g_ with | (l22, i26), (A20, c21, y23, K25, F27, W28) => Mem w0 (ow A20 l22 c21 35 2 y23 :: K25 :: Fz F27 W28 :: cs)) (fun s_ g_ => match s_, g_ with | (l22, i26), (A20, c21, y23, K25, F27, W28) => (OwL O_api_Kind_rw F27 W28 l22 y23 K25) ∧ (Ext w0 F W F27 W28)) ⟨h11, (Ext.refl _ _ _)⟩ (look_has ⟨rfl, rfl, rfl, rfl, trivial⟩) (fun w_ hM => hM) ?_
    rintro ⟨l22, i26⟩ ⟨A20, c21, y23, K25, F27, W28⟩ o2 ⟨h24, hx2⟩ hs_ hd2
    have hp : (migrate_Kinds_l2 l) l22 i26 = some o2 := hs_
    clear hs_
    unfold migrate_Kinds_l2 at hp
    have h_l := h_l.ext hx2
    refine st_seq (st_region [oF 0] (by rfl) ?_)
    refine oQ [oF 0] [(24, .bool (decide (i26 < (l.length : Int)))), (0, sl A20 l22 c21), (21, sl A_l l c_l), (22, vI (l.length : Int)), (23, vI i26)] (by kernel_rfl) ?_
    refine ops_nil (fin_then (st_seq ?_))
    refine st_if (b := decide (i26 < (l.length : Int))) rfl (fun hc29 => ?_) (fun hc29 => ?_)
    ·
     have hp := cnd_t hc29 hp
     refine st_skip (fin_then (st_seq (st_block (st_seq (st_region [oF 0, oF 1, oF 2, oF 3] (by rfl) ?_)))))
     obtain ⟨x30, hv31, hp⟩ := obind hp
     obtain ⟨m32, hm33, hx34⟩ := idx_some hv31
     have hl37 := (List.getElem?_eq_some_iff.1 hx34).1
     obtain ⟨ad38, vs35, hA39, hr36, hq40⟩ := RdS.el h_l hx34
     obtain ⟨A41, c42, rfl, h43⟩ := dec_migrate_Move hr36
     refine ops_val (op := (.indexAddr 23 (.tmp 21) (.tmp 23))) (d := some 25) (v := .pointer (some (ad38.add (m32 * 10)))) ⟨by kernel_rfl⟩ (run_indexA hA39 Tryd.underlying23 (z := 10) (by kernel_rfl) rfl rfl hm33 hl37) ?_
     refine ops_mem (d := some 26) (an := [.v (vI x30.Do), .v (.string x30.Kind), .v (.string x30.Field), .v (.string x30.Name), .v (vI x30.Value), .v (.string x30.New.Name), .v (vI x30.New.Bits), .v (vI x30.New.Low), .v (.string x30.Whole.Name), .v (sl A41 x30.Whole.Fields c42)]) (evs := [.load (ad38.add (m32 * 10)) (vI x30.Do), .load ((ad38.add (m32 * 10)).add 1) (.string x30.Kind), .load ((ad38.add (m32 * 10)).add 2) (.string x30.Field), .load ((ad38.add (m32 * 10)).add 3) (.string x30.Name), .load ((ad38.add (m32 * 10)).add 4) (vI x30.Value), .load ((ad38.add (m32 * 10)).add 5) (.string x30.New.Name), .load ((ad38.add (m32 * 10)).add 6) (vI x30.New.Bits), .load ((ad38.add (m32 * 10)).add 7) (vI x30.New.Low), .load ((ad38.add (m32 * 10)).add 8) (.string x30.Whole.Name), .load ((ad38.add (m32 * 10)).add 9) (sl A41 x30.Whole.Fields c42)]) (v := .agg #[vI x30.Do, .string x30.Kind, .string x30.Field, .string x30.Name, vI x30.Value, .string x30.New.Name, vI x30.New.Bits, vI x30.New.Low, .string x30.Whole.Name, sl A41 x30.Whole.Fields c42]) ⟨by kernel_rfl⟩ (fun w_ hM hS => ⟨w_, ⟨hM.elcell 2 rfl hq40 0 rfl, hM.elcell 2 rfl hq40 1 rfl, hM.elcell 2 rfl hq40 2 rfl, hM.elcell 2 rfl hq40 3 rfl, hM.elcell 2 rfl hq40 4 rfl, hM.elcell 2 rfl hq40 5 rfl, hM.elcell 2 rfl hq40 6 rfl, hM.elcell 2 rfl hq40 7 rfl, hM.elcell 2 rfl hq40 8 rfl, hM.elcell 2 rfl hq40 9 rfl, rfl⟩, hM, trivial⟩) ?_
     refine ops_newB (d := some 8) [vI 0, .string ByteArray.empty, .string ByteArray.empty, .string ByteArray.empty, vI 0, .string ByteArray.empty, vI 0, vI 0, .string ByteArray.empty, .slice none 0 0] 37 (fun b44 => ⟨by kernel_rfl⟩) (fun w_ hM hS => trivial) (fun b44 => ?_)
     refine ops_store (an := []) (evs := [sr b44 0 (vI x30.Do), sr b44 1 (.string x30.Kind), sr b44 2 (.string x30.Field), sr b44 3 (.string x30.Name), sr b44 4 (vI x30.Value), sr b44 5 (.string x30.New.Name), sr b44 6 (vI x30.New.Bits), sr b44 7 (vI x30.New.Low), sr b44 8 (.string x30.Whole.Name), sr b44 9 (sl A41 x30.Whole.Fields c42)]) ⟨by kernel_rfl⟩ (fun w_ hM hS => let ⟨w', he, h'⟩ := hM.evs_stores [vI x30.Do, .string x30.Kind, .string x30.Field, .string x30.Name, vI x30.Value, .string x30.New.Name, vI x30.New.Bits, vI x30.New.Low, .string x30.Whole.Name, sl A41 x30.Whole.Fields c42] 0 rfl 0 (Nat.le_of_ble_eq_true rfl); ⟨w', he, h', trivial⟩) ?_
     refine ops_nil (fin_then (st_seq (st_region [oF 0, oF 1, oF 2, oF 3, oF 4, oF 5, oF 6, oF 7] (by rfl) ?_)))
     refine oQ [oF 0] [(28, sl A20 l22 c21), (8, vP b44 0), (21, sl A_l l c_l), (22, vI (l.length : Int)), (23, vI i26)] (by kernel_rfl) ?_
     refine ops_mem (d := some 29) (an := [.v (vI x30.Do), .v (.string x30.Kind), .v (.string x30.Field), .v (.string x30.Name), .v (vI x30.Value), .v (.string x30.New.Name), .v (vI x30.New.Bits), .v (vI x30.New.Low), .v (.string x30.Whole.Name), .v (sl A41 x30.Whole.Fields c42)]) (evs := [ld b44 0 (vI x30.Do), ld b44 1 (.string x30.Kind), ld b44 2 (.string x30.Field), ld b44 3 (.string x30.Name), ld b44 4 (vI x30.Value), ld b44 5 (.string x30.New.Name), ld b44 6 (vI x30.New.Bits), ld b44 7 (vI x30.New.Low), ld b44 8 (.string x30.Whole.Name), ld b44 9 (sl A41 x30.Whole.Fields c42)]) (v := .agg #[vI x30.Do, .string x30.Kind, .string x30.Field, .string x30.Name, vI x30.Value, .string x30.New.Name, vI x30.New.Bits, vI x30.New.Low, .string x30.Whole.Name, sl A41 x30.Whole.Fields c42]) ⟨by kernel_rfl⟩ (fun w_ hM hS => ⟨w_, ⟨hM.cell 0 rfl rfl, hM.cell 0 rfl rfl, hM.cell 0 rfl rfl, hM.cell 0 rfl rfl, hM.cell 0 rfl rfl, hM.cell 0 rfl rfl, hM.cell 0 rfl rfl, hM.cell 0 rfl rfl, hM.cell 0 rfl rfl, hM.cell 0 rfl rfl, rfl⟩, hM, trivial⟩) ?_
     refine ops_ex (σ := (Nat → Prop) × World) (I := fun x_ => Ext w0 F27 W28 x_.1 x_.2 ∧ RdS R_api_Kind x_.1 x_.2 A20 c21 l22) (M' := fun x_ => Mem w0 (.blk b44 [vI x30.Do, .string x30.Kind, .string x30.Field, .string x30.Name, vI x30.Value, .string x30.New.Name, vI x30.New.Bits, vI x30.New.Low, .string x30.Whole.Name, sl A41 x30.Whole.Fields c42] 37 :: Fz x_.1 x_.2 :: cs)) (fun w_ hM => ?_) ?_
     · obtain ⟨F_, h1_, h2_, h3_⟩ := (hM.pick 4 [1, 2, 3, 0] (by kernel_rfl) (by decide) rfl : Mem w0 (ow A20 l22 c21 35 2 y23 :: K25 :: Fz F27 W28 :: .blk b44 [vI x30.Do, .string x30.Kind, .string x30.Field, .string x30.Name, vI x30.Value, .string x30.New.Name, vI x30.New.Bits, vI x30.New.Low, .string x30.Whole.Name, sl A41 x30.Whole.Fields c42] 37 :: cs) w_).freezeOwn (z := 2) h24 rfl rfl
       exact ⟨(F_, w_), ⟨h1_, h2_⟩, h3_.pick 2 [1, 0] (by kernel_rfl) (by decide) rfl⟩
     rintro ⟨F45, W46⟩ ⟨hx47, h48⟩
     have hx47 : Ext w0 F27 W28 F45 W46 := hx47
     have h48 : RdS R_api_Kind F45 W46 A20 c21 l22 := h48
     have h43 := h43.ext hx47
     have h_l := h_l.ext hx47
     obtain ⟨x49, x50, hv51, hp⟩ := obind2 hp
     refine ops_callI (σ := (Option Addr) × Nat × (List Value) × Chunk × (Nat → Prop) × World) (d := some 30) (f := 44) (args := #[sl A20 l22 c21, .agg #[vI x30.Do, .string x30.Kind, .string x30.Field, .string x30.Name, vI x30.Value, .string x30.New.Name, vI x30.New.Bits, vI x30.New.Low, .string x30.Whole.Name, sl A41 x30.Whole.Fields c42]]) (v := (fun x_ => match x_ with | (A52, c53, y54, K55, F56, W57) => .tuple #[sl A52 x49 c53, vI x50])) (I := (fun x_ => match x_ with | (A52, c53, y54, K55, F56, W57) => (OwL O_api_Kind_rw F56 W57 x49 y54 K55) ∧ (Ext w0 F45 W46 F56 W57))) (M' := (fun x_ => match x_ with | (A52, c53, y54, K55, F56, W57) => Mem w0 (ow A52 x49 c53 35 2 y54 :: K55 :: .blk b44 [vI x30.Do, .string x30.Kind, .string x30.Field, .string x30.Name, vI x30.Value, .string x30.New.Name, vI x30.New.Bits, vI x30.New.Low, .string x30.Whole.Name, sl A41 x30.Whole.Fields c42] 37 :: Fz F56 W57 :: cs))) ⟨by kernel_rfl⟩ (fun w_ hM hS => (migrate_one_ok w0 w_ (.blk b44 [vI x30.Do, .string x30.Kind, .string x30.Field, .string x30.Name, vI x30.Value, .string x30.New.Name, vI x30.New.Bits, vI x30.New.Low, .string x30.Whole.Name, sl A41 x30.Whole.Fields c42] 37 :: cs) F45 W46 A20 c21 l22 x30.Do x30.Kind x30.Field x30.Name x30.Value x30.New.Name x30.New.Bits x30.New.Low x30.Whole.Name A41 c42 x30.Whole.Fields (hM.pick 2 [1, 0] (by kernel_rfl) (by decide) rfl) h48 h43 x49 x50 hv51).mono (by rintro e w' ⟨A52, c53, y54, K55, F56, W57, ⟨h58, h59⟩, rfl, h'⟩; have h' : Mem w0 (ow A52 x49 c53 35 2 y54 :: K55 :: .blk b44 [vI x30.Do, .string x30.Kind, .string x30.Field, .string x30.Name, vI x30.Value, .string x30.New.Name, vI x30.New.Bits, vI x30.New.Low, .string x30.Whole.Name, sl A41 x30.Whole.Fields c42] 37 :: Fz F56 W57 :: cs) w' := (h'.pick 4 [0, 1, 3, 2] (by kernel_rfl) (by decide) rfl); exact ⟨(A52, c53, y54, K55, F56, W57), ⟨h58, h59⟩, rfl, h', trivial⟩)) ?_
     rintro ⟨A52, c53, y54, K55, F56, W57⟩ ⟨h58, h59⟩
     have h43 := h43.ext h59
     have h48 := h48.ext h59
     have h_l := h_l.ext h59
     refine oQ [oF 3, oF 4, oF 5, oF 6, oF 7] [(10, vI x50), (9, sl A52 x49 c53), (21, sl A_l l c_l), (22, vI (l.length : Int)), (23, vI i26)] (by kernel_rfl) ?_
     refine ops_nil (fin_then (st_seq (st_seq (st_region [oF 0, oF 1] (by rfl) ?_))))
     refine oQ [oF 0, oF 1] [(34, .bool (!(x50 == 0))), (10, vI x50), (9, sl A52 x49 c53), (21, sl A_l l c_l), (22, vI (l.length : Int)), (23, vI i26)] (by kernel_rfl) ?_
     refine ops_nil (fin_then ?_)
     refine st_if (b := !(x50 == 0)) rfl (fun hc60 => ?_) (fun hc60 => ?_)
     ·
      have hp := cnd_t hc60 hp
      refine st_seq (st_region [oF 0, oF 1, oF 2] (by rfl) ?_)
      refine oQ [oF 0, oF 1, oF 2] [(5, vI x50), (4, .slice none 0 0)] (by kernel_rfl) ?_
      refine ops_nil (fin_then (st_ret (fin_ret_then (fin_ret_block (fin_ret_then (fin_ret_then (fin_ret_block (fin_ret_then ?_))))))))
      refine fin_conv (l' := [(5, vI x50), (4, .slice none 0 0)]) (M' := Mem w0 (ow none ([] : List api_Kind) 0 35 2 [] :: (Sx.bundle []) :: ow A52 x49 c53 35 2 y54 :: K55 :: .blk b44 [vI x30.Do, .string x30.Kind, .string x30.Field, .string x30.Name, vI x30.Value, .string x30.New.Name, vI x30.New.Bits, vI x30.New.Low, .string x30.Whole.Name, sl A41 x30.Whole.Fields c42] 37 :: Fz F56 W57 :: cs)) rfl (fun w_ h => h.bnil.onil none 35 2) ?_
      refine fin_conv (l' := [(5, vI x50), (4, sl none ([] : List api_Kind) 0)]) (M' := Mem w0 (ow none ([] : List api_Kind) 0 35 2 [] :: (Sx.bundle []) :: ow A52 x49 c53 35 2 y54 :: K55 :: .blk b44 [vI x30.Do, .string x30.Kind, .string x30.Field, .string x30.Name, vI x30.Value, .string x30.New.Name, vI x30.New.Bits, vI x30.New.Low, .string x30.Whole.Name, sl A41 x30.Whole.Fields c42] 37 :: Fz F56 W57 :: cs)) rfl (fun _ h => h) ?_
      obtain hq_ := Option.some.inj hp
      subst hq_
      obtain hq_ := hd2 _ rfl
      subst hq_
      have hp : some (([] : List api_Kind), x50) = some (l9003, i9007) := hk2
      have hq_ := Option.some.inj hp
      obtain ⟨hr0_, hq_⟩ := Prod.mk.inj hq_
      have hr1_ := hq_
      subst hr0_
      subst hr1_
      refine fin_ret [.tmp 4, .tmp 5] [sl none ([] : List api_Kind) 0, vI x50] rfl rfl (fun w_ hM => (.tmp rfl (.tmp rfl .nil))) (fun w_ hM => ?_)
      exact ⟨none, 0, [], (Sx.bundle []), F56, W57, ⟨(OwL.nil (O := O_api_Kind_rw)), ((hx2.trans hx47).trans h59)⟩, rfl, hM.pick 6 [0, 1, 5] (by kernel_rfl) (by decide) rfl⟩
     ·
      have hp := cnd_f hc60 hp
      refine st_skip (fin_then (st_region [oF 0, oF 1] (by rfl) ?_))
      refine oQ [oF 0, oF 1] [(0, sl A52 x49 c53), (21, sl A_l l c_l), (22, vI (l.length : Int)), (23, vI i26)] (by kernel_rfl) ?_
      refine ops_nil (fin_block (fin_then (st_region [oF 0, oF 1] (by rfl) ?_)))
      refine oQ [oF 0, oF 1] [(23, vI (IntKind.i64.wrap (i26 + 1))), (0, sl A52 x49 c53), (21, sl A_l l c_l), (22, vI (l.length : Int))] (by kernel_rfl) ?_
      refine ops_nil ?_
      exact fin_again (x49, IntKind.i64.wrap (i26 + 1)) (A52, c53, y54, K55, F56, W57) (Option.some.inj hp).symm ⟨h58, ((hx2.trans hx47).trans h59)⟩ (look_has ⟨rfl, rfl, rfl, rfl, trivial⟩) (fun w_ hM => hM.pick 4 [0, 1, 3] (by kernel_rfl) (by decide) rfl)
    ·
     have hp := cnd_f hc29 hp
     refine st_exit (fin_exit_then (fin_exit_then (fin_exit ?_)))
     obtain hq_ := Option.some.inj hp
     subst hq_
     obtain hq_ := hd2 _ rfl
     subst hq_
     have hp : migrate_Kinds_j1 l22 = some (l9003, i9007) := hk2
     exact fin_join HJ1 (A20, c21, l22, y23, K25, F27, W28) ⟨hp, h24, hx2⟩ (look_has ⟨rfl, trivial⟩) (fun w_ hM => hM)
end Go.Proofs.YtnnhijlgohlaeaaDoor.A
