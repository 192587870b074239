/- The Go functions come to what the plain functions tell. No condition. -/
import Derived.Test.YtnnhijlgohlaeaaDoorProg
import Derived.Test.YtnnhijlgohlaeaaDoorFnA
import Derived.Test.YtnnhijlgohlaeaaDoorWkA3
import Derived.Test.YtnnhijlgohlaeaaDoorWkA4
import Derived.Test.YtnnhijlgohlaeaaDoorExOwnM
namespace Go.Proofs.YtnnhijlgohlaeaaDoor.A
open Go Go.RowKit Go.Proofs.YtnnhijlgohlaeaaDoor.Sx
set_option linter.unusedVariables false
set_option maxHeartbeats 4000000
set_option maxRecDepth 100000
theorem kind_High_ok (w0 w : World) (cs : List Chunk) (F : Nat → Prop) (W : World) (f_0 : ByteArray) (f_1 : Int) (f_2 : Int) (hM0 : Mem w0 (Fz F W :: cs) w) (i9001 : Int) (hp : kind_High f_0 f_1 f_2 = some i9001) : Calls Tryd.prog 97 #[.agg #[.string f_0, vI f_1, vI f_2]] w fun e w' => (True) ∧ e = .returned (vI i9001) ∧ Mem w0 (Fz F W :: cs) w' := by
 unfold kind_High at hp
 refine sx_calls Tryd.func97 rfl (n := 13) (by kernel_rfl) (l := [(0, .agg #[.string f_0, vI f_1, vI f_2])]) rfl (by rfl) hM0 ?_
 refine st_seq (st_region [oF 0, oF 1] (by rfl) ?_)
 refine ops_newB (d := some 1) [.string f_0, vI f_1, vI f_2] 32 (fun b1 => ⟨by kernel_rfl⟩) (fun w_ hM hS => trivial) (fun b1 => ?_)
 refine oQ [oF 1] [(1, vP b1 0)] (by kernel_rfl) ?_
 refine ops_nil (fin_then (st_seq (st_seq (st_region [oF 0, oF 1, oF 2] (by rfl) ?_))))
 refine ops_mem (d := some 3) (an := [.v (.string f_0), .v (vI f_1), .v (vI f_2)]) (evs := [ld b1 0 (.string f_0), ld b1 1 (vI f_1), ld b1 2 (vI f_2)]) (v := .agg #[.string f_0, vI f_1, vI f_2]) ⟨by kernel_rfl⟩ (fun w_ hM hS => ⟨w_, ⟨hM.cell 0 rfl rfl, hM.cell 0 rfl rfl, hM.cell 0 rfl rfl, rfl⟩, hM, trivial⟩) ?_
 obtain ⟨x2, hv3, hp⟩ := obind hp
 refine ops_callI (σ := Unit) (d := some 4) (f := 140) (args := #[.agg #[.string f_0, vI f_1, vI f_2]]) (v := (fun _ => vI x2)) (I := (fun _ => True)) (M' := (fun _ => Mem w0 (.blk b1 [.string f_0, vI f_1, vI f_2] 32 :: Fz F W :: cs))) ⟨by kernel_rfl⟩ (fun w_ hM hS => (kind_field_ok w0 w_ (.blk b1 [.string f_0, vI f_1, vI f_2] 32 :: cs) F W f_0 f_1 f_2 (hM.pick 2 [1, 0] (by kernel_rfl) (by decide) rfl)  x2 hv3).mono (by rintro e w' ⟨-, rfl, h'⟩; have h' : Mem w0 (.blk b1 [.string f_0, vI f_1, vI f_2] 32 :: Fz F W :: cs) w' := (h'.pick 2 [1, 0] (by kernel_rfl) (by decide) rfl); exact ⟨(), trivial, rfl, h', trivial⟩)) ?_
 rintro _ -
 refine oQ [oF 2] [(5, .bool (!(x2 == 0))), (1, vP b1 0)] (by kernel_rfl) ?_
 refine ops_nil (fin_then ?_)
 refine st_if (b := !(x2 == 0)) rfl (fun hc4 => ?_) (fun hc4 => ?_)
 ·
  have hp := cnd_t hc4 hp
  refine st_seq (st_region [oF 0] (by rfl) ?_)
  refine oQ [oF 0] [(2, vI 0)] (by kernel_rfl) ?_
  refine ops_nil (fin_then (st_ret (fin_ret_then ?_)))
  have hq_ := Option.some.inj hp
  have hr0_ := hq_
  subst hr0_
  refine fin_ret [.tmp 2] [vI 0] rfl rfl (fun w_ hM => (.tmp rfl .nil)) (fun w_ hM => ?_)
  exact ⟨trivial, rfl, hM.pick 2 [1] (by kernel_rfl) (by decide) rfl⟩
 ·
  have hp := cnd_f hc4 hp
  refine st_skip (fin_then (st_seq ?_))
  refine st_region_draw [oT 0, oT 1, oT 2, oT 3, oT 4, oT 5, oT 6, oT 7] (Mem w0 (.blk b1 [.string f_0, vI f_1, vI f_2] 32 :: Fz F W :: cs)) (by kernel_rfl) (by kernel_rfl) (by kernel_rfl) (fun _ d _ _ _ h => by cases d <;> exact h) (M' := Mem w0 (.blk b1 [.string f_0, vI f_1, vI f_2] 32 :: Fz F W :: cs)) (fun w_ hM => ⟨hM.drew, hM.drew.sub (.cons_cons _ (.cons_cons _ (.refl _)))⟩) ?_
  refine oQ [oT 0] [(6, vP b1 2), (1, vP b1 0)] (by kernel_rfl) ?_
  refine ops_load (d := some 7) (an := [.v (vI f_2)]) (evs := [ld b1 2 (vI f_2)]) (v := vI f_2) ⟨by kernel_rfl⟩ (fun w_ hM => ⟨hM.cell 0 rfl rfl, rfl⟩) ?_
  refine oQ [oT 2] [(8, vP b1 1), (7, vI f_2)] (by kernel_rfl) ?_
  refine ops_load (d := some 9) (an := [.v (vI f_1)]) (evs := [ld b1 1 (vI f_1)]) (v := vI f_1) ⟨by kernel_rfl⟩ (fun w_ hM => ⟨hM.cell 0 rfl rfl, rfl⟩) ?_
  obtain ⟨x5, hv6, hp⟩ := obind hp
  obtain ⟨hb7, he8⟩ := shl_some hv6
  refine ops_val (op := (.binOp Go.BinOp.shl 3 (.const (Go.Value.int Go.IntKind.i64 1)) (.tmp 9) 3)) (d := some 10) (v := vI x5) ⟨by kernel_rfl⟩ (by rw [he8]; exact run_shl rfl rfl hb7) ?_
  refine oQ [oT 5, oT 6, oT 7] [(2, vI (IntKind.i64.wrap (f_2 + IntKind.i64.wrap (x5 - 1))))] (by kernel_rfl) ?_
  refine ops_nil (fin_then (st_ret ?_))
  have hq_ := Option.some.inj hp
  have hr0_ := hq_
  subst hr0_
  refine fin_ret [.tmp 2] [vI (IntKind.i64.wrap (f_2 + IntKind.i64.wrap (x5 - 1)))] rfl rfl (fun w_ hM => (.tmp rfl .nil)) (fun w_ hM => ?_)
  exact ⟨trivial, rfl, hM.pick 2 [1] (by kernel_rfl) (by decide) rfl⟩
def migrate_inverse__t0 : List Row := [⟨0, 590295810358705651712, 8⟩, ⟨1, 1180591620717411303424, 590295810358705651712⟩, ⟨0, 2361183241434822606848, 8⟩, ⟨4, 4722366482869645213696, 2361183241434822606848⟩, ⟨0, 9444732965739290427392, 512⟩, ⟨16, 18889465931478580854784, 9444732965739290427392⟩, ⟨0, 37778931862957161709568, 512⟩, ⟨64, 75557863725914323419136, 37778931862957161709568⟩, ⟨160, 151115727451828646838272, 94447329657392904273920⟩, ⟨266, 302231454903657293676544, 157018685555415703355392⟩, ⟨0, 604462909807314587353088, 1024⟩, ⟨1024, 1208925819614629174706176, 604462909807314587353088⟩, ⟨0, 2417851639229258349412352, 512⟩, ⟨4096, 4835703278458516698824704, 2417851639229258349412352⟩, ⟨10240, 9671406556917033397649408, 6044629098073145873530880⟩, ⟨16384, 19342813113834066795298816, 9671406556917033397649408⟩, ⟨32768, 38685626227668133590597632, 19342813113834066795299840⟩, ⟨98304, 77371252455336267181195264, 58028439341502200385896448⟩, ⟨32768, 154742504910672534362390528, 19342813113834066795299328⟩, ⟨425984, 309485009821345068724781056, 174085318024506601157689344⟩, ⟨688128, 618970019642690137449562112, 406199075390515402701275136⟩, ⟨1081344, 1237940039285380274899124224, 638312832756524204244860928⟩, ⟨525311, 0, 302231454903657293676560⟩, ⟨8388607, 32, 1237940039285380274899124224⟩]
theorem migrate_inverse_ok (w0 w : World) (cs : List Chunk) (F : Nat → Prop) (W : World) (A_k : Option Addr) (c_k : Nat) (k : List api_Kind) (m_0 : Int) (m_1 : ByteArray) (m_2 : ByteArray) (m_3 : ByteArray) (m_4 : Int) (m_5 : ByteArray) (m_6 : Int) (m_7 : Int) (m_8 : ByteArray) (A_m_9 : Option Addr) (c_m_9 : Nat) (m_9 : List api_Field) (hM0 : Mem w0 (Fz F W :: cs) w) (h_k : RdS R_api_Kind F W A_k c_k k) (h_m_9 : RdS R_api_Field F W A_m_9 c_m_9 m_9) (i9001 : Int) (u9002 : ByteArray) (u9003 : ByteArray) (u9004 : ByteArray) (i9005 : Int) (i9006 : Int) (l9009 : List api_Field) (t9012 : Bool) (hp : migrate_inverse k m_0 m_1 m_2 m_3 m_4 m_5 m_6 m_7 m_8 m_9 = some (i9001, u9002, u9003, u9004, i9005, i9006, l9009, t9012)) : Calls Tryd.prog 43 #[sl A_k k c_k, .agg #[vI m_0, .string m_1, .string m_2, .string m_3, vI m_4, .string m_5, vI m_6, vI m_7, .string m_8, sl A_m_9 m_9 c_m_9]] w fun e w' => ∃ (A9007 : Option Addr), ∃ (c9008 : Nat), ∃ (y9010 : List Value), ((RepL R_api_Field F W l9009 y9010)) ∧ e = .returned (.tuple #[.agg #[vI i9001, .string u9002, .string u9003, .string u9004, vI 0, .string ByteArray.empty, vI i9005, vI i9006, .string ByteArray.empty, sl A9007 l9009 c9008], .bool t9012]) ∧ Mem w0 (ow A9007 l9009 c9008 32 3 y9010 :: Fz F W :: cs) w' := by
 unfold migrate_inverse at hp
 refine sx_calls Tryd.func43 rfl (n := 92) (by kernel_rfl) (l := [(0, sl A_k k c_k), (1, .agg #[vI m_0, .string m_1, .string m_2, .string m_3, vI m_4, .string m_5, vI m_6, vI m_7, .string m_8, sl A_m_9 m_9 c_m_9])]) rfl (by rfl) hM0 ?_
 refine st_seq (st_region [oF 0, oF 1, oF 2] (by rfl) ?_)
 refine ops_newB (d := some 3) [vI m_0, .string m_1, .string m_2, .string m_3, vI m_4, .string m_5, vI m_6, vI m_7, .string m_8, sl A_m_9 m_9 c_m_9] 37 (fun b1 => ⟨by kernel_rfl⟩) (fun w_ hM hS => trivial) (fun b1 => ?_)
 refine ops_newB (d := some 4) [vI 0, .string ByteArray.empty, .string ByteArray.empty, .string ByteArray.empty, vI 0, .string ByteArray.empty, vI 0, vI 0, .string ByteArray.empty, .slice none 0 0] 37 (fun b2 => ⟨by kernel_rfl⟩) (fun w_ hM hS => trivial) (fun b2 => ?_)
 refine oQ [oF 2] [(4, vP b2 0), (3, vP b1 0), (0, sl A_k k c_k)] (by kernel_rfl) ?_
 refine ops_nil (fin_then (st_seq (st_region [oF 0, oF 1, oF 2, oF 3, oF 4, oF 5, oF 6, oF 7, oF 8, oF 9] (by rfl) ?_)))
 refine oQ [oF 0] [(12, sl A_k k c_k), (4, vP b2 0), (3, vP b1 0), (0, sl A_k k c_k)] (by kernel_rfl) ?_
 refine ops_mem (d := some 13) (an := [.v (vI m_0), .v (.string m_1), .v (.string m_2), .v (.string m_3), .v (vI m_4), .v (.string m_5), .v (vI m_6), .v (vI m_7), .v (.string m_8), .v (sl A_m_9 m_9 c_m_9)]) (evs := [ld b1 0 (vI m_0), ld b1 1 (.string m_1), ld b1 2 (.string m_2), ld b1 3 (.string m_3), ld b1 4 (vI m_4), ld b1 5 (.string m_5), ld b1 6 (vI m_6), ld b1 7 (vI m_7), ld b1 8 (.string m_8), ld b1 9 (sl A_m_9 m_9 c_m_9)]) (v := .agg #[vI m_0, .string m_1, .string m_2, .string m_3, vI m_4, .string m_5, vI m_6, vI m_7, .string m_8, sl A_m_9 m_9 c_m_9]) ⟨by kernel_rfl⟩ (fun w_ hM hS => ⟨w_, ⟨hM.cell 1 rfl rfl, hM.cell 1 rfl rfl, hM.cell 1 rfl rfl, hM.cell 1 rfl rfl, hM.cell 1 rfl rfl, hM.cell 1 rfl rfl, hM.cell 1 rfl rfl, hM.cell 1 rfl rfl, hM.cell 1 rfl rfl, hM.cell 1 rfl rfl, rfl⟩, hM, trivial⟩) ?_
 obtain ⟨x3, x4, x5, hv6, hp⟩ := obind3 hp
 refine ops_callI (σ := Unit) (d := some 14) (f := 55) (args := #[sl A_k k c_k, .agg #[vI m_0, .string m_1, .string m_2, .string m_3, vI m_4, .string m_5, vI m_6, vI m_7, .string m_8, sl A_m_9 m_9 c_m_9]]) (v := (fun _ => .tuple #[vI x3, vI x4, vI x5])) (I := (fun _ => True)) (M' := (fun _ => Mem w0 (.blk b2 [vI 0, .string ByteArray.empty, .string ByteArray.empty, .string ByteArray.empty, vI 0, .string ByteArray.empty, vI 0, vI 0, .string ByteArray.empty, .slice none 0 0] 37 :: .blk b1 [vI m_0, .string m_1, .string m_2, .string m_3, vI m_4, .string m_5, vI m_6, vI m_7, .string m_8, sl A_m_9 m_9 c_m_9] 37 :: Fz F W :: cs))) ⟨by kernel_rfl⟩ (fun w_ hM hS => (migrate_place_ok w0 w_ (.blk b2 [vI 0, .string ByteArray.empty, .string ByteArray.empty, .string ByteArray.empty, vI 0, .string ByteArray.empty, vI 0, vI 0, .string ByteArray.empty, .slice none 0 0] 37 :: .blk b1 [vI m_0, .string m_1, .string m_2, .string m_3, vI m_4, .string m_5, vI m_6, vI m_7, .string m_8, sl A_m_9 m_9 c_m_9] 37 :: cs) F W A_k c_k k m_0 m_1 m_2 m_3 m_4 m_5 m_6 m_7 m_8 A_m_9 c_m_9 m_9 (hM.pick 3 [2, 0, 1] (by kernel_rfl) (by decide) rfl) h_k h_m_9 x3 x4 x5 hv6).mono (by rintro e w' ⟨-, rfl, h'⟩; have h' : Mem w0 (.blk b2 [vI 0, .string ByteArray.empty, .string ByteArray.empty, .string ByteArray.empty, vI 0, .string ByteArray.empty, vI 0, vI 0, .string ByteArray.empty, .slice none 0 0] 37 :: .blk b1 [vI m_0, .string m_1, .string m_2, .string m_3, vI m_4, .string m_5, vI m_6, vI m_7, .string m_8, sl A_m_9 m_9 c_m_9] 37 :: Fz F W :: cs) w' := (h'.pick 3 [1, 2, 0] (by kernel_rfl) (by decide) rfl); exact ⟨(), trivial, rfl, h', trivial⟩)) ?_
 rintro _ -
 refine oQ [oF 3, oF 4, oF 5, oF 6, oF 7, oF 8, oF 9] [(7, vI x4), (6, vI x3), (4, vP b2 0), (3, vP b1 0), (0, sl A_k k c_k)] (by kernel_rfl) ?_
 refine ops_nil (fin_then (st_seq (st_seq (st_region [oF 0, oF 1] (by rfl) ?_))))
 refine oQ [oF 0] [(18, vP b1 0), (7, vI x4), (6, vI x3), (4, vP b2 0), (3, vP b1 0), (0, sl A_k k c_k)] (by kernel_rfl) ?_
 refine ops_mem (d := some 19) (an := [.v (vI m_0)]) (evs := [ld b1 0 (vI m_0)]) (v := vI m_0) ⟨by kernel_rfl⟩ (fun w_ hM hS => ⟨w_, ⟨hM.cell 1 rfl rfl, rfl⟩, hM, trivial⟩) ?_
 refine ops_nil (fin_then (st_block (st_seq (st_region [oF 0, oF 1] (by rfl) ?_))))
 refine oQ [oF 0, oF 1] [(20, .bool (m_0 == 0)), (19, vI m_0), (7, vI x4), (6, vI x3), (4, vP b2 0), (3, vP b1 0), (0, sl A_k k c_k)] (by kernel_rfl) ?_
 refine ops_nil (fin_then ?_)
 refine st_if (b := (m_0 == 0)) rfl (fun hc7 => ?_) (fun hc7 => ?_)
 ·
  have hp := cnd_t hc7 hp
  refine st_seq (st_region [oF 0, oF 1, oF 2, oF 3, oF 4, oF 5] (by rfl) ?_)
  refine oQ [oF 0, oF 1] [(23, vP b1 8), (4, vP b2 0)] (by kernel_rfl) ?_
  refine ops_mem (d := some 24) (an := [.v (.string m_8)]) (evs := [ld b1 8 (.string m_8)]) (v := .string m_8) ⟨by kernel_rfl⟩ (fun w_ hM hS => ⟨w_, ⟨hM.cell 1 rfl rfl, rfl⟩, hM, trivial⟩) ?_
  refine oQ [oF 3] [(25, .agg #[vI 1, .string m_8, .string ByteArray.empty, .string ByteArray.empty, vI 0, .string ByteArray.empty, vI 0, vI 0, .string ByteArray.empty, .slice none 0 0]), (4, vP b2 0)] (by kernel_rfl) ?_
  refine ops_store (an := []) (evs := [sr b2 0 (vI 1), sr b2 1 (.string m_8), sr b2 2 (.string ByteArray.empty), sr b2 3 (.string ByteArray.empty), sr b2 4 (vI 0), sr b2 5 (.string ByteArray.empty), sr b2 6 (vI 0), sr b2 7 (vI 0), sr b2 8 (.string ByteArray.empty), sr b2 9 (.slice none 0 0)]) ⟨by kernel_rfl⟩ (fun w_ hM hS => let ⟨w', he, h'⟩ := hM.evs_stores [vI 1, .string m_8, .string ByteArray.empty, .string ByteArray.empty, vI 0, .string ByteArray.empty, vI 0, vI 0, .string ByteArray.empty, .slice none 0 0] 0 rfl 0 (Nat.le_of_ble_eq_true rfl); ⟨w', he, h', trivial⟩) ?_
  refine oQ [oF 5] [(5, .bool true), (4, vP b2 0)] (by kernel_rfl) ?_
  refine ops_nil (fin_then (st_ret (fin_ret_block (fin_ret_then ?_))))
  refine fin_conv (l' := [(5, .bool true), (4, vP b2 0)]) (M' := Mem w0 (ow none ([] : List api_Field) 0 32 3 [] :: .blk b2 [vI 1, .string m_8, .string ByteArray.empty, .string ByteArray.empty, vI 0, .string ByteArray.empty, vI 0, vI 0, .string ByteArray.empty, .slice none 0 0] 37 :: .blk b1 [vI m_0, .string m_1, .string m_2, .string m_3, vI m_4, .string m_5, vI m_6, vI m_7, .string m_8, sl A_m_9 m_9 c_m_9] 37 :: Fz F W :: cs)) rfl (fun w_ h => h.onil none 32 3) ?_
  refine fin_conv (l' := [(5, .bool true), (4, vP b2 0)]) (M' := Mem w0 (ow none ([] : List api_Field) 0 32 3 [] :: .blk b2 [vI 1, .string m_8, .string ByteArray.empty, .string ByteArray.empty, vI 0, .string ByteArray.empty, vI 0, vI 0, .string ByteArray.empty, .slice none 0 0] 37 :: .blk b1 [vI m_0, .string m_1, .string m_2, .string m_3, vI m_4, .string m_5, vI m_6, vI m_7, .string m_8, sl A_m_9 m_9 c_m_9] 37 :: Fz F W :: cs)) rfl (fun _ h => h) ?_
  have hq_ := Option.some.inj hp
  obtain ⟨hr0_, hq_⟩ := Prod.mk.inj hq_
  obtain ⟨hr1_, hq_⟩ := Prod.mk.inj hq_
  obtain ⟨hr2_, hq_⟩ := Prod.mk.inj hq_
  obtain ⟨hr3_, hq_⟩ := Prod.mk.inj hq_
  obtain ⟨hr4_, hq_⟩ := Prod.mk.inj hq_
  obtain ⟨hr5_, hq_⟩ := Prod.mk.inj hq_
  obtain ⟨hr6_, hq_⟩ := Prod.mk.inj hq_
  have hr7_ := hq_
  subst hr0_
  subst hr1_
  subst hr2_
  subst hr3_
  subst hr4_
  subst hr5_
  subst hr6_
  subst hr7_
  refine fin_ret [.cell 4 37, .tmp 5] [.agg #[vI 1, .string m_8, .string ByteArray.empty, .string ByteArray.empty, vI 0, .string ByteArray.empty, vI 0, vI 0, .string ByteArray.empty, sl none ([] : List api_Field) 0], .bool true] rfl rfl (fun w_ hM => (.cell rfl (tr_run _ [.v (vI 1), .v (.string m_8), .v (.string ByteArray.empty), .v (.string ByteArray.empty), .v (vI 0), .v (.string ByteArray.empty), .v (vI 0), .v (vI 0), .v (.string ByteArray.empty), .v (.slice none 0 0)] [ld b2 0 (vI 1), ld b2 1 (.string m_8), ld b2 2 (.string ByteArray.empty), ld b2 3 (.string ByteArray.empty), ld b2 4 (vI 0), ld b2 5 (.string ByteArray.empty), ld b2 6 (vI 0), ld b2 7 (vI 0), ld b2 8 (.string ByteArray.empty), ld b2 9 (.slice none 0 0)] (.agg #[vI 1, .string m_8, .string ByteArray.empty, .string ByteArray.empty, vI 0, .string ByteArray.empty, vI 0, vI 0, .string ByteArray.empty, .slice none 0 0] : Value) _ _ (by kernel_rfl) ⟨hM.cell 1 rfl rfl, hM.cell 1 rfl rfl, hM.cell 1 rfl rfl, hM.cell 1 rfl rfl, hM.cell 1 rfl rfl, hM.cell 1 rfl rfl, hM.cell 1 rfl rfl, hM.cell 1 rfl rfl, hM.cell 1 rfl rfl, hM.cell 1 rfl rfl, rfl⟩) (.tmp rfl .nil))) (fun w_ hM => ?_)
  exact ⟨none, 0, [], (RepL.nil (R := R_api_Field)), rfl, hM.pick 4 [0, 3] (by kernel_rfl) (by decide) rfl⟩
 ·
  have hp := cnd_f hc7 hp
  refine st_seq (st_region [oF 0, oF 1] (by rfl) ?_)
  refine oQ [oF 0, oF 1] [(26, .bool (m_0 == 2)), (19, vI m_0), (7, vI x4), (6, vI x3), (4, vP b2 0), (3, vP b1 0), (0, sl A_k k c_k)] (by kernel_rfl) ?_
  refine ops_nil (fin_then ?_)
  refine st_if (b := (m_0 == 2)) rfl (fun hc8 => ?_) (fun hc8 => ?_)
  ·
   have hp := cnd_t hc8 hp
   refine st_seq (st_region [oF 0, oF 1, oF 2, oF 3, oF 4, oF 5, oF 6] (by rfl) ?_)
   refine oQ [oF 0] [(28, vP b1 3), (4, vP b2 0), (3, vP b1 0)] (by kernel_rfl) ?_
   refine ops_mem (d := some 29) (an := [.v (.string m_3)]) (evs := [ld b1 3 (.string m_3)]) (v := .string m_3) ⟨by kernel_rfl⟩ (fun w_ hM hS => ⟨w_, ⟨hM.cell 1 rfl rfl, rfl⟩, hM, trivial⟩) ?_
   refine oQ [oF 2] [(30, vP b1 1), (29, .string m_3), (4, vP b2 0)] (by kernel_rfl) ?_
   refine ops_mem (d := some 31) (an := [.v (.string m_1)]) (evs := [ld b1 1 (.string m_1)]) (v := .string m_1) ⟨by kernel_rfl⟩ (fun w_ hM hS => ⟨w_, ⟨hM.cell 1 rfl rfl, rfl⟩, hM, trivial⟩) ?_
   refine oQ [oF 4] [(32, .agg #[vI 2, .string m_3, .string ByteArray.empty, .string m_1, vI 0, .string ByteArray.empty, vI 0, vI 0, .string ByteArray.empty, .slice none 0 0]), (4, vP b2 0)] (by kernel_rfl) ?_
   refine ops_store (an := []) (evs := [sr b2 0 (vI 2), sr b2 1 (.string m_3), sr b2 2 (.string ByteArray.empty), sr b2 3 (.string m_1), sr b2 4 (vI 0), sr b2 5 (.string ByteArray.empty), sr b2 6 (vI 0), sr b2 7 (vI 0), sr b2 8 (.string ByteArray.empty), sr b2 9 (.slice none 0 0)]) ⟨by kernel_rfl⟩ (fun w_ hM hS => let ⟨w', he, h'⟩ := hM.evs_stores [vI 2, .string m_3, .string ByteArray.empty, .string m_1, vI 0, .string ByteArray.empty, vI 0, vI 0, .string ByteArray.empty, .slice none 0 0] 0 rfl 0 (Nat.le_of_ble_eq_true rfl); ⟨w', he, h', trivial⟩) ?_
   refine oQ [oF 6] [(5, .bool true), (4, vP b2 0)] (by kernel_rfl) ?_
   refine ops_nil (fin_then (st_ret (fin_ret_block (fin_ret_then ?_))))
   refine fin_conv (l' := [(5, .bool true), (4, vP b2 0)]) (M' := Mem w0 (ow none ([] : List api_Field) 0 32 3 [] :: .blk b2 [vI 2, .string m_3, .string ByteArray.empty, .string m_1, vI 0, .string ByteArray.empty, vI 0, vI 0, .string ByteArray.empty, .slice none 0 0] 37 :: .blk b1 [vI m_0, .string m_1, .string m_2, .string m_3, vI m_4, .string m_5, vI m_6, vI m_7, .string m_8, sl A_m_9 m_9 c_m_9] 37 :: Fz F W :: cs)) rfl (fun w_ h => h.onil none 32 3) ?_
   refine fin_conv (l' := [(5, .bool true), (4, vP b2 0)]) (M' := Mem w0 (ow none ([] : List api_Field) 0 32 3 [] :: .blk b2 [vI 2, .string m_3, .string ByteArray.empty, .string m_1, vI 0, .string ByteArray.empty, vI 0, vI 0, .string ByteArray.empty, .slice none 0 0] 37 :: .blk b1 [vI m_0, .string m_1, .string m_2, .string m_3, vI m_4, .string m_5, vI m_6, vI m_7, .string m_8, sl A_m_9 m_9 c_m_9] 37 :: Fz F W :: cs)) rfl (fun _ h => h) ?_
   have hq_ := Option.some.inj hp
   obtain ⟨hr0_, hq_⟩ := Prod.mk.inj hq_
   obtain ⟨hr1_, hq_⟩ := Prod.mk.inj hq_
   obtain ⟨hr2_, hq_⟩ := Prod.mk.inj hq_
   obtain ⟨hr3_, hq_⟩ := Prod.mk.inj hq_
   obtain ⟨hr4_, hq_⟩ := Prod.mk.inj hq_
   obtain ⟨hr5_, hq_⟩ := Prod.mk.inj hq_
   obtain ⟨hr6_, hq_⟩ := Prod.mk.inj hq_
   have hr7_ := hq_
   subst hr0_
   subst hr1_
   subst hr2_
   subst hr3_
   subst hr4_
   subst hr5_
   subst hr6_
   subst hr7_
   refine fin_ret [.cell 4 37, .tmp 5] [.agg #[vI 2, .string m_3, .string ByteArray.empty, .string m_1, vI 0, .string ByteArray.empty, vI 0, vI 0, .string ByteArray.empty, sl none ([] : List api_Field) 0], .bool true] rfl rfl (fun w_ hM => (.cell rfl (tr_run _ [.v (vI 2), .v (.string m_3), .v (.string ByteArray.empty), .v (.string m_1), .v (vI 0), .v (.string ByteArray.empty), .v (vI 0), .v (vI 0), .v (.string ByteArray.empty), .v (.slice none 0 0)] [ld b2 0 (vI 2), ld b2 1 (.string m_3), ld b2 2 (.string ByteArray.empty), ld b2 3 (.string m_1), ld b2 4 (vI 0), ld b2 5 (.string ByteArray.empty), ld b2 6 (vI 0), ld b2 7 (vI 0), ld b2 8 (.string ByteArray.empty), ld b2 9 (.slice none 0 0)] (.agg #[vI 2, .string m_3, .string ByteArray.empty, .string m_1, vI 0, .string ByteArray.empty, vI 0, vI 0, .string ByteArray.empty, .slice none 0 0] : Value) _ _ (by kernel_rfl) ⟨hM.cell 1 rfl rfl, hM.cell 1 rfl rfl, hM.cell 1 rfl rfl, hM.cell 1 rfl rfl, hM.cell 1 rfl rfl, hM.cell 1 rfl rfl, hM.cell 1 rfl rfl, hM.cell 1 rfl rfl, hM.cell 1 rfl rfl, hM.cell 1 rfl rfl, rfl⟩) (.tmp rfl .nil))) (fun w_ hM => ?_)
   exact ⟨none, 0, [], (RepL.nil (R := R_api_Field)), rfl, hM.pick 4 [0, 3] (by kernel_rfl) (by decide) rfl⟩
  ·
   have hp := cnd_f hc8 hp
   refine st_seq (st_region [oF 0, oF 1] (by rfl) ?_)
   refine oQ [oF 0, oF 1] [(33, .bool (m_0 == 3)), (19, vI m_0), (7, vI x4), (6, vI x3), (4, vP b2 0), (3, vP b1 0), (0, sl A_k k c_k)] (by kernel_rfl) ?_
   refine ops_nil (fin_then ?_)
   refine st_if (b := (m_0 == 3)) rfl (fun hc9 => ?_) (fun hc9 => ?_)
   ·
    have hp := cnd_t hc9 hp
    refine st_seq (st_region [oF 0, oF 1, oF 2, oF 3, oF 4, oF 5, oF 6, oF 7] (by rfl) ?_)
    refine oQ [oF 0] [(35, vP b1 1), (4, vP b2 0), (3, vP b1 0)] (by kernel_rfl) ?_
    refine ops_mem (d := some 36) (an := [.v (.string m_1)]) (evs := [ld b1 1 (.string m_1)]) (v := .string m_1) ⟨by kernel_rfl⟩ (fun w_ hM hS => ⟨w_, ⟨hM.cell 1 rfl rfl, rfl⟩, hM, trivial⟩) ?_
    refine oQ [oF 2, oF 3] [(38, vP b1 5), (36, .string m_1), (4, vP b2 0)] (by kernel_rfl) ?_
    refine ops_mem (d := some 39) (an := [.v (.string m_5)]) (evs := [ld b1 5 (.string m_5)]) (v := .string m_5) ⟨by kernel_rfl⟩ (fun w_ hM hS => ⟨w_, ⟨hM.cell 1 rfl rfl, rfl⟩, hM, trivial⟩) ?_
    refine oQ [oF 5] [(40, .agg #[vI 4, .string m_1, .string m_5, .string ByteArray.empty, vI 0, .string ByteArray.empty, vI 0, vI 0, .string ByteArray.empty, .slice none 0 0]), (4, vP b2 0)] (by kernel_rfl) ?_
    refine ops_store (an := []) (evs := [sr b2 0 (vI 4), sr b2 1 (.string m_1), sr b2 2 (.string m_5), sr b2 3 (.string ByteArray.empty), sr b2 4 (vI 0), sr b2 5 (.string ByteArray.empty), sr b2 6 (vI 0), sr b2 7 (vI 0), sr b2 8 (.string ByteArray.empty), sr b2 9 (.slice none 0 0)]) ⟨by kernel_rfl⟩ (fun w_ hM hS => let ⟨w', he, h'⟩ := hM.evs_stores [vI 4, .string m_1, .string m_5, .string ByteArray.empty, vI 0, .string ByteArray.empty, vI 0, vI 0, .string ByteArray.empty, .slice none 0 0] 0 rfl 0 (Nat.le_of_ble_eq_true rfl); ⟨w', he, h', trivial⟩) ?_
    refine oQ [oF 7] [(5, .bool true), (4, vP b2 0)] (by kernel_rfl) ?_
    refine ops_nil (fin_then (st_ret (fin_ret_block (fin_ret_then ?_))))
    refine fin_conv (l' := [(5, .bool true), (4, vP b2 0)]) (M' := Mem w0 (ow none ([] : List api_Field) 0 32 3 [] :: .blk b2 [vI 4, .string m_1, .string m_5, .string ByteArray.empty, vI 0, .string ByteArray.empty, vI 0, vI 0, .string ByteArray.empty, .slice none 0 0] 37 :: .blk b1 [vI m_0, .string m_1, .string m_2, .string m_3, vI m_4, .string m_5, vI m_6, vI m_7, .string m_8, sl A_m_9 m_9 c_m_9] 37 :: Fz F W :: cs)) rfl (fun w_ h => h.onil none 32 3) ?_
    refine fin_conv (l' := [(5, .bool true), (4, vP b2 0)]) (M' := Mem w0 (ow none ([] : List api_Field) 0 32 3 [] :: .blk b2 [vI 4, .string m_1, .string m_5, .string ByteArray.empty, vI 0, .string ByteArray.empty, vI 0, vI 0, .string ByteArray.empty, .slice none 0 0] 37 :: .blk b1 [vI m_0, .string m_1, .string m_2, .string m_3, vI m_4, .string m_5, vI m_6, vI m_7, .string m_8, sl A_m_9 m_9 c_m_9] 37 :: Fz F W :: cs)) rfl (fun _ h => h) ?_
    have hq_ := Option.some.inj hp
    obtain ⟨hr0_, hq_⟩ := Prod.mk.inj hq_
    obtain ⟨hr1_, hq_⟩ := Prod.mk.inj hq_
    obtain ⟨hr2_, hq_⟩ := Prod.mk.inj hq_
    obtain ⟨hr3_, hq_⟩ := Prod.mk.inj hq_
    obtain ⟨hr4_, hq_⟩ := Prod.mk.inj hq_
    obtain ⟨hr5_, hq_⟩ := Prod.mk.inj hq_
    obtain ⟨hr6_, hq_⟩ := Prod.mk.inj hq_
    have hr7_ := hq_
    subst hr0_
    subst hr1_
    subst hr2_
    subst hr3_
    subst hr4_
    subst hr5_
    subst hr6_
    subst hr7_
    refine fin_ret [.cell 4 37, .tmp 5] [.agg #[vI 4, .string m_1, .string m_5, .string ByteArray.empty, vI 0, .string ByteArray.empty, vI 0, vI 0, .string ByteArray.empty, sl none ([] : List api_Field) 0], .bool true] rfl rfl (fun w_ hM => (.cell rfl (tr_run _ [.v (vI 4), .v (.string m_1), .v (.string m_5), .v (.string ByteArray.empty), .v (vI 0), .v (.string ByteArray.empty), .v (vI 0), .v (vI 0), .v (.string ByteArray.empty), .v (.slice none 0 0)] [ld b2 0 (vI 4), ld b2 1 (.string m_1), ld b2 2 (.string m_5), ld b2 3 (.string ByteArray.empty), ld b2 4 (vI 0), ld b2 5 (.string ByteArray.empty), ld b2 6 (vI 0), ld b2 7 (vI 0), ld b2 8 (.string ByteArray.empty), ld b2 9 (.slice none 0 0)] (.agg #[vI 4, .string m_1, .string m_5, .string ByteArray.empty, vI 0, .string ByteArray.empty, vI 0, vI 0, .string ByteArray.empty, .slice none 0 0] : Value) _ _ (by kernel_rfl) ⟨hM.cell 1 rfl rfl, hM.cell 1 rfl rfl, hM.cell 1 rfl rfl, hM.cell 1 rfl rfl, hM.cell 1 rfl rfl, hM.cell 1 rfl rfl, hM.cell 1 rfl rfl, hM.cell 1 rfl rfl, hM.cell 1 rfl rfl, hM.cell 1 rfl rfl, rfl⟩) (.tmp rfl .nil))) (fun w_ hM => ?_)
    exact ⟨none, 0, [], (RepL.nil (R := R_api_Field)), rfl, hM.pick 4 [0, 3] (by kernel_rfl) (by decide) rfl⟩
   ·
    have hp := cnd_f hc9 hp
    refine st_seq (st_region [oF 0, oF 1] (by rfl) ?_)
    refine oQ [oF 0, oF 1] [(41, .bool (m_0 == 5)), (19, vI m_0), (7, vI x4), (6, vI x3), (4, vP b2 0), (3, vP b1 0), (0, sl A_k k c_k)] (by kernel_rfl) ?_
    refine ops_nil (fin_then ?_)
    refine st_if (b := (m_0 == 5)) rfl (fun hc10 => ?_) (fun hc10 => ?_)
    ·
     have hp := cnd_t hc10 hp
     refine st_seq (st_region [oF 0, oF 1, oF 2, oF 3, oF 4, oF 5, oF 6, oF 7, oF 8] (by rfl) ?_)
     refine oQ [oF 0] [(43, vP b1 1), (4, vP b2 0), (3, vP b1 0)] (by kernel_rfl) ?_
     refine ops_mem (d := some 44) (an := [.v (.string m_1)]) (evs := [ld b1 1 (.string m_1)]) (v := .string m_1) ⟨by kernel_rfl⟩ (fun w_ hM hS => ⟨w_, ⟨hM.cell 1 rfl rfl, rfl⟩, hM, trivial⟩) ?_
     refine oQ [oF 2] [(45, vP b1 3), (44, .string m_1), (4, vP b2 0), (3, vP b1 0)] (by kernel_rfl) ?_
     refine ops_mem (d := some 46) (an := [.v (.string m_3)]) (evs := [ld b1 3 (.string m_3)]) (v := .string m_3) ⟨by kernel_rfl⟩ (fun w_ hM hS => ⟨w_, ⟨hM.cell 1 rfl rfl, rfl⟩, hM, trivial⟩) ?_
     refine oQ [oF 4] [(47, vP b1 2), (46, .string m_3), (44, .string m_1), (4, vP b2 0)] (by kernel_rfl) ?_
     refine ops_mem (d := some 48) (an := [.v (.string m_2)]) (evs := [ld b1 2 (.string m_2)]) (v := .string m_2) ⟨by kernel_rfl⟩ (fun w_ hM hS => ⟨w_, ⟨hM.cell 1 rfl rfl, rfl⟩, hM, trivial⟩) ?_
     refine oQ [oF 6] [(49, .agg #[vI 5, .string m_1, .string m_3, .string m_2, vI 0, .string ByteArray.empty, vI 0, vI 0, .string ByteArray.empty, .slice none 0 0]), (4, vP b2 0)] (by kernel_rfl) ?_
     refine ops_store (an := []) (evs := [sr b2 0 (vI 5), sr b2 1 (.string m_1), sr b2 2 (.string m_3), sr b2 3 (.string m_2), sr b2 4 (vI 0), sr b2 5 (.string ByteArray.empty), sr b2 6 (vI 0), sr b2 7 (vI 0), sr b2 8 (.string ByteArray.empty), sr b2 9 (.slice none 0 0)]) ⟨by kernel_rfl⟩ (fun w_ hM hS => let ⟨w', he, h'⟩ := hM.evs_stores [vI 5, .string m_1, .string m_3, .string m_2, vI 0, .string ByteArray.empty, vI 0, vI 0, .string ByteArray.empty, .slice none 0 0] 0 rfl 0 (Nat.le_of_ble_eq_true rfl); ⟨w', he, h', trivial⟩) ?_
     refine oQ [oF 8] [(5, .bool true), (4, vP b2 0)] (by kernel_rfl) ?_
     refine ops_nil (fin_then (st_ret (fin_ret_block (fin_ret_then ?_))))
     refine fin_conv (l' := [(5, .bool true), (4, vP b2 0)]) (M' := Mem w0 (ow none ([] : List api_Field) 0 32 3 [] :: .blk b2 [vI 5, .string m_1, .string m_3, .string m_2, vI 0, .string ByteArray.empty, vI 0, vI 0, .string ByteArray.empty, .slice none 0 0] 37 :: .blk b1 [vI m_0, .string m_1, .string m_2, .string m_3, vI m_4, .string m_5, vI m_6, vI m_7, .string m_8, sl A_m_9 m_9 c_m_9] 37 :: Fz F W :: cs)) rfl (fun w_ h => h.onil none 32 3) ?_
     refine fin_conv (l' := [(5, .bool true), (4, vP b2 0)]) (M' := Mem w0 (ow none ([] : List api_Field) 0 32 3 [] :: .blk b2 [vI 5, .string m_1, .string m_3, .string m_2, vI 0, .string ByteArray.empty, vI 0, vI 0, .string ByteArray.empty, .slice none 0 0] 37 :: .blk b1 [vI m_0, .string m_1, .string m_2, .string m_3, vI m_4, .string m_5, vI m_6, vI m_7, .string m_8, sl A_m_9 m_9 c_m_9] 37 :: Fz F W :: cs)) rfl (fun _ h => h) ?_
     have hq_ := Option.some.inj hp
     obtain ⟨hr0_, hq_⟩ := Prod.mk.inj hq_
     obtain ⟨hr1_, hq_⟩ := Prod.mk.inj hq_
     obtain ⟨hr2_, hq_⟩ := Prod.mk.inj hq_
     obtain ⟨hr3_, hq_⟩ := Prod.mk.inj hq_
     obtain ⟨hr4_, hq_⟩ := Prod.mk.inj hq_
     obtain ⟨hr5_, hq_⟩ := Prod.mk.inj hq_
     obtain ⟨hr6_, hq_⟩ := Prod.mk.inj hq_
     have hr7_ := hq_
     subst hr0_
     subst hr1_
     subst hr2_
     subst hr3_
     subst hr4_
     subst hr5_
     subst hr6_
     subst hr7_
     refine fin_ret [.cell 4 37, .tmp 5] [.agg #[vI 5, .string m_1, .string m_3, .string m_2, vI 0, .string ByteArray.empty, vI 0, vI 0, .string ByteArray.empty, sl none ([] : List api_Field) 0], .bool true] rfl rfl (fun w_ hM => (.cell rfl (tr_run _ [.v (vI 5), .v (.string m_1), .v (.string m_3), .v (.string m_2), .v (vI 0), .v (.string ByteArray.empty), .v (vI 0), .v (vI 0), .v (.string ByteArray.empty), .v (.slice none 0 0)] [ld b2 0 (vI 5), ld b2 1 (.string m_1), ld b2 2 (.string m_3), ld b2 3 (.string m_2), ld b2 4 (vI 0), ld b2 5 (.string ByteArray.empty), ld b2 6 (vI 0), ld b2 7 (vI 0), ld b2 8 (.string ByteArray.empty), ld b2 9 (.slice none 0 0)] (.agg #[vI 5, .string m_1, .string m_3, .string m_2, vI 0, .string ByteArray.empty, vI 0, vI 0, .string ByteArray.empty, .slice none 0 0] : Value) _ _ (by kernel_rfl) ⟨hM.cell 1 rfl rfl, hM.cell 1 rfl rfl, hM.cell 1 rfl rfl, hM.cell 1 rfl rfl, hM.cell 1 rfl rfl, hM.cell 1 rfl rfl, hM.cell 1 rfl rfl, hM.cell 1 rfl rfl, hM.cell 1 rfl rfl, hM.cell 1 rfl rfl, rfl⟩) (.tmp rfl .nil))) (fun w_ hM => ?_)
     exact ⟨none, 0, [], (RepL.nil (R := R_api_Field)), rfl, hM.pick 4 [0, 3] (by kernel_rfl) (by decide) rfl⟩
    ·
     have hp := cnd_f hc10 hp
     refine st_seq (st_region [oF 0, oF 1] (by rfl) ?_)
     refine oQ [oF 0, oF 1] [(50, .bool (m_0 == 6)), (7, vI x4), (6, vI x3), (4, vP b2 0), (3, vP b1 0), (0, sl A_k k c_k)] (by kernel_rfl) ?_
     refine ops_nil (fin_then ?_)
     refine st_if (b := (m_0 == 6)) rfl (fun hc11 => ?_) (fun hc11 => ?_)
     ·
      have hp := cnd_t hc11 hp
      refine st_seq (st_region [oF 0, oF 1, oF 2, oF 3, oF 4, oF 5, oF 6, oF 7, oF 8, oF 9] (by rfl) ?_)
      refine oQ [oF 0, oF 1] [(53, vI x3), (52, sl A_k k c_k), (7, vI x4), (4, vP b2 0), (3, vP b1 0)] (by kernel_rfl) ?_
      obtain ⟨x12, hv13, hp⟩ := obind hp
      obtain ⟨m14, hm15, hx16⟩ := idx_some hv13
      have hl19 := (List.getElem?_eq_some_iff.1 hx16).1
      obtain ⟨ad20, vs17, hA21, hr18, hq22⟩ := RdS.el h_k hx16
      obtain ⟨A23, c24, rfl, h25⟩ := dec_api_Kind hr18
      refine ops_val (op := (.indexAddr 22 (.tmp 52) (.tmp 53))) (d := some 54) (v := .pointer (some (ad20.add (m14 * 2)))) ⟨by kernel_rfl⟩ (run_indexA hA21 Tryd.underlying22 (z := 2) (by kernel_rfl) rfl rfl hm15 hl19) ?_
      refine oQ [oF 3] [(55, .pointer (some ((ad20.add (m14 * 2)).add 1))), (7, vI x4), (4, vP b2 0), (3, vP b1 0)] (by kernel_rfl) ?_
      refine ops_mem (d := some 56) (an := [.v (sl A23 x12.Fields c24)]) (evs := [.load ((ad20.add (m14 * 2)).add 1) (sl A23 x12.Fields c24)]) (v := sl A23 x12.Fields c24) ⟨by kernel_rfl⟩ (fun w_ hM hS => ⟨w_, ⟨hM.elcell 2 rfl hq22 1 rfl, rfl⟩, hM, trivial⟩) ?_
      refine oQ [oF 5] [(57, vI x4), (56, sl A23 x12.Fields c24), (4, vP b2 0), (3, vP b1 0)] (by kernel_rfl) ?_
      obtain ⟨x26, hv27, hp⟩ := obind hp
      obtain ⟨m28, hm29, hx30⟩ := idx_some hv27
      have hl33 := (List.getElem?_eq_some_iff.1 hx30).1
      obtain ⟨ad34, vs31, hA35, hr32, hq36⟩ := RdS.el h25 hx30
      obtain rfl := dec_api_Field hr32
      refine ops_val (op := (.indexAddr 33 (.tmp 56) (.tmp 57))) (d := some 58) (v := .pointer (some (ad34.add (m28 * 3)))) ⟨by kernel_rfl⟩ (run_indexA hA35 Tryd.underlying33 (z := 3) (by kernel_rfl) rfl rfl hm29 hl33) ?_
      refine ops_mem (d := some 59) (an := [.v (.string x26.Name), .v (vI x26.Bits), .v (vI x26.Low)]) (evs := [.load (ad34.add (m28 * 3)) (.string x26.Name), .load ((ad34.add (m28 * 3)).add 1) (vI x26.Bits), .load ((ad34.add (m28 * 3)).add 2) (vI x26.Low)]) (v := .agg #[.string x26.Name, vI x26.Bits, vI x26.Low]) ⟨by kernel_rfl⟩ (fun w_ hM hS => ⟨w_, ⟨hM.elcell 2 rfl hq36 0 rfl, hM.elcell 2 rfl hq36 1 rfl, hM.elcell 2 rfl hq36 2 rfl, rfl⟩, hM, trivial⟩) ?_
      refine ops_newB (d := some 9) [.string ByteArray.empty, vI 0, vI 0] 32 (fun b37 => ⟨by kernel_rfl⟩) (fun w_ hM hS => trivial) (fun b37 => ?_)
      refine ops_store (an := []) (evs := [sr b37 0 (.string x26.Name), sr b37 1 (vI x26.Bits), sr b37 2 (vI x26.Low)]) ⟨by kernel_rfl⟩ (fun w_ hM hS => let ⟨w', he, h'⟩ := hM.evs_stores [.string x26.Name, vI x26.Bits, vI x26.Low] 0 rfl 0 (Nat.le_of_ble_eq_true rfl); ⟨w', he, h', trivial⟩) ?_
      refine ops_nil (fin_then (st_seq (st_region [oF 0, oF 1, oF 2] (by rfl) ?_)))
      refine ops_mem (d := some 60) (an := [.v (.string x26.Name), .v (vI x26.Bits), .v (vI x26.Low)]) (evs := [ld b37 0 (.string x26.Name), ld b37 1 (vI x26.Bits), ld b37 2 (vI x26.Low)]) (v := .agg #[.string x26.Name, vI x26.Bits, vI x26.Low]) ⟨by kernel_rfl⟩ (fun w_ hM hS => ⟨w_, ⟨hM.cell 0 rfl rfl, hM.cell 0 rfl rfl, hM.cell 0 rfl rfl, rfl⟩, hM, trivial⟩) ?_
      refine ops_newB (d := some 10) [.string ByteArray.empty, vI 0, vI 0] 32 (fun b38 => ⟨by kernel_rfl⟩) (fun w_ hM hS => trivial) (fun b38 => ?_)
      refine ops_store (an := []) (evs := [sr b38 0 (.string x26.Name), sr b38 1 (vI x26.Bits), sr b38 2 (vI x26.Low)]) ⟨by kernel_rfl⟩ (fun w_ hM hS => let ⟨w', he, h'⟩ := hM.evs_stores [.string x26.Name, vI x26.Bits, vI x26.Low] 0 rfl 0 (Nat.le_of_ble_eq_true rfl); ⟨w', he, h', trivial⟩) ?_
      refine ops_nil (fin_then (st_seq ?_))
      refine st_region_draw [oT 0, oT 1, oT 2, oT 3, oT 4, oT 5, oT 6, oF 7, oT 8, oF 9] (Mem w0 (.blk b37 [.string x26.Name, vI x26.Bits, vI x26.Low] 32 :: .blk b2 [vI 0, .string ByteArray.empty, .string ByteArray.empty, .string ByteArray.empty, vI 0, .string ByteArray.empty, vI 0, vI 0, .string ByteArray.empty, .slice none 0 0] 37 :: .blk b1 [vI m_0, .string m_1, .string m_2, .string m_3, vI m_4, .string m_5, vI m_6, vI m_7, .string m_8, sl A_m_9 m_9 c_m_9] 37 :: Fz F W :: cs)) (by kernel_rfl) (by kernel_rfl) (by kernel_rfl) (fun _ d _ _ _ h => by cases d <;> exact h) (M' := Mem w0 (.blk b38 [.string x26.Name, vI x26.Bits, vI x26.Low] 32 :: .blk b37 [.string x26.Name, vI x26.Bits, vI x26.Low] 32 :: .blk b2 [vI 0, .string ByteArray.empty, .string ByteArray.empty, .string ByteArray.empty, vI 0, .string ByteArray.empty, vI 0, vI 0, .string ByteArray.empty, .slice none 0 0] 37 :: .blk b1 [vI m_0, .string m_1, .string m_2, .string m_3, vI m_4, .string m_5, vI m_6, vI m_7, .string m_8, sl A_m_9 m_9 c_m_9] 37 :: Fz F W :: cs)) (fun w_ hM => ⟨hM.drew, hM.drew.sub (.cons _ (.cons_cons _ (.cons_cons _ (.cons_cons _ (.cons_cons _ (.refl _))))))⟩) ?_
      refine oQ [oT 0, oT 1] [(62, vP b1 6), (10, vP b38 0), (9, vP b37 0), (4, vP b2 0), (3, vP b1 0)] (by kernel_rfl) ?_
      refine ops_load (d := some 63) (an := [.v (vI m_6)]) (evs := [ld b1 6 (vI m_6)]) (v := vI m_6) ⟨by kernel_rfl⟩ (fun w_ hM => ⟨hM.cell 2 rfl rfl, rfl⟩) ?_
      refine oQ [oT 3, oT 4] [(65, vP b1 7), (63, vI m_6), (10, vP b38 0), (9, vP b37 0), (4, vP b2 0), (3, vP b1 0)] (by kernel_rfl) ?_
      refine ops_load (d := some 66) (an := [.v (vI m_7)]) (evs := [ld b1 7 (vI m_7)]) (v := vI m_7) ⟨by kernel_rfl⟩ (fun w_ hM => ⟨hM.cell 2 rfl rfl, rfl⟩) ?_
      refine oQ [oT 6] [(67, vP b38 1), (66, vI m_7), (63, vI m_6), (10, vP b38 0), (9, vP b37 0), (4, vP b2 0), (3, vP b1 0)] (by kernel_rfl) ?_
      refine ops_store (an := []) (evs := [sr b38 1 (vI m_6)]) ⟨by kernel_rfl⟩ (fun w_ hM hS => let ⟨w', he, h'⟩ := hM.evs_stores [vI m_6] 0 rfl 1 (Nat.le_of_ble_eq_true rfl); ⟨w', he, h', (by exact h'.sub (.cons _ (.cons_cons _ (.cons_cons _ (.cons_cons _ (.cons_cons _ (.refl _)))))))⟩) ?_
      refine oQ [oT 8] [(68, vP b38 2), (66, vI m_7), (10, vP b38 0), (9, vP b37 0), (4, vP b2 0), (3, vP b1 0)] (by kernel_rfl) ?_
      refine ops_store (an := []) (evs := [sr b38 2 (vI m_7)]) ⟨by kernel_rfl⟩ (fun w_ hM hS => let ⟨w', he, h'⟩ := hM.evs_stores [vI m_7] 0 rfl 2 (Nat.le_of_ble_eq_true rfl); ⟨w', he, h', (by exact h'.sub (.cons _ (.cons_cons _ (.cons_cons _ (.cons_cons _ (.cons_cons _ (.refl _)))))))⟩) ?_
      refine ops_nil (fin_then ?_)
      refine st_join1 (σ := (Option Addr) × Nat × (List Value) × Bool) (L := fun x_ => match x_ with | (A39, c40, y41, t43) => [(4, vP b2 0), (5, .bool t43)]) (N := fun x_ => match x_ with | (A39, c40, y41, t43) => Mem w0 (.blk b2 [vI 6, .string m_1, .string m_2, .string ByteArray.empty, vI 0, .string ByteArray.empty, vI x26.Bits, vI x26.Low, .string ByteArray.empty, sl A39 ([] : List api_Field) c40] 37 :: ow A39 ([] : List api_Field) c40 32 3 y41 :: Fz F W :: cs)) (I := fun x_ => match x_ with | (A39, c40, y41, t43) => ((migrate_inverse_j1 m_1 m_2 x26) t43 = some (i9001, u9002, u9003, u9004, i9005, i9006, l9009, t9012)) ∧ (RepL R_api_Field F W ([] : List api_Field) y41)) ?_ ?_
      ·
       rintro ⟨A39, c40, y41, t43⟩ ⟨hp, h42⟩
       unfold migrate_inverse_j1 at hp
       refine st_ret (fin_ret_block (fin_ret_then ?_))
       have hq_ := Option.some.inj hp
       obtain ⟨hr0_, hq_⟩ := Prod.mk.inj hq_
       obtain ⟨hr1_, hq_⟩ := Prod.mk.inj hq_
       obtain ⟨hr2_, hq_⟩ := Prod.mk.inj hq_
       obtain ⟨hr3_, hq_⟩ := Prod.mk.inj hq_
       obtain ⟨hr4_, hq_⟩ := Prod.mk.inj hq_
       obtain ⟨hr5_, hq_⟩ := Prod.mk.inj hq_
       obtain ⟨hr6_, hq_⟩ := Prod.mk.inj hq_
       have hr7_ := hq_
       subst hr0_
       subst hr1_
       subst hr2_
       subst hr3_
       subst hr4_
       subst hr5_
       subst hr6_
       subst hr7_
       refine fin_ret [.cell 4 37, .tmp 5] [.agg #[vI 6, .string m_1, .string m_2, .string ByteArray.empty, vI 0, .string ByteArray.empty, vI x26.Bits, vI x26.Low, .string ByteArray.empty, sl A39 ([] : List api_Field) c40], .bool t43] rfl rfl (fun w_ hM => (.cell rfl (tr_run _ [.v (vI 6), .v (.string m_1), .v (.string m_2), .v (.string ByteArray.empty), .v (vI 0), .v (.string ByteArray.empty), .v (vI x26.Bits), .v (vI x26.Low), .v (.string ByteArray.empty), .v (sl A39 ([] : List api_Field) c40)] [ld b2 0 (vI 6), ld b2 1 (.string m_1), ld b2 2 (.string m_2), ld b2 3 (.string ByteArray.empty), ld b2 4 (vI 0), ld b2 5 (.string ByteArray.empty), ld b2 6 (vI x26.Bits), ld b2 7 (vI x26.Low), ld b2 8 (.string ByteArray.empty), ld b2 9 (sl A39 ([] : List api_Field) c40)] (.agg #[vI 6, .string m_1, .string m_2, .string ByteArray.empty, vI 0, .string ByteArray.empty, vI x26.Bits, vI x26.Low, .string ByteArray.empty, sl A39 ([] : List api_Field) c40] : Value) _ _ (by kernel_rfl) ⟨hM.cell 0 rfl rfl, hM.cell 0 rfl rfl, hM.cell 0 rfl rfl, hM.cell 0 rfl rfl, hM.cell 0 rfl rfl, hM.cell 0 rfl rfl, hM.cell 0 rfl rfl, hM.cell 0 rfl rfl, hM.cell 0 rfl rfl, hM.cell 0 rfl rfl, rfl⟩) (.tmp rfl .nil))) (fun w_ hM => ?_)
       exact ⟨A39, c40, y41, h42, rfl, hM.pick 3 [1, 2] (by kernel_rfl) (by decide) rfl⟩
      ·
       intro HJ1
       refine st_seq ?_
       refine st_region_fast migrate_inverse__t0 [oT 0, oT 1, oT 2, oT 3, oT 4, oT 5, oT 6, oT 7, oT 8, oT 9, oT 10, oT 11, oT 12, oT 13, oT 14, oT 15, oT 16, oT 18, oF 17, oF 19, oT 20, oT 21, oF 22, oT 23] (Mem w0 (.blk b38 [.string x26.Name, vI m_6, vI m_7] 32 :: .blk b37 [.string x26.Name, vI x26.Bits, vI x26.Low] 32 :: .blk b1 [vI m_0, .string m_1, .string m_2, .string m_3, vI m_4, .string m_5, vI m_6, vI m_7, .string m_8, sl A_m_9 m_9 c_m_9] 37 :: Fz F W :: cs)) (by kernel_rfl) (by kernel_rfl) (by kernel_rfl) (by kernel_rfl) (by kernel_rfl) (fun _ d _ _ _ h => by cases d <;> exact h) (M' := Mem w0 (.blk b38 [.string x26.Name, vI m_6, vI m_7] 32 :: .blk b37 [.string x26.Name, vI x26.Bits, vI x26.Low] 32 :: .blk b2 [vI 0, .string ByteArray.empty, .string ByteArray.empty, .string ByteArray.empty, vI 0, .string ByteArray.empty, vI 0, vI 0, .string ByteArray.empty, .slice none 0 0] 37 :: .blk b1 [vI m_0, .string m_1, .string m_2, .string m_3, vI m_4, .string m_5, vI m_6, vI m_7, .string m_8, sl A_m_9 m_9 c_m_9] 37 :: Fz F W :: cs)) (fun w_ hM => ⟨hM.drew, hM.drew.sub (.cons_cons _ (.cons_cons _ (.cons _ (.cons_cons _ (.cons_cons _ (.refl _))))))⟩) ?_
       refine oQ [oT 0] [(69, vP b1 1), (10, vP b38 0), (9, vP b37 0), (4, vP b2 0), (3, vP b1 0)] (by kernel_rfl) ?_
       refine ops_load (d := some 70) (an := [.v (.string m_1)]) (evs := [ld b1 1 (.string m_1)]) (v := .string m_1) ⟨by kernel_rfl⟩ (fun w_ hM => ⟨hM.cell 2 rfl rfl, rfl⟩) ?_
       refine oQ [oT 2] [(71, vP b1 2), (70, .string m_1), (10, vP b38 0), (9, vP b37 0), (4, vP b2 0)] (by kernel_rfl) ?_
       refine ops_load (d := some 72) (an := [.v (.string m_2)]) (evs := [ld b1 2 (.string m_2)]) (v := .string m_2) ⟨by kernel_rfl⟩ (fun w_ hM => ⟨hM.cell 2 rfl rfl, rfl⟩) ?_
       refine oQ [oT 4] [(73, vP b37 1), (72, .string m_2), (70, .string m_1), (10, vP b38 0), (9, vP b37 0), (4, vP b2 0)] (by kernel_rfl) ?_
       refine ops_load (d := some 74) (an := [.v (vI x26.Bits)]) (evs := [ld b37 1 (vI x26.Bits)]) (v := vI x26.Bits) ⟨by kernel_rfl⟩ (fun w_ hM => ⟨hM.cell 1 rfl rfl, rfl⟩) ?_
       refine oQ [oT 6] [(75, vP b37 2), (74, vI x26.Bits), (72, .string m_2), (70, .string m_1), (10, vP b38 0), (9, vP b37 0), (4, vP b2 0)] (by kernel_rfl) ?_
       refine ops_load (d := some 76) (an := [.v (vI x26.Low)]) (evs := [ld b37 2 (vI x26.Low)]) (v := vI x26.Low) ⟨by kernel_rfl⟩ (fun w_ hM => ⟨hM.cell 1 rfl rfl, rfl⟩) ?_
       refine oQ [oT 8, oT 9, oT 10] [(79, vP b38 2), (78, .agg #[vI 6, .string m_1, .string m_2, .string ByteArray.empty, vI 0, .string ByteArray.empty, vI x26.Bits, vI x26.Low, .string ByteArray.empty, .slice none 0 0]), (10, vP b38 0), (9, vP b37 0), (4, vP b2 0)] (by kernel_rfl) ?_
       refine ops_load (d := some 80) (an := [.v (vI m_7)]) (evs := [ld b38 2 (vI m_7)]) (v := vI m_7) ⟨by kernel_rfl⟩ (fun w_ hM => ⟨hM.cell 0 rfl rfl, rfl⟩) ?_
       refine oQ [oT 12] [(81, vP b37 2), (80, vI m_7), (78, .agg #[vI 6, .string m_1, .string m_2, .string ByteArray.empty, vI 0, .string ByteArray.empty, vI x26.Bits, vI x26.Low, .string ByteArray.empty, .slice none 0 0]), (10, vP b38 0), (9, vP b37 0), (4, vP b2 0)] (by kernel_rfl) ?_
       refine ops_load (d := some 82) (an := [.v (vI x26.Low)]) (evs := [ld b37 2 (vI x26.Low)]) (v := vI x26.Low) ⟨by kernel_rfl⟩ (fun w_ hM => ⟨hM.cell 1 rfl rfl, rfl⟩) ?_
       refine oQ [oT 14, oT 15] [(84, .bool (decide (m_7 ≤ x26.Low))), (78, .agg #[vI 6, .string m_1, .string m_2, .string ByteArray.empty, vI 0, .string ByteArray.empty, vI x26.Bits, vI x26.Low, .string ByteArray.empty, .slice none 0 0]), (10, vP b38 0), (9, vP b37 0), (4, vP b2 0)] (by kernel_rfl) ?_
       refine ops_bool (t := decide (m_7 ≤ x26.Low)) (l1 := [(84, .bool true), (78, .agg #[vI 6, .string m_1, .string m_2, .string ByteArray.empty, vI 0, .string ByteArray.empty, vI x26.Bits, vI x26.Low, .string ByteArray.empty, .slice none 0 0]), (10, vP b38 0), (9, vP b37 0), (4, vP b2 0)]) (l2 := [(84, .bool false), (78, .agg #[vI 6, .string m_1, .string m_2, .string ByteArray.empty, vI 0, .string ByteArray.empty, vI x26.Bits, vI x26.Low, .string ByteArray.empty, .slice none 0 0]), (10, vP b38 0), (9, vP b37 0), (4, vP b2 0)]) (fun h => by rw [h]) (fun h => by rw [h]) (fun hc44 => ?_) (fun hc44 => ?_)
       ·
        have hp := cnd_t hc44 hp
        refine ops_load (d := some 85) (an := [.v (.string x26.Name), .v (vI m_6), .v (vI m_7)]) (evs := [ld b38 0 (.string x26.Name), ld b38 1 (vI m_6), ld b38 2 (vI m_7)]) (v := .agg #[.string x26.Name, vI m_6, vI m_7]) ⟨by kernel_rfl⟩ (fun w_ hM => ⟨hM.cell 0 rfl rfl, hM.cell 0 rfl rfl, hM.cell 0 rfl rfl, rfl⟩) ?_
        refine ops_load (d := some 87) (an := [.v (.string x26.Name), .v (vI x26.Bits), .v (vI x26.Low)]) (evs := [ld b37 0 (.string x26.Name), ld b37 1 (vI x26.Bits), ld b37 2 (vI x26.Low)]) (v := .agg #[.string x26.Name, vI x26.Bits, vI x26.Low]) ⟨by kernel_rfl⟩ (fun w_ hM => ⟨hM.cell 1 rfl rfl, hM.cell 1 rfl rfl, hM.cell 1 rfl rfl, rfl⟩) ?_
        obtain ⟨x45, hv46, hp⟩ := obind hp
        refine ops_callI (σ := Unit) (d := some 86) (f := 97) (args := #[.agg #[.string x26.Name, vI m_6, vI m_7]]) (v := (fun _ => vI x45)) (I := (fun _ => True)) (M' := (fun _ => Mem w0 (.blk b38 [.string x26.Name, vI m_6, vI m_7] 32 :: .blk b37 [.string x26.Name, vI x26.Bits, vI x26.Low] 32 :: .blk b2 [vI 0, .string ByteArray.empty, .string ByteArray.empty, .string ByteArray.empty, vI 0, .string ByteArray.empty, vI 0, vI 0, .string ByteArray.empty, .slice none 0 0] 37 :: .blk b1 [vI m_0, .string m_1, .string m_2, .string m_3, vI m_4, .string m_5, vI m_6, vI m_7, .string m_8, sl A_m_9 m_9 c_m_9] 37 :: Fz F W :: cs))) ⟨by kernel_rfl⟩ (fun w_ hM hS => (kind_High_ok w0 w_ (.blk b38 [.string x26.Name, vI m_6, vI m_7] 32 :: .blk b37 [.string x26.Name, vI x26.Bits, vI x26.Low] 32 :: .blk b2 [vI 0, .string ByteArray.empty, .string ByteArray.empty, .string ByteArray.empty, vI 0, .string ByteArray.empty, vI 0, vI 0, .string ByteArray.empty, .slice none 0 0] 37 :: .blk b1 [vI m_0, .string m_1, .string m_2, .string m_3, vI m_4, .string m_5, vI m_6, vI m_7, .string m_8, sl A_m_9 m_9 c_m_9] 37 :: cs) F W x26.Name m_6 m_7 (hM.pick 5 [4, 0, 1, 2, 3] (by kernel_rfl) (by decide) rfl)  x45 hv46).mono (by rintro e w' ⟨-, rfl, h'⟩; have h' : Mem w0 (.blk b38 [.string x26.Name, vI m_6, vI m_7] 32 :: .blk b37 [.string x26.Name, vI x26.Bits, vI x26.Low] 32 :: .blk b2 [vI 0, .string ByteArray.empty, .string ByteArray.empty, .string ByteArray.empty, vI 0, .string ByteArray.empty, vI 0, vI 0, .string ByteArray.empty, .slice none 0 0] 37 :: .blk b1 [vI m_0, .string m_1, .string m_2, .string m_3, vI m_4, .string m_5, vI m_6, vI m_7, .string m_8, sl A_m_9 m_9 c_m_9] 37 :: Fz F W :: cs) w' := (h'.pick 5 [1, 2, 3, 4, 0] (by kernel_rfl) (by decide) rfl); exact ⟨(), trivial, rfl, h', (by exact h'.sub (.cons_cons _ (.cons_cons _ (.cons _ (.cons_cons _ (.cons_cons _ (.refl _)))))))⟩)) ?_
        rintro _ -
        obtain ⟨x47, hv48, hp⟩ := obind hp
        refine ops_callI (σ := Unit) (d := some 88) (f := 97) (args := #[.agg #[.string x26.Name, vI x26.Bits, vI x26.Low]]) (v := (fun _ => vI x47)) (I := (fun _ => True)) (M' := (fun _ => Mem w0 (.blk b38 [.string x26.Name, vI m_6, vI m_7] 32 :: .blk b37 [.string x26.Name, vI x26.Bits, vI x26.Low] 32 :: .blk b2 [vI 0, .string ByteArray.empty, .string ByteArray.empty, .string ByteArray.empty, vI 0, .string ByteArray.empty, vI 0, vI 0, .string ByteArray.empty, .slice none 0 0] 37 :: .blk b1 [vI m_0, .string m_1, .string m_2, .string m_3, vI m_4, .string m_5, vI m_6, vI m_7, .string m_8, sl A_m_9 m_9 c_m_9] 37 :: Fz F W :: cs))) ⟨by kernel_rfl⟩ (fun w_ hM hS => (kind_High_ok w0 w_ (.blk b38 [.string x26.Name, vI m_6, vI m_7] 32 :: .blk b37 [.string x26.Name, vI x26.Bits, vI x26.Low] 32 :: .blk b2 [vI 0, .string ByteArray.empty, .string ByteArray.empty, .string ByteArray.empty, vI 0, .string ByteArray.empty, vI 0, vI 0, .string ByteArray.empty, .slice none 0 0] 37 :: .blk b1 [vI m_0, .string m_1, .string m_2, .string m_3, vI m_4, .string m_5, vI m_6, vI m_7, .string m_8, sl A_m_9 m_9 c_m_9] 37 :: cs) F W x26.Name x26.Bits x26.Low (hM.pick 5 [4, 0, 1, 2, 3] (by kernel_rfl) (by decide) rfl)  x47 hv48).mono (by rintro e w' ⟨-, rfl, h'⟩; have h' : Mem w0 (.blk b38 [.string x26.Name, vI m_6, vI m_7] 32 :: .blk b37 [.string x26.Name, vI x26.Bits, vI x26.Low] 32 :: .blk b2 [vI 0, .string ByteArray.empty, .string ByteArray.empty, .string ByteArray.empty, vI 0, .string ByteArray.empty, vI 0, vI 0, .string ByteArray.empty, .slice none 0 0] 37 :: .blk b1 [vI m_0, .string m_1, .string m_2, .string m_3, vI m_4, .string m_5, vI m_6, vI m_7, .string m_8, sl A_m_9 m_9 c_m_9] 37 :: Fz F W :: cs) w' := (h'.pick 5 [1, 2, 3, 4, 0] (by kernel_rfl) (by decide) rfl); exact ⟨(), trivial, rfl, h', (by exact h'.sub (.cons_cons _ (.cons_cons _ (.cons _ (.cons_cons _ (.cons_cons _ (.refl _)))))))⟩)) ?_
        rintro _ -
        refine oQ [oT 20, oT 21] [(90, .bool (decide (x47 ≤ x45))), (78, .agg #[vI 6, .string m_1, .string m_2, .string ByteArray.empty, vI 0, .string ByteArray.empty, vI x26.Bits, vI x26.Low, .string ByteArray.empty, .slice none 0 0]), (4, vP b2 0)] (by kernel_rfl) ?_
        refine ops_store (an := []) (evs := [sr b2 0 (vI 6), sr b2 1 (.string m_1), sr b2 2 (.string m_2), sr b2 3 (.string ByteArray.empty), sr b2 4 (vI 0), sr b2 5 (.string ByteArray.empty), sr b2 6 (vI x26.Bits), sr b2 7 (vI x26.Low), sr b2 8 (.string ByteArray.empty), sr b2 9 (.slice none 0 0)]) ⟨by kernel_rfl⟩ (fun w_ hM hS => let ⟨w', he, h'⟩ := hM.evs_stores [vI 6, .string m_1, .string m_2, .string ByteArray.empty, vI 0, .string ByteArray.empty, vI x26.Bits, vI x26.Low, .string ByteArray.empty, .slice none 0 0] 2 rfl 0 (Nat.le_of_ble_eq_true rfl); ⟨w', he, h', (by exact h'.sub (.cons_cons _ (.cons_cons _ (.cons _ (.cons_cons _ (.cons_cons _ (.refl _)))))))⟩) ?_
        refine oQ [oT 23] [(5, .bool (decide (x47 ≤ x45))), (4, vP b2 0)] (by kernel_rfl) ?_
        refine ops_nil ?_
        refine fin_conv (l' := [(5, .bool (decide (x47 ≤ x45))), (4, vP b2 0)]) (M' := Mem w0 (ow none ([] : List api_Field) 0 32 3 [] :: .blk b38 [.string x26.Name, vI m_6, vI m_7] 32 :: .blk b37 [.string x26.Name, vI x26.Bits, vI x26.Low] 32 :: .blk b2 [vI 6, .string m_1, .string m_2, .string ByteArray.empty, vI 0, .string ByteArray.empty, vI x26.Bits, vI x26.Low, .string ByteArray.empty, .slice none 0 0] 37 :: .blk b1 [vI m_0, .string m_1, .string m_2, .string m_3, vI m_4, .string m_5, vI m_6, vI m_7, .string m_8, sl A_m_9 m_9 c_m_9] 37 :: Fz F W :: cs)) rfl (fun w_ h => h.onil none 32 3) ?_
        refine fin_conv (l' := [(5, .bool (decide (x47 ≤ x45))), (4, vP b2 0)]) (M' := Mem w0 (ow none ([] : List api_Field) 0 32 3 [] :: .blk b38 [.string x26.Name, vI m_6, vI m_7] 32 :: .blk b37 [.string x26.Name, vI x26.Bits, vI x26.Low] 32 :: .blk b2 [vI 6, .string m_1, .string m_2, .string ByteArray.empty, vI 0, .string ByteArray.empty, vI x26.Bits, vI x26.Low, .string ByteArray.empty, sl none ([] : List api_Field) 0] 37 :: .blk b1 [vI m_0, .string m_1, .string m_2, .string m_3, vI m_4, .string m_5, vI m_6, vI m_7, .string m_8, sl A_m_9 m_9 c_m_9] 37 :: Fz F W :: cs)) rfl (fun _ h => h) ?_
        exact fin_join HJ1 (none, 0, [], decide (x47 ≤ x45)) ⟨hp, (RepL.nil (R := R_api_Field))⟩ (look_has ⟨rfl, rfl, trivial⟩) (fun w_ hM => hM.pick 6 [3, 0, 5] (by kernel_rfl) (by decide) rfl)
       ·
        have hp := cnd_f hc44 hp
        refine oQ [oT 16, oT 18, oF 17, oF 19, oT 20, oT 21] [(90, .bool false), (78, .agg #[vI 6, .string m_1, .string m_2, .string ByteArray.empty, vI 0, .string ByteArray.empty, vI x26.Bits, vI x26.Low, .string ByteArray.empty, .slice none 0 0]), (4, vP b2 0)] (by kernel_rfl) ?_
        refine ops_store (an := []) (evs := [sr b2 0 (vI 6), sr b2 1 (.string m_1), sr b2 2 (.string m_2), sr b2 3 (.string ByteArray.empty), sr b2 4 (vI 0), sr b2 5 (.string ByteArray.empty), sr b2 6 (vI x26.Bits), sr b2 7 (vI x26.Low), sr b2 8 (.string ByteArray.empty), sr b2 9 (.slice none 0 0)]) ⟨by kernel_rfl⟩ (fun w_ hM hS => let ⟨w', he, h'⟩ := hM.evs_stores [vI 6, .string m_1, .string m_2, .string ByteArray.empty, vI 0, .string ByteArray.empty, vI x26.Bits, vI x26.Low, .string ByteArray.empty, .slice none 0 0] 2 rfl 0 (Nat.le_of_ble_eq_true rfl); ⟨w', he, h', (by exact h'.sub (.cons_cons _ (.cons_cons _ (.cons _ (.cons_cons _ (.cons_cons _ (.refl _)))))))⟩) ?_
        refine oQ [oT 23] [(5, .bool false), (4, vP b2 0)] (by kernel_rfl) ?_
        refine ops_nil ?_
        refine fin_conv (l' := [(5, .bool false), (4, vP b2 0)]) (M' := Mem w0 (ow none ([] : List api_Field) 0 32 3 [] :: .blk b38 [.string x26.Name, vI m_6, vI m_7] 32 :: .blk b37 [.string x26.Name, vI x26.Bits, vI x26.Low] 32 :: .blk b2 [vI 6, .string m_1, .string m_2, .string ByteArray.empty, vI 0, .string ByteArray.empty, vI x26.Bits, vI x26.Low, .string ByteArray.empty, .slice none 0 0] 37 :: .blk b1 [vI m_0, .string m_1, .string m_2, .string m_3, vI m_4, .string m_5, vI m_6, vI m_7, .string m_8, sl A_m_9 m_9 c_m_9] 37 :: Fz F W :: cs)) rfl (fun w_ h => h.onil none 32 3) ?_
        refine fin_conv (l' := [(5, .bool false), (4, vP b2 0)]) (M' := Mem w0 (ow none ([] : List api_Field) 0 32 3 [] :: .blk b38 [.string x26.Name, vI m_6, vI m_7] 32 :: .blk b37 [.string x26.Name, vI x26.Bits, vI x26.Low] 32 :: .blk b2 [vI 6, .string m_1, .string m_2, .string ByteArray.empty, vI 0, .string ByteArray.empty, vI x26.Bits, vI x26.Low, .string ByteArray.empty, sl none ([] : List api_Field) 0] 37 :: .blk b1 [vI m_0, .string m_1, .string m_2, .string m_3, vI m_4, .string m_5, vI m_6, vI m_7, .string m_8, sl A_m_9 m_9 c_m_9] 37 :: Fz F W :: cs)) rfl (fun _ h => h) ?_
        exact fin_join HJ1 (none, 0, [], false) ⟨hp, (RepL.nil (R := R_api_Field))⟩ (look_has ⟨rfl, rfl, trivial⟩) (fun w_ hM => hM.pick 6 [3, 0, 5] (by kernel_rfl) (by decide) rfl)
     ·
      have hp := cnd_f hc11 hp
      refine st_skip (fin_block (fin_then (st_seq (st_region [oF 0, oF 1, oF 2] (by rfl) ?_))))
      refine oQ [oF 0] [(91, .agg #[vI 0, .string ByteArray.empty, .string ByteArray.empty, .string ByteArray.empty, vI 0, .string ByteArray.empty, vI 0, vI 0, .string ByteArray.empty, .slice none 0 0]), (4, vP b2 0)] (by kernel_rfl) ?_
      refine ops_store (an := []) (evs := [sr b2 0 (vI 0), sr b2 1 (.string ByteArray.empty), sr b2 2 (.string ByteArray.empty), sr b2 3 (.string ByteArray.empty), sr b2 4 (vI 0), sr b2 5 (.string ByteArray.empty), sr b2 6 (vI 0), sr b2 7 (vI 0), sr b2 8 (.string ByteArray.empty), sr b2 9 (.slice none 0 0)]) ⟨by kernel_rfl⟩ (fun w_ hM hS => let ⟨w', he, h'⟩ := hM.evs_stores [vI 0, .string ByteArray.empty, .string ByteArray.empty, .string ByteArray.empty, vI 0, .string ByteArray.empty, vI 0, vI 0, .string ByteArray.empty, .slice none 0 0] 0 rfl 0 (Nat.le_of_ble_eq_true rfl); ⟨w', he, h', trivial⟩) ?_
      refine oQ [oF 2] [(5, .bool false), (4, vP b2 0)] (by kernel_rfl) ?_
      refine ops_nil (fin_then (st_ret ?_))
      refine fin_conv (l' := [(5, .bool false), (4, vP b2 0)]) (M' := Mem w0 (ow none ([] : List api_Field) 0 32 3 [] :: .blk b2 [vI 0, .string ByteArray.empty, .string ByteArray.empty, .string ByteArray.empty, vI 0, .string ByteArray.empty, vI 0, vI 0, .string ByteArray.empty, .slice none 0 0] 37 :: .blk b1 [vI m_0, .string m_1, .string m_2, .string m_3, vI m_4, .string m_5, vI m_6, vI m_7, .string m_8, sl A_m_9 m_9 c_m_9] 37 :: Fz F W :: cs)) rfl (fun w_ h => h.onil none 32 3) ?_
      refine fin_conv (l' := [(5, .bool false), (4, vP b2 0)]) (M' := Mem w0 (ow none ([] : List api_Field) 0 32 3 [] :: .blk b2 [vI 0, .string ByteArray.empty, .string ByteArray.empty, .string ByteArray.empty, vI 0, .string ByteArray.empty, vI 0, vI 0, .string ByteArray.empty, .slice none 0 0] 37 :: .blk b1 [vI m_0, .string m_1, .string m_2, .string m_3, vI m_4, .string m_5, vI m_6, vI m_7, .string m_8, sl A_m_9 m_9 c_m_9] 37 :: Fz F W :: cs)) rfl (fun _ h => h) ?_
      have hq_ := Option.some.inj hp
      obtain ⟨hr0_, hq_⟩ := Prod.mk.inj hq_
      obtain ⟨hr1_, hq_⟩ := Prod.mk.inj hq_
      obtain ⟨hr2_, hq_⟩ := Prod.mk.inj hq_
      obtain ⟨hr3_, hq_⟩ := Prod.mk.inj hq_
      obtain ⟨hr4_, hq_⟩ := Prod.mk.inj hq_
      obtain ⟨hr5_, hq_⟩ := Prod.mk.inj hq_
      obtain ⟨hr6_, hq_⟩ := Prod.mk.inj hq_
      have hr7_ := hq_
      subst hr0_
      subst hr1_
      subst hr2_
      subst hr3_
      subst hr4_
      subst hr5_
      subst hr6_
      subst hr7_
      refine fin_ret [.cell 4 37, .tmp 5] [.agg #[vI 0, .string ByteArray.empty, .string ByteArray.empty, .string ByteArray.empty, vI 0, .string ByteArray.empty, vI 0, vI 0, .string ByteArray.empty, sl none ([] : List api_Field) 0], .bool false] rfl rfl (fun w_ hM => (.cell rfl (tr_run _ [.v (vI 0), .v (.string ByteArray.empty), .v (.string ByteArray.empty), .v (.string ByteArray.empty), .v (vI 0), .v (.string ByteArray.empty), .v (vI 0), .v (vI 0), .v (.string ByteArray.empty), .v (.slice none 0 0)] [ld b2 0 (vI 0), ld b2 1 (.string ByteArray.empty), ld b2 2 (.string ByteArray.empty), ld b2 3 (.string ByteArray.empty), ld b2 4 (vI 0), ld b2 5 (.string ByteArray.empty), ld b2 6 (vI 0), ld b2 7 (vI 0), ld b2 8 (.string ByteArray.empty), ld b2 9 (.slice none 0 0)] (.agg #[vI 0, .string ByteArray.empty, .string ByteArray.empty, .string ByteArray.empty, vI 0, .string ByteArray.empty, vI 0, vI 0, .string ByteArray.empty, .slice none 0 0] : Value) _ _ (by kernel_rfl) ⟨hM.cell 1 rfl rfl, hM.cell 1 rfl rfl, hM.cell 1 rfl rfl, hM.cell 1 rfl rfl, hM.cell 1 rfl rfl, hM.cell 1 rfl rfl, hM.cell 1 rfl rfl, hM.cell 1 rfl rfl, hM.cell 1 rfl rfl, hM.cell 1 rfl rfl, rfl⟩) (.tmp rfl .nil))) (fun w_ hM => ?_)
      exact ⟨none, 0, [], (RepL.nil (R := R_api_Field)), rfl, hM.pick 4 [0, 3] (by kernel_rfl) (by decide) rfl⟩
theorem slices_Reverse_migrate_Move_migrate_Move_ok (w0 w : World) (cs : List Chunk) (F : Nat → Prop) (W : World) (A_s : Option Addr) (c_s : Nat) (s : List migrate_Move) (y_s : List Value) (hM0 : Mem w0 (ow A_s s c_s 37 10 y_s :: Fz F W :: cs) w) (h_s : RepL R_migrate_Move F W s y_s) (l9001 : List migrate_Move) (hp : slices_Reverse_migrate_Move_migrate_Move s = some l9001) : Calls Tryd.prog 45 #[sl A_s s c_s] w fun e w' => ∃ (y9002 : List Value), ((RepL R_migrate_Move F W l9001 y9002) ∧ (l9001.length = s.length)) ∧ e = .returned (.tuple #[]) ∧ Mem w0 (ow A_s l9001 c_s 37 10 y9002 :: Fz F W :: cs) w' := by
 unfold slices_Reverse_migrate_Move_migrate_Move at hp
 refine sx_calls Tryd.func45 rfl (n := 28) (by kernel_rfl) (l := [(0, sl A_s s c_s)]) rfl (by rfl) hM0 ?_
 refine st_seq (st_region [oF 0, oF 1, oF 2, oF 3, oF 4] (by rfl) ?_)
 refine oQ [oF 0, oF 1, oF 2, oF 3, oF 4] [(3, vI (IntKind.i64.wrap ((s.length : Int) - 1))), (2, vI 0), (0, sl A_s s c_s)] (by kernel_rfl) ?_
 refine ops_nil (fin_then (st_block ?_))
 obtain ⟨r1, hl1, hk1⟩ := obind hp
 refine st_loopP (σ := (List migrate_Move) × Int × Int) (ρ := (List migrate_Move)) (γ := (List Value)) hl1 y_s (fun s_ g_ => match s_, g_ with | (l1, i5, i6), y2 => [(0, sl A_s l1 c_s), (2, vI i5), (3, vI i6)]) (fun s_ g_ => match s_, g_ with | (l1, i5, i6), y2 => Mem w0 (ow A_s l1 c_s 37 10 y2 :: Fz F W :: cs)) (fun s_ g_ => match s_, g_ with | (l1, i5, i6), y2 => (RepL R_migrate_Move F W l1 y2) ∧ (l1.length = s.length)) ⟨h_s, rfl⟩ (look_has ⟨rfl, rfl, rfl, trivial⟩) (fun w_ hM => hM) ?_
 rintro ⟨l1, i5, i6⟩ y2 o1 ⟨h3, hl4⟩ hs_ hd1
 have hp : slices_Reverse_migrate_Move_migrate_Move_l1 l1 i5 i6 = some o1 := hs_
 clear hs_
 unfold slices_Reverse_migrate_Move_migrate_Move_l1 at hp
 refine st_seq (st_seq (st_region [oF 0, oF 1, oF 2] (by rfl) ?_))
 refine oQ [oF 0, oF 1, oF 2] [(9, .bool (decide (i5 < i6))), (0, sl A_s l1 c_s), (2, vI i5), (3, vI i6)] (by kernel_rfl) ?_
 refine ops_nil (fin_then ?_)
 refine st_if (b := decide (i5 < i6)) rfl (fun hc7 => ?_) (fun hc7 => ?_)
 ·
  have hp := cnd_t hc7 hp
  refine st_skip (fin_then ?_)
  refine st_join1 (σ := (List migrate_Move) × (List Value)) (L := fun x_ => match x_ with | (l8, y9) => [(0, sl A_s l8 c_s), (2, vI i5), (3, vI i6)]) (N := fun x_ => match x_ with | (l8, y9) => Mem w0 (ow A_s l8 c_s 37 10 y9 :: Fz F W :: cs)) (I := fun x_ => match x_ with | (l8, y9) => ((slices_Reverse_migrate_Move_migrate_Move_j2 i5 i6) l8 = some o1) ∧ (RepL R_migrate_Move F W l8 y9) ∧ (l8.length = s.length)) ?_ ?_
  ·
   rintro ⟨l8, y9⟩ ⟨hp, h10, hl11⟩
   unfold slices_Reverse_migrate_Move_migrate_Move_j2 at hp
   refine st_region [oF 0, oF 1, oF 2, oF 3, oF 4, oF 5] (by rfl) ?_
   refine oQ [oF 0, oF 1, oF 2, oF 3, oF 4, oF 5] [(3, vI (IntKind.i64.wrap (i6 - 1))), (2, vI (IntKind.i64.wrap (i5 + 1))), (0, sl A_s l8 c_s)] (by kernel_rfl) ?_
   refine ops_nil ?_
   exact fin_again (l8, IntKind.i64.wrap (i5 + 1), IntKind.i64.wrap (i6 - 1)) y9 (Option.some.inj hp).symm ⟨h10, hl11⟩ (look_has ⟨rfl, rfl, rfl, trivial⟩) (fun w_ hM => hM)
  ·
   intro HJ2
   refine st_seq (st_block ?_)
   obtain ⟨x12, hv13, hp⟩ := obind hp
   obtain ⟨x25, hv26, hp⟩ := obind hp
   obtain ⟨x37, hv38, hp⟩ := obind hp
   obtain ⟨l49, hv50, hp⟩ := obind hp
   obtain ⟨x63, hv64, hp⟩ := obind hp
   obtain ⟨l75, hv76, hp⟩ := obind hp
   refine st_region_tree (.node [oT 0, oT 1, oT 2, oT 3, oT 4, oT 5, oT 6, oT 8, oT 9, oT 10] (.leaf [oF 7, oF 11, oT 12, oF 13, oT 14, oF 15]) (.leaf [oF 11, oF 7, oT 12, oF 13, oT 14, oF 15])) (Mem w0 (Fz F W :: cs)) (by kernel_rfl) (by kernel_rfl) (by kernel_rfl) (fun _ d _ _ _ h => by cases d <;> exact h) (M' := Mem w0 (ow A_s l1 c_s 37 10 y2 :: Fz F W :: cs)) (fun w_ hM => ⟨hM.drew, hM.drew.sub (.cons _ (.cons_cons _ (.refl _)))⟩) ?_
   refine tree_node ?_
   refine oQ [oT 0, oT 1, oT 2, oT 3, oT 4, oT 5] [(19, vI i6), (18, sl A_s l1 c_s), (17, vI i6), (16, sl A_s l1 c_s), (15, vI i5), (14, sl A_s l1 c_s), (0, sl A_s l1 c_s), (2, vI i5), (3, vI i6)] (by kernel_rfl) ?_
   obtain ⟨m77, hm78, hx79⟩ := idx_some hv13
   have hl82 := (List.getElem?_eq_some_iff.1 hx79).1
   refine ops_fact (fun w_ hM => hM.orowSome 0 rfl (Nat.lt_of_le_of_lt (Nat.zero_le _) hl82)) ?_
   rintro ⟨g83, rfl, -⟩
   obtain ⟨vs80, hr81, hq84⟩ := h3.at_ m77 x12 hx79
   obtain ⟨A85, c86, rfl, h87⟩ := dec_migrate_Move hr81
   refine ops_val (op := (.indexAddr 23 (.tmp 18) (.tmp 19))) (d := some 20) (v := vP g83 (m77 * 10)) ⟨by kernel_rfl⟩ (run_indexRow Tryd.underlying23 (z := 10) (by kernel_rfl) rfl rfl hm78 hl82 rfl) ?_
   refine oQ [oT 8, oT 9] [(23, vI i5), (22, sl (sa g83) l1 c_s), (20, vP g83 (m77 * 10)), (17, vI i6), (16, sl (sa g83) l1 c_s), (15, vI i5), (14, sl (sa g83) l1 c_s), (0, sl (sa g83) l1 c_s), (2, vI i5), (3, vI i6)] (by kernel_rfl) ?_
   obtain ⟨m88, hm89, hx90⟩ := idx_some hv26
   have hl93 := (List.getElem?_eq_some_iff.1 hx90).1
   obtain ⟨vs91, hr92, hq94⟩ := h3.at_ m88 x25 hx90
   obtain ⟨A95, c96, rfl, h97⟩ := dec_migrate_Move hr92
   refine ops_val (op := (.indexAddr 23 (.tmp 22) (.tmp 23))) (d := some 24) (v := vP g83 (m88 * 10)) ⟨by kernel_rfl⟩ (run_indexRow Tryd.underlying23 (z := 10) (by kernel_rfl) rfl rfl hm89 hl93 rfl) ?_
   refine ops_nil ?_
   refine tree_both ?_ ?_
   ·
    refine tree_leaf ?_
    refine ops_mem (d := some 21) (an := [.v (vI x12.Do), .v (.string x12.Kind), .v (.string x12.Field), .v (.string x12.Name), .v (vI x12.Value), .v (.string x12.New.Name), .v (vI x12.New.Bits), .v (vI x12.New.Low), .v (.string x12.Whole.Name), .v (sl A85 x12.Whole.Fields c86)]) (evs := [.load ⟨g83, m77 * 10, none⟩ (vI x12.Do), .load ⟨g83, m77 * 10 + 1, none⟩ (.string x12.Kind), .load ⟨g83, m77 * 10 + 2, none⟩ (.string x12.Field), .load ⟨g83, m77 * 10 + 3, none⟩ (.string x12.Name), .load ⟨g83, m77 * 10 + 4, none⟩ (vI x12.Value), .load ⟨g83, m77 * 10 + 5, none⟩ (.string x12.New.Name), .load ⟨g83, m77 * 10 + 6, none⟩ (vI x12.New.Bits), .load ⟨g83, m77 * 10 + 7, none⟩ (vI x12.New.Low), .load ⟨g83, m77 * 10 + 8, none⟩ (.string x12.Whole.Name), .load ⟨g83, m77 * 10 + 9, none⟩ (sl A85 x12.Whole.Fields c86)]) (v := .agg #[vI x12.Do, .string x12.Kind, .string x12.Field, .string x12.Name, vI x12.Value, .string x12.New.Name, vI x12.New.Bits, vI x12.New.Low, .string x12.Whole.Name, sl A85 x12.Whole.Fields c86]) ⟨by kernel_rfl⟩ (fun w_ hM hS => ⟨w_, ⟨hM.ocell 0 rfl (hq84 0 _ rfl), hM.ocell 0 rfl (hq84 1 _ rfl), hM.ocell 0 rfl (hq84 2 _ rfl), hM.ocell 0 rfl (hq84 3 _ rfl), hM.ocell 0 rfl (hq84 4 _ rfl), hM.ocell 0 rfl (hq84 5 _ rfl), hM.ocell 0 rfl (hq84 6 _ rfl), hM.ocell 0 rfl (hq84 7 _ rfl), hM.ocell 0 rfl (hq84 8 _ rfl), hM.ocell 0 rfl (hq84 9 _ rfl), rfl⟩, hM, hS⟩) ?_
    refine ops_mem (d := some 25) (an := [.v (vI x25.Do), .v (.string x25.Kind), .v (.string x25.Field), .v (.string x25.Name), .v (vI x25.Value), .v (.string x25.New.Name), .v (vI x25.New.Bits), .v (vI x25.New.Low), .v (.string x25.Whole.Name), .v (sl A95 x25.Whole.Fields c96)]) (evs := [.load ⟨g83, m88 * 10, none⟩ (vI x25.Do), .load ⟨g83, m88 * 10 + 1, none⟩ (.string x25.Kind), .load ⟨g83, m88 * 10 + 2, none⟩ (.string x25.Field), .load ⟨g83, m88 * 10 + 3, none⟩ (.string x25.Name), .load ⟨g83, m88 * 10 + 4, none⟩ (vI x25.Value), .load ⟨g83, m88 * 10 + 5, none⟩ (.string x25.New.Name), .load ⟨g83, m88 * 10 + 6, none⟩ (vI x25.New.Bits), .load ⟨g83, m88 * 10 + 7, none⟩ (vI x25.New.Low), .load ⟨g83, m88 * 10 + 8, none⟩ (.string x25.Whole.Name), .load ⟨g83, m88 * 10 + 9, none⟩ (sl A95 x25.Whole.Fields c96)]) (v := .agg #[vI x25.Do, .string x25.Kind, .string x25.Field, .string x25.Name, vI x25.Value, .string x25.New.Name, vI x25.New.Bits, vI x25.New.Low, .string x25.Whole.Name, sl A95 x25.Whole.Fields c96]) ⟨by kernel_rfl⟩ (fun w_ hM hS => ⟨w_, ⟨hM.ocell 0 rfl (hq94 0 _ rfl), hM.ocell 0 rfl (hq94 1 _ rfl), hM.ocell 0 rfl (hq94 2 _ rfl), hM.ocell 0 rfl (hq94 3 _ rfl), hM.ocell 0 rfl (hq94 4 _ rfl), hM.ocell 0 rfl (hq94 5 _ rfl), hM.ocell 0 rfl (hq94 6 _ rfl), hM.ocell 0 rfl (hq94 7 _ rfl), hM.ocell 0 rfl (hq94 8 _ rfl), hM.ocell 0 rfl (hq94 9 _ rfl), rfl⟩, hM, hS⟩) ?_
    obtain ⟨m98, hm99, hx100⟩ := idx_some hv38
    have hl103 := (List.getElem?_eq_some_iff.1 hx100).1
    obtain ⟨vs101, hr102, hq104⟩ := h3.at_ m98 x37 hx100
    obtain ⟨A105, c106, rfl, h107⟩ := dec_migrate_Move hr102
    refine ops_val (op := (.indexAddr 23 (.tmp 14) (.tmp 15))) (d := some 26) (v := vP g83 (m98 * 10)) ⟨by kernel_rfl⟩ (run_indexRow Tryd.underlying23 (z := 10) (by kernel_rfl) rfl rfl hm99 hl103 rfl) ?_
    refine oQ [] [(26, vP g83 (m98 * 10)), (25, .agg #[vI x25.Do, .string x25.Kind, .string x25.Field, .string x25.Name, vI x25.Value, .string x25.New.Name, vI x25.New.Bits, vI x25.New.Low, .string x25.Whole.Name, sl A95 x25.Whole.Fields c96]), (21, .agg #[vI x12.Do, .string x12.Kind, .string x12.Field, .string x12.Name, vI x12.Value, .string x12.New.Name, vI x12.New.Bits, vI x12.New.Low, .string x12.Whole.Name, sl A85 x12.Whole.Fields c86]), (17, vI i6), (16, sl (sa g83) l1 c_s), (0, sl (sa g83) l1 c_s), (2, vI i5), (3, vI i6)] (by kernel_rfl) ?_
    obtain ⟨m108, hm109, hl110, he111⟩ := upd_some hv50
    obtain rfl : m98 = m108 := by have := hm99; omega
    have hl112 : l1.length = l49.length := by rw [he111, List.length_set]
    obtain ⟨y113, hy114⟩ : ∃ y_, setAll y2 (m98 * 10 + 0) [vI x12.Do, .string x12.Kind, .string x12.Field, .string x12.Name, vI x12.Value, .string x12.New.Name, vI x12.New.Bits, vI x12.New.Low, .string x12.Whole.Name, sl A85 x12.Whole.Fields c86] = y_ := ⟨_, rfl⟩
    have h115 : RepL R_migrate_Move F W l49 y113 := by rw [he111, ← hy114]; exact RepL.set h3 (List.getElem?_eq_getElem hl110) (fun vs_ hr_ _ => by obtain ⟨A117, c118, rfl, h119⟩ := dec_migrate_Move hr_; exact ⟨(enc_migrate_Move h87), Nat.le_of_ble_eq_true rfl⟩)
    refine ops_store (an := []) (evs := [.store ⟨g83, m98 * 10, none⟩ (vI x12.Do), .store ⟨g83, m98 * 10 + 1, none⟩ (.string x12.Kind), .store ⟨g83, m98 * 10 + 2, none⟩ (.string x12.Field), .store ⟨g83, m98 * 10 + 3, none⟩ (.string x12.Name), .store ⟨g83, m98 * 10 + 4, none⟩ (vI x12.Value), .store ⟨g83, m98 * 10 + 5, none⟩ (.string x12.New.Name), .store ⟨g83, m98 * 10 + 6, none⟩ (vI x12.New.Bits), .store ⟨g83, m98 * 10 + 7, none⟩ (vI x12.New.Low), .store ⟨g83, m98 * 10 + 8, none⟩ (.string x12.Whole.Name), .store ⟨g83, m98 * 10 + 9, none⟩ (sl A85 x12.Whole.Fields c86)]) ⟨by kernel_rfl⟩ (fun w_ hM hS => let ⟨w', he, h'⟩ := hM.ostore' 0 rfl (m98 * 10 + 0) [vI x12.Do, .string x12.Kind, .string x12.Field, .string x12.Name, vI x12.Value, .string x12.New.Name, vI x12.New.Bits, vI x12.New.Low, .string x12.Whole.Name, sl A85 x12.Whole.Fields c86] (by have z_ : y2.length = l1.length * 10 := h3.len; have y_ : (m98 + 1) * 10 ≤ l1.length * 10 := Nat.mul_le_mul_right _ hl110; rw [Nat.add_mul] at y_; simp only [List.length_cons, List.length_nil]; omega) hl112 hy114; ⟨w', he, h', (by exact h'.sub (.cons _ (.cons_cons _ (.refl _))))⟩) ?_
    refine ops_conv (l' := [(26, vP g83 (m98 * 10)), (25, .agg #[vI x25.Do, .string x25.Kind, .string x25.Field, .string x25.Name, vI x25.Value, .string x25.New.Name, vI x25.New.Bits, vI x25.New.Low, .string x25.Whole.Name, sl A95 x25.Whole.Fields c96]), (21, .agg #[vI x12.Do, .string x12.Kind, .string x12.Field, .string x12.Name, vI x12.Value, .string x12.New.Name, vI x12.New.Bits, vI x12.New.Low, .string x12.Whole.Name, sl A85 x12.Whole.Fields c86]), (17, vI i6), (16, sl (sa g83) l49 c_s), (0, sl (sa g83) l49 c_s), (2, vI i5), (3, vI i6)]) (M' := Mem w0 (ow (sa g83) l49 c_s 37 10 y113 :: Fz F W :: cs)) (by first | rfl | ((try dsimp only [sl, ow]); rw [hl112])) (fun w_ hM => by first | exact hM | ((try dsimp only [sl, ow] at hM ⊢); rw [hl112] at hM; exact hM)) ?_
    obtain ⟨m120, hm121, hx122⟩ := idx_some hv64
    have hl125 := (List.getElem?_eq_some_iff.1 hx122).1
    obtain ⟨vs123, hr124, hq126⟩ := h115.at_ m120 x63 hx122
    obtain ⟨A127, c128, rfl, h129⟩ := dec_migrate_Move hr124
    refine ops_val (op := (.indexAddr 23 (.tmp 16) (.tmp 17))) (d := some 27) (v := vP g83 (m120 * 10)) ⟨by kernel_rfl⟩ (run_indexRow Tryd.underlying23 (z := 10) (by kernel_rfl) rfl rfl hm121 hl125 rfl) ?_
    refine oQ [] [(27, vP g83 (m120 * 10)), (25, .agg #[vI x25.Do, .string x25.Kind, .string x25.Field, .string x25.Name, vI x25.Value, .string x25.New.Name, vI x25.New.Bits, vI x25.New.Low, .string x25.Whole.Name, sl A95 x25.Whole.Fields c96]), (0, sl (sa g83) l49 c_s), (2, vI i5), (3, vI i6)] (by kernel_rfl) ?_
    obtain ⟨m130, hm131, hl132, he133⟩ := upd_some hv76
    obtain rfl : m120 = m130 := by have := hm121; omega
    have hl134 : l49.length = l75.length := by rw [he133, List.length_set]
    obtain ⟨y135, hy136⟩ : ∃ y_, setAll y113 (m120 * 10 + 0) [vI x25.Do, .string x25.Kind, .string x25.Field, .string x25.Name, vI x25.Value, .string x25.New.Name, vI x25.New.Bits, vI x25.New.Low, .string x25.Whole.Name, sl A95 x25.Whole.Fields c96] = y_ := ⟨_, rfl⟩
    have h137 : RepL R_migrate_Move F W l75 y135 := by rw [he133, ← hy136]; exact RepL.set h115 (List.getElem?_eq_getElem hl132) (fun vs_ hr_ _ => by obtain ⟨A139, c140, rfl, h141⟩ := dec_migrate_Move hr_; exact ⟨(enc_migrate_Move h97), Nat.le_of_ble_eq_true rfl⟩)
    refine ops_store (an := []) (evs := [.store ⟨g83, m120 * 10, none⟩ (vI x25.Do), .store ⟨g83, m120 * 10 + 1, none⟩ (.string x25.Kind), .store ⟨g83, m120 * 10 + 2, none⟩ (.string x25.Field), .store ⟨g83, m120 * 10 + 3, none⟩ (.string x25.Name), .store ⟨g83, m120 * 10 + 4, none⟩ (vI x25.Value), .store ⟨g83, m120 * 10 + 5, none⟩ (.string x25.New.Name), .store ⟨g83, m120 * 10 + 6, none⟩ (vI x25.New.Bits), .store ⟨g83, m120 * 10 + 7, none⟩ (vI x25.New.Low), .store ⟨g83, m120 * 10 + 8, none⟩ (.string x25.Whole.Name), .store ⟨g83, m120 * 10 + 9, none⟩ (sl A95 x25.Whole.Fields c96)]) ⟨by kernel_rfl⟩ (fun w_ hM hS => let ⟨w', he, h'⟩ := hM.ostore' 0 rfl (m120 * 10 + 0) [vI x25.Do, .string x25.Kind, .string x25.Field, .string x25.Name, vI x25.Value, .string x25.New.Name, vI x25.New.Bits, vI x25.New.Low, .string x25.Whole.Name, sl A95 x25.Whole.Fields c96] (by have z_ : y113.length = l49.length * 10 := h115.len; have y_ : (m120 + 1) * 10 ≤ l49.length * 10 := Nat.mul_le_mul_right _ hl132; rw [Nat.add_mul] at y_; simp only [List.length_cons, List.length_nil]; omega) hl134 hy136; ⟨w', he, h', (by exact h'.sub (.cons _ (.cons_cons _ (.refl _))))⟩) ?_
    refine ops_conv (l' := [(27, vP g83 (m120 * 10)), (25, .agg #[vI x25.Do, .string x25.Kind, .string x25.Field, .string x25.Name, vI x25.Value, .string x25.New.Name, vI x25.New.Bits, vI x25.New.Low, .string x25.Whole.Name, sl A95 x25.Whole.Fields c96]), (0, sl (sa g83) l75 c_s), (2, vI i5), (3, vI i6)]) (M' := Mem w0 (ow (sa g83) l75 c_s 37 10 y135 :: Fz F W :: cs)) (by first | rfl | ((try dsimp only [sl, ow]); rw [hl134])) (fun w_ hM => by first | exact hM | ((try dsimp only [sl, ow] at hM ⊢); rw [hl134] at hM; exact hM)) ?_
    refine ops_nil (fin_block ?_)
    exact fin_join HJ2 (l75, y135) ⟨hp, h137, (hl134.symm.trans (hl112.symm.trans hl4))⟩ (look_has ⟨rfl, rfl, rfl, trivial⟩) (fun w_ hM => hM)
   ·
    refine tree_leaf ?_
    refine ops_mem (d := some 25) (an := [.v (vI x25.Do), .v (.string x25.Kind), .v (.string x25.Field), .v (.string x25.Name), .v (vI x25.Value), .v (.string x25.New.Name), .v (vI x25.New.Bits), .v (vI x25.New.Low), .v (.string x25.Whole.Name), .v (sl A95 x25.Whole.Fields c96)]) (evs := [.load ⟨g83, m88 * 10, none⟩ (vI x25.Do), .load ⟨g83, m88 * 10 + 1, none⟩ (.string x25.Kind), .load ⟨g83, m88 * 10 + 2, none⟩ (.string x25.Field), .load ⟨g83, m88 * 10 + 3, none⟩ (.string x25.Name), .load ⟨g83, m88 * 10 + 4, none⟩ (vI x25.Value), .load ⟨g83, m88 * 10 + 5, none⟩ (.string x25.New.Name), .load ⟨g83, m88 * 10 + 6, none⟩ (vI x25.New.Bits), .load ⟨g83, m88 * 10 + 7, none⟩ (vI x25.New.Low), .load ⟨g83, m88 * 10 + 8, none⟩ (.string x25.Whole.Name), .load ⟨g83, m88 * 10 + 9, none⟩ (sl A95 x25.Whole.Fields c96)]) (v := .agg #[vI x25.Do, .string x25.Kind, .string x25.Field, .string x25.Name, vI x25.Value, .string x25.New.Name, vI x25.New.Bits, vI x25.New.Low, .string x25.Whole.Name, sl A95 x25.Whole.Fields c96]) ⟨by kernel_rfl⟩ (fun w_ hM hS => ⟨w_, ⟨hM.ocell 0 rfl (hq94 0 _ rfl), hM.ocell 0 rfl (hq94 1 _ rfl), hM.ocell 0 rfl (hq94 2 _ rfl), hM.ocell 0 rfl (hq94 3 _ rfl), hM.ocell 0 rfl (hq94 4 _ rfl), hM.ocell 0 rfl (hq94 5 _ rfl), hM.ocell 0 rfl (hq94 6 _ rfl), hM.ocell 0 rfl (hq94 7 _ rfl), hM.ocell 0 rfl (hq94 8 _ rfl), hM.ocell 0 rfl (hq94 9 _ rfl), rfl⟩, hM, hS⟩) ?_
    refine ops_mem (d := some 21) (an := [.v (vI x12.Do), .v (.string x12.Kind), .v (.string x12.Field), .v (.string x12.Name), .v (vI x12.Value), .v (.string x12.New.Name), .v (vI x12.New.Bits), .v (vI x12.New.Low), .v (.string x12.Whole.Name), .v (sl A85 x12.Whole.Fields c86)]) (evs := [.load ⟨g83, m77 * 10, none⟩ (vI x12.Do), .load ⟨g83, m77 * 10 + 1, none⟩ (.string x12.Kind), .load ⟨g83, m77 * 10 + 2, none⟩ (.string x12.Field), .load ⟨g83, m77 * 10 + 3, none⟩ (.string x12.Name), .load ⟨g83, m77 * 10 + 4, none⟩ (vI x12.Value), .load ⟨g83, m77 * 10 + 5, none⟩ (.string x12.New.Name), .load ⟨g83, m77 * 10 + 6, none⟩ (vI x12.New.Bits), .load ⟨g83, m77 * 10 + 7, none⟩ (vI x12.New.Low), .load ⟨g83, m77 * 10 + 8, none⟩ (.string x12.Whole.Name), .load ⟨g83, m77 * 10 + 9, none⟩ (sl A85 x12.Whole.Fields c86)]) (v := .agg #[vI x12.Do, .string x12.Kind, .string x12.Field, .string x12.Name, vI x12.Value, .string x12.New.Name, vI x12.New.Bits, vI x12.New.Low, .string x12.Whole.Name, sl A85 x12.Whole.Fields c86]) ⟨by kernel_rfl⟩ (fun w_ hM hS => ⟨w_, ⟨hM.ocell 0 rfl (hq84 0 _ rfl), hM.ocell 0 rfl (hq84 1 _ rfl), hM.ocell 0 rfl (hq84 2 _ rfl), hM.ocell 0 rfl (hq84 3 _ rfl), hM.ocell 0 rfl (hq84 4 _ rfl), hM.ocell 0 rfl (hq84 5 _ rfl), hM.ocell 0 rfl (hq84 6 _ rfl), hM.ocell 0 rfl (hq84 7 _ rfl), hM.ocell 0 rfl (hq84 8 _ rfl), hM.ocell 0 rfl (hq84 9 _ rfl), rfl⟩, hM, hS⟩) ?_
    obtain ⟨m142, hm143, hx144⟩ := idx_some hv38
    have hl147 := (List.getElem?_eq_some_iff.1 hx144).1
    obtain ⟨vs145, hr146, hq148⟩ := h3.at_ m142 x37 hx144
    obtain ⟨A149, c150, rfl, h151⟩ := dec_migrate_Move hr146
    refine ops_val (op := (.indexAddr 23 (.tmp 14) (.tmp 15))) (d := some 26) (v := vP g83 (m142 * 10)) ⟨by kernel_rfl⟩ (run_indexRow Tryd.underlying23 (z := 10) (by kernel_rfl) rfl rfl hm143 hl147 rfl) ?_
    refine oQ [] [(26, vP g83 (m142 * 10)), (21, .agg #[vI x12.Do, .string x12.Kind, .string x12.Field, .string x12.Name, vI x12.Value, .string x12.New.Name, vI x12.New.Bits, vI x12.New.Low, .string x12.Whole.Name, sl A85 x12.Whole.Fields c86]), (25, .agg #[vI x25.Do, .string x25.Kind, .string x25.Field, .string x25.Name, vI x25.Value, .string x25.New.Name, vI x25.New.Bits, vI x25.New.Low, .string x25.Whole.Name, sl A95 x25.Whole.Fields c96]), (17, vI i6), (16, sl (sa g83) l1 c_s), (0, sl (sa g83) l1 c_s), (2, vI i5), (3, vI i6)] (by kernel_rfl) ?_
    obtain ⟨m152, hm153, hl154, he155⟩ := upd_some hv50
    obtain rfl : m142 = m152 := by have := hm143; omega
    have hl156 : l1.length = l49.length := by rw [he155, List.length_set]
    obtain ⟨y157, hy158⟩ : ∃ y_, setAll y2 (m142 * 10 + 0) [vI x12.Do, .string x12.Kind, .string x12.Field, .string x12.Name, vI x12.Value, .string x12.New.Name, vI x12.New.Bits, vI x12.New.Low, .string x12.Whole.Name, sl A85 x12.Whole.Fields c86] = y_ := ⟨_, rfl⟩
    have h159 : RepL R_migrate_Move F W l49 y157 := by rw [he155, ← hy158]; exact RepL.set h3 (List.getElem?_eq_getElem hl154) (fun vs_ hr_ _ => by obtain ⟨A161, c162, rfl, h163⟩ := dec_migrate_Move hr_; exact ⟨(enc_migrate_Move h87), Nat.le_of_ble_eq_true rfl⟩)
    refine ops_store (an := []) (evs := [.store ⟨g83, m142 * 10, none⟩ (vI x12.Do), .store ⟨g83, m142 * 10 + 1, none⟩ (.string x12.Kind), .store ⟨g83, m142 * 10 + 2, none⟩ (.string x12.Field), .store ⟨g83, m142 * 10 + 3, none⟩ (.string x12.Name), .store ⟨g83, m142 * 10 + 4, none⟩ (vI x12.Value), .store ⟨g83, m142 * 10 + 5, none⟩ (.string x12.New.Name), .store ⟨g83, m142 * 10 + 6, none⟩ (vI x12.New.Bits), .store ⟨g83, m142 * 10 + 7, none⟩ (vI x12.New.Low), .store ⟨g83, m142 * 10 + 8, none⟩ (.string x12.Whole.Name), .store ⟨g83, m142 * 10 + 9, none⟩ (sl A85 x12.Whole.Fields c86)]) ⟨by kernel_rfl⟩ (fun w_ hM hS => let ⟨w', he, h'⟩ := hM.ostore' 0 rfl (m142 * 10 + 0) [vI x12.Do, .string x12.Kind, .string x12.Field, .string x12.Name, vI x12.Value, .string x12.New.Name, vI x12.New.Bits, vI x12.New.Low, .string x12.Whole.Name, sl A85 x12.Whole.Fields c86] (by have z_ : y2.length = l1.length * 10 := h3.len; have y_ : (m142 + 1) * 10 ≤ l1.length * 10 := Nat.mul_le_mul_right _ hl154; rw [Nat.add_mul] at y_; simp only [List.length_cons, List.length_nil]; omega) hl156 hy158; ⟨w', he, h', (by exact h'.sub (.cons _ (.cons_cons _ (.refl _))))⟩) ?_
    refine ops_conv (l' := [(26, vP g83 (m142 * 10)), (21, .agg #[vI x12.Do, .string x12.Kind, .string x12.Field, .string x12.Name, vI x12.Value, .string x12.New.Name, vI x12.New.Bits, vI x12.New.Low, .string x12.Whole.Name, sl A85 x12.Whole.Fields c86]), (25, .agg #[vI x25.Do, .string x25.Kind, .string x25.Field, .string x25.Name, vI x25.Value, .string x25.New.Name, vI x25.New.Bits, vI x25.New.Low, .string x25.Whole.Name, sl A95 x25.Whole.Fields c96]), (17, vI i6), (16, sl (sa g83) l49 c_s), (0, sl (sa g83) l49 c_s), (2, vI i5), (3, vI i6)]) (M' := Mem w0 (ow (sa g83) l49 c_s 37 10 y157 :: Fz F W :: cs)) (by first | rfl | ((try dsimp only [sl, ow]); rw [hl156])) (fun w_ hM => by first | exact hM | ((try dsimp only [sl, ow] at hM ⊢); rw [hl156] at hM; exact hM)) ?_
    obtain ⟨m164, hm165, hx166⟩ := idx_some hv64
    have hl169 := (List.getElem?_eq_some_iff.1 hx166).1
    obtain ⟨vs167, hr168, hq170⟩ := h159.at_ m164 x63 hx166
    obtain ⟨A171, c172, rfl, h173⟩ := dec_migrate_Move hr168
    refine ops_val (op := (.indexAddr 23 (.tmp 16) (.tmp 17))) (d := some 27) (v := vP g83 (m164 * 10)) ⟨by kernel_rfl⟩ (run_indexRow Tryd.underlying23 (z := 10) (by kernel_rfl) rfl rfl hm165 hl169 rfl) ?_
    refine oQ [] [(27, vP g83 (m164 * 10)), (25, .agg #[vI x25.Do, .string x25.Kind, .string x25.Field, .string x25.Name, vI x25.Value, .string x25.New.Name, vI x25.New.Bits, vI x25.New.Low, .string x25.Whole.Name, sl A95 x25.Whole.Fields c96]), (0, sl (sa g83) l49 c_s), (2, vI i5), (3, vI i6)] (by kernel_rfl) ?_
    obtain ⟨m174, hm175, hl176, he177⟩ := upd_some hv76
    obtain rfl : m164 = m174 := by have := hm165; omega
    have hl178 : l49.length = l75.length := by rw [he177, List.length_set]
    obtain ⟨y179, hy180⟩ : ∃ y_, setAll y157 (m164 * 10 + 0) [vI x25.Do, .string x25.Kind, .string x25.Field, .string x25.Name, vI x25.Value, .string x25.New.Name, vI x25.New.Bits, vI x25.New.Low, .string x25.Whole.Name, sl A95 x25.Whole.Fields c96] = y_ := ⟨_, rfl⟩
    have h181 : RepL R_migrate_Move F W l75 y179 := by rw [he177, ← hy180]; exact RepL.set h159 (List.getElem?_eq_getElem hl176) (fun vs_ hr_ _ => by obtain ⟨A183, c184, rfl, h185⟩ := dec_migrate_Move hr_; exact ⟨(enc_migrate_Move h97), Nat.le_of_ble_eq_true rfl⟩)
    refine ops_store (an := []) (evs := [.store ⟨g83, m164 * 10, none⟩ (vI x25.Do), .store ⟨g83, m164 * 10 + 1, none⟩ (.string x25.Kind), .store ⟨g83, m164 * 10 + 2, none⟩ (.string x25.Field), .store ⟨g83, m164 * 10 + 3, none⟩ (.string x25.Name), .store ⟨g83, m164 * 10 + 4, none⟩ (vI x25.Value), .store ⟨g83, m164 * 10 + 5, none⟩ (.string x25.New.Name), .store ⟨g83, m164 * 10 + 6, none⟩ (vI x25.New.Bits), .store ⟨g83, m164 * 10 + 7, none⟩ (vI x25.New.Low), .store ⟨g83, m164 * 10 + 8, none⟩ (.string x25.Whole.Name), .store ⟨g83, m164 * 10 + 9, none⟩ (sl A95 x25.Whole.Fields c96)]) ⟨by kernel_rfl⟩ (fun w_ hM hS => let ⟨w', he, h'⟩ := hM.ostore' 0 rfl (m164 * 10 + 0) [vI x25.Do, .string x25.Kind, .string x25.Field, .string x25.Name, vI x25.Value, .string x25.New.Name, vI x25.New.Bits, vI x25.New.Low, .string x25.Whole.Name, sl A95 x25.Whole.Fields c96] (by have z_ : y157.length = l49.length * 10 := h159.len; have y_ : (m164 + 1) * 10 ≤ l49.length * 10 := Nat.mul_le_mul_right _ hl176; rw [Nat.add_mul] at y_; simp only [List.length_cons, List.length_nil]; omega) hl178 hy180; ⟨w', he, h', (by exact h'.sub (.cons _ (.cons_cons _ (.refl _))))⟩) ?_
    refine ops_conv (l' := [(27, vP g83 (m164 * 10)), (25, .agg #[vI x25.Do, .string x25.Kind, .string x25.Field, .string x25.Name, vI x25.Value, .string x25.New.Name, vI x25.New.Bits, vI x25.New.Low, .string x25.Whole.Name, sl A95 x25.Whole.Fields c96]), (0, sl (sa g83) l75 c_s), (2, vI i5), (3, vI i6)]) (M' := Mem w0 (ow (sa g83) l75 c_s 37 10 y179 :: Fz F W :: cs)) (by first | rfl | ((try dsimp only [sl, ow]); rw [hl178])) (fun w_ hM => by first | exact hM | ((try dsimp only [sl, ow] at hM ⊢); rw [hl178] at hM; exact hM)) ?_
    refine ops_nil (fin_block ?_)
    exact fin_join HJ2 (l75, y179) ⟨hp, h181, (hl178.symm.trans (hl156.symm.trans hl4))⟩ (look_has ⟨rfl, rfl, rfl, trivial⟩) (fun w_ hM => hM)
 ·
  have hp := cnd_f hc7 hp
  refine st_exit (fin_exit_then (fin_exit_then (fin_exit ?_)))
  obtain hq_ := Option.some.inj hp
  subst hq_
  obtain hq_ := hd1 _ rfl
  subst hq_
  have hp : some l1 = some l9001 := hk1
  have hq_ := Option.some.inj hp
  have hr0_ := hq_
  subst hr0_
  refine fin_ret [] [] rfl rfl (fun w_ hM => .nil) (fun w_ hM => ?_)
  exact ⟨y2, ⟨h3, hl4⟩, rfl, hM⟩
end Go.Proofs.YtnnhijlgohlaeaaDoor.A
