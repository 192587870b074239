/- The Go functions come to what the plain functions tell. No condition. -/
import Derived.Test.YtbfndcookgijfaaGreatDoorProg
import Derived.Test.YtbfndcookgijfaaGreatDoorFnW
import Derived.Test.YtbfndcookgijfaaGreatDoorWkW5
import Derived.Test.YtbfndcookgijfaaGreatDoorWkW8
import Derived.Test.YtbfndcookgijfaaGreatDoorWkW9
import Derived.Test.YtbfndcookgijfaaGreatDoorExMap
namespace Go.Proofs.YtbfndcookgijfaaGreatDoor.W
open Go Go.RowKit Go.Proofs.YtbfndcookgijfaaGreatDoor.Sx
set_option linter.unusedVariables false
set_option maxHeartbeats 4000000
set_option maxRecDepth 100000
theorem tourref3_Flat_Close_ok (w0 w : World) (cs : List Chunk) (F : Nat → Prop) (W : World) (b_f : Nat) (A_f_0 : Option Addr) (c_f_0 : Nat) (f_0 : List api_Kind) (A_f_1 : Option Addr) (c_f_1 : Nat) (f_1 : List Int) (y_f_1 : List Value) (b_f_2 : Nat) (es_f_2 : Array MapEntry) (ck_f_2 : Nat) (f_2 : List (Int × (Option (List (Int × (List Int)))))) (hM0 : Mem w0 (.blk b_f [sl A_f_0 f_0 c_f_0, sl A_f_1 f_1 c_f_1, .map (some b_f_2)] 96 :: ow A_f_1 f_1 c_f_1 3 1 y_f_1 :: .obj b_f_2 (.map es_f_2 ck_f_2) :: Fz F W :: cs) w) (h_f_0 : RdS R_api_Kind F W A_f_0 c_f_0 f_0) (h_f_1 : RepL (Rep.int .i64) F W f_1 y_f_1) (h_f_2 : MapOK (fun x_ : Int => Value.int .i64 x_) (Rep.map (fun x_ : Int => Value.int .i64 x_) (Rep.sl (Rep.int .i64)) false) false F W f_2 es_f_2 ck_f_2) (l9003 : List api_Kind) (l9008 : List Int) (l9013 : List api_Item) (hp : tourref3_Flat_Close f_0 f_1 f_2 = some (l9003, l9008, l9013)) : Calls Tryz.prog 52 #[vP b_f 0] w fun e w' => ∃ (A9001 : Option Addr), ∃ (c9002 : Nat), ∃ (y9004 : List Value), ∃ (A9006 : Option Addr), ∃ (c9007 : Nat), ∃ (y9009 : List Value), ∃ (A9011 : Option Addr), ∃ (c9012 : Nat), ∃ (y9014 : List Value), ∃ (y9017 : List Value), ∃ (es9019 : Array MapEntry), ∃ (ck9020 : Nat), ∃ (F9022 : Nat → Prop), ∃ (W9023 : World), ((RepL R_api_Kind F9022 W9023 l9003 y9004) ∧ (RepL (Rep.int .i64) F9022 W9023 l9008 y9009) ∧ (RepL R_api_Item F9022 W9023 l9013 y9014) ∧ (RdS R_api_Kind F9022 W9023 A_f_0 c_f_0 f_0) ∧ (RepL (Rep.int .i64) F9022 W9023 f_1 y9017) ∧ (MapOK (fun x_ : Int => Value.int .i64 x_) (Rep.map (fun x_ : Int => Value.int .i64 x_) (Rep.sl (Rep.int .i64)) false) false F9022 W9023 f_2 es9019 ck9020) ∧ (Ext w0 F W F9022 W9023)) ∧ e = .returned (.agg #[sl A9001 l9003 c9002, sl A9006 l9008 c9007, sl A9011 l9013 c9012]) ∧ Mem w0 (ow A9001 l9003 c9002 86 2 y9004 :: ow A9006 l9008 c9007 3 1 y9009 :: ow A9011 l9013 c9012 61 3 y9014 :: .blk b_f [sl A_f_0 f_0 c_f_0, sl A_f_1 f_1 c_f_1, .map (some b_f_2)] 96 :: ow A_f_1 f_1 c_f_1 3 1 y9017 :: .obj b_f_2 (.map es9019 ck9020) :: Fz F9022 W9023 :: cs) w' := by
 unfold tourref3_Flat_Close at hp
 refine sx_calls Tryz.func52 rfl (n := 67) (by kernel_rfl) (l := [(0, vP b_f 0)]) rfl (by rfl) hM0 ?_
 refine st_seq (st_region [oF 0] (by rfl) ?_)
 refine ops_newB (d := some 2) [.slice none 0 0, .slice none 0 0, .slice none 0 0] 26 (fun b1 => ⟨by kernel_rfl⟩) (fun w_ hM hS => trivial) (fun b1 => ?_)
 refine ops_nil (fin_then (st_seq (st_region [oF 0, oF 1, oF 2, oF 3, oF 4, oF 5, oF 6, oF 7] (by rfl) ?_)))
 refine oQ [oF 0, oF 1, oF 2] [(11, vP b_f 1), (2, vP b1 0), (0, vP b_f 0)] (by kernel_rfl) ?_
 refine ops_mem (d := some 12) (an := [.v (sl A_f_1 f_1 c_f_1)]) (evs := [ld b_f 1 (sl A_f_1 f_1 c_f_1)]) (v := sl A_f_1 f_1 c_f_1) ⟨by kernel_rfl⟩ (fun w_ hM hS => ⟨w_, ⟨hM.cell 1 rfl rfl, rfl⟩, hM, trivial⟩) ?_
 obtain ⟨x2, hv3, hp⟩ := obind hp
 refine ops_callI (σ := (Option Addr) × Nat × (List Value)) (d := some 13) (f := 49) (args := #[sl A_f_1 f_1 c_f_1]) (v := (fun x_ => match x_ with | (A4, c5, y6) => sl A4 x2 c5)) (I := (fun x_ => match x_ with | (A4, c5, y6) => (RepL (Rep.int .i64) F W x2 y6))) (M' := (fun x_ => match x_ with | (A4, c5, y6) => Mem w0 (ow A4 x2 c5 3 1 y6 :: .blk b1 [.slice none 0 0, .slice none 0 0, .slice none 0 0] 26 :: .blk b_f [sl A_f_0 f_0 c_f_0, sl A_f_1 f_1 c_f_1, .map (some b_f_2)] 96 :: ow A_f_1 f_1 c_f_1 3 1 y_f_1 :: .obj b_f_2 (.map es_f_2 ck_f_2) :: Fz F W :: cs))) ⟨by kernel_rfl⟩ (fun w_ hM hS => (slices_Clone_int_int_ok w_ w_ [] (fun b => b < w_.heap.size) w_ A_f_1 c_f_1 f_1 (Mem.fz0 w_) (hM.ordS 2 4 rfl rfl h_f_1 rfl rfl) x2 hv3).mono (by rintro e w' ⟨A4, c5, y6, h7, rfl, h'⟩; have h' : Mem w_ [ow A4 x2 c5 3 1 y6] w' := h'.pick 2 [0] (by kernel_rfl) (by decide) rfl; exact ⟨(A4, c5, y6), (RepL.move' (fun h => h) h7), rfl, hM.join h' rfl, trivial⟩)) ?_
 rintro ⟨A4, c5, y6⟩ h7
 refine oQ [oF 5] [(14, .agg #[.slice none 0 0, sl A4 x2 c5, .slice none 0 0]), (2, vP b1 0), (0, vP b_f 0)] (by kernel_rfl) ?_
 refine ops_newB (d := some 3) [.slice none 0 0, .slice none 0 0, .slice none 0 0] 26 (fun b8 => ⟨by kernel_rfl⟩) (fun w_ hM hS => trivial) (fun b8 => ?_)
 refine ops_store (an := []) (evs := [sr b8 0 (.slice none 0 0), sr b8 1 (sl A4 x2 c5), sr b8 2 (.slice none 0 0)]) ⟨by kernel_rfl⟩ (fun w_ hM hS => let ⟨w', he, h'⟩ := hM.evs_stores [.slice none 0 0, sl A4 x2 c5, .slice none 0 0] 0 rfl 0 (Nat.le_of_ble_eq_true rfl); ⟨w', he, h', trivial⟩) ?_
 refine ops_nil (fin_then ?_)
 refine st_join1 (σ := (Option Addr) × Nat × (List Value) × (List Value) × (List Value) × (Option Addr) × Nat × (List api_Kind) × (List Value) × (List Value) × (Nat → Prop) × World) (L := fun x_ => match x_ with | (A9, c10, y11, y13, y15, A17, c18, l19, y20, y22, F24, W25) => [(0, vP b_f 0), (2, vP b1 0), (3, vP b8 0)]) (N := fun x_ => match x_ with | (A9, c10, y11, y13, y15, A17, c18, l19, y20, y22, F24, W25) => Mem w0 (.blk b_f [sl A_f_0 f_0 c_f_0, sl A_f_1 f_1 c_f_1, .map (some b_f_2)] 96 :: ow A_f_1 f_1 c_f_1 3 1 y_f_1 :: .obj b_f_2 (.map es_f_2 ck_f_2) :: .blk b1 [sl A9 ([] : List api_Kind) c10, sl A9 ([] : List Int) c10, sl A9 ([] : List api_Item) c10] 26 :: ow A9 ([] : List api_Kind) c10 86 2 y11 :: ow A9 ([] : List Int) c10 3 1 y13 :: ow A9 ([] : List api_Item) c10 61 3 y15 :: .blk b8 [sl A17 l19 c18, sl A4 x2 c5, sl A9 ([] : List api_Item) c10] 26 :: ow A17 l19 c18 86 2 y20 :: ow A4 x2 c5 3 1 y6 :: ow A9 ([] : List api_Item) c10 61 3 y22 :: Fz F24 W25 :: cs)) (I := fun x_ => match x_ with | (A9, c10, y11, y13, y15, A17, c18, l19, y20, y22, F24, W25) => ((tourref3_Flat_Close_j1 f_1 f_2 x2) l19 = some (l9003, l9008, l9013)) ∧ (RepL R_api_Kind F24 W25 ([] : List api_Kind) y11) ∧ (RepL (Rep.int .i64) F24 W25 ([] : List Int) y13) ∧ (RepL R_api_Item F24 W25 ([] : List api_Item) y15) ∧ (RepL R_api_Kind F24 W25 l19 y20) ∧ (RepL R_api_Item F24 W25 ([] : List api_Item) y22) ∧ (Ext w0 F W F24 W25)) ?_ ?_
 ·
  rintro ⟨A9, c10, y11, y13, y15, A17, c18, l19, y20, y22, F24, W25⟩ ⟨hp, h12, h14, h16, h21, h23, hx1⟩
  have h_f_0 := h_f_0.ext hx1
  have h_f_1 := h_f_1.ext hx1
  have h_f_2 := h_f_2.ext hx1
  have h7 := h7.ext hx1
  unfold tourref3_Flat_Close_j1 at hp
  refine st_join1 (σ := (Option Addr) × Nat × (List api_Item) × (List Value) × (Nat → Prop) × World) (L := fun x_ => match x_ with | (A26, c27, l28, y29, F31, W32) => [(2, vP b1 0), (3, vP b8 0)]) (N := fun x_ => match x_ with | (A26, c27, l28, y29, F31, W32) => Mem w0 (.blk b1 [sl A9 ([] : List api_Kind) c10, sl A9 ([] : List Int) c10, sl A9 ([] : List api_Item) c10] 26 :: ow A9 ([] : List api_Kind) c10 86 2 y11 :: ow A9 ([] : List Int) c10 3 1 y13 :: ow A9 ([] : List api_Item) c10 61 3 y15 :: .blk b8 [sl A17 l19 c18, sl A4 x2 c5, sl A26 l28 c27] 26 :: ow A17 l19 c18 86 2 y20 :: ow A4 x2 c5 3 1 y6 :: ow A26 l28 c27 61 3 y29 :: .blk b_f [sl A_f_0 f_0 c_f_0, sl A_f_1 f_1 c_f_1, .map (some b_f_2)] 96 :: ow A_f_1 f_1 c_f_1 3 1 y_f_1 :: .obj b_f_2 (.map es_f_2 ck_f_2) :: Fz F31 W32 :: cs)) (I := fun x_ => match x_ with | (A26, c27, l28, y29, F31, W32) => ((tourref3_Flat_Close_j2 l19 x2) l28 = some (l9003, l9008, l9013)) ∧ (RepL R_api_Item F31 W32 l28 y29) ∧ (Ext w0 F24 W25 F31 W32)) ?_ ?_
  ·
   rintro ⟨A26, c27, l28, y29, F31, W32⟩ ⟨hp, h30, hx2⟩
   have h12 := h12.ext hx2
   have h14 := h14.ext hx2
   have h16 := h16.ext hx2
   have h21 := h21.ext hx2
   have h7 := h7.ext hx2
   have h_f_0 := h_f_0.ext hx2
   have h_f_1 := h_f_1.ext hx2
   have h_f_2 := h_f_2.ext hx2
   unfold tourref3_Flat_Close_j2 at hp
   refine st_seq (st_region [oF 0, oF 1] (by rfl) ?_)
   refine ops_mem (d := some 66) (an := [.v (sl A17 l19 c18), .v (sl A4 x2 c5), .v (sl A26 l28 c27)]) (evs := [ld b8 0 (sl A17 l19 c18), ld b8 1 (sl A4 x2 c5), ld b8 2 (sl A26 l28 c27)]) (v := .agg #[sl A17 l19 c18, sl A4 x2 c5, sl A26 l28 c27]) ⟨by kernel_rfl⟩ (fun w_ hM hS => ⟨w_, ⟨hM.cell 4 rfl rfl, hM.cell 4 rfl rfl, hM.cell 4 rfl rfl, rfl⟩, hM, trivial⟩) ?_
   refine ops_store (an := []) (evs := [sr b1 0 (sl A17 l19 c18), sr b1 1 (sl A4 x2 c5), sr b1 2 (sl A26 l28 c27)]) ⟨by kernel_rfl⟩ (fun w_ hM hS => let ⟨w', he, h'⟩ := hM.evs_stores [sl A17 l19 c18, sl A4 x2 c5, sl A26 l28 c27] 0 rfl 0 (Nat.le_of_ble_eq_true rfl); ⟨w', he, h', trivial⟩) ?_
   refine ops_nil (fin_then (st_ret ?_))
   have hq_ := Option.some.inj hp
   obtain ⟨hr0_, hq_⟩ := Prod.mk.inj hq_
   obtain ⟨hr1_, hq_⟩ := Prod.mk.inj hq_
   have hr2_ := hq_
   subst hr0_
   subst hr1_
   subst hr2_
   refine fin_ret [.cell 2 26] [.agg #[sl A17 l19 c18, sl A4 x2 c5, sl A26 l28 c27]] rfl rfl (fun w_ hM => (.cell rfl (tr_run _ [.v (sl A17 l19 c18), .v (sl A4 x2 c5), .v (sl A26 l28 c27)] [ld b1 0 (sl A17 l19 c18), ld b1 1 (sl A4 x2 c5), ld b1 2 (sl A26 l28 c27)] (.agg #[sl A17 l19 c18, sl A4 x2 c5, sl A26 l28 c27] : Value) _ _ (by kernel_rfl) ⟨hM.cell 0 rfl rfl, hM.cell 0 rfl rfl, hM.cell 0 rfl rfl, rfl⟩) .nil)) (fun w_ hM => ?_)
   exact ⟨A17, c18, y20, A4, c5, y6, A26, c27, y29, y_f_1, es_f_2, ck_f_2, F31, W32, ⟨h21, h7, h30, h_f_0, h_f_1, h_f_2, (hx1.trans hx2)⟩, rfl, hM.pick 12 [5, 6, 7, 8, 9, 10, 11] (by kernel_rfl) (by decide) rfl⟩
  ·
   intro HJ2
   refine st_seq (st_seq (st_region [oF 0, oF 1, oF 2, oF 3, oF 4, oF 5] (by rfl) ?_))
   refine oQ [oF 0, oF 1, oF 2] [(38, vP b_f 1), (0, vP b_f 0), (2, vP b1 0), (3, vP b8 0)] (by kernel_rfl) ?_
   refine ops_mem (d := some 39) (an := [.v (sl A_f_1 f_1 c_f_1)]) (evs := [ld b_f 1 (sl A_f_1 f_1 c_f_1)]) (v := sl A_f_1 f_1 c_f_1) ⟨by kernel_rfl⟩ (fun w_ hM hS => ⟨w_, ⟨hM.cell 0 rfl rfl, rfl⟩, hM, trivial⟩) ?_
   refine oQ [oF 4, oF 5] [(41, vI 0), (40, vI (f_1.length : Int)), (39, sl A_f_1 f_1 c_f_1), (0, vP b_f 0), (2, vP b1 0), (3, vP b8 0)] (by kernel_rfl) ?_
   refine ops_nil (fin_then (st_block ?_))
   obtain ⟨r3, hl3, hk3⟩ := obind hp
   refine st_loopP (σ := (List api_Item) × Int) (ρ := (List api_Item)) (γ := (Option Addr) × Nat × (List Value) × (Nat → Prop) × World) hl3 (A9, c10, y22, F24, W25) (fun s_ g_ => match s_, g_ with | (l35, i38), (A33, c34, y36, F39, W40) => [(0, vP b_f 0), (2, vP b1 0), (3, vP b8 0), (39, sl A_f_1 f_1 c_f_1), (40, vI (f_1.length : Int)), (41, vI i38)]) (fun s_ g_ => match s_, g_ with | (l35, i38), (A33, c34, y36, F39, W40) => Mem w0 (.blk b_f [sl A_f_0 f_0 c_f_0, sl A_f_1 f_1 c_f_1, .map (some b_f_2)] 96 :: ow A_f_1 f_1 c_f_1 3 1 y_f_1 :: .obj b_f_2 (.map es_f_2 ck_f_2) :: .blk b1 [sl A9 ([] : List api_Kind) c10, sl A9 ([] : List Int) c10, sl A9 ([] : List api_Item) c10] 26 :: ow A9 ([] : List api_Kind) c10 86 2 y11 :: ow A9 ([] : List Int) c10 3 1 y13 :: ow A9 ([] : List api_Item) c10 61 3 y15 :: .blk b8 [sl A17 l19 c18, sl A4 x2 c5, sl A33 l35 c34] 26 :: ow A17 l19 c18 86 2 y20 :: ow A4 x2 c5 3 1 y6 :: ow A33 l35 c34 61 3 y36 :: Fz F39 W40 :: cs)) (fun s_ g_ => match s_, g_ with | (l35, i38), (A33, c34, y36, F39, W40) => (RepL R_api_Item F39 W40 l35 y36) ∧ (Ext w0 F24 W25 F39 W40)) ⟨h23, (Ext.refl _ _ _)⟩ (look_has ⟨rfl, rfl, rfl, rfl, rfl, rfl, trivial⟩) (fun w_ hM => hM) ?_
   rintro ⟨l35, i38⟩ ⟨A33, c34, y36, F39, W40⟩ o3 ⟨h37, hx3⟩ hs_ hd3
   have hp : (tourref3_Flat_Close_l3 f_1 f_2) l35 i38 = some o3 := hs_
   clear hs_
   unfold tourref3_Flat_Close_l3 at hp
   have h_f_0 := h_f_0.ext hx3
   have h_f_1 := h_f_1.ext hx3
   have h_f_2 := h_f_2.ext hx3
   have h12 := h12.ext hx3
   have h14 := h14.ext hx3
   have h16 := h16.ext hx3
   have h21 := h21.ext hx3
   have h7 := h7.ext hx3
   refine st_seq (st_region [oF 0] (by rfl) ?_)
   refine oQ [oF 0] [(42, .bool (decide (i38 < (f_1.length : Int)))), (0, vP b_f 0), (2, vP b1 0), (3, vP b8 0), (39, sl A_f_1 f_1 c_f_1), (40, vI (f_1.length : Int)), (41, vI i38)] (by kernel_rfl) ?_
   refine ops_nil (fin_then (st_seq ?_))
   refine st_if (b := decide (i38 < (f_1.length : Int))) rfl (fun hc41 => ?_) (fun hc41 => ?_)
   ·
    have hp := cnd_t hc41 hp
    refine st_skip (fin_then ?_)
    refine st_join1 (σ := (Option Addr) × Nat × (List api_Item) × (List Value) × (Nat → Prop) × World) (L := fun x_ => match x_ with | (A42, c43, l44, y45, F47, W48) => [(0, vP b_f 0), (2, vP b1 0), (3, vP b8 0), (39, sl A_f_1 f_1 c_f_1), (40, vI (f_1.length : Int)), (41, vI i38)]) (N := fun x_ => match x_ with | (A42, c43, l44, y45, F47, W48) => Mem w0 (.blk b_f [sl A_f_0 f_0 c_f_0, sl A_f_1 f_1 c_f_1, .map (some b_f_2)] 96 :: ow A_f_1 f_1 c_f_1 3 1 y_f_1 :: .obj b_f_2 (.map es_f_2 ck_f_2) :: .blk b1 [sl A9 ([] : List api_Kind) c10, sl A9 ([] : List Int) c10, sl A9 ([] : List api_Item) c10] 26 :: ow A9 ([] : List api_Kind) c10 86 2 y11 :: ow A9 ([] : List Int) c10 3 1 y13 :: ow A9 ([] : List api_Item) c10 61 3 y15 :: .blk b8 [sl A17 l19 c18, sl A4 x2 c5, sl A42 l44 c43] 26 :: ow A17 l19 c18 86 2 y20 :: ow A4 x2 c5 3 1 y6 :: ow A42 l44 c43 61 3 y45 :: Fz F47 W48 :: cs)) (I := fun x_ => match x_ with | (A42, c43, l44, y45, F47, W48) => ((tourref3_Flat_Close_j4 i38) l44 = some o3) ∧ (RepL R_api_Item F47 W48 l44 y45) ∧ (Ext w0 F39 W40 F47 W48)) ?_ ?_
    ·
     rintro ⟨A42, c43, l44, y45, F47, W48⟩ ⟨hp, h46, hx4⟩
     have h_f_0 := h_f_0.ext hx4
     have h_f_1 := h_f_1.ext hx4
     have h_f_2 := h_f_2.ext hx4
     have h12 := h12.ext hx4
     have h14 := h14.ext hx4
     have h16 := h16.ext hx4
     have h21 := h21.ext hx4
     have h7 := h7.ext hx4
     unfold tourref3_Flat_Close_j4 at hp
     refine st_region [oF 0, oF 1] (by rfl) ?_
     refine oQ [oF 0, oF 1] [(41, vI (IntKind.i64.wrap (i38 + 1))), (0, vP b_f 0), (2, vP b1 0), (3, vP b8 0), (39, sl A_f_1 f_1 c_f_1), (40, vI (f_1.length : Int))] (by kernel_rfl) ?_
     refine ops_nil ?_
     exact fin_again (l44, IntKind.i64.wrap (i38 + 1)) (A42, c43, y45, F47, W48) (Option.some.inj hp).symm ⟨h46, (hx3.trans hx4)⟩ (look_has ⟨rfl, rfl, rfl, rfl, rfl, rfl, trivial⟩) (fun w_ hM => hM)
    ·
     intro HJ4
     refine st_seq (st_block (st_seq (st_region [oF 0, oF 1, oF 2, oF 3, oF 4] (by rfl) ?_)))
     refine oQ [oF 0] [(43, vI i38), (0, vP b_f 0), (2, vP b1 0), (3, vP b8 0), (39, sl A_f_1 f_1 c_f_1), (40, vI (f_1.length : Int)), (41, vI i38)] (by kernel_rfl) ?_
     obtain ⟨x49, hv50, hp⟩ := obind hp
     obtain ⟨m51, hm52, hx53⟩ := idx_some hv50
     have hl56 := (List.getElem?_eq_some_iff.1 hx53).1
     refine ops_fact (fun w_ hM => hM.orowSome 1 rfl (Nat.lt_of_le_of_lt (Nat.zero_le _) hl56)) ?_
     rintro ⟨g57, rfl, -⟩
     obtain ⟨vs54, hr55, hq58⟩ := h_f_1.at_ m51 x49 hx53
     obtain rfl := hr55
     refine ops_val (op := (.indexAddr 23 (.tmp 39) (.tmp 41))) (d := some 44) (v := vP g57 (m51 * 1)) ⟨by kernel_rfl⟩ (run_indexRow Tryz.underlying23 (z := 1) (by kernel_rfl) rfl rfl hm52 hl56 rfl) ?_
     refine ops_mem (d := some 45) (an := [.v (vI x49)]) (evs := [.load ⟨g57, m51 * 1, none⟩ (vI x49)]) (v := vI x49) ⟨by kernel_rfl⟩ (fun w_ hM hS => ⟨w_, ⟨hM.ocell 1 rfl (hq58 0 _ rfl), rfl⟩, hM, trivial⟩) ?_
     refine oQ [oF 3, oF 4] [(7, vI x49), (6, vI i38), (0, vP b_f 0), (2, vP b1 0), (3, vP b8 0), (39, sl (sa g57) f_1 c_f_1), (40, vI (f_1.length : Int)), (41, vI i38)] (by kernel_rfl) ?_
     refine ops_nil (fin_then (st_seq (st_region [oF 0, oF 1, oF 2, oF 3, oF 4, oF 5, oF 6] (by rfl) ?_)))
     refine oQ [oF 0, oF 1, oF 2] [(48, vP b_f 2), (7, vI x49), (6, vI i38), (0, vP b_f 0), (2, vP b1 0), (3, vP b8 0), (39, sl (sa g57) f_1 c_f_1), (40, vI (f_1.length : Int)), (41, vI i38)] (by kernel_rfl) ?_
     refine ops_mem (d := some 49) (an := [.v (.map (some b_f_2))]) (evs := [ld b_f 2 (.map (some b_f_2))]) (v := .map (some b_f_2)) ⟨by kernel_rfl⟩ (fun w_ hM hS => ⟨w_, ⟨hM.cell 0 rfl rfl, rfl⟩, hM, trivial⟩) ?_
     refine oQ [oF 4] [(50, vI i38), (49, .map (some b_f_2)), (7, vI x49), (6, vI i38), (0, vP b_f 0), (2, vP b1 0), (3, vP b8 0), (39, sl (sa g57) f_1 c_f_1), (40, vI (f_1.length : Int)), (41, vI i38)] (by kernel_rfl) ?_
     obtain ⟨x59, hv60, hp⟩ := obind hp
     obtain ⟨vs61, hr62, hrun63⟩ := h_f_2.get (KeyLaw.int Tryz.underlying3) Tryz.underlying94 i38 none (⟨none, rfl, rfl⟩) (fun u_ => Tryz.zeroValue37 u_)
     have hr62 : (Rep.map (fun x_ : Int => Value.int .i64 x_) (Rep.sl (Rep.int .i64)) false).rd F39 W40 x59 vs61 := by rw [← Option.some.inj hv60]; exact hr62
     obtain ⟨B64, rfl, h65⟩ := hr62
     refine ops_law (op := (.lookup 94 (.tmp 49) (.tmp 50) false)) (d := some 51) (σ := Unit) (v := fun _ => .map B64) (M' := fun _ => Mem w0 (.blk b_f [sl A_f_0 f_0 c_f_0, sl (sa g57) f_1 c_f_1, .map (some b_f_2)] 96 :: ow (sa g57) f_1 c_f_1 3 1 y_f_1 :: .obj b_f_2 (.map es_f_2 ck_f_2) :: .blk b1 [sl A9 ([] : List api_Kind) c10, sl A9 ([] : List Int) c10, sl A9 ([] : List api_Item) c10] 26 :: ow A9 ([] : List api_Kind) c10 86 2 y11 :: ow A9 ([] : List Int) c10 3 1 y13 :: ow A9 ([] : List api_Item) c10 61 3 y15 :: .blk b8 [sl A17 l19 c18, sl A4 x2 c5, sl A33 l35 c34] 26 :: ow A17 l19 c18 86 2 y20 :: ow A4 x2 c5 3 1 y6 :: ow A33 l35 c34 61 3 y36 :: Fz F39 W40 :: cs)) ⟨by kernel_rfl⟩ (fun o_ w_ ho_ hM hS => ⟨(), w_, run_lookupV rfl rfl (hrun63 false b_f_2 w_ (hM.mapAt 2 rfl)) o_ ho_, hM, trivial⟩) (fun _ => ?_)
     refine oQ [oF 6] [(8, .map B64), (7, vI x49), (6, vI i38), (0, vP b_f 0), (2, vP b1 0), (3, vP b8 0), (39, sl (sa g57) f_1 c_f_1), (40, vI (f_1.length : Int)), (41, vI i38)] (by kernel_rfl) ?_
     refine ops_nil (fin_then (st_seq (st_region [oF 0, oF 1] (by rfl) ?_)))
     refine oQ [oF 0] [(52, .map B64), (8, .map B64), (7, vI x49), (6, vI i38), (0, vP b_f 0), (2, vP b1 0), (3, vP b8 0), (39, sl (sa g57) f_1 c_f_1), (40, vI (f_1.length : Int)), (41, vI i38)] (by kernel_rfl) ?_
     refine ops_val (op := (.binOp Go.BinOp.neq 37 (.tmp 52) (.const (Go.Value.map none)) 37)) (d := some 53) (v := .bool (!x59.isNone)) ⟨by kernel_rfl⟩ (by rw [← RdM.none_iff h65]; exact run_neqMap Tryz.underlying37 rfl rfl) ?_
     refine ops_nil (fin_then ?_)
     refine st_if (b := !x59.isNone) rfl (fun hc66 => ?_) (fun hc66 => ?_)
     ·
      have hp := cnd_t hc66 hp
      obtain ⟨x67, hv68, hp⟩ := obind hp
      obtain ⟨l82, hv83, hp⟩ := obind hp
      refine st_region_tree (.node [oT 0, oT 2, oT 3, oT 4, oT 5] (.leaf [oF 1, oF 6, oT 7, oF 8, oF 9, oT 10, oF 11]) (.node [oF 6, oT 7] (.leaf [oF 1, oF 8, oF 9, oT 10, oF 11]) (.leaf [oF 8, oF 1, oF 9, oT 10, oF 11]))) (Mem w0 (.blk b_f [sl A_f_0 f_0 c_f_0, sl (sa g57) f_1 c_f_1, .map (some b_f_2)] 96 :: ow (sa g57) f_1 c_f_1 3 1 y_f_1 :: .obj b_f_2 (.map es_f_2 ck_f_2) :: .blk b1 [sl A9 ([] : List api_Kind) c10, sl A9 ([] : List Int) c10, sl A9 ([] : List api_Item) c10] 26 :: ow A9 ([] : List api_Kind) c10 86 2 y11 :: ow A9 ([] : List Int) c10 3 1 y13 :: ow A9 ([] : List api_Item) c10 61 3 y15 :: ow A17 l19 c18 86 2 y20 :: ow A4 x2 c5 3 1 y6 :: Fz F39 W40 :: cs)) (by kernel_rfl) (by kernel_rfl) (by kernel_rfl) (fun _ d _ _ _ h => by cases d <;> exact h) (M' := Mem w0 (.blk b_f [sl A_f_0 f_0 c_f_0, sl (sa g57) f_1 c_f_1, .map (some b_f_2)] 96 :: ow (sa g57) f_1 c_f_1 3 1 y_f_1 :: .obj b_f_2 (.map es_f_2 ck_f_2) :: .blk b1 [sl A9 ([] : List api_Kind) c10, sl A9 ([] : List Int) c10, sl A9 ([] : List api_Item) c10] 26 :: ow A9 ([] : List api_Kind) c10 86 2 y11 :: ow A9 ([] : List Int) c10 3 1 y13 :: ow A9 ([] : List api_Item) c10 61 3 y15 :: .blk b8 [sl A17 l19 c18, sl A4 x2 c5, sl A33 l35 c34] 26 :: ow A17 l19 c18 86 2 y20 :: ow A4 x2 c5 3 1 y6 :: ow A33 l35 c34 61 3 y36 :: Fz F39 W40 :: cs)) (fun w_ hM => ⟨hM.drew, hM.drew.sub (.cons_cons _ (.cons_cons _ (.cons_cons _ (.cons_cons _ (.cons_cons _ (.cons_cons _ (.cons_cons _ (.cons _ (.cons_cons _ (.cons_cons _ (.cons _ (.cons_cons _ (.refl _)))))))))))))⟩) ?_
      refine tree_node ?_
      refine oQ [oT 0, oT 2, oT 3, oT 4, oT 5] [(59, .map B64), (58, .agg #[vI i38, vI x49]), (54, vP b8 2), (0, vP b_f 0), (2, vP b1 0), (3, vP b8 0), (39, sl (sa g57) f_1 c_f_1), (40, vI (f_1.length : Int)), (41, vI i38)] (by kernel_rfl) ?_
      refine ops_nil ?_
      refine tree_both ?_ ?_
      ·
       refine tree_leaf ?_
       refine ops_mem (d := some 55) (an := [.v (sl A33 l35 c34)]) (evs := [ld b8 2 (sl A33 l35 c34)]) (v := sl A33 l35 c34) ⟨by kernel_rfl⟩ (fun w_ hM hS => ⟨w_, ⟨hM.cell 7 rfl rfl, rfl⟩, hM, hS⟩) ?_
       refine ops_callI (σ := (Option Addr) × Nat × (List Value) × (Nat → Prop) × World) (d := some 60) (f := 11) (args := #[.map B64]) (v := (fun x_ => match x_ with | (A84, c85, y86, F87, W88) => sl A84 x67 c85)) (I := (fun x_ => match x_ with | (A84, c85, y86, F87, W88) => (RepL R_api_Comp F87 W88 x67 y86) ∧ (Ext w0 F39 W40 F87 W88))) (M' := (fun x_ => match x_ with | (A84, c85, y86, F87, W88) => Mem w0 (ow A84 x67 c85 42 2 y86 :: .blk b_f [sl A_f_0 f_0 c_f_0, sl (sa g57) f_1 c_f_1, .map (some b_f_2)] 96 :: ow (sa g57) f_1 c_f_1 3 1 y_f_1 :: .obj b_f_2 (.map es_f_2 ck_f_2) :: .blk b1 [sl A9 ([] : List api_Kind) c10, sl A9 ([] : List Int) c10, sl A9 ([] : List api_Item) c10] 26 :: ow A9 ([] : List api_Kind) c10 86 2 y11 :: ow A9 ([] : List Int) c10 3 1 y13 :: ow A9 ([] : List api_Item) c10 61 3 y15 :: .blk b8 [sl A17 l19 c18, sl A4 x2 c5, sl A33 l35 c34] 26 :: ow A17 l19 c18 86 2 y20 :: ow A4 x2 c5 3 1 y6 :: ow A33 l35 c34 61 3 y36 :: Fz F87 W88 :: cs))) ⟨by kernel_rfl⟩ (fun w_ hM hS => (tourref3_Listed_ok w0 w_ (.blk b_f [sl A_f_0 f_0 c_f_0, sl (sa g57) f_1 c_f_1, .map (some b_f_2)] 96 :: ow (sa g57) f_1 c_f_1 3 1 y_f_1 :: .obj b_f_2 (.map es_f_2 ck_f_2) :: .blk b1 [sl A9 ([] : List api_Kind) c10, sl A9 ([] : List Int) c10, sl A9 ([] : List api_Item) c10] 26 :: ow A9 ([] : List api_Kind) c10 86 2 y11 :: ow A9 ([] : List Int) c10 3 1 y13 :: ow A9 ([] : List api_Item) c10 61 3 y15 :: .blk b8 [sl A17 l19 c18, sl A4 x2 c5, sl A33 l35 c34] 26 :: ow A17 l19 c18 86 2 y20 :: ow A4 x2 c5 3 1 y6 :: ow A33 l35 c34 61 3 y36 :: cs) F39 W40 B64 x59 (hM.pick 12 [11, 0, 1, 2, 3, 4, 5, 6, 7, 8, 9, 10] (by kernel_rfl) (by decide) rfl) h65 x67 hv68).mono (by rintro e w' ⟨A84, c85, y86, F87, W88, ⟨h89, h90⟩, rfl, h'⟩; have h' : Mem w0 (ow A84 x67 c85 42 2 y86 :: .blk b_f [sl A_f_0 f_0 c_f_0, sl (sa g57) f_1 c_f_1, .map (some b_f_2)] 96 :: ow (sa g57) f_1 c_f_1 3 1 y_f_1 :: .obj b_f_2 (.map es_f_2 ck_f_2) :: .blk b1 [sl A9 ([] : List api_Kind) c10, sl A9 ([] : List Int) c10, sl A9 ([] : List api_Item) c10] 26 :: ow A9 ([] : List api_Kind) c10 86 2 y11 :: ow A9 ([] : List Int) c10 3 1 y13 :: ow A9 ([] : List api_Item) c10 61 3 y15 :: .blk b8 [sl A17 l19 c18, sl A4 x2 c5, sl A33 l35 c34] 26 :: ow A17 l19 c18 86 2 y20 :: ow A4 x2 c5 3 1 y6 :: ow A33 l35 c34 61 3 y36 :: Fz F87 W88 :: cs) w' := (h'.pick 13 [0, 2, 3, 4, 5, 6, 7, 8, 9, 10, 11, 12, 1] (by kernel_rfl) (by decide) rfl); exact ⟨(A84, c85, y86, F87, W88), ⟨h89, h90⟩, rfl, h', (by first | exact (Mem.fzback h' 12 rfl h90).sub (.cons _ (.cons_cons _ (.cons_cons _ (.cons_cons _ (.cons_cons _ (.cons_cons _ (.cons_cons _ (.cons_cons _ (.cons _ (.cons_cons _ (.cons_cons _ (.cons _ (.cons_cons _ (.refl _)))))))))))))) | exact (Mem.fzback h' 12 rfl (hx3.trans h90)).sub (.cons _ (.cons_cons _ (.cons_cons _ (.cons_cons _ (.cons_cons _ (.cons_cons _ (.cons_cons _ (.cons_cons _ (.cons _ (.cons_cons _ (.cons_cons _ (.cons _ (.cons_cons _ (.refl _)))))))))))))) | exact (Mem.fzback h' 12 rfl ((hx1.trans hx3).trans h90)).sub (.cons _ (.cons_cons _ (.cons_cons _ (.cons_cons _ (.cons_cons _ (.cons_cons _ (.cons_cons _ (.cons_cons _ (.cons _ (.cons_cons _ (.cons_cons _ (.cons _ (.cons_cons _ (.refl _)))))))))))))))⟩)) ?_
       rintro ⟨A84, c85, y86, F87, W88⟩ ⟨h89, h90⟩
       have h65 := h65.ext h90
       have h_f_0 := h_f_0.ext h90
       have h_f_1 := h_f_1.ext h90
       have h_f_2 := h_f_2.ext h90
       have h12 := h12.ext h90
       have h14 := h14.ext h90
       have h16 := h16.ext h90
       have h21 := h21.ext h90
       have h7 := h7.ext h90
       have h37 := h37.ext h90
       refine oQ [oT 7] [(61, .agg #[vI i38, vI x49, sl A84 x67 c85]), (55, sl A33 l35 c34), (0, vP b_f 0), (2, vP b1 0), (3, vP b8 0), (39, sl (sa g57) f_1 c_f_1), (40, vI (f_1.length : Int)), (41, vI i38)] (by kernel_rfl) ?_
       refine ops_ex (σ := (Nat → Prop) × World) (I := fun x_ => Ext w0 F87 W88 x_.1 x_.2 ∧ RdS R_api_Comp x_.1 x_.2 A84 c85 x67) (M' := fun x_ => Mem w0 (.blk b_f [sl A_f_0 f_0 c_f_0, sl (sa g57) f_1 c_f_1, .map (some b_f_2)] 96 :: ow (sa g57) f_1 c_f_1 3 1 y_f_1 :: .obj b_f_2 (.map es_f_2 ck_f_2) :: .blk b1 [sl A9 ([] : List api_Kind) c10, sl A9 ([] : List Int) c10, sl A9 ([] : List api_Item) c10] 26 :: ow A9 ([] : List api_Kind) c10 86 2 y11 :: ow A9 ([] : List Int) c10 3 1 y13 :: ow A9 ([] : List api_Item) c10 61 3 y15 :: .blk b8 [sl A17 l19 c18, sl A4 x2 c5, sl A33 l35 c34] 26 :: ow A17 l19 c18 86 2 y20 :: ow A4 x2 c5 3 1 y6 :: ow A33 l35 c34 61 3 y36 :: Fz x_.1 x_.2 :: cs)) (fun w_ hM => ?_) ?_
       · obtain ⟨F_, h1_, h2_, h3_⟩ := (hM.pick 13 [0, 12, 1, 2, 3, 4, 5, 6, 7, 8, 9, 10, 11] (by kernel_rfl) (by decide) rfl : Mem w0 (ow A84 x67 c85 42 2 y86 :: Fz F87 W88 :: .blk b_f [sl A_f_0 f_0 c_f_0, sl (sa g57) f_1 c_f_1, .map (some b_f_2)] 96 :: ow (sa g57) f_1 c_f_1 3 1 y_f_1 :: .obj b_f_2 (.map es_f_2 ck_f_2) :: .blk b1 [sl A9 ([] : List api_Kind) c10, sl A9 ([] : List Int) c10, sl A9 ([] : List api_Item) c10] 26 :: ow A9 ([] : List api_Kind) c10 86 2 y11 :: ow A9 ([] : List Int) c10 3 1 y13 :: ow A9 ([] : List api_Item) c10 61 3 y15 :: .blk b8 [sl A17 l19 c18, sl A4 x2 c5, sl A33 l35 c34] 26 :: ow A17 l19 c18 86 2 y20 :: ow A4 x2 c5 3 1 y6 :: ow A33 l35 c34 61 3 y36 :: cs) w_).freeze (z := 2) h89 rfl rfl
         exact ⟨(F_, w_), ⟨h1_, h2_⟩, h3_.pick 12 [1, 2, 3, 4, 5, 6, 7, 8, 9, 10, 11, 0] (by kernel_rfl) (by decide) rfl⟩
       rintro ⟨F91, W92⟩ ⟨hx93, h94⟩
       have hx93 : Ext w0 F87 W88 F91 W92 := hx93
       have h94 : RdS R_api_Comp F91 W92 A84 c85 x67 := h94
       have h_f_0 := h_f_0.ext hx93
       have h_f_1 := h_f_1.ext hx93
       have h_f_2 := h_f_2.ext hx93
       have h12 := h12.ext hx93
       have h14 := h14.ext hx93
       have h16 := h16.ext hx93
       have h21 := h21.ext hx93
       have h7 := h7.ext hx93
       have h37 := h37.ext hx93
       have h95 : RepL R_api_Item F91 W92 ([(api_Item.mk (api_Ent.mk i38 x49) x67)] : List api_Item) ([vI i38, vI x49, sl A84 x67 c85]) := (RepL.cons (R := R_api_Item) (F := F91) (w := W92) (vs := [vI i38, vI x49, sl A84 x67 c85]) (ys := []) (enc_api_Item h94) RepL.nil)
       refine ops_new (d := some 62) (o := .cells ([vI i38, vI x49, sl A84 x67 c85] : List Value).toArray 61) (v := fun g96 => .slice (sa g96) ([(api_Item.mk (api_Ent.mk i38 x49) x67)] : List api_Item).length 1) (M' := fun g96 => Mem w0 (orow (sa g96) ([(api_Item.mk (api_Ent.mk i38 x49) x67)] : List api_Item).length 1 61 3 ([vI i38, vI x49, sl A84 x67 c85]) :: .blk b_f [sl A_f_0 f_0 c_f_0, sl (sa g57) f_1 c_f_1, .map (some b_f_2)] 96 :: ow (sa g57) f_1 c_f_1 3 1 y_f_1 :: .obj b_f_2 (.map es_f_2 ck_f_2) :: .blk b1 [sl A9 ([] : List api_Kind) c10, sl A9 ([] : List Int) c10, sl A9 ([] : List api_Item) c10] 26 :: ow A9 ([] : List api_Kind) c10 86 2 y11 :: ow A9 ([] : List Int) c10 3 1 y13 :: ow A9 ([] : List api_Item) c10 61 3 y15 :: .blk b8 [sl A17 l19 c18, sl A4 x2 c5, sl A33 l35 c34] 26 :: ow A17 l19 c18 86 2 y20 :: ow A4 x2 c5 3 1 y6 :: ow A33 l35 c34 61 3 y36 :: Fz F91 W92 :: cs)) (fun g96 => ⟨by kernel_rfl⟩) (fun w_ hM hS => ⟨hM.onew [vI i38, vI x49, sl A84 x67 c85] 61 1 3 rfl (by decide), hS.alloc _⟩) (fun g96 => ?_)
       obtain ⟨he97, hb98⟩ := app_some hv83
       obtain ⟨y99, hy100⟩ : ∃ y_, y36 ++ ([vI i38, vI x49, sl A84 x67 c85]) = y_ := ⟨_, rfl⟩
       have h101 : RepL R_api_Item F91 W92 l82 y99 := by rw [he97, ← hy100]; exact RepL.app h37 h95
       refine ops_appendO (x := (Go.Operand.tmp 55)) (y := (Go.Operand.tmp 62)) (t := 24) (e := 61) (d := some 63) (n' := l82.length) (z := 3) (m := ([(api_Item.mk (api_Ent.mk i38 x49) x67)] : List api_Item).length) (bytes := 40) (xs' := y99) (news := ([vI i38, vI x49, sl A84 x67 c85])) (zv := .agg #[vI 0, vI 0, .slice none 0 0]) 11 ⟨by kernel_rfl⟩ rfl rfl Tryz.underlying24 (by kernel_rfl) (by rfl) rfl (fun w_ hM => hM.srcO 0 rfl) h95.len h95.one hb98 (by have z_ := congrArg List.length he97; rw [List.length_append] at z_; exact z_.symm) hy100 (fun _ _ _ _ hS h' => (by first | exact (Mem.fzback h' 12 rfl hx93).sub (.cons _ (.cons_cons _ (.cons_cons _ (.cons_cons _ (.cons_cons _ (.cons_cons _ (.cons_cons _ (.cons_cons _ (.cons _ (.cons_cons _ (.cons_cons _ (.cons _ (.cons_cons _ (.refl _)))))))))))))) | exact (Mem.fzback h' 12 rfl (h90.trans hx93)).sub (.cons _ (.cons_cons _ (.cons_cons _ (.cons_cons _ (.cons_cons _ (.cons_cons _ (.cons_cons _ (.cons_cons _ (.cons _ (.cons_cons _ (.cons_cons _ (.cons _ (.cons_cons _ (.refl _)))))))))))))) | exact (Mem.fzback h' 12 rfl ((hx3.trans h90).trans hx93)).sub (.cons _ (.cons_cons _ (.cons_cons _ (.cons_cons _ (.cons_cons _ (.cons_cons _ (.cons_cons _ (.cons_cons _ (.cons _ (.cons_cons _ (.cons_cons _ (.cons _ (.cons_cons _ (.refl _)))))))))))))) | exact (Mem.fzback h' 12 rfl (((hx1.trans hx3).trans h90).trans hx93)).sub (.cons _ (.cons_cons _ (.cons_cons _ (.cons_cons _ (.cons_cons _ (.cons_cons _ (.cons_cons _ (.cons_cons _ (.cons _ (.cons_cons _ (.cons_cons _ (.cons _ (.cons_cons _ (.refl _)))))))))))))))) ?_
       rintro ⟨A102, c103⟩
       refine oQ [oT 10] [(64, vP b8 2), (63, sl A102 l82 c103), (0, vP b_f 0), (2, vP b1 0), (3, vP b8 0), (39, sl (sa g57) f_1 c_f_1), (40, vI (f_1.length : Int)), (41, vI i38)] (by kernel_rfl) ?_
       refine ops_store (an := []) (evs := [sr b8 2 (sl A102 l82 c103)]) ⟨by kernel_rfl⟩ (fun w_ hM hS => let ⟨w', he, h'⟩ := hM.evs_stores [sl A102 l82 c103] 8 rfl 2 (Nat.le_of_ble_eq_true rfl); ⟨w', he, h', (by first | exact (Mem.fzback h' 12 rfl hx93).sub (.cons _ (.cons_cons _ (.cons_cons _ (.cons_cons _ (.cons_cons _ (.cons_cons _ (.cons_cons _ (.cons_cons _ (.cons _ (.cons_cons _ (.cons_cons _ (.cons _ (.cons_cons _ (.refl _)))))))))))))) | exact (Mem.fzback h' 12 rfl (h90.trans hx93)).sub (.cons _ (.cons_cons _ (.cons_cons _ (.cons_cons _ (.cons_cons _ (.cons_cons _ (.cons_cons _ (.cons_cons _ (.cons _ (.cons_cons _ (.cons_cons _ (.cons _ (.cons_cons _ (.refl _)))))))))))))) | exact (Mem.fzback h' 12 rfl ((hx3.trans h90).trans hx93)).sub (.cons _ (.cons_cons _ (.cons_cons _ (.cons_cons _ (.cons_cons _ (.cons_cons _ (.cons_cons _ (.cons_cons _ (.cons _ (.cons_cons _ (.cons_cons _ (.cons _ (.cons_cons _ (.refl _)))))))))))))) | exact (Mem.fzback h' 12 rfl (((hx1.trans hx3).trans h90).trans hx93)).sub (.cons _ (.cons_cons _ (.cons_cons _ (.cons_cons _ (.cons_cons _ (.cons_cons _ (.cons_cons _ (.cons_cons _ (.cons _ (.cons_cons _ (.cons_cons _ (.cons _ (.cons_cons _ (.refl _)))))))))))))))⟩) ?_
       refine ops_nil (fin_block ?_)
       exact fin_join HJ4 (A102, c103, l82, y99, F91, W92) ⟨hp, h101, (h90.trans hx93)⟩ (look_has ⟨rfl, rfl, rfl, rfl, rfl, rfl, trivial⟩) (fun w_ hM => hM.pick 13 [1, 2, 3, 4, 5, 6, 7, 8, 9, 10, 11, 12] (by kernel_rfl) (by decide) rfl)
      ·
       refine tree_node ?_
       refine ops_callI (σ := (Option Addr) × Nat × (List Value) × (Nat → Prop) × World) (d := some 60) (f := 11) (args := #[.map B64]) (v := (fun x_ => match x_ with | (A104, c105, y106, F107, W108) => sl A104 x67 c105)) (I := (fun x_ => match x_ with | (A104, c105, y106, F107, W108) => (RepL R_api_Comp F107 W108 x67 y106) ∧ (Ext w0 F39 W40 F107 W108))) (M' := (fun x_ => match x_ with | (A104, c105, y106, F107, W108) => Mem w0 (ow A104 x67 c105 42 2 y106 :: .blk b_f [sl A_f_0 f_0 c_f_0, sl (sa g57) f_1 c_f_1, .map (some b_f_2)] 96 :: ow (sa g57) f_1 c_f_1 3 1 y_f_1 :: .obj b_f_2 (.map es_f_2 ck_f_2) :: .blk b1 [sl A9 ([] : List api_Kind) c10, sl A9 ([] : List Int) c10, sl A9 ([] : List api_Item) c10] 26 :: ow A9 ([] : List api_Kind) c10 86 2 y11 :: ow A9 ([] : List Int) c10 3 1 y13 :: ow A9 ([] : List api_Item) c10 61 3 y15 :: .blk b8 [sl A17 l19 c18, sl A4 x2 c5, sl A33 l35 c34] 26 :: ow A17 l19 c18 86 2 y20 :: ow A4 x2 c5 3 1 y6 :: ow A33 l35 c34 61 3 y36 :: Fz F107 W108 :: cs))) ⟨by kernel_rfl⟩ (fun w_ hM hS => (tourref3_Listed_ok w0 w_ (.blk b_f [sl A_f_0 f_0 c_f_0, sl (sa g57) f_1 c_f_1, .map (some b_f_2)] 96 :: ow (sa g57) f_1 c_f_1 3 1 y_f_1 :: .obj b_f_2 (.map es_f_2 ck_f_2) :: .blk b1 [sl A9 ([] : List api_Kind) c10, sl A9 ([] : List Int) c10, sl A9 ([] : List api_Item) c10] 26 :: ow A9 ([] : List api_Kind) c10 86 2 y11 :: ow A9 ([] : List Int) c10 3 1 y13 :: ow A9 ([] : List api_Item) c10 61 3 y15 :: .blk b8 [sl A17 l19 c18, sl A4 x2 c5, sl A33 l35 c34] 26 :: ow A17 l19 c18 86 2 y20 :: ow A4 x2 c5 3 1 y6 :: ow A33 l35 c34 61 3 y36 :: cs) F39 W40 B64 x59 (hM.pick 12 [11, 0, 1, 2, 3, 4, 5, 6, 7, 8, 9, 10] (by kernel_rfl) (by decide) rfl) h65 x67 hv68).mono (by rintro e w' ⟨A104, c105, y106, F107, W108, ⟨h109, h110⟩, rfl, h'⟩; have h' : Mem w0 (ow A104 x67 c105 42 2 y106 :: .blk b_f [sl A_f_0 f_0 c_f_0, sl (sa g57) f_1 c_f_1, .map (some b_f_2)] 96 :: ow (sa g57) f_1 c_f_1 3 1 y_f_1 :: .obj b_f_2 (.map es_f_2 ck_f_2) :: .blk b1 [sl A9 ([] : List api_Kind) c10, sl A9 ([] : List Int) c10, sl A9 ([] : List api_Item) c10] 26 :: ow A9 ([] : List api_Kind) c10 86 2 y11 :: ow A9 ([] : List Int) c10 3 1 y13 :: ow A9 ([] : List api_Item) c10 61 3 y15 :: .blk b8 [sl A17 l19 c18, sl A4 x2 c5, sl A33 l35 c34] 26 :: ow A17 l19 c18 86 2 y20 :: ow A4 x2 c5 3 1 y6 :: ow A33 l35 c34 61 3 y36 :: Fz F107 W108 :: cs) w' := (h'.pick 13 [0, 2, 3, 4, 5, 6, 7, 8, 9, 10, 11, 12, 1] (by kernel_rfl) (by decide) rfl); exact ⟨(A104, c105, y106, F107, W108), ⟨h109, h110⟩, rfl, h', (by first | exact (Mem.fzback h' 12 rfl h110).sub (.cons _ (.cons_cons _ (.cons_cons _ (.cons_cons _ (.cons_cons _ (.cons_cons _ (.cons_cons _ (.cons_cons _ (.cons _ (.cons_cons _ (.cons_cons _ (.cons _ (.cons_cons _ (.refl _)))))))))))))) | exact (Mem.fzback h' 12 rfl (hx3.trans h110)).sub (.cons _ (.cons_cons _ (.cons_cons _ (.cons_cons _ (.cons_cons _ (.cons_cons _ (.cons_cons _ (.cons_cons _ (.cons _ (.cons_cons _ (.cons_cons _ (.cons _ (.cons_cons _ (.refl _)))))))))))))) | exact (Mem.fzback h' 12 rfl ((hx1.trans hx3).trans h110)).sub (.cons _ (.cons_cons _ (.cons_cons _ (.cons_cons _ (.cons_cons _ (.cons_cons _ (.cons_cons _ (.cons_cons _ (.cons _ (.cons_cons _ (.cons_cons _ (.cons _ (.cons_cons _ (.refl _)))))))))))))))⟩)) ?_
       rintro ⟨A104, c105, y106, F107, W108⟩ ⟨h109, h110⟩
       have h65 := h65.ext h110
       have h_f_0 := h_f_0.ext h110
       have h_f_1 := h_f_1.ext h110
       have h_f_2 := h_f_2.ext h110
       have h12 := h12.ext h110
       have h14 := h14.ext h110
       have h16 := h16.ext h110
       have h21 := h21.ext h110
       have h7 := h7.ext h110
       have h37 := h37.ext h110
       refine oQ [oT 7] [(61, .agg #[vI i38, vI x49, sl A104 x67 c105]), (54, vP b8 2), (0, vP b_f 0), (2, vP b1 0), (3, vP b8 0), (39, sl (sa g57) f_1 c_f_1), (40, vI (f_1.length : Int)), (41, vI i38)] (by kernel_rfl) ?_
       refine ops_nil ?_
       refine tree_both ?_ ?_
       ·
        refine tree_leaf ?_
        refine ops_mem (d := some 55) (an := [.v (sl A33 l35 c34)]) (evs := [ld b8 2 (sl A33 l35 c34)]) (v := sl A33 l35 c34) ⟨by kernel_rfl⟩ (fun w_ hM hS => ⟨w_, ⟨hM.cell 8 rfl rfl, rfl⟩, hM, hS⟩) ?_
        refine ops_ex (σ := (Nat → Prop) × World) (I := fun x_ => Ext w0 F107 W108 x_.1 x_.2 ∧ RdS R_api_Comp x_.1 x_.2 A104 c105 x67) (M' := fun x_ => Mem w0 (.blk b_f [sl A_f_0 f_0 c_f_0, sl (sa g57) f_1 c_f_1, .map (some b_f_2)] 96 :: ow (sa g57) f_1 c_f_1 3 1 y_f_1 :: .obj b_f_2 (.map es_f_2 ck_f_2) :: .blk b1 [sl A9 ([] : List api_Kind) c10, sl A9 ([] : List Int) c10, sl A9 ([] : List api_Item) c10] 26 :: ow A9 ([] : List api_Kind) c10 86 2 y11 :: ow A9 ([] : List Int) c10 3 1 y13 :: ow A9 ([] : List api_Item) c10 61 3 y15 :: .blk b8 [sl A17 l19 c18, sl A4 x2 c5, sl A33 l35 c34] 26 :: ow A17 l19 c18 86 2 y20 :: ow A4 x2 c5 3 1 y6 :: ow A33 l35 c34 61 3 y36 :: Fz x_.1 x_.2 :: cs)) (fun w_ hM => ?_) ?_
        · obtain ⟨F_, h1_, h2_, h3_⟩ := (hM.pick 13 [0, 12, 1, 2, 3, 4, 5, 6, 7, 8, 9, 10, 11] (by kernel_rfl) (by decide) rfl : Mem w0 (ow A104 x67 c105 42 2 y106 :: Fz F107 W108 :: .blk b_f [sl A_f_0 f_0 c_f_0, sl (sa g57) f_1 c_f_1, .map (some b_f_2)] 96 :: ow (sa g57) f_1 c_f_1 3 1 y_f_1 :: .obj b_f_2 (.map es_f_2 ck_f_2) :: .blk b1 [sl A9 ([] : List api_Kind) c10, sl A9 ([] : List Int) c10, sl A9 ([] : List api_Item) c10] 26 :: ow A9 ([] : List api_Kind) c10 86 2 y11 :: ow A9 ([] : List Int) c10 3 1 y13 :: ow A9 ([] : List api_Item) c10 61 3 y15 :: .blk b8 [sl A17 l19 c18, sl A4 x2 c5, sl A33 l35 c34] 26 :: ow A17 l19 c18 86 2 y20 :: ow A4 x2 c5 3 1 y6 :: ow A33 l35 c34 61 3 y36 :: cs) w_).freeze (z := 2) h109 rfl rfl
          exact ⟨(F_, w_), ⟨h1_, h2_⟩, h3_.pick 12 [1, 2, 3, 4, 5, 6, 7, 8, 9, 10, 11, 0] (by kernel_rfl) (by decide) rfl⟩
        rintro ⟨F111, W112⟩ ⟨hx113, h114⟩
        have hx113 : Ext w0 F107 W108 F111 W112 := hx113
        have h114 : RdS R_api_Comp F111 W112 A104 c105 x67 := h114
        have h_f_0 := h_f_0.ext hx113
        have h_f_1 := h_f_1.ext hx113
        have h_f_2 := h_f_2.ext hx113
        have h12 := h12.ext hx113
        have h14 := h14.ext hx113
        have h16 := h16.ext hx113
        have h21 := h21.ext hx113
        have h7 := h7.ext hx113
        have h37 := h37.ext hx113
        have h115 : RepL R_api_Item F111 W112 ([(api_Item.mk (api_Ent.mk i38 x49) x67)] : List api_Item) ([vI i38, vI x49, sl A104 x67 c105]) := (RepL.cons (R := R_api_Item) (F := F111) (w := W112) (vs := [vI i38, vI x49, sl A104 x67 c105]) (ys := []) (enc_api_Item h114) RepL.nil)
        refine ops_new (d := some 62) (o := .cells ([vI i38, vI x49, sl A104 x67 c105] : List Value).toArray 61) (v := fun g116 => .slice (sa g116) ([(api_Item.mk (api_Ent.mk i38 x49) x67)] : List api_Item).length 1) (M' := fun g116 => Mem w0 (orow (sa g116) ([(api_Item.mk (api_Ent.mk i38 x49) x67)] : List api_Item).length 1 61 3 ([vI i38, vI x49, sl A104 x67 c105]) :: .blk b_f [sl A_f_0 f_0 c_f_0, sl (sa g57) f_1 c_f_1, .map (some b_f_2)] 96 :: ow (sa g57) f_1 c_f_1 3 1 y_f_1 :: .obj b_f_2 (.map es_f_2 ck_f_2) :: .blk b1 [sl A9 ([] : List api_Kind) c10, sl A9 ([] : List Int) c10, sl A9 ([] : List api_Item) c10] 26 :: ow A9 ([] : List api_Kind) c10 86 2 y11 :: ow A9 ([] : List Int) c10 3 1 y13 :: ow A9 ([] : List api_Item) c10 61 3 y15 :: .blk b8 [sl A17 l19 c18, sl A4 x2 c5, sl A33 l35 c34] 26 :: ow A17 l19 c18 86 2 y20 :: ow A4 x2 c5 3 1 y6 :: ow A33 l35 c34 61 3 y36 :: Fz F111 W112 :: cs)) (fun g116 => ⟨by kernel_rfl⟩) (fun w_ hM hS => ⟨hM.onew [vI i38, vI x49, sl A104 x67 c105] 61 1 3 rfl (by decide), hS.alloc _⟩) (fun g116 => ?_)
        obtain ⟨he117, hb118⟩ := app_some hv83
        obtain ⟨y119, hy120⟩ : ∃ y_, y36 ++ ([vI i38, vI x49, sl A104 x67 c105]) = y_ := ⟨_, rfl⟩
        have h121 : RepL R_api_Item F111 W112 l82 y119 := by rw [he117, ← hy120]; exact RepL.app h37 h115
        refine ops_appendO (x := (Go.Operand.tmp 55)) (y := (Go.Operand.tmp 62)) (t := 24) (e := 61) (d := some 63) (n' := l82.length) (z := 3) (m := ([(api_Item.mk (api_Ent.mk i38 x49) x67)] : List api_Item).length) (bytes := 40) (xs' := y119) (news := ([vI i38, vI x49, sl A104 x67 c105])) (zv := .agg #[vI 0, vI 0, .slice none 0 0]) 11 ⟨by kernel_rfl⟩ rfl rfl Tryz.underlying24 (by kernel_rfl) (by rfl) rfl (fun w_ hM => hM.srcO 0 rfl) h115.len h115.one hb118 (by have z_ := congrArg List.length he117; rw [List.length_append] at z_; exact z_.symm) hy120 (fun _ _ _ _ hS h' => (by first | exact (Mem.fzback h' 12 rfl hx113).sub (.cons _ (.cons_cons _ (.cons_cons _ (.cons_cons _ (.cons_cons _ (.cons_cons _ (.cons_cons _ (.cons_cons _ (.cons _ (.cons_cons _ (.cons_cons _ (.cons _ (.cons_cons _ (.refl _)))))))))))))) | exact (Mem.fzback h' 12 rfl (h110.trans hx113)).sub (.cons _ (.cons_cons _ (.cons_cons _ (.cons_cons _ (.cons_cons _ (.cons_cons _ (.cons_cons _ (.cons_cons _ (.cons _ (.cons_cons _ (.cons_cons _ (.cons _ (.cons_cons _ (.refl _)))))))))))))) | exact (Mem.fzback h' 12 rfl ((hx3.trans h110).trans hx113)).sub (.cons _ (.cons_cons _ (.cons_cons _ (.cons_cons _ (.cons_cons _ (.cons_cons _ (.cons_cons _ (.cons_cons _ (.cons _ (.cons_cons _ (.cons_cons _ (.cons _ (.cons_cons _ (.refl _)))))))))))))) | exact (Mem.fzback h' 12 rfl (((hx1.trans hx3).trans h110).trans hx113)).sub (.cons _ (.cons_cons _ (.cons_cons _ (.cons_cons _ (.cons_cons _ (.cons_cons _ (.cons_cons _ (.cons_cons _ (.cons _ (.cons_cons _ (.cons_cons _ (.cons _ (.cons_cons _ (.refl _)))))))))))))))) ?_
        rintro ⟨A122, c123⟩
        refine oQ [oT 10] [(64, vP b8 2), (63, sl A122 l82 c123), (0, vP b_f 0), (2, vP b1 0), (3, vP b8 0), (39, sl (sa g57) f_1 c_f_1), (40, vI (f_1.length : Int)), (41, vI i38)] (by kernel_rfl) ?_
        refine ops_store (an := []) (evs := [sr b8 2 (sl A122 l82 c123)]) ⟨by kernel_rfl⟩ (fun w_ hM hS => let ⟨w', he, h'⟩ := hM.evs_stores [sl A122 l82 c123] 8 rfl 2 (Nat.le_of_ble_eq_true rfl); ⟨w', he, h', (by first | exact (Mem.fzback h' 12 rfl hx113).sub (.cons _ (.cons_cons _ (.cons_cons _ (.cons_cons _ (.cons_cons _ (.cons_cons _ (.cons_cons _ (.cons_cons _ (.cons _ (.cons_cons _ (.cons_cons _ (.cons _ (.cons_cons _ (.refl _)))))))))))))) | exact (Mem.fzback h' 12 rfl (h110.trans hx113)).sub (.cons _ (.cons_cons _ (.cons_cons _ (.cons_cons _ (.cons_cons _ (.cons_cons _ (.cons_cons _ (.cons_cons _ (.cons _ (.cons_cons _ (.cons_cons _ (.cons _ (.cons_cons _ (.refl _)))))))))))))) | exact (Mem.fzback h' 12 rfl ((hx3.trans h110).trans hx113)).sub (.cons _ (.cons_cons _ (.cons_cons _ (.cons_cons _ (.cons_cons _ (.cons_cons _ (.cons_cons _ (.cons_cons _ (.cons _ (.cons_cons _ (.cons_cons _ (.cons _ (.cons_cons _ (.refl _)))))))))))))) | exact (Mem.fzback h' 12 rfl (((hx1.trans hx3).trans h110).trans hx113)).sub (.cons _ (.cons_cons _ (.cons_cons _ (.cons_cons _ (.cons_cons _ (.cons_cons _ (.cons_cons _ (.cons_cons _ (.cons _ (.cons_cons _ (.cons_cons _ (.cons _ (.cons_cons _ (.refl _)))))))))))))))⟩) ?_
        refine ops_nil (fin_block ?_)
        exact fin_join HJ4 (A122, c123, l82, y119, F111, W112) ⟨hp, h121, (h110.trans hx113)⟩ (look_has ⟨rfl, rfl, rfl, rfl, rfl, rfl, trivial⟩) (fun w_ hM => hM.pick 13 [1, 2, 3, 4, 5, 6, 7, 8, 9, 10, 11, 12] (by kernel_rfl) (by decide) rfl)
       ·
        refine tree_leaf ?_
        refine ops_ex (σ := (Nat → Prop) × World) (I := fun x_ => Ext w0 F107 W108 x_.1 x_.2 ∧ RdS R_api_Comp x_.1 x_.2 A104 c105 x67) (M' := fun x_ => Mem w0 (.blk b_f [sl A_f_0 f_0 c_f_0, sl (sa g57) f_1 c_f_1, .map (some b_f_2)] 96 :: ow (sa g57) f_1 c_f_1 3 1 y_f_1 :: .obj b_f_2 (.map es_f_2 ck_f_2) :: .blk b1 [sl A9 ([] : List api_Kind) c10, sl A9 ([] : List Int) c10, sl A9 ([] : List api_Item) c10] 26 :: ow A9 ([] : List api_Kind) c10 86 2 y11 :: ow A9 ([] : List Int) c10 3 1 y13 :: ow A9 ([] : List api_Item) c10 61 3 y15 :: .blk b8 [sl A17 l19 c18, sl A4 x2 c5, sl A33 l35 c34] 26 :: ow A17 l19 c18 86 2 y20 :: ow A4 x2 c5 3 1 y6 :: ow A33 l35 c34 61 3 y36 :: Fz x_.1 x_.2 :: cs)) (fun w_ hM => ?_) ?_
        · obtain ⟨F_, h1_, h2_, h3_⟩ := (hM.pick 13 [0, 12, 1, 2, 3, 4, 5, 6, 7, 8, 9, 10, 11] (by kernel_rfl) (by decide) rfl : Mem w0 (ow A104 x67 c105 42 2 y106 :: Fz F107 W108 :: .blk b_f [sl A_f_0 f_0 c_f_0, sl (sa g57) f_1 c_f_1, .map (some b_f_2)] 96 :: ow (sa g57) f_1 c_f_1 3 1 y_f_1 :: .obj b_f_2 (.map es_f_2 ck_f_2) :: .blk b1 [sl A9 ([] : List api_Kind) c10, sl A9 ([] : List Int) c10, sl A9 ([] : List api_Item) c10] 26 :: ow A9 ([] : List api_Kind) c10 86 2 y11 :: ow A9 ([] : List Int) c10 3 1 y13 :: ow A9 ([] : List api_Item) c10 61 3 y15 :: .blk b8 [sl A17 l19 c18, sl A4 x2 c5, sl A33 l35 c34] 26 :: ow A17 l19 c18 86 2 y20 :: ow A4 x2 c5 3 1 y6 :: ow A33 l35 c34 61 3 y36 :: cs) w_).freeze (z := 2) h109 rfl rfl
          exact ⟨(F_, w_), ⟨h1_, h2_⟩, h3_.pick 12 [1, 2, 3, 4, 5, 6, 7, 8, 9, 10, 11, 0] (by kernel_rfl) (by decide) rfl⟩
        rintro ⟨F124, W125⟩ ⟨hx126, h127⟩
        have hx126 : Ext w0 F107 W108 F124 W125 := hx126
        have h127 : RdS R_api_Comp F124 W125 A104 c105 x67 := h127
        have h_f_0 := h_f_0.ext hx126
        have h_f_1 := h_f_1.ext hx126
        have h_f_2 := h_f_2.ext hx126
        have h12 := h12.ext hx126
        have h14 := h14.ext hx126
        have h16 := h16.ext hx126
        have h21 := h21.ext hx126
        have h7 := h7.ext hx126
        have h37 := h37.ext hx126
        have h128 : RepL R_api_Item F124 W125 ([(api_Item.mk (api_Ent.mk i38 x49) x67)] : List api_Item) ([vI i38, vI x49, sl A104 x67 c105]) := (RepL.cons (R := R_api_Item) (F := F124) (w := W125) (vs := [vI i38, vI x49, sl A104 x67 c105]) (ys := []) (enc_api_Item h127) RepL.nil)
        refine ops_new (d := some 62) (o := .cells ([vI i38, vI x49, sl A104 x67 c105] : List Value).toArray 61) (v := fun g129 => .slice (sa g129) ([(api_Item.mk (api_Ent.mk i38 x49) x67)] : List api_Item).length 1) (M' := fun g129 => Mem w0 (orow (sa g129) ([(api_Item.mk (api_Ent.mk i38 x49) x67)] : List api_Item).length 1 61 3 ([vI i38, vI x49, sl A104 x67 c105]) :: .blk b_f [sl A_f_0 f_0 c_f_0, sl (sa g57) f_1 c_f_1, .map (some b_f_2)] 96 :: ow (sa g57) f_1 c_f_1 3 1 y_f_1 :: .obj b_f_2 (.map es_f_2 ck_f_2) :: .blk b1 [sl A9 ([] : List api_Kind) c10, sl A9 ([] : List Int) c10, sl A9 ([] : List api_Item) c10] 26 :: ow A9 ([] : List api_Kind) c10 86 2 y11 :: ow A9 ([] : List Int) c10 3 1 y13 :: ow A9 ([] : List api_Item) c10 61 3 y15 :: .blk b8 [sl A17 l19 c18, sl A4 x2 c5, sl A33 l35 c34] 26 :: ow A17 l19 c18 86 2 y20 :: ow A4 x2 c5 3 1 y6 :: ow A33 l35 c34 61 3 y36 :: Fz F124 W125 :: cs)) (fun g129 => ⟨by kernel_rfl⟩) (fun w_ hM hS => ⟨hM.onew [vI i38, vI x49, sl A104 x67 c105] 61 1 3 rfl (by decide), hS.alloc _⟩) (fun g129 => ?_)
        refine ops_mem (d := some 55) (an := [.v (sl A33 l35 c34)]) (evs := [ld b8 2 (sl A33 l35 c34)]) (v := sl A33 l35 c34) ⟨by kernel_rfl⟩ (fun w_ hM hS => ⟨w_, ⟨hM.cell 8 rfl rfl, rfl⟩, hM, hS⟩) ?_
        obtain ⟨he130, hb131⟩ := app_some hv83
        obtain ⟨y132, hy133⟩ : ∃ y_, y36 ++ ([vI i38, vI x49, sl A104 x67 c105]) = y_ := ⟨_, rfl⟩
        have h134 : RepL R_api_Item F124 W125 l82 y132 := by rw [he130, ← hy133]; exact RepL.app h37 h128
        refine ops_appendO (x := (Go.Operand.tmp 55)) (y := (Go.Operand.tmp 62)) (t := 24) (e := 61) (d := some 63) (n' := l82.length) (z := 3) (m := ([(api_Item.mk (api_Ent.mk i38 x49) x67)] : List api_Item).length) (bytes := 40) (xs' := y132) (news := ([vI i38, vI x49, sl A104 x67 c105])) (zv := .agg #[vI 0, vI 0, .slice none 0 0]) 11 ⟨by kernel_rfl⟩ rfl rfl Tryz.underlying24 (by kernel_rfl) (by rfl) rfl (fun w_ hM => hM.srcO 0 rfl) h128.len h128.one hb131 (by have z_ := congrArg List.length he130; rw [List.length_append] at z_; exact z_.symm) hy133 (fun _ _ _ _ hS h' => (by first | exact (Mem.fzback h' 12 rfl hx126).sub (.cons _ (.cons_cons _ (.cons_cons _ (.cons_cons _ (.cons_cons _ (.cons_cons _ (.cons_cons _ (.cons_cons _ (.cons _ (.cons_cons _ (.cons_cons _ (.cons _ (.cons_cons _ (.refl _)))))))))))))) | exact (Mem.fzback h' 12 rfl (h110.trans hx126)).sub (.cons _ (.cons_cons _ (.cons_cons _ (.cons_cons _ (.cons_cons _ (.cons_cons _ (.cons_cons _ (.cons_cons _ (.cons _ (.cons_cons _ (.cons_cons _ (.cons _ (.cons_cons _ (.refl _)))))))))))))) | exact (Mem.fzback h' 12 rfl ((hx3.trans h110).trans hx126)).sub (.cons _ (.cons_cons _ (.cons_cons _ (.cons_cons _ (.cons_cons _ (.cons_cons _ (.cons_cons _ (.cons_cons _ (.cons _ (.cons_cons _ (.cons_cons _ (.cons _ (.cons_cons _ (.refl _)))))))))))))) | exact (Mem.fzback h' 12 rfl (((hx1.trans hx3).trans h110).trans hx126)).sub (.cons _ (.cons_cons _ (.cons_cons _ (.cons_cons _ (.cons_cons _ (.cons_cons _ (.cons_cons _ (.cons_cons _ (.cons _ (.cons_cons _ (.cons_cons _ (.cons _ (.cons_cons _ (.refl _)))))))))))))))) ?_
        rintro ⟨A135, c136⟩
        refine oQ [oT 10] [(64, vP b8 2), (63, sl A135 l82 c136), (0, vP b_f 0), (2, vP b1 0), (3, vP b8 0), (39, sl (sa g57) f_1 c_f_1), (40, vI (f_1.length : Int)), (41, vI i38)] (by kernel_rfl) ?_
        refine ops_store (an := []) (evs := [sr b8 2 (sl A135 l82 c136)]) ⟨by kernel_rfl⟩ (fun w_ hM hS => let ⟨w', he, h'⟩ := hM.evs_stores [sl A135 l82 c136] 8 rfl 2 (Nat.le_of_ble_eq_true rfl); ⟨w', he, h', (by first | exact (Mem.fzback h' 12 rfl hx126).sub (.cons _ (.cons_cons _ (.cons_cons _ (.cons_cons _ (.cons_cons _ (.cons_cons _ (.cons_cons _ (.cons_cons _ (.cons _ (.cons_cons _ (.cons_cons _ (.cons _ (.cons_cons _ (.refl _)))))))))))))) | exact (Mem.fzback h' 12 rfl (h110.trans hx126)).sub (.cons _ (.cons_cons _ (.cons_cons _ (.cons_cons _ (.cons_cons _ (.cons_cons _ (.cons_cons _ (.cons_cons _ (.cons _ (.cons_cons _ (.cons_cons _ (.cons _ (.cons_cons _ (.refl _)))))))))))))) | exact (Mem.fzback h' 12 rfl ((hx3.trans h110).trans hx126)).sub (.cons _ (.cons_cons _ (.cons_cons _ (.cons_cons _ (.cons_cons _ (.cons_cons _ (.cons_cons _ (.cons_cons _ (.cons _ (.cons_cons _ (.cons_cons _ (.cons _ (.cons_cons _ (.refl _)))))))))))))) | exact (Mem.fzback h' 12 rfl (((hx1.trans hx3).trans h110).trans hx126)).sub (.cons _ (.cons_cons _ (.cons_cons _ (.cons_cons _ (.cons_cons _ (.cons_cons _ (.cons_cons _ (.cons_cons _ (.cons _ (.cons_cons _ (.cons_cons _ (.cons _ (.cons_cons _ (.refl _)))))))))))))))⟩) ?_
        refine ops_nil (fin_block ?_)
        exact fin_join HJ4 (A135, c136, l82, y132, F124, W125) ⟨hp, h134, (h110.trans hx126)⟩ (look_has ⟨rfl, rfl, rfl, rfl, rfl, rfl, trivial⟩) (fun w_ hM => hM.pick 13 [1, 2, 3, 4, 5, 6, 7, 8, 9, 10, 11, 12] (by kernel_rfl) (by decide) rfl)
     ·
      have hp := cnd_f hc66 hp
      refine st_skip (fin_block ?_)
      exact fin_join HJ4 (A33, c34, l35, y36, F39, W40) ⟨hp, h37, (Ext.refl _ _ _)⟩ (look_has ⟨rfl, rfl, rfl, rfl, rfl, rfl, trivial⟩) (fun w_ hM => hM)
   ·
    have hp := cnd_f hc41 hp
    refine st_exit (fin_exit_then (fin_exit_then (fin_exit ?_)))
    obtain hq_ := Option.some.inj hp
    subst hq_
    obtain hq_ := hd3 _ rfl
    subst hq_
    have hp : (tourref3_Flat_Close_j2 l19 x2) l35 = some (l9003, l9008, l9013) := hk3
    exact fin_join HJ2 (A33, c34, l35, y36, F39, W40) ⟨hp, h37, hx3⟩ (look_has ⟨rfl, rfl, trivial⟩) (fun w_ hM => hM.pick 12 [3, 4, 5, 6, 7, 8, 9, 10, 0, 1, 2, 11] (by kernel_rfl) (by decide) rfl)
 ·
  intro HJ1
  refine st_seq (st_seq (st_region [oF 0, oF 1, oF 2, oF 3, oF 4, oF 5] (by rfl) ?_))
  refine oQ [oF 0, oF 1, oF 2] [(17, vP b_f 0), (3, vP b8 0), (2, vP b1 0), (0, vP b_f 0)] (by kernel_rfl) ?_
  refine ops_mem (d := some 18) (an := [.v (sl A_f_0 f_0 c_f_0)]) (evs := [ld b_f 0 (sl A_f_0 f_0 c_f_0)]) (v := sl A_f_0 f_0 c_f_0) ⟨by kernel_rfl⟩ (fun w_ hM hS => ⟨w_, ⟨hM.cell 3 rfl rfl, rfl⟩, hM, trivial⟩) ?_
  refine oQ [oF 4, oF 5] [(20, vI 0), (19, vI (f_0.length : Int)), (18, sl A_f_0 f_0 c_f_0), (3, vP b8 0), (2, vP b1 0), (0, vP b_f 0)] (by kernel_rfl) ?_
  refine ops_nil (fin_then (st_block ?_))
  refine st_conv (l' := [(20, vI 0), (19, vI (f_0.length : Int)), (18, sl A_f_0 f_0 c_f_0), (3, vP b8 0), (2, vP b1 0), (0, vP b_f 0)]) (M' := Mem w0 (ow none ([] : List api_Kind) 0 86 2 [] :: .blk b8 [.slice none 0 0, sl A4 x2 c5, .slice none 0 0] 26 :: ow A4 x2 c5 3 1 y6 :: .blk b1 [.slice none 0 0, .slice none 0 0, .slice none 0 0] 26 :: .blk b_f [sl A_f_0 f_0 c_f_0, sl A_f_1 f_1 c_f_1, .map (some b_f_2)] 96 :: ow A_f_1 f_1 c_f_1 3 1 y_f_1 :: .obj b_f_2 (.map es_f_2 ck_f_2) :: Fz F W :: cs)) rfl (fun w_ h => h.onil none 86 2) ?_
  refine st_conv (l' := [(20, vI 0), (19, vI (f_0.length : Int)), (18, sl A_f_0 f_0 c_f_0), (3, vP b8 0), (2, vP b1 0), (0, vP b_f 0)]) (M' := Mem w0 (ow none ([] : List Int) 0 3 1 [] :: ow none ([] : List api_Kind) 0 86 2 [] :: .blk b8 [.slice none 0 0, sl A4 x2 c5, .slice none 0 0] 26 :: ow A4 x2 c5 3 1 y6 :: .blk b1 [.slice none 0 0, .slice none 0 0, .slice none 0 0] 26 :: .blk b_f [sl A_f_0 f_0 c_f_0, sl A_f_1 f_1 c_f_1, .map (some b_f_2)] 96 :: ow A_f_1 f_1 c_f_1 3 1 y_f_1 :: .obj b_f_2 (.map es_f_2 ck_f_2) :: Fz F W :: cs)) rfl (fun w_ h => h.onil none 3 1) ?_
  refine st_conv (l' := [(20, vI 0), (19, vI (f_0.length : Int)), (18, sl A_f_0 f_0 c_f_0), (3, vP b8 0), (2, vP b1 0), (0, vP b_f 0)]) (M' := Mem w0 (ow none ([] : List api_Item) 0 61 3 [] :: ow none ([] : List Int) 0 3 1 [] :: ow none ([] : List api_Kind) 0 86 2 [] :: .blk b8 [.slice none 0 0, sl A4 x2 c5, .slice none 0 0] 26 :: ow A4 x2 c5 3 1 y6 :: .blk b1 [.slice none 0 0, .slice none 0 0, .slice none 0 0] 26 :: .blk b_f [sl A_f_0 f_0 c_f_0, sl A_f_1 f_1 c_f_1, .map (some b_f_2)] 96 :: ow A_f_1 f_1 c_f_1 3 1 y_f_1 :: .obj b_f_2 (.map es_f_2 ck_f_2) :: Fz F W :: cs)) rfl (fun w_ h => h.onil none 61 3) ?_
  refine st_conv (l' := [(20, vI 0), (19, vI (f_0.length : Int)), (18, sl A_f_0 f_0 c_f_0), (3, vP b8 0), (2, vP b1 0), (0, vP b_f 0)]) (M' := Mem w0 (ow none ([] : List api_Kind) 0 86 2 [] :: ow none ([] : List api_Item) 0 61 3 [] :: ow none ([] : List Int) 0 3 1 [] :: ow none ([] : List api_Kind) 0 86 2 [] :: .blk b8 [.slice none 0 0, sl A4 x2 c5, .slice none 0 0] 26 :: ow A4 x2 c5 3 1 y6 :: .blk b1 [sl none ([] : List api_Kind) 0, sl none ([] : List Int) 0, sl none ([] : List api_Item) 0] 26 :: .blk b_f [sl A_f_0 f_0 c_f_0, sl A_f_1 f_1 c_f_1, .map (some b_f_2)] 96 :: ow A_f_1 f_1 c_f_1 3 1 y_f_1 :: .obj b_f_2 (.map es_f_2 ck_f_2) :: Fz F W :: cs)) rfl (fun w_ h => h.onil none 86 2) ?_
  refine st_conv (l' := [(20, vI 0), (19, vI (f_0.length : Int)), (18, sl A_f_0 f_0 c_f_0), (3, vP b8 0), (2, vP b1 0), (0, vP b_f 0)]) (M' := Mem w0 (ow none ([] : List api_Item) 0 61 3 [] :: ow none ([] : List api_Kind) 0 86 2 [] :: ow none ([] : List api_Item) 0 61 3 [] :: ow none ([] : List Int) 0 3 1 [] :: ow none ([] : List api_Kind) 0 86 2 [] :: .blk b8 [.slice none 0 0, sl A4 x2 c5, .slice none 0 0] 26 :: ow A4 x2 c5 3 1 y6 :: .blk b1 [sl none ([] : List api_Kind) 0, sl none ([] : List Int) 0, sl none ([] : List api_Item) 0] 26 :: .blk b_f [sl A_f_0 f_0 c_f_0, sl A_f_1 f_1 c_f_1, .map (some b_f_2)] 96 :: ow A_f_1 f_1 c_f_1 3 1 y_f_1 :: .obj b_f_2 (.map es_f_2 ck_f_2) :: Fz F W :: cs)) rfl (fun w_ h => h.onil none 61 3) ?_
  obtain ⟨r5, hl5, hk5⟩ := obind hp
  refine st_loopP (σ := (List api_Kind) × Int) (ρ := (List api_Kind)) (γ := (Option Addr) × Nat × (List Value) × (List Value) × (List Value) × (Option Addr) × Nat × (List Value) × (List Value) × (Nat → Prop) × World) hl5 (none, 0, [], [], [], none, 0, [], [], F, W) (fun s_ g_ => match s_, g_ with | (l159, i164), (A149, c150, y151, y153, y155, A157, c158, y160, y162, F165, W166) => [(0, vP b_f 0), (2, vP b1 0), (3, vP b8 0), (18, sl A_f_0 f_0 c_f_0), (19, vI (f_0.length : Int)), (20, vI i164)]) (fun s_ g_ => match s_, g_ with | (l159, i164), (A149, c150, y151, y153, y155, A157, c158, y160, y162, F165, W166) => Mem w0 (.blk b_f [sl A_f_0 f_0 c_f_0, sl A_f_1 f_1 c_f_1, .map (some b_f_2)] 96 :: ow A_f_1 f_1 c_f_1 3 1 y_f_1 :: .obj b_f_2 (.map es_f_2 ck_f_2) :: .blk b1 [sl A149 ([] : List api_Kind) c150, sl A149 ([] : List Int) c150, sl A149 ([] : List api_Item) c150] 26 :: ow A149 ([] : List api_Kind) c150 86 2 y151 :: ow A149 ([] : List Int) c150 3 1 y153 :: ow A149 ([] : List api_Item) c150 61 3 y155 :: .blk b8 [sl A157 l159 c158, sl A4 x2 c5, sl A149 ([] : List api_Item) c150] 26 :: ow A157 l159 c158 86 2 y160 :: ow A4 x2 c5 3 1 y6 :: ow A149 ([] : List api_Item) c150 61 3 y162 :: Fz F165 W166 :: cs)) (fun s_ g_ => match s_, g_ with | (l159, i164), (A149, c150, y151, y153, y155, A157, c158, y160, y162, F165, W166) => (RepL R_api_Kind F165 W166 ([] : List api_Kind) y151) ∧ (RepL (Rep.int .i64) F165 W166 ([] : List Int) y153) ∧ (RepL R_api_Item F165 W166 ([] : List api_Item) y155) ∧ (RepL R_api_Kind F165 W166 l159 y160) ∧ (RepL R_api_Item F165 W166 ([] : List api_Item) y162) ∧ (Ext w0 F W F165 W166)) ⟨(RepL.nil (R := R_api_Kind)), (RepL.nil (R := (Rep.int .i64))), (RepL.nil (R := R_api_Item)), (RepL.nil (R := R_api_Kind)), (RepL.nil (R := R_api_Item)), (Ext.refl _ _ _)⟩ (look_has ⟨rfl, rfl, rfl, rfl, rfl, rfl, trivial⟩) (fun w_ hM => hM.pick 12 [8, 9, 10, 7, 4, 3, 2, 5, 1, 6, 0, 11] (by kernel_rfl) (by decide) rfl) ?_
  rintro ⟨l159, i164⟩ ⟨A149, c150, y151, y153, y155, A157, c158, y160, y162, F165, W166⟩ o5 ⟨h152, h154, h156, h161, h163, hx5⟩ hs_ hd5
  have hp : (tourref3_Flat_Close_l5 f_0) l159 i164 = some o5 := hs_
  clear hs_
  unfold tourref3_Flat_Close_l5 at hp
  have h_f_0 := h_f_0.ext hx5
  have h_f_1 := h_f_1.ext hx5
  have h_f_2 := h_f_2.ext hx5
  have h7 := h7.ext hx5
  refine st_seq (st_region [oF 0] (by rfl) ?_)
  refine oQ [oF 0] [(21, .bool (decide (i164 < (f_0.length : Int)))), (0, vP b_f 0), (2, vP b1 0), (3, vP b8 0), (18, sl A_f_0 f_0 c_f_0), (19, vI (f_0.length : Int)), (20, vI i164)] (by kernel_rfl) ?_
  refine ops_nil (fin_then (st_seq ?_))
  refine st_if (b := decide (i164 < (f_0.length : Int))) rfl (fun hc167 => ?_) (fun hc167 => ?_)
  ·
   have hp := cnd_t hc167 hp
   refine st_skip (fin_then ?_)
   refine st_join1 (σ := (Option Addr) × Nat × (List api_Kind) × (List Value) × (Nat → Prop) × World) (L := fun x_ => match x_ with | (A168, c169, l170, y171, F173, W174) => [(0, vP b_f 0), (2, vP b1 0), (3, vP b8 0), (18, sl A_f_0 f_0 c_f_0), (19, vI (f_0.length : Int)), (20, vI i164)]) (N := fun x_ => match x_ with | (A168, c169, l170, y171, F173, W174) => Mem w0 (.blk b_f [sl A_f_0 f_0 c_f_0, sl A_f_1 f_1 c_f_1, .map (some b_f_2)] 96 :: ow A_f_1 f_1 c_f_1 3 1 y_f_1 :: .obj b_f_2 (.map es_f_2 ck_f_2) :: .blk b1 [sl A149 ([] : List api_Kind) c150, sl A149 ([] : List Int) c150, sl A149 ([] : List api_Item) c150] 26 :: ow A149 ([] : List api_Kind) c150 86 2 y151 :: ow A149 ([] : List Int) c150 3 1 y153 :: ow A149 ([] : List api_Item) c150 61 3 y155 :: .blk b8 [sl A168 l170 c169, sl A4 x2 c5, sl A149 ([] : List api_Item) c150] 26 :: ow A168 l170 c169 86 2 y171 :: ow A4 x2 c5 3 1 y6 :: ow A149 ([] : List api_Item) c150 61 3 y162 :: Fz F173 W174 :: cs)) (I := fun x_ => match x_ with | (A168, c169, l170, y171, F173, W174) => ((tourref3_Flat_Close_j6 i164) l170 = some o5) ∧ (RepL R_api_Kind F173 W174 l170 y171) ∧ (Ext w0 F165 W166 F173 W174)) ?_ ?_
   ·
    rintro ⟨A168, c169, l170, y171, F173, W174⟩ ⟨hp, h172, hx6⟩
    have h_f_0 := h_f_0.ext hx6
    have h_f_1 := h_f_1.ext hx6
    have h_f_2 := h_f_2.ext hx6
    have h152 := h152.ext hx6
    have h154 := h154.ext hx6
    have h156 := h156.ext hx6
    have h7 := h7.ext hx6
    have h163 := h163.ext hx6
    unfold tourref3_Flat_Close_j6 at hp
    refine st_region [oF 0, oF 1] (by rfl) ?_
    refine oQ [oF 0, oF 1] [(20, vI (IntKind.i64.wrap (i164 + 1))), (0, vP b_f 0), (2, vP b1 0), (3, vP b8 0), (18, sl A_f_0 f_0 c_f_0), (19, vI (f_0.length : Int))] (by kernel_rfl) ?_
    refine ops_nil ?_
    exact fin_again (l170, IntKind.i64.wrap (i164 + 1)) (A149, c150, y151, y153, y155, A168, c169, y171, y162, F173, W174) (Option.some.inj hp).symm ⟨h152, h154, h156, h172, h163, (hx5.trans hx6)⟩ (look_has ⟨rfl, rfl, rfl, rfl, rfl, rfl, trivial⟩) (fun w_ hM => hM)
   ·
    intro HJ6
    refine st_seq (st_block (st_seq (st_region [oF 0, oF 1, oF 2, oF 3] (by rfl) ?_)))
    obtain ⟨x175, hv176, hp⟩ := obind hp
    obtain ⟨m177, hm178, hx179⟩ := idx_some hv176
    have hl182 := (List.getElem?_eq_some_iff.1 hx179).1
    obtain ⟨ad183, vs180, hA184, hr181, hq185⟩ := RdS.el h_f_0 hx179
    obtain ⟨A186, c187, rfl, h188⟩ := dec_api_Kind hr181
    refine ops_val (op := (.indexAddr 22 (.tmp 18) (.tmp 20))) (d := some 22) (v := .pointer (some (ad183.add (m177 * 2)))) ⟨by kernel_rfl⟩ (run_indexA hA184 Tryz.underlying22 (z := 2) (by kernel_rfl) rfl rfl hm178 hl182) ?_
    refine ops_mem (d := some 23) (an := [.v (.string x175.Name), .v (sl A186 x175.Fields c187)]) (evs := [.load (ad183.add (m177 * 2)) (.string x175.Name), .load ((ad183.add (m177 * 2)).add 1) (sl A186 x175.Fields c187)]) (v := .agg #[.string x175.Name, sl A186 x175.Fields c187]) ⟨by kernel_rfl⟩ (fun w_ hM hS => ⟨w_, ⟨hM.elcell 11 rfl hq185 0 rfl, hM.elcell 11 rfl hq185 1 rfl, rfl⟩, hM, trivial⟩) ?_
    refine ops_newB (d := some 5) [.string ByteArray.empty, .slice none 0 0] 86 (fun b189 => ⟨by kernel_rfl⟩) (fun w_ hM hS => trivial) (fun b189 => ?_)
    refine ops_store (an := []) (evs := [sr b189 0 (.string x175.Name), sr b189 1 (sl A186 x175.Fields c187)]) ⟨by kernel_rfl⟩ (fun w_ hM hS => let ⟨w', he, h'⟩ := hM.evs_stores [.string x175.Name, sl A186 x175.Fields c187] 0 rfl 0 (Nat.le_of_ble_eq_true rfl); ⟨w', he, h', trivial⟩) ?_
    refine ops_nil (fin_then ?_)
    obtain ⟨x190, hv191, hp⟩ := obind hp
    obtain ⟨l202, hv203, hp⟩ := obind hp
    refine st_region_tree (.node [oT 0, oT 2, oT 3, oT 4, oT 5] (.leaf [oF 1, oF 6, oT 7, oF 8, oF 9, oT 10, oF 11]) (.node [oF 6, oT 7] (.leaf [oF 1, oF 8, oF 9, oT 10, oF 11]) (.leaf [oF 8, oF 1, oF 9, oT 10, oF 11]))) (Mem w0 (.blk b189 [.string x175.Name, sl A186 x175.Fields c187] 86 :: .blk b_f [sl A_f_0 f_0 c_f_0, sl A_f_1 f_1 c_f_1, .map (some b_f_2)] 96 :: ow A_f_1 f_1 c_f_1 3 1 y_f_1 :: .obj b_f_2 (.map es_f_2 ck_f_2) :: .blk b1 [sl A149 ([] : List api_Kind) c150, sl A149 ([] : List Int) c150, sl A149 ([] : List api_Item) c150] 26 :: ow A149 ([] : List api_Kind) c150 86 2 y151 :: ow A149 ([] : List Int) c150 3 1 y153 :: ow A149 ([] : List api_Item) c150 61 3 y155 :: ow A4 x2 c5 3 1 y6 :: ow A149 ([] : List api_Item) c150 61 3 y162 :: Fz F165 W166 :: cs)) (by kernel_rfl) (by kernel_rfl) (by kernel_rfl) (fun _ d _ _ _ h => by cases d <;> exact h) (M' := Mem w0 (.blk b189 [.string x175.Name, sl A186 x175.Fields c187] 86 :: .blk b_f [sl A_f_0 f_0 c_f_0, sl A_f_1 f_1 c_f_1, .map (some b_f_2)] 96 :: ow A_f_1 f_1 c_f_1 3 1 y_f_1 :: .obj b_f_2 (.map es_f_2 ck_f_2) :: .blk b1 [sl A149 ([] : List api_Kind) c150, sl A149 ([] : List Int) c150, sl A149 ([] : List api_Item) c150] 26 :: ow A149 ([] : List api_Kind) c150 86 2 y151 :: ow A149 ([] : List Int) c150 3 1 y153 :: ow A149 ([] : List api_Item) c150 61 3 y155 :: .blk b8 [sl A157 l159 c158, sl A4 x2 c5, sl A149 ([] : List api_Item) c150] 26 :: ow A157 l159 c158 86 2 y160 :: ow A4 x2 c5 3 1 y6 :: ow A149 ([] : List api_Item) c150 61 3 y162 :: Fz F165 W166 :: cs)) (fun w_ hM => ⟨hM.drew, hM.drew.sub (.cons_cons _ (.cons_cons _ (.cons_cons _ (.cons_cons _ (.cons_cons _ (.cons_cons _ (.cons_cons _ (.cons_cons _ (.cons _ (.cons _ (.cons_cons _ (.cons_cons _ (.cons_cons _ (.refl _))))))))))))))⟩) ?_
    refine tree_node ?_
    refine oQ [oT 0, oT 2] [(26, vP b189 0), (24, vP b8 0), (5, vP b189 0), (0, vP b_f 0), (2, vP b1 0), (3, vP b8 0), (18, sl A_f_0 f_0 c_f_0), (19, vI (f_0.length : Int)), (20, vI i164)] (by kernel_rfl) ?_
    refine ops_load (d := some 27) (an := [.v (.string x175.Name)]) (evs := [ld b189 0 (.string x175.Name)]) (v := .string x175.Name) ⟨by kernel_rfl⟩ (fun w_ hM => ⟨hM.cell 0 rfl rfl, rfl⟩) ?_
    refine oQ [oT 4] [(28, vP b189 1), (27, .string x175.Name), (24, vP b8 0), (0, vP b_f 0), (2, vP b1 0), (3, vP b8 0), (18, sl A_f_0 f_0 c_f_0), (19, vI (f_0.length : Int)), (20, vI i164)] (by kernel_rfl) ?_
    refine ops_load (d := some 29) (an := [.v (sl A186 x175.Fields c187)]) (evs := [ld b189 1 (sl A186 x175.Fields c187)]) (v := sl A186 x175.Fields c187) ⟨by kernel_rfl⟩ (fun w_ hM => ⟨hM.cell 0 rfl rfl, rfl⟩) ?_
    refine ops_nil ?_
    refine tree_both ?_ ?_
    ·
     refine tree_leaf ?_
     refine ops_mem (d := some 25) (an := [.v (sl A157 l159 c158)]) (evs := [ld b8 0 (sl A157 l159 c158)]) (v := sl A157 l159 c158) ⟨by kernel_rfl⟩ (fun w_ hM hS => ⟨w_, ⟨hM.cell 8 rfl rfl, rfl⟩, hM, hS⟩) ?_
     refine ops_callI (σ := (Option Addr) × Nat × (List Value)) (d := some 30) (f := 50) (args := #[sl A186 x175.Fields c187]) (v := (fun x_ => match x_ with | (A204, c205, y206) => sl A204 x190 c205)) (I := (fun x_ => match x_ with | (A204, c205, y206) => (RepL R_api_Field F165 W166 x190 y206))) (M' := (fun x_ => match x_ with | (A204, c205, y206) => Mem w0 (ow A204 x190 c205 99 3 y206 :: .blk b189 [.string x175.Name, sl A186 x175.Fields c187] 86 :: .blk b_f [sl A_f_0 f_0 c_f_0, sl A_f_1 f_1 c_f_1, .map (some b_f_2)] 96 :: ow A_f_1 f_1 c_f_1 3 1 y_f_1 :: .obj b_f_2 (.map es_f_2 ck_f_2) :: .blk b1 [sl A149 ([] : List api_Kind) c150, sl A149 ([] : List Int) c150, sl A149 ([] : List api_Item) c150] 26 :: ow A149 ([] : List api_Kind) c150 86 2 y151 :: ow A149 ([] : List Int) c150 3 1 y153 :: ow A149 ([] : List api_Item) c150 61 3 y155 :: .blk b8 [sl A157 l159 c158, sl A4 x2 c5, sl A149 ([] : List api_Item) c150] 26 :: ow A157 l159 c158 86 2 y160 :: ow A4 x2 c5 3 1 y6 :: ow A149 ([] : List api_Item) c150 61 3 y162 :: Fz F165 W166 :: cs))) ⟨by kernel_rfl⟩ (fun w_ hM hS => (slices_Clone_api_Field_api_Field_ok w0 w_ (.blk b189 [.string x175.Name, sl A186 x175.Fields c187] 86 :: .blk b_f [sl A_f_0 f_0 c_f_0, sl A_f_1 f_1 c_f_1, .map (some b_f_2)] 96 :: ow A_f_1 f_1 c_f_1 3 1 y_f_1 :: .obj b_f_2 (.map es_f_2 ck_f_2) :: .blk b1 [sl A149 ([] : List api_Kind) c150, sl A149 ([] : List Int) c150, sl A149 ([] : List api_Item) c150] 26 :: ow A149 ([] : List api_Kind) c150 86 2 y151 :: ow A149 ([] : List Int) c150 3 1 y153 :: ow A149 ([] : List api_Item) c150 61 3 y155 :: .blk b8 [sl A157 l159 c158, sl A4 x2 c5, sl A149 ([] : List api_Item) c150] 26 :: ow A157 l159 c158 86 2 y160 :: ow A4 x2 c5 3 1 y6 :: ow A149 ([] : List api_Item) c150 61 3 y162 :: cs) F165 W166 A186 c187 x175.Fields (hM.pick 13 [12, 0, 1, 2, 3, 4, 5, 6, 7, 8, 9, 10, 11] (by kernel_rfl) (by decide) rfl) h188 x190 hv191).mono (by rintro e w' ⟨A204, c205, y206, h207, rfl, h'⟩; have h' : Mem w0 (ow A204 x190 c205 99 3 y206 :: .blk b189 [.string x175.Name, sl A186 x175.Fields c187] 86 :: .blk b_f [sl A_f_0 f_0 c_f_0, sl A_f_1 f_1 c_f_1, .map (some b_f_2)] 96 :: ow A_f_1 f_1 c_f_1 3 1 y_f_1 :: .obj b_f_2 (.map es_f_2 ck_f_2) :: .blk b1 [sl A149 ([] : List api_Kind) c150, sl A149 ([] : List Int) c150, sl A149 ([] : List api_Item) c150] 26 :: ow A149 ([] : List api_Kind) c150 86 2 y151 :: ow A149 ([] : List Int) c150 3 1 y153 :: ow A149 ([] : List api_Item) c150 61 3 y155 :: .blk b8 [sl A157 l159 c158, sl A4 x2 c5, sl A149 ([] : List api_Item) c150] 26 :: ow A157 l159 c158 86 2 y160 :: ow A4 x2 c5 3 1 y6 :: ow A149 ([] : List api_Item) c150 61 3 y162 :: Fz F165 W166 :: cs) w' := (h'.pick 14 [0, 2, 3, 4, 5, 6, 7, 8, 9, 10, 11, 12, 13, 1] (by kernel_rfl) (by decide) rfl); exact ⟨(A204, c205, y206), h207, rfl, h', (by exact h'.sub (.cons _ (.cons_cons _ (.cons_cons _ (.cons_cons _ (.cons_cons _ (.cons_cons _ (.cons_cons _ (.cons_cons _ (.cons_cons _ (.cons _ (.cons _ (.cons_cons _ (.cons_cons _ (.cons_cons _ (.refl _))))))))))))))))⟩)) ?_
     rintro ⟨A204, c205, y206⟩ h207
     refine oQ [oT 7] [(31, .agg #[.string x175.Name, sl A204 x190 c205]), (25, sl A157 l159 c158), (0, vP b_f 0), (2, vP b1 0), (3, vP b8 0), (18, sl A_f_0 f_0 c_f_0), (19, vI (f_0.length : Int)), (20, vI i164)] (by kernel_rfl) ?_
     refine ops_ex (σ := (Nat → Prop) × World) (I := fun x_ => Ext w0 F165 W166 x_.1 x_.2 ∧ RdS R_api_Field x_.1 x_.2 A204 c205 x190) (M' := fun x_ => Mem w0 (.blk b189 [.string x175.Name, sl A186 x175.Fields c187] 86 :: .blk b_f [sl A_f_0 f_0 c_f_0, sl A_f_1 f_1 c_f_1, .map (some b_f_2)] 96 :: ow A_f_1 f_1 c_f_1 3 1 y_f_1 :: .obj b_f_2 (.map es_f_2 ck_f_2) :: .blk b1 [sl A149 ([] : List api_Kind) c150, sl A149 ([] : List Int) c150, sl A149 ([] : List api_Item) c150] 26 :: ow A149 ([] : List api_Kind) c150 86 2 y151 :: ow A149 ([] : List Int) c150 3 1 y153 :: ow A149 ([] : List api_Item) c150 61 3 y155 :: .blk b8 [sl A157 l159 c158, sl A4 x2 c5, sl A149 ([] : List api_Item) c150] 26 :: ow A157 l159 c158 86 2 y160 :: ow A4 x2 c5 3 1 y6 :: ow A149 ([] : List api_Item) c150 61 3 y162 :: Fz x_.1 x_.2 :: cs)) (fun w_ hM => ?_) ?_
     · obtain ⟨F_, h1_, h2_, h3_⟩ := (hM.pick 14 [0, 13, 1, 2, 3, 4, 5, 6, 7, 8, 9, 10, 11, 12] (by kernel_rfl) (by decide) rfl : Mem w0 (ow A204 x190 c205 99 3 y206 :: Fz F165 W166 :: .blk b189 [.string x175.Name, sl A186 x175.Fields c187] 86 :: .blk b_f [sl A_f_0 f_0 c_f_0, sl A_f_1 f_1 c_f_1, .map (some b_f_2)] 96 :: ow A_f_1 f_1 c_f_1 3 1 y_f_1 :: .obj b_f_2 (.map es_f_2 ck_f_2) :: .blk b1 [sl A149 ([] : List api_Kind) c150, sl A149 ([] : List Int) c150, sl A149 ([] : List api_Item) c150] 26 :: ow A149 ([] : List api_Kind) c150 86 2 y151 :: ow A149 ([] : List Int) c150 3 1 y153 :: ow A149 ([] : List api_Item) c150 61 3 y155 :: .blk b8 [sl A157 l159 c158, sl A4 x2 c5, sl A149 ([] : List api_Item) c150] 26 :: ow A157 l159 c158 86 2 y160 :: ow A4 x2 c5 3 1 y6 :: ow A149 ([] : List api_Item) c150 61 3 y162 :: cs) w_).freeze (z := 3) h207 rfl rfl
       exact ⟨(F_, w_), ⟨h1_, h2_⟩, h3_.pick 13 [1, 2, 3, 4, 5, 6, 7, 8, 9, 10, 11, 12, 0] (by kernel_rfl) (by decide) rfl⟩
     rintro ⟨F208, W209⟩ ⟨hx210, h211⟩
     have hx210 : Ext w0 F165 W166 F208 W209 := hx210
     have h211 : RdS R_api_Field F208 W209 A204 c205 x190 := h211
     have h_f_0 := h_f_0.ext hx210
     have h188 := h188.ext hx210
     have h_f_1 := h_f_1.ext hx210
     have h_f_2 := h_f_2.ext hx210
     have h152 := h152.ext hx210
     have h154 := h154.ext hx210
     have h156 := h156.ext hx210
     have h161 := h161.ext hx210
     have h7 := h7.ext hx210
     have h163 := h163.ext hx210
     have h212 : RepL R_api_Kind F208 W209 ([(api_Kind.mk x175.Name x190)] : List api_Kind) ([.string x175.Name, sl A204 x190 c205]) := (RepL.cons (R := R_api_Kind) (F := F208) (w := W209) (vs := [.string x175.Name, sl A204 x190 c205]) (ys := []) (enc_api_Kind h211) RepL.nil)
     refine ops_new (d := some 32) (o := .cells ([.string x175.Name, sl A204 x190 c205] : List Value).toArray 86) (v := fun g213 => .slice (sa g213) ([(api_Kind.mk x175.Name x190)] : List api_Kind).length 1) (M' := fun g213 => Mem w0 (orow (sa g213) ([(api_Kind.mk x175.Name x190)] : List api_Kind).length 1 86 2 ([.string x175.Name, sl A204 x190 c205]) :: .blk b189 [.string x175.Name, sl A186 x175.Fields c187] 86 :: .blk b_f [sl A_f_0 f_0 c_f_0, sl A_f_1 f_1 c_f_1, .map (some b_f_2)] 96 :: ow A_f_1 f_1 c_f_1 3 1 y_f_1 :: .obj b_f_2 (.map es_f_2 ck_f_2) :: .blk b1 [sl A149 ([] : List api_Kind) c150, sl A149 ([] : List Int) c150, sl A149 ([] : List api_Item) c150] 26 :: ow A149 ([] : List api_Kind) c150 86 2 y151 :: ow A149 ([] : List Int) c150 3 1 y153 :: ow A149 ([] : List api_Item) c150 61 3 y155 :: .blk b8 [sl A157 l159 c158, sl A4 x2 c5, sl A149 ([] : List api_Item) c150] 26 :: ow A157 l159 c158 86 2 y160 :: ow A4 x2 c5 3 1 y6 :: ow A149 ([] : List api_Item) c150 61 3 y162 :: Fz F208 W209 :: cs)) (fun g213 => ⟨by kernel_rfl⟩) (fun w_ hM hS => ⟨hM.onew [.string x175.Name, sl A204 x190 c205] 86 1 2 rfl (by decide), hS.alloc _⟩) (fun g213 => ?_)
     obtain ⟨he214, hb215⟩ := app_some hv203
     obtain ⟨y216, hy217⟩ : ∃ y_, y160 ++ ([.string x175.Name, sl A204 x190 c205]) = y_ := ⟨_, rfl⟩
     have h218 : RepL R_api_Kind F208 W209 l202 y216 := by rw [he214, ← hy217]; exact RepL.app h161 h212
     refine ops_appendO (x := (Go.Operand.tmp 25)) (y := (Go.Operand.tmp 32)) (t := 22) (e := 86) (d := some 33) (n' := l202.length) (z := 2) (m := ([(api_Kind.mk x175.Name x190)] : List api_Kind).length) (bytes := 40) (xs' := y216) (news := ([.string x175.Name, sl A204 x190 c205])) (zv := .agg #[.string ByteArray.empty, .slice none 0 0]) 10 ⟨by kernel_rfl⟩ rfl rfl Tryz.underlying22 (by kernel_rfl) (by rfl) rfl (fun w_ hM => hM.srcO 0 rfl) h212.len h212.one hb215 (by have z_ := congrArg List.length he214; rw [List.length_append] at z_; exact z_.symm) hy217 (fun _ _ _ _ hS h' => (by first | exact (Mem.fzback h' 13 rfl hx210).sub (.cons _ (.cons_cons _ (.cons_cons _ (.cons_cons _ (.cons_cons _ (.cons_cons _ (.cons_cons _ (.cons_cons _ (.cons_cons _ (.cons _ (.cons _ (.cons_cons _ (.cons_cons _ (.cons_cons _ (.refl _))))))))))))))) | exact (Mem.fzback h' 13 rfl (hx5.trans hx210)).sub (.cons _ (.cons_cons _ (.cons_cons _ (.cons_cons _ (.cons_cons _ (.cons_cons _ (.cons_cons _ (.cons_cons _ (.cons_cons _ (.cons _ (.cons _ (.cons_cons _ (.cons_cons _ (.cons_cons _ (.refl _))))))))))))))))) ?_
     rintro ⟨A219, c220⟩
     refine oQ [oT 10] [(34, vP b8 0), (33, sl A219 l202 c220), (0, vP b_f 0), (2, vP b1 0), (3, vP b8 0), (18, sl A_f_0 f_0 c_f_0), (19, vI (f_0.length : Int)), (20, vI i164)] (by kernel_rfl) ?_
     refine ops_store (an := []) (evs := [sr b8 0 (sl A219 l202 c220)]) ⟨by kernel_rfl⟩ (fun w_ hM hS => let ⟨w', he, h'⟩ := hM.evs_stores [sl A219 l202 c220] 9 rfl 0 (Nat.le_of_ble_eq_true rfl); ⟨w', he, h', (by first | exact (Mem.fzback h' 13 rfl hx210).sub (.cons _ (.cons_cons _ (.cons_cons _ (.cons_cons _ (.cons_cons _ (.cons_cons _ (.cons_cons _ (.cons_cons _ (.cons_cons _ (.cons _ (.cons _ (.cons_cons _ (.cons_cons _ (.cons_cons _ (.refl _))))))))))))))) | exact (Mem.fzback h' 13 rfl (hx5.trans hx210)).sub (.cons _ (.cons_cons _ (.cons_cons _ (.cons_cons _ (.cons_cons _ (.cons_cons _ (.cons_cons _ (.cons_cons _ (.cons_cons _ (.cons _ (.cons _ (.cons_cons _ (.cons_cons _ (.cons_cons _ (.refl _))))))))))))))))⟩) ?_
     refine ops_nil (fin_block ?_)
     exact fin_join HJ6 (A219, c220, l202, y216, F208, W209) ⟨hp, h218, hx210⟩ (look_has ⟨rfl, rfl, rfl, rfl, rfl, rfl, trivial⟩) (fun w_ hM => hM.pick 14 [2, 3, 4, 5, 6, 7, 8, 9, 10, 11, 12, 13] (by kernel_rfl) (by decide) rfl)
    ·
     refine tree_node ?_
     refine ops_callI (σ := (Option Addr) × Nat × (List Value)) (d := some 30) (f := 50) (args := #[sl A186 x175.Fields c187]) (v := (fun x_ => match x_ with | (A221, c222, y223) => sl A221 x190 c222)) (I := (fun x_ => match x_ with | (A221, c222, y223) => (RepL R_api_Field F165 W166 x190 y223))) (M' := (fun x_ => match x_ with | (A221, c222, y223) => Mem w0 (ow A221 x190 c222 99 3 y223 :: .blk b189 [.string x175.Name, sl A186 x175.Fields c187] 86 :: .blk b_f [sl A_f_0 f_0 c_f_0, sl A_f_1 f_1 c_f_1, .map (some b_f_2)] 96 :: ow A_f_1 f_1 c_f_1 3 1 y_f_1 :: .obj b_f_2 (.map es_f_2 ck_f_2) :: .blk b1 [sl A149 ([] : List api_Kind) c150, sl A149 ([] : List Int) c150, sl A149 ([] : List api_Item) c150] 26 :: ow A149 ([] : List api_Kind) c150 86 2 y151 :: ow A149 ([] : List Int) c150 3 1 y153 :: ow A149 ([] : List api_Item) c150 61 3 y155 :: .blk b8 [sl A157 l159 c158, sl A4 x2 c5, sl A149 ([] : List api_Item) c150] 26 :: ow A157 l159 c158 86 2 y160 :: ow A4 x2 c5 3 1 y6 :: ow A149 ([] : List api_Item) c150 61 3 y162 :: Fz F165 W166 :: cs))) ⟨by kernel_rfl⟩ (fun w_ hM hS => (slices_Clone_api_Field_api_Field_ok w0 w_ (.blk b189 [.string x175.Name, sl A186 x175.Fields c187] 86 :: .blk b_f [sl A_f_0 f_0 c_f_0, sl A_f_1 f_1 c_f_1, .map (some b_f_2)] 96 :: ow A_f_1 f_1 c_f_1 3 1 y_f_1 :: .obj b_f_2 (.map es_f_2 ck_f_2) :: .blk b1 [sl A149 ([] : List api_Kind) c150, sl A149 ([] : List Int) c150, sl A149 ([] : List api_Item) c150] 26 :: ow A149 ([] : List api_Kind) c150 86 2 y151 :: ow A149 ([] : List Int) c150 3 1 y153 :: ow A149 ([] : List api_Item) c150 61 3 y155 :: .blk b8 [sl A157 l159 c158, sl A4 x2 c5, sl A149 ([] : List api_Item) c150] 26 :: ow A157 l159 c158 86 2 y160 :: ow A4 x2 c5 3 1 y6 :: ow A149 ([] : List api_Item) c150 61 3 y162 :: cs) F165 W166 A186 c187 x175.Fields (hM.pick 13 [12, 0, 1, 2, 3, 4, 5, 6, 7, 8, 9, 10, 11] (by kernel_rfl) (by decide) rfl) h188 x190 hv191).mono (by rintro e w' ⟨A221, c222, y223, h224, rfl, h'⟩; have h' : Mem w0 (ow A221 x190 c222 99 3 y223 :: .blk b189 [.string x175.Name, sl A186 x175.Fields c187] 86 :: .blk b_f [sl A_f_0 f_0 c_f_0, sl A_f_1 f_1 c_f_1, .map (some b_f_2)] 96 :: ow A_f_1 f_1 c_f_1 3 1 y_f_1 :: .obj b_f_2 (.map es_f_2 ck_f_2) :: .blk b1 [sl A149 ([] : List api_Kind) c150, sl A149 ([] : List Int) c150, sl A149 ([] : List api_Item) c150] 26 :: ow A149 ([] : List api_Kind) c150 86 2 y151 :: ow A149 ([] : List Int) c150 3 1 y153 :: ow A149 ([] : List api_Item) c150 61 3 y155 :: .blk b8 [sl A157 l159 c158, sl A4 x2 c5, sl A149 ([] : List api_Item) c150] 26 :: ow A157 l159 c158 86 2 y160 :: ow A4 x2 c5 3 1 y6 :: ow A149 ([] : List api_Item) c150 61 3 y162 :: Fz F165 W166 :: cs) w' := (h'.pick 14 [0, 2, 3, 4, 5, 6, 7, 8, 9, 10, 11, 12, 13, 1] (by kernel_rfl) (by decide) rfl); exact ⟨(A221, c222, y223), h224, rfl, h', (by exact h'.sub (.cons _ (.cons_cons _ (.cons_cons _ (.cons_cons _ (.cons_cons _ (.cons_cons _ (.cons_cons _ (.cons_cons _ (.cons_cons _ (.cons _ (.cons _ (.cons_cons _ (.cons_cons _ (.cons_cons _ (.refl _))))))))))))))))⟩)) ?_
     rintro ⟨A221, c222, y223⟩ h224
     refine oQ [oT 7] [(31, .agg #[.string x175.Name, sl A221 x190 c222]), (24, vP b8 0), (0, vP b_f 0), (2, vP b1 0), (3, vP b8 0), (18, sl A_f_0 f_0 c_f_0), (19, vI (f_0.length : Int)), (20, vI i164)] (by kernel_rfl) ?_
     refine ops_nil ?_
     refine tree_both ?_ ?_
     ·
      refine tree_leaf ?_
      refine ops_mem (d := some 25) (an := [.v (sl A157 l159 c158)]) (evs := [ld b8 0 (sl A157 l159 c158)]) (v := sl A157 l159 c158) ⟨by kernel_rfl⟩ (fun w_ hM hS => ⟨w_, ⟨hM.cell 9 rfl rfl, rfl⟩, hM, hS⟩) ?_
      refine ops_ex (σ := (Nat → Prop) × World) (I := fun x_ => Ext w0 F165 W166 x_.1 x_.2 ∧ RdS R_api_Field x_.1 x_.2 A221 c222 x190) (M' := fun x_ => Mem w0 (.blk b189 [.string x175.Name, sl A186 x175.Fields c187] 86 :: .blk b_f [sl A_f_0 f_0 c_f_0, sl A_f_1 f_1 c_f_1, .map (some b_f_2)] 96 :: ow A_f_1 f_1 c_f_1 3 1 y_f_1 :: .obj b_f_2 (.map es_f_2 ck_f_2) :: .blk b1 [sl A149 ([] : List api_Kind) c150, sl A149 ([] : List Int) c150, sl A149 ([] : List api_Item) c150] 26 :: ow A149 ([] : List api_Kind) c150 86 2 y151 :: ow A149 ([] : List Int) c150 3 1 y153 :: ow A149 ([] : List api_Item) c150 61 3 y155 :: .blk b8 [sl A157 l159 c158, sl A4 x2 c5, sl A149 ([] : List api_Item) c150] 26 :: ow A157 l159 c158 86 2 y160 :: ow A4 x2 c5 3 1 y6 :: ow A149 ([] : List api_Item) c150 61 3 y162 :: Fz x_.1 x_.2 :: cs)) (fun w_ hM => ?_) ?_
      · obtain ⟨F_, h1_, h2_, h3_⟩ := (hM.pick 14 [0, 13, 1, 2, 3, 4, 5, 6, 7, 8, 9, 10, 11, 12] (by kernel_rfl) (by decide) rfl : Mem w0 (ow A221 x190 c222 99 3 y223 :: Fz F165 W166 :: .blk b189 [.string x175.Name, sl A186 x175.Fields c187] 86 :: .blk b_f [sl A_f_0 f_0 c_f_0, sl A_f_1 f_1 c_f_1, .map (some b_f_2)] 96 :: ow A_f_1 f_1 c_f_1 3 1 y_f_1 :: .obj b_f_2 (.map es_f_2 ck_f_2) :: .blk b1 [sl A149 ([] : List api_Kind) c150, sl A149 ([] : List Int) c150, sl A149 ([] : List api_Item) c150] 26 :: ow A149 ([] : List api_Kind) c150 86 2 y151 :: ow A149 ([] : List Int) c150 3 1 y153 :: ow A149 ([] : List api_Item) c150 61 3 y155 :: .blk b8 [sl A157 l159 c158, sl A4 x2 c5, sl A149 ([] : List api_Item) c150] 26 :: ow A157 l159 c158 86 2 y160 :: ow A4 x2 c5 3 1 y6 :: ow A149 ([] : List api_Item) c150 61 3 y162 :: cs) w_).freeze (z := 3) h224 rfl rfl
        exact ⟨(F_, w_), ⟨h1_, h2_⟩, h3_.pick 13 [1, 2, 3, 4, 5, 6, 7, 8, 9, 10, 11, 12, 0] (by kernel_rfl) (by decide) rfl⟩
      rintro ⟨F225, W226⟩ ⟨hx227, h228⟩
      have hx227 : Ext w0 F165 W166 F225 W226 := hx227
      have h228 : RdS R_api_Field F225 W226 A221 c222 x190 := h228
      have h_f_0 := h_f_0.ext hx227
      have h188 := h188.ext hx227
      have h_f_1 := h_f_1.ext hx227
      have h_f_2 := h_f_2.ext hx227
      have h152 := h152.ext hx227
      have h154 := h154.ext hx227
      have h156 := h156.ext hx227
      have h161 := h161.ext hx227
      have h7 := h7.ext hx227
      have h163 := h163.ext hx227
      have h229 : RepL R_api_Kind F225 W226 ([(api_Kind.mk x175.Name x190)] : List api_Kind) ([.string x175.Name, sl A221 x190 c222]) := (RepL.cons (R := R_api_Kind) (F := F225) (w := W226) (vs := [.string x175.Name, sl A221 x190 c222]) (ys := []) (enc_api_Kind h228) RepL.nil)
      refine ops_new (d := some 32) (o := .cells ([.string x175.Name, sl A221 x190 c222] : List Value).toArray 86) (v := fun g230 => .slice (sa g230) ([(api_Kind.mk x175.Name x190)] : List api_Kind).length 1) (M' := fun g230 => Mem w0 (orow (sa g230) ([(api_Kind.mk x175.Name x190)] : List api_Kind).length 1 86 2 ([.string x175.Name, sl A221 x190 c222]) :: .blk b189 [.string x175.Name, sl A186 x175.Fields c187] 86 :: .blk b_f [sl A_f_0 f_0 c_f_0, sl A_f_1 f_1 c_f_1, .map (some b_f_2)] 96 :: ow A_f_1 f_1 c_f_1 3 1 y_f_1 :: .obj b_f_2 (.map es_f_2 ck_f_2) :: .blk b1 [sl A149 ([] : List api_Kind) c150, sl A149 ([] : List Int) c150, sl A149 ([] : List api_Item) c150] 26 :: ow A149 ([] : List api_Kind) c150 86 2 y151 :: ow A149 ([] : List Int) c150 3 1 y153 :: ow A149 ([] : List api_Item) c150 61 3 y155 :: .blk b8 [sl A157 l159 c158, sl A4 x2 c5, sl A149 ([] : List api_Item) c150] 26 :: ow A157 l159 c158 86 2 y160 :: ow A4 x2 c5 3 1 y6 :: ow A149 ([] : List api_Item) c150 61 3 y162 :: Fz F225 W226 :: cs)) (fun g230 => ⟨by kernel_rfl⟩) (fun w_ hM hS => ⟨hM.onew [.string x175.Name, sl A221 x190 c222] 86 1 2 rfl (by decide), hS.alloc _⟩) (fun g230 => ?_)
      obtain ⟨he231, hb232⟩ := app_some hv203
      obtain ⟨y233, hy234⟩ : ∃ y_, y160 ++ ([.string x175.Name, sl A221 x190 c222]) = y_ := ⟨_, rfl⟩
      have h235 : RepL R_api_Kind F225 W226 l202 y233 := by rw [he231, ← hy234]; exact RepL.app h161 h229
      refine ops_appendO (x := (Go.Operand.tmp 25)) (y := (Go.Operand.tmp 32)) (t := 22) (e := 86) (d := some 33) (n' := l202.length) (z := 2) (m := ([(api_Kind.mk x175.Name x190)] : List api_Kind).length) (bytes := 40) (xs' := y233) (news := ([.string x175.Name, sl A221 x190 c222])) (zv := .agg #[.string ByteArray.empty, .slice none 0 0]) 10 ⟨by kernel_rfl⟩ rfl rfl Tryz.underlying22 (by kernel_rfl) (by rfl) rfl (fun w_ hM => hM.srcO 0 rfl) h229.len h229.one hb232 (by have z_ := congrArg List.length he231; rw [List.length_append] at z_; exact z_.symm) hy234 (fun _ _ _ _ hS h' => (by first | exact (Mem.fzback h' 13 rfl hx227).sub (.cons _ (.cons_cons _ (.cons_cons _ (.cons_cons _ (.cons_cons _ (.cons_cons _ (.cons_cons _ (.cons_cons _ (.cons_cons _ (.cons _ (.cons _ (.cons_cons _ (.cons_cons _ (.cons_cons _ (.refl _))))))))))))))) | exact (Mem.fzback h' 13 rfl (hx5.trans hx227)).sub (.cons _ (.cons_cons _ (.cons_cons _ (.cons_cons _ (.cons_cons _ (.cons_cons _ (.cons_cons _ (.cons_cons _ (.cons_cons _ (.cons _ (.cons _ (.cons_cons _ (.cons_cons _ (.cons_cons _ (.refl _))))))))))))))))) ?_
      rintro ⟨A236, c237⟩
      refine oQ [oT 10] [(34, vP b8 0), (33, sl A236 l202 c237), (0, vP b_f 0), (2, vP b1 0), (3, vP b8 0), (18, sl A_f_0 f_0 c_f_0), (19, vI (f_0.length : Int)), (20, vI i164)] (by kernel_rfl) ?_
      refine ops_store (an := []) (evs := [sr b8 0 (sl A236 l202 c237)]) ⟨by kernel_rfl⟩ (fun w_ hM hS => let ⟨w', he, h'⟩ := hM.evs_stores [sl A236 l202 c237] 9 rfl 0 (Nat.le_of_ble_eq_true rfl); ⟨w', he, h', (by first | exact (Mem.fzback h' 13 rfl hx227).sub (.cons _ (.cons_cons _ (.cons_cons _ (.cons_cons _ (.cons_cons _ (.cons_cons _ (.cons_cons _ (.cons_cons _ (.cons_cons _ (.cons _ (.cons _ (.cons_cons _ (.cons_cons _ (.cons_cons _ (.refl _))))))))))))))) | exact (Mem.fzback h' 13 rfl (hx5.trans hx227)).sub (.cons _ (.cons_cons _ (.cons_cons _ (.cons_cons _ (.cons_cons _ (.cons_cons _ (.cons_cons _ (.cons_cons _ (.cons_cons _ (.cons _ (.cons _ (.cons_cons _ (.cons_cons _ (.cons_cons _ (.refl _))))))))))))))))⟩) ?_
      refine ops_nil (fin_block ?_)
      exact fin_join HJ6 (A236, c237, l202, y233, F225, W226) ⟨hp, h235, hx227⟩ (look_has ⟨rfl, rfl, rfl, rfl, rfl, rfl, trivial⟩) (fun w_ hM => hM.pick 14 [2, 3, 4, 5, 6, 7, 8, 9, 10, 11, 12, 13] (by kernel_rfl) (by decide) rfl)
     ·
      refine tree_leaf ?_
      refine ops_ex (σ := (Nat → Prop) × World) (I := fun x_ => Ext w0 F165 W166 x_.1 x_.2 ∧ RdS R_api_Field x_.1 x_.2 A221 c222 x190) (M' := fun x_ => Mem w0 (.blk b189 [.string x175.Name, sl A186 x175.Fields c187] 86 :: .blk b_f [sl A_f_0 f_0 c_f_0, sl A_f_1 f_1 c_f_1, .map (some b_f_2)] 96 :: ow A_f_1 f_1 c_f_1 3 1 y_f_1 :: .obj b_f_2 (.map es_f_2 ck_f_2) :: .blk b1 [sl A149 ([] : List api_Kind) c150, sl A149 ([] : List Int) c150, sl A149 ([] : List api_Item) c150] 26 :: ow A149 ([] : List api_Kind) c150 86 2 y151 :: ow A149 ([] : List Int) c150 3 1 y153 :: ow A149 ([] : List api_Item) c150 61 3 y155 :: .blk b8 [sl A157 l159 c158, sl A4 x2 c5, sl A149 ([] : List api_Item) c150] 26 :: ow A157 l159 c158 86 2 y160 :: ow A4 x2 c5 3 1 y6 :: ow A149 ([] : List api_Item) c150 61 3 y162 :: Fz x_.1 x_.2 :: cs)) (fun w_ hM => ?_) ?_
      · obtain ⟨F_, h1_, h2_, h3_⟩ := (hM.pick 14 [0, 13, 1, 2, 3, 4, 5, 6, 7, 8, 9, 10, 11, 12] (by kernel_rfl) (by decide) rfl : Mem w0 (ow A221 x190 c222 99 3 y223 :: Fz F165 W166 :: .blk b189 [.string x175.Name, sl A186 x175.Fields c187] 86 :: .blk b_f [sl A_f_0 f_0 c_f_0, sl A_f_1 f_1 c_f_1, .map (some b_f_2)] 96 :: ow A_f_1 f_1 c_f_1 3 1 y_f_1 :: .obj b_f_2 (.map es_f_2 ck_f_2) :: .blk b1 [sl A149 ([] : List api_Kind) c150, sl A149 ([] : List Int) c150, sl A149 ([] : List api_Item) c150] 26 :: ow A149 ([] : List api_Kind) c150 86 2 y151 :: ow A149 ([] : List Int) c150 3 1 y153 :: ow A149 ([] : List api_Item) c150 61 3 y155 :: .blk b8 [sl A157 l159 c158, sl A4 x2 c5, sl A149 ([] : List api_Item) c150] 26 :: ow A157 l159 c158 86 2 y160 :: ow A4 x2 c5 3 1 y6 :: ow A149 ([] : List api_Item) c150 61 3 y162 :: cs) w_).freeze (z := 3) h224 rfl rfl
        exact ⟨(F_, w_), ⟨h1_, h2_⟩, h3_.pick 13 [1, 2, 3, 4, 5, 6, 7, 8, 9, 10, 11, 12, 0] (by kernel_rfl) (by decide) rfl⟩
      rintro ⟨F238, W239⟩ ⟨hx240, h241⟩
      have hx240 : Ext w0 F165 W166 F238 W239 := hx240
      have h241 : RdS R_api_Field F238 W239 A221 c222 x190 := h241
      have h_f_0 := h_f_0.ext hx240
      have h188 := h188.ext hx240
      have h_f_1 := h_f_1.ext hx240
      have h_f_2 := h_f_2.ext hx240
      have h152 := h152.ext hx240
      have h154 := h154.ext hx240
      have h156 := h156.ext hx240
      have h161 := h161.ext hx240
      have h7 := h7.ext hx240
      have h163 := h163.ext hx240
      have h242 : RepL R_api_Kind F238 W239 ([(api_Kind.mk x175.Name x190)] : List api_Kind) ([.string x175.Name, sl A221 x190 c222]) := (RepL.cons (R := R_api_Kind) (F := F238) (w := W239) (vs := [.string x175.Name, sl A221 x190 c222]) (ys := []) (enc_api_Kind h241) RepL.nil)
      refine ops_new (d := some 32) (o := .cells ([.string x175.Name, sl A221 x190 c222] : List Value).toArray 86) (v := fun g243 => .slice (sa g243) ([(api_Kind.mk x175.Name x190)] : List api_Kind).length 1) (M' := fun g243 => Mem w0 (orow (sa g243) ([(api_Kind.mk x175.Name x190)] : List api_Kind).length 1 86 2 ([.string x175.Name, sl A221 x190 c222]) :: .blk b189 [.string x175.Name, sl A186 x175.Fields c187] 86 :: .blk b_f [sl A_f_0 f_0 c_f_0, sl A_f_1 f_1 c_f_1, .map (some b_f_2)] 96 :: ow A_f_1 f_1 c_f_1 3 1 y_f_1 :: .obj b_f_2 (.map es_f_2 ck_f_2) :: .blk b1 [sl A149 ([] : List api_Kind) c150, sl A149 ([] : List Int) c150, sl A149 ([] : List api_Item) c150] 26 :: ow A149 ([] : List api_Kind) c150 86 2 y151 :: ow A149 ([] : List Int) c150 3 1 y153 :: ow A149 ([] : List api_Item) c150 61 3 y155 :: .blk b8 [sl A157 l159 c158, sl A4 x2 c5, sl A149 ([] : List api_Item) c150] 26 :: ow A157 l159 c158 86 2 y160 :: ow A4 x2 c5 3 1 y6 :: ow A149 ([] : List api_Item) c150 61 3 y162 :: Fz F238 W239 :: cs)) (fun g243 => ⟨by kernel_rfl⟩) (fun w_ hM hS => ⟨hM.onew [.string x175.Name, sl A221 x190 c222] 86 1 2 rfl (by decide), hS.alloc _⟩) (fun g243 => ?_)
      refine ops_mem (d := some 25) (an := [.v (sl A157 l159 c158)]) (evs := [ld b8 0 (sl A157 l159 c158)]) (v := sl A157 l159 c158) ⟨by kernel_rfl⟩ (fun w_ hM hS => ⟨w_, ⟨hM.cell 9 rfl rfl, rfl⟩, hM, hS⟩) ?_
      obtain ⟨he244, hb245⟩ := app_some hv203
      obtain ⟨y246, hy247⟩ : ∃ y_, y160 ++ ([.string x175.Name, sl A221 x190 c222]) = y_ := ⟨_, rfl⟩
      have h248 : RepL R_api_Kind F238 W239 l202 y246 := by rw [he244, ← hy247]; exact RepL.app h161 h242
      refine ops_appendO (x := (Go.Operand.tmp 25)) (y := (Go.Operand.tmp 32)) (t := 22) (e := 86) (d := some 33) (n' := l202.length) (z := 2) (m := ([(api_Kind.mk x175.Name x190)] : List api_Kind).length) (bytes := 40) (xs' := y246) (news := ([.string x175.Name, sl A221 x190 c222])) (zv := .agg #[.string ByteArray.empty, .slice none 0 0]) 10 ⟨by kernel_rfl⟩ rfl rfl Tryz.underlying22 (by kernel_rfl) (by rfl) rfl (fun w_ hM => hM.srcO 0 rfl) h242.len h242.one hb245 (by have z_ := congrArg List.length he244; rw [List.length_append] at z_; exact z_.symm) hy247 (fun _ _ _ _ hS h' => (by first | exact (Mem.fzback h' 13 rfl hx240).sub (.cons _ (.cons_cons _ (.cons_cons _ (.cons_cons _ (.cons_cons _ (.cons_cons _ (.cons_cons _ (.cons_cons _ (.cons_cons _ (.cons _ (.cons _ (.cons_cons _ (.cons_cons _ (.cons_cons _ (.refl _))))))))))))))) | exact (Mem.fzback h' 13 rfl (hx5.trans hx240)).sub (.cons _ (.cons_cons _ (.cons_cons _ (.cons_cons _ (.cons_cons _ (.cons_cons _ (.cons_cons _ (.cons_cons _ (.cons_cons _ (.cons _ (.cons _ (.cons_cons _ (.cons_cons _ (.cons_cons _ (.refl _))))))))))))))))) ?_
      rintro ⟨A249, c250⟩
      refine oQ [oT 10] [(34, vP b8 0), (33, sl A249 l202 c250), (0, vP b_f 0), (2, vP b1 0), (3, vP b8 0), (18, sl A_f_0 f_0 c_f_0), (19, vI (f_0.length : Int)), (20, vI i164)] (by kernel_rfl) ?_
      refine ops_store (an := []) (evs := [sr b8 0 (sl A249 l202 c250)]) ⟨by kernel_rfl⟩ (fun w_ hM hS => let ⟨w', he, h'⟩ := hM.evs_stores [sl A249 l202 c250] 9 rfl 0 (Nat.le_of_ble_eq_true rfl); ⟨w', he, h', (by first | exact (Mem.fzback h' 13 rfl hx240).sub (.cons _ (.cons_cons _ (.cons_cons _ (.cons_cons _ (.cons_cons _ (.cons_cons _ (.cons_cons _ (.cons_cons _ (.cons_cons _ (.cons _ (.cons _ (.cons_cons _ (.cons_cons _ (.cons_cons _ (.refl _))))))))))))))) | exact (Mem.fzback h' 13 rfl (hx5.trans hx240)).sub (.cons _ (.cons_cons _ (.cons_cons _ (.cons_cons _ (.cons_cons _ (.cons_cons _ (.cons_cons _ (.cons_cons _ (.cons_cons _ (.cons _ (.cons _ (.cons_cons _ (.cons_cons _ (.cons_cons _ (.refl _))))))))))))))))⟩) ?_
      refine ops_nil (fin_block ?_)
      exact fin_join HJ6 (A249, c250, l202, y246, F238, W239) ⟨hp, h248, hx240⟩ (look_has ⟨rfl, rfl, rfl, rfl, rfl, rfl, trivial⟩) (fun w_ hM => hM.pick 14 [2, 3, 4, 5, 6, 7, 8, 9, 10, 11, 12, 13] (by kernel_rfl) (by decide) rfl)
  ·
   have hp := cnd_f hc167 hp
   refine st_exit (fin_exit_then (fin_exit_then (fin_exit ?_)))
   obtain hq_ := Option.some.inj hp
   subst hq_
   obtain hq_ := hd5 _ rfl
   subst hq_
   have hp : (tourref3_Flat_Close_j1 f_1 f_2 x2) l159 = some (l9003, l9008, l9013) := hk5
   exact fin_join HJ1 (A149, c150, y151, y153, y155, A157, c158, l159, y160, y162, F165, W166) ⟨hp, h152, h154, h156, h161, h163, hx5⟩ (look_has ⟨rfl, rfl, rfl, trivial⟩) (fun w_ hM => hM)
end Go.Proofs.YtbfndcookgijfaaGreatDoor.W
