/- The Go functions come to what the plain functions tell. No condition. -/
import Derived.Test.YtbfndcookgijfaaGreatDoorProg
import Derived.Test.YtbfndcookgijfaaGreatDoorFnC
import Derived.Test.YtbfndcookgijfaaGreatDoorExSq
import Derived.Test.YtbfndcookgijfaaGreatDoorWkC6
import Derived.Test.YtbfndcookgijfaaGreatDoorWkC7
import Derived.Test.YtbfndcookgijfaaGreatDoorWkC8
import Derived.Test.YtbfndcookgijfaaGreatDoorExMap
import Derived.Test.YtbfndcookgijfaaGreatDoorExOwnM
namespace Go.Proofs.YtbfndcookgijfaaGreatDoor.C
open Go Go.RowKit Go.Proofs.YtbfndcookgijfaaGreatDoor.Sx
set_option linter.unusedVariables false
set_option maxHeartbeats 4000000
set_option maxRecDepth 100000
variable {w0 w : World} {cs : List Chunk} {F : Nat → Prop} {W : World}
def tourref3_Open__t0 : List Row := [⟨0, 70368744177664, 32⟩, ⟨0, 140737488355328, 32⟩, ⟨2, 281474976710656, 140737488355328⟩, ⟨4, 562949953421312, 281474976710656⟩, ⟨8, 1125899906842624, 562949953421312⟩, ⟨0, 2251799813685248, 128⟩, ⟨32, 4503599627370496, 2251799813685248⟩, ⟨0, 9007199254740992, 128⟩, ⟨128, 18014398509481984, 9007199254740992⟩, ⟨256, 36028797018963968, 18014398509481984⟩, ⟨576, 72057594037927936, 40532396646334464⟩, ⟨1024, 144115188075855872, 72057594037927936⟩, ⟨2576, 288230376151711744, 145241087982698496⟩, ⟨8191, 576460752303423488, 70368744177664⟩, ⟨16383, 1152921504606846976, 576460752303423488⟩, ⟨24575, 0, 1441151880758558720⟩]
def tourref3_Open__t1 : List Row := [⟨0, 151115727451828646838272, 2048⟩, ⟨1, 302231454903657293676544, 151115727451828646838272⟩, ⟨2, 604462909807314587353088, 302231454903657293676544⟩, ⟨4, 1208925819614629174706176, 604462909807314587353600⟩, ⟨12, 2417851639229258349412352, 1813388729421943762059264⟩, ⟨20, 4835703278458516698824704, 3022314549036572936765440⟩, ⟨36, 9671406556917033397649408, 5440166188265831286177792⟩, ⟨68, 19342813113834066795298816, 10275869466724347985002496⟩, ⟨132, 38685626227668133590597632, 19342813113834066795298816⟩, ⟨256, 77371252455336267181195264, 38685626227668133590598144⟩, ⟨768, 154742504910672534362390528, 116056878683004400771792896⟩, ⟨1280, 309485009821345068724781056, 193428131138340667952988160⟩, ⟨256, 618970019642690137449562112, 38685626227668133590597664⟩, ⟨4352, 1237940039285380274899124224, 657655645870358271040159744⟩, ⟨8448, 2475880078570760549798248448, 1276625665513048408489721856⟩, ⟨16640, 4951760157141521099596496896, 2514565704798428683388846080⟩, ⟨33024, 9903520314283042199192993792, 4990445783369189233187094528⟩, ⟨67840, 19807040628566084398385987584, 10251690950332055401508372480⟩, ⟨131328, 39614081257132168796771975168, 19845726254793752531976585216⟩]
theorem tourref3_Open_ok (w0 w : World) (cs : List Chunk) (F : Nat → Prop) (W : World) (A_w_0 : Option Addr) (c_w_0 : Nat) (w_0 : List api_Kind) (A_w_1 : Option Addr) (c_w_1 : Nat) (w_1 : List Int) (A_w_2 : Option Addr) (c_w_2 : Nat) (w_2 : List api_Item) (hM0 : Mem w0 (Fz F W :: cs) w) (h_w_0 : RdS R_api_Kind F W A_w_0 c_w_0 w_0) (h_w_1 : RdS (Rep.int .i64) F W A_w_1 c_w_1 w_1) (h_w_2 : RdS R_api_Item F W A_w_2 c_w_2 w_2) (r_ : (Int ⊕ (List api_Kind) × (List Int) × (List (Int × (Option (List (Int × (List Int)))))))) (hp : tourref3_Open w_0 w_1 w_2 = some r_) : Calls Tryz.prog 13 #[.agg #[sl A_w_0 w_0 c_w_0, sl A_w_1 w_1 c_w_1, sl A_w_2 w_2 c_w_2]] w fun e w' => Sum.elim (fun (i9001 : Int) => ∃ (F9002 : Nat → Prop), ∃ (W9003 : World), ((Ext w0 F W F9002 W9003)) ∧ e = .returned (.tuple #[.pointer none, vI i9001]) ∧ Mem w0 (Fz F9002 W9003 :: cs) w') (un3 fun (l9007 : List api_Kind) (l9011 : List Int) (l9017 : List (Int × (Option (List (Int × (List Int)))))) => ∃ (b9004 : Nat), ∃ (A9005 : Option Addr), ∃ (c9006 : Nat), ∃ (A9009 : Option Addr), ∃ (c9010 : Nat), ∃ (y9012 : List Value), ∃ (b9014 : Nat), ∃ (es9015 : Array MapEntry), ∃ (ck9016 : Nat), ∃ (K9018 : Chunk), ∃ (F9020 : Nat → Prop), ∃ (W9021 : World), ((RdS R_api_Kind F9020 W9021 A9005 c9006 l9007) ∧ (RepL (Rep.int .i64) F9020 W9021 l9011 y9012) ∧ (MapW (fun x_ : Int => Value.int .i64 x_) (Own.mr (fun x_ : Int => Value.int .i64 x_) (Rep.sl (Rep.int .i64)) false) false F9020 W9021 l9017 es9015 ck9016 K9018) ∧ (Ext w0 F W F9020 W9021)) ∧ e = .returned (.tuple #[vP b9004 0, vI 0]) ∧ Mem w0 (.blk b9004 [sl A9005 l9007 c9006, sl A9009 l9011 c9010, .map (some b9014)] 96 :: ow A9009 l9011 c9010 3 1 y9012 :: .obj b9014 (.map es9015 ck9016) :: K9018 :: Fz F9020 W9021 :: cs) w') r_ := by
 unfold tourref3_Open at hp
 refine sx_calls Tryz.func13 rfl (n := 141) (by kernel_rfl) (l := [(0, .agg #[sl A_w_0 w_0 c_w_0, sl A_w_1 w_1 c_w_1, sl A_w_2 w_2 c_w_2])]) rfl (by rfl) hM0 ?_
 refine st_seq ?_
 refine st_region (oFs 0 3) (by rfl) ?_
 refine oN 1 [sl A_w_0 w_0 c_w_0, sl A_w_1 w_1 c_w_1, sl A_w_2 w_2 c_w_2] 26 (fun b1 => ?_)
 refine oq [oF 1, oF 2] [(1, vP b1 0)] ?_
 refine ops_nil (fin_then (st_seq (st_seq ?_)))
 refine st_region (oFs 0 4) (by rfl) ?_
 refine oq [oF 0] [(14, vP b1 0), (1, vP b1 0)] ?_
 refine oM 15 0 0 ?_
 obtain ⟨x2, hv3, hp⟩ := obind hp
 refine oV (some 16) 2 [1, 0] 2 [1, 0] (fun _ hM => tourref3_KindsError_ok hM h_w_0 hv3) ?_
 rintro _ -
 refine oq [oF 3] [(4, vI x2), (1, vP b1 0)] ?_
 refine ops_nil (fin_then (st_seq (st_region [oF 0, oF 1] (by rfl) ?_)))
 refine oq [oF 0, oF 1] [(18, .bool (!(x2 == 0))), (4, vI x2), (1, vP b1 0)] ?_
 refine ops_nil (fin_then ?_)
 refine sif hp (fun hc4 hp => ?_) (fun hc4 hp => ?_)
 ·
  refine st_seq ?_
  refine st_region (oFs 0 3) (by rfl) ?_
  refine oq (oFs 0 3) [(3, vI x2), (2, .pointer none)] ?_
  refine ops_nil (fin_then (st_ret (fin_ret_then ?_)))
  have hq_ := Option.some.inj hp
  subst hq_
  refine fin_ret [.tmp 2, .tmp 3] [.pointer none, vI x2] rfl rfl (fun w_ hM => (.tmp rfl (.tmp rfl .nil))) (fun w_ hM => ?_)
  refine (isel_l ?_)
  exact ⟨F, W, (Ext.refl _ _ _), rfl, hM.pick 2 [1] (by kernel_rfl) (by decide) rfl⟩
 ·
  refine st_skip (fin_then (st_seq (st_seq ?_)))
  refine st_region (oFs 0 13) (by rfl) ?_
  refine oq [oF 0] [(20, vP b1 1), (1, vP b1 0)] ?_
  refine oM 21 0 1 ?_
  refine oq (oFs 2 3) [(24, .bool (decide (256 < (w_1.length : Int)))), (1, vP b1 0)] ?_
  refine ob hp [24] (fun hc5 hp => ?_) (fun hc5 hp => ?_)
  ·
   refine oq (oFs 5 8) [(32, .bool true), (1, vP b1 0)] ?_
   refine ops_nil (fin_then (st_true rfl (st_seq (st_region [oF 0, oF 1] (by rfl) ?_))))
   refine oq [oF 0, oF 1] [(3, vI 2), (2, .pointer none)] ?_
   refine ops_nil (fin_then (st_ret (fin_ret_then ?_)))
   have hq_ := Option.some.inj hp
   subst hq_
   refine fin_ret [.tmp 2, .tmp 3] [.pointer none, vI 2] rfl rfl (fun w_ hM => (.tmp rfl (.tmp rfl .nil))) (fun w_ hM => ?_)
   refine (isel_l ?_)
   exact ⟨F, W, (Ext.refl _ _ _), rfl, hM.pick 2 [1] (by kernel_rfl) (by decide) rfl⟩
  ·
   refine oq [oF 5] [(25, vP b1 2), (24, .bool false), (1, vP b1 0)] ?_
   refine oM 26 0 2 ?_
   refine oq [oF 7, oF 8] [(28, vP b1 1), (27, vI (w_2.length : Int)), (24, .bool false), (1, vP b1 0)] ?_
   refine oM 29 0 1 ?_
   refine oq (oFs 10 3) [(32, .bool (decide ((w_1.length : Int) < (w_2.length : Int)))), (1, vP b1 0)] ?_
   refine ops_nil (fin_then ?_)
   refine sif hp (fun hc6 hp => ?_) (fun hc6 hp => ?_)
   ·
    refine st_seq (st_region [oF 0, oF 1] (by rfl) ?_)
    refine oq [oF 0, oF 1] [(3, vI 2), (2, .pointer none)] ?_
    refine ops_nil (fin_then (st_ret (fin_ret_then ?_)))
    have hq_ := Option.some.inj hp
    subst hq_
    refine fin_ret [.tmp 2, .tmp 3] [.pointer none, vI 2] rfl rfl (fun w_ hM => (.tmp rfl (.tmp rfl .nil))) (fun w_ hM => ?_)
    refine (isel_l ?_)
    exact ⟨F, W, (Ext.refl _ _ _), rfl, hM.pick 2 [1] (by kernel_rfl) (by decide) rfl⟩
   ·
    refine st_skip (fin_then (st_seq ?_))
    refine st_region (oFs 0 7) (by rfl) ?_
    refine oq [oF 0] [(33, vP b1 1), (1, vP b1 0)] ?_
    refine oM 34 0 1 ?_
    obtain ⟨x7, hv8, hp⟩ := obind hp
    refine oV (some 35) 2 [1, 0] 3 [0, 2, 1] (fun _ hM => slices_Clone_int_int_ok hM h_w_1 hv8) ?_
    rintro ⟨A9, c10, y11⟩ h12
    refine oq [] [(35, sl A9 x7 c10), (1, vP b1 0)] ?_
    have h14 := (MapW.nil : MapW (fun x_ : Int => Value.int .i64 x_) (Own.mr (fun x_ : Int => Value.int .i64 x_) (Rep.sl (Rep.int .i64)) false) false F W ([] : List (Int × (Option (List (Int × (List Int)))))) #[] 0 (Sx.bundle []))
    refine ops_conv (l' := [(35, sl A9 x7 c10), (1, vP b1 0)]) (M' := Mem w0 ((Sx.bundle []) :: ow A9 x7 c10 3 1 y11 :: .blk b1 [sl A_w_0 w_0 c_w_0, sl A_w_1 w_1 c_w_1, sl A_w_2 w_2 c_w_2] 26 :: Fz F W :: cs)) rfl (fun w_ h => h.bnil) ?_
    refine ops_new (d := some 36) (o := .map #[] 0) (v := fun g13 => .map (some g13)) (M' := fun g13 => Mem w0 (.obj g13 (.map #[] 0) :: (Sx.bundle []) :: ow A9 x7 c10 3 1 y11 :: .blk b1 [sl A_w_0 w_0 c_w_0, sl A_w_1 w_1 c_w_1, sl A_w_2 w_2 c_w_2] 26 :: Fz F W :: cs)) (fun g13 => ⟨by kernel_rfl⟩) (fun w_ hM hS => ⟨hM.objNew _, trivial⟩) (fun g13 => ?_)
    refine oq [oF 4] [(37, .agg #[.slice none 0 0, sl A9 x7 c10, .map (some g13)]), (1, vP b1 0)] ?_
    refine oN 38 [.slice none 0 0, sl A9 x7 c10, .map (some g13)] 96 (fun b15 => ?_)
    refine oq [oF 6] [(5, vP b15 0), (1, vP b1 0)] ?_
    refine ops_nil (fin_then ?_)
    refine st_join1 (σ := (Option Addr) × Nat × (List api_Kind) × (List Value) × (Nat → Prop) × World) (L := fun x_ => match x_ with | (A16, c17, l18, y19, F21, W22) => [(1, vP b1 0), (5, vP b15 0)]) (N := fun x_ => match x_ with | (A16, c17, l18, y19, F21, W22) => Mem w0 (.blk b1 [sl A_w_0 w_0 c_w_0, sl A_w_1 w_1 c_w_1, sl A_w_2 w_2 c_w_2] 26 :: .blk b15 [sl A16 l18 c17, sl A9 x7 c10, .map (some g13)] 96 :: ow A16 l18 c17 86 2 y19 :: ow A9 x7 c10 3 1 y11 :: .obj g13 (.map #[] 0) :: (Sx.bundle []) :: Fz F21 W22 :: cs)) (I := fun x_ => match x_ with | (A16, c17, l18, y19, F21, W22) => ((tourref3_Open_j1 w_2 w_0 x7 w_1) l18 = some r_) ∧ (RepL R_api_Kind F21 W22 l18 y19) ∧ (Ext w0 F W F21 W22)) ?_ ?_
    ·
     rintro ⟨A16, c17, l18, y19, F21, W22⟩ ⟨hp, h20, hx1⟩
     have h_w_0 := h_w_0.ext hx1
     have h_w_1 := h_w_1.ext hx1
     have h_w_2 := h_w_2.ext hx1
     have h12 := h12.ext hx1
     have h14 := h14.ext hx1
     unfold tourref3_Open_j1 at hp
     refine st_join1 (σ := (Array MapEntry) × Nat × (List (Int × (Option (List (Int × (List Int)))))) × Chunk × (Nat → Prop) × World) (L := fun x_ => match x_ with | (es23, ck24, l25, K26, F28, W29) => [(1, vP b1 0), (5, vP b15 0)]) (N := fun x_ => match x_ with | (es23, ck24, l25, K26, F28, W29) => Mem w0 (.blk b1 [sl A_w_0 w_0 c_w_0, sl A_w_1 w_1 c_w_1, sl A_w_2 w_2 c_w_2] 26 :: .blk b15 [sl A16 l18 c17, sl A9 x7 c10, .map (some g13)] 96 :: ow A16 l18 c17 86 2 y19 :: ow A9 x7 c10 3 1 y11 :: .obj g13 (.map es23 ck24) :: K26 :: Fz F28 W29 :: cs)) (I := fun x_ => match x_ with | (es23, ck24, l25, K26, F28, W29) => ((tourref3_Open_j2 x7 l18 w_0 w_1 w_2) l25 = some r_) ∧ (MapW (fun x_ : Int => Value.int .i64 x_) (Own.mr (fun x_ : Int => Value.int .i64 x_) (Rep.sl (Rep.int .i64)) false) false F28 W29 l25 es23 ck24 K26) ∧ (Ext w0 F21 W22 F28 W29)) ?_ ?_
     ·
      rintro ⟨es23, ck24, l25, K26, F28, W29⟩ ⟨hp, h27, hx2⟩
      have h_w_0 := h_w_0.ext hx2
      have h_w_1 := h_w_1.ext hx2
      have h_w_2 := h_w_2.ext hx2
      have h20 := h20.ext hx2
      have h12 := h12.ext hx2
      unfold tourref3_Open_j2 at hp
      refine st_join1 (σ := Unit) (L := fun _ => [(1, vP b1 0), (5, vP b15 0)]) (N := fun _ => Mem w0 (.blk b1 [sl A_w_0 w_0 c_w_0, sl A_w_1 w_1 c_w_1, sl A_w_2 w_2 c_w_2] 26 :: .blk b15 [sl A16 l18 c17, sl A9 x7 c10, .map (some g13)] 96 :: ow A16 l18 c17 86 2 y19 :: ow A9 x7 c10 3 1 y11 :: .obj g13 (.map es23 ck24) :: K26 :: Fz F28 W29 :: cs)) (I := fun _ => ((tourref3_Open_j3 l18 x7 l25 w_0 w_1 w_2) = some r_)) ?_ ?_
      ·
       rintro _ hp
       unfold tourref3_Open_j3 at hp
       refine st_seq (st_seq ?_)
       refine st_region_draw [oT 0, oT 2, oF 1, oF 3, oT 4] (Mem w0 (.blk b1 [sl A_w_0 w_0 c_w_0, sl A_w_1 w_1 c_w_1, sl A_w_2 w_2 c_w_2] 26 :: Fz F28 W29 :: cs)) (by kernel_rfl) (by kernel_rfl) (by kernel_rfl) (fun _ d _ _ _ h => by cases d <;> exact h) (M' := Mem w0 (.blk b1 [sl A_w_0 w_0 c_w_0, sl A_w_1 w_1 c_w_1, sl A_w_2 w_2 c_w_2] 26 :: .blk b15 [sl A16 l18 c17, sl A9 x7 c10, .map (some g13)] 96 :: ow A16 l18 c17 86 2 y19 :: ow A9 x7 c10 3 1 y11 :: .obj g13 (.map es23 ck24) :: K26 :: Fz F28 W29 :: cs)) (fun w_ hM => ⟨hM.drew, hM.drew.sub (.cons_cons _ (.cons _ (.cons _ (.cons _ (.cons _ (.cons _ (.cons_cons _ (.refl _))))))))⟩) ?_
       refine oq [oT 0] [(135, vP b15 0), (1, vP b1 0), (5, vP b15 0)] ?_
       refine oLA 137 0 0 3 ?_
       refine ops_ex (σ := (Nat → Prop) × World) (I := fun x_ => Ext w0 F28 W29 x_.1 x_.2 ∧ RdS R_api_Kind x_.1 x_.2 A16 c17 l18) (M' := fun x_ => Mem w0 (.blk b1 [sl A_w_0 w_0 c_w_0, sl A_w_1 w_1 c_w_1, sl A_w_2 w_2 c_w_2] 26 :: .blk b15 [sl A16 l18 c17, sl A9 x7 c10, .map (some g13)] 96 :: ow A9 x7 c10 3 1 y11 :: .obj g13 (.map es23 ck24) :: K26 :: Fz x_.1 x_.2 :: cs)) (fun w_ hM => ?_) ?_
       · obtain ⟨F_, h1_, h2_, h3_⟩ := (hM.pick 7 [2, 6, 0, 1, 3, 4, 5] (by kernel_rfl) (by decide) rfl : Mem w0 (ow A16 l18 c17 86 2 y19 :: Fz F28 W29 :: .blk b1 [sl A_w_0 w_0 c_w_0, sl A_w_1 w_1 c_w_1, sl A_w_2 w_2 c_w_2] 26 :: .blk b15 [sl A16 l18 c17, sl A9 x7 c10, .map (some g13)] 96 :: ow A9 x7 c10 3 1 y11 :: .obj g13 (.map es23 ck24) :: K26 :: cs) w_).freeze (z := 2) h20 rfl rfl
         exact ⟨(F_, w_), ⟨h1_, h2_⟩, h3_.pick 6 [1, 2, 3, 4, 5, 0] (by kernel_rfl) (by decide) rfl⟩
       rintro ⟨F30, W31⟩ ⟨hx32, h33⟩
       have hx32 : Ext w0 F28 W29 F30 W31 := hx32
       have h33 : RdS R_api_Kind F30 W31 A16 c17 l18 := h33
       have h_w_0 := h_w_0.ext hx32
       have h_w_1 := h_w_1.ext hx32
       have h_w_2 := h_w_2.ext hx32
       have h12 := h12.ext hx32
       have h27 := h27.ext hx32
       obtain ⟨x34, x35, x36, hv37, hp⟩ := obind3 hp
       refine ops_callI (σ := (Option Addr) × Nat × (List Value) × (Option Addr) × Nat × (List Value) × (Option Addr) × Nat × (List Value) × (List Value) × (Array MapEntry) × Nat × Chunk × (Nat → Prop) × World) (d := some 136) (f := 52) (args := #[vP b15 0]) (v := (fun x_ => match x_ with | (A38, c39, y40, A41, c42, y43, A44, c45, y46, y47, es48, ck49, K50, F51, W52) => .agg #[sl A38 x34 c39, sl A41 x35 c42, sl A44 x36 c45])) (I := (fun x_ => match x_ with | (A38, c39, y40, A41, c42, y43, A44, c45, y46, y47, es48, ck49, K50, F51, W52) => (RepL R_api_Kind F51 W52 x34 y40) ∧ (RepL (Rep.int .i64) F51 W52 x35 y43) ∧ (RepL R_api_Item F51 W52 x36 y46) ∧ (RdS R_api_Kind F51 W52 A16 c17 l18) ∧ (RepL (Rep.int .i64) F51 W52 x7 y47) ∧ (MapW (fun x_ : Int => Value.int .i64 x_) (Own.mr (fun x_ : Int => Value.int .i64 x_) (Rep.sl (Rep.int .i64)) false) false F51 W52 l25 es48 ck49 K50) ∧ (Ext w0 F30 W31 F51 W52))) (M' := (fun x_ => match x_ with | (A38, c39, y40, A41, c42, y43, A44, c45, y46, y47, es48, ck49, K50, F51, W52) => Mem w0 (ow A38 x34 c39 86 2 y40 :: ow A41 x35 c42 3 1 y43 :: ow A44 x36 c45 61 3 y46 :: .blk b1 [sl A_w_0 w_0 c_w_0, sl A_w_1 w_1 c_w_1, sl A_w_2 w_2 c_w_2] 26 :: .blk b15 [sl A16 l18 c17, sl A9 x7 c10, .map (some g13)] 96 :: ow A9 x7 c10 3 1 y47 :: .obj g13 (.map es48 ck49) :: K50 :: Fz F51 W52 :: cs))) ⟨by kernel_rfl⟩ (fun w_ hM hS => (@tourref3_Flat_Close_ok w0 w_ (.blk b1 [sl A_w_0 w_0 c_w_0, sl A_w_1 w_1 c_w_1, sl A_w_2 w_2 c_w_2] 26 :: cs) F30 W31 b15 A16 c17 l18 A9 c10 x7 y11 g13 es23 ck24 l25 K26 (hM.pick 6 [1, 2, 3, 4, 5, 0] (by kernel_rfl) (by decide) rfl) h33 h12 h27 x34 x35 x36 hv37).mono (by rintro e w' ⟨⟨A38, c39, y40, A41, c42, y43, A44, c45, y46, y47, es48, ck49, K50, F51, W52⟩, ⟨h53, h54, h55, h56, h57, h58, h59⟩, rfl, h'⟩; have h' : Mem w0 (ow A38 x34 c39 86 2 y40 :: ow A41 x35 c42 3 1 y43 :: ow A44 x36 c45 61 3 y46 :: .blk b1 [sl A_w_0 w_0 c_w_0, sl A_w_1 w_1 c_w_1, sl A_w_2 w_2 c_w_2] 26 :: .blk b15 [sl A16 l18 c17, sl A9 x7 c10, .map (some g13)] 96 :: ow A9 x7 c10 3 1 y47 :: .obj g13 (.map es48 ck49) :: K50 :: Fz F51 W52 :: cs) w' := (h'.pick 9 [0, 1, 2, 8, 3, 4, 5, 6, 7] (by kernel_rfl) (by decide) rfl); exact ⟨(A38, c39, y40, A41, c42, y43, A44, c45, y46, y47, es48, ck49, K50, F51, W52), ⟨h53, h54, h55, h56, h57, h58, h59⟩, rfl, h', (by first | exact (Mem.fzback h' 8 rfl h59).sub (.cons _ (.cons _ (.cons _ (.cons_cons _ (.cons _ (.cons _ (.cons _ (.cons _ (.cons_cons _ (.refl _)))))))))) | exact (Mem.fzback h' 8 rfl (hx32.trans h59)).sub (.cons _ (.cons _ (.cons _ (.cons_cons _ (.cons _ (.cons _ (.cons _ (.cons _ (.cons_cons _ (.refl _)))))))))) | exact (Mem.fzback h' 8 rfl ((hx2.trans hx32).trans h59)).sub (.cons _ (.cons _ (.cons _ (.cons_cons _ (.cons _ (.cons _ (.cons _ (.cons _ (.cons_cons _ (.refl _)))))))))) | exact (Mem.fzback h' 8 rfl (((hx1.trans hx2).trans hx32).trans h59)).sub (.cons _ (.cons _ (.cons _ (.cons_cons _ (.cons _ (.cons _ (.cons _ (.cons _ (.cons_cons _ (.refl _)))))))))))⟩)) ?_
       rintro ⟨A38, c39, y40, A41, c42, y43, A44, c45, y46, y47, es48, ck49, K50, F51, W52⟩ ⟨h53, h54, h55, h56, h57, h58, h59⟩
       have h_w_0 := h_w_0.ext h59
       have h_w_1 := h_w_1.ext h59
       have h_w_2 := h_w_2.ext h59
       obtain ⟨x60, hv61, hp⟩ := obind hp
       refine ops_callI (σ := Unit) (d := some 138) (f := 51) (args := #[.agg #[sl A38 x34 c39, sl A41 x35 c42, sl A44 x36 c45], .agg #[sl A_w_0 w_0 c_w_0, sl A_w_1 w_1 c_w_1, sl A_w_2 w_2 c_w_2]]) (v := (fun _ => .bool x60)) (I := (fun _ => True)) (M' := (fun _ => Mem w0 (ow A38 x34 c39 86 2 y40 :: ow A41 x35 c42 3 1 y43 :: ow A44 x36 c45 61 3 y46 :: .blk b1 [sl A_w_0 w_0 c_w_0, sl A_w_1 w_1 c_w_1, sl A_w_2 w_2 c_w_2] 26 :: .blk b15 [sl A16 l18 c17, sl A9 x7 c10, .map (some g13)] 96 :: ow A9 x7 c10 3 1 y47 :: .obj g13 (.map es48 ck49) :: K50 :: Fz F51 W52 :: cs))) ⟨by kernel_rfl⟩ (fun w_ hM hS => (@tourref3_SameWorld_ok w_ w_ [] (fun b => b < w_.heap.size) w_ A38 c39 x34 A41 c42 x35 A44 c45 x36 A_w_0 c_w_0 w_0 A_w_1 c_w_1 w_1 A_w_2 c_w_2 w_2 (Mem.fz0 w_) (hM.ordS 0 8 rfl rfl h53 rfl rfl) (hM.ordS 1 8 rfl rfl h54 rfl rfl) (hM.ordS 2 8 rfl rfl h55 rfl rfl) (hM.now 8 rfl h_w_0) (hM.now 8 rfl h_w_1) (hM.now 8 rfl h_w_2) x60 hv61).mono (by rintro e w' ⟨_, -, rfl, h'⟩; have h' : Mem w_ [] w' := h'.pick 1 [] (by kernel_rfl) (by decide) rfl; exact ⟨(), trivial, rfl, hM.join h' rfl, (hS.step h'.below)⟩)) ?_
       rintro _ -
       refine oq [oT 4] [(139, .bool (!x60)), (5, vP b15 0)] ?_
       refine ops_nil (fin_then ?_)
       refine sif hp (fun hc62 hp => ?_) (fun hc62 hp => ?_)
       ·
        refine st_seq (st_region [oF 0, oF 1] (by rfl) ?_)
        refine oq [oF 0, oF 1] [(3, vI 3), (2, .pointer none)] ?_
        refine ops_nil (fin_then (st_ret (fin_ret_then ?_)))
        have hq_ := Option.some.inj hp
        subst hq_
        refine fin_ret [.tmp 2, .tmp 3] [.pointer none, vI 3] rfl rfl (fun w_ hM => (.tmp rfl (.tmp rfl .nil))) (fun w_ hM => ?_)
        refine (isel_l ?_)
        exact ⟨F51, W52, (((hx1.trans hx2).trans hx32).trans h59), rfl, hM.pick 9 [8] (by kernel_rfl) (by decide) rfl⟩
       ·
        refine st_skip (fin_then (st_seq ?_))
        refine st_region (oFs 0 3) (by rfl) ?_
        refine oq (oFs 0 3) [(3, vI 0), (2, vP b15 0)] ?_
        refine ops_nil (fin_then (st_ret ?_))
        have hq_ := Option.some.inj hp
        subst hq_
        refine fin_ret [.tmp 2, .tmp 3] [vP b15 0, vI 0] rfl rfl (fun w_ hM => (.tmp rfl (.tmp rfl .nil))) (fun w_ hM => ?_)
        refine (isel_r (iun3_at ?_))
        exact ⟨b15, A16, c17, A9, c10, y47, g13, es48, ck49, K50, F51, W52, ⟨h56, h57, h58, (((hx1.trans hx2).trans hx32).trans h59)⟩, rfl, hM.pick 9 [4, 5, 6, 7, 8] (by kernel_rfl) (by decide) rfl⟩
      ·
       intro HJ3
       refine st_seq (st_seq ?_)
       refine st_region (oFs 0 6) (by rfl) ?_
       refine oq (oFs 0 3) [(107, vP b15 1), (1, vP b1 0), (5, vP b15 0)] ?_
       refine oM 108 1 1 ?_
       refine oq [oF 4, oF 5] [(110, vI 0), (109, vI (x7.length : Int)), (108, sl A9 x7 c10), (1, vP b1 0), (5, vP b15 0)] ?_
       refine ops_nil (fin_then (st_block ?_))
       obtain ⟨r4, hl4, hk4⟩ := obind hp
       refine lp (σ := Int) (ρ := (Int ⊕ Unit)) (γ := Unit) hl4 () (fun s_ g_ => match s_, g_ with | i63, _ => [(1, vP b1 0), (5, vP b15 0), (108, sl A9 x7 c10), (109, vI (x7.length : Int)), (110, vI i63)]) (fun s_ g_ => match s_, g_ with | i63, _ => Mem w0 (.blk b1 [sl A_w_0 w_0 c_w_0, sl A_w_1 w_1 c_w_1, sl A_w_2 w_2 c_w_2] 26 :: .blk b15 [sl A16 l18 c17, sl A9 x7 c10, .map (some g13)] 96 :: ow A16 l18 c17 86 2 y19 :: ow A9 x7 c10 3 1 y11 :: .obj g13 (.map es23 ck24) :: K26 :: Fz F28 W29 :: cs)) (fun s_ g_ => match s_, g_ with | i63, _ => True) trivial 0 [] ?_
       rintro i63 _ o4 - hs_ hd4
       have hp : (tourref3_Open_l4 x7 l25) i63 = some o4 := hs_
       clear hs_
       unfold tourref3_Open_l4 at hp
       refine st_seq (st_region [oF 0] (by rfl) ?_)
       refine oq [oF 0] [(111, .bool (decide (i63 < (x7.length : Int)))), (1, vP b1 0), (5, vP b15 0), (108, sl A9 x7 c10), (109, vI (x7.length : Int)), (110, vI i63)] ?_
       refine ops_nil (fin_then (st_seq ?_))
       refine sif hp (fun hc64 hp => ?_) (fun hc64 hp => ?_)
       ·
        refine st_skip (fin_then ?_)
        refine st_join1 (σ := Unit) (L := fun _ => [(1, vP b1 0), (5, vP b15 0), (108, sl A9 x7 c10), (109, vI (x7.length : Int)), (110, vI i63)]) (N := fun _ => Mem w0 (.blk b1 [sl A_w_0 w_0 c_w_0, sl A_w_1 w_1 c_w_1, sl A_w_2 w_2 c_w_2] 26 :: .blk b15 [sl A16 l18 c17, sl A9 x7 c10, .map (some g13)] 96 :: ow A16 l18 c17 86 2 y19 :: ow A9 x7 c10 3 1 y11 :: .obj g13 (.map es23 ck24) :: K26 :: Fz F28 W29 :: cs)) (I := fun _ => ((tourref3_Open_j5 i63) = some o4)) ?_ ?_
        ·
         rintro _ hp
         unfold tourref3_Open_j5 at hp
         refine st_region [oF 0, oF 1] (by rfl) ?_
         refine oq [oF 0, oF 1] [(110, vI (IntKind.i64.wrap (i63 + 1))), (1, vP b1 0), (5, vP b15 0), (108, sl A9 x7 c10), (109, vI (x7.length : Int))] ?_
         refine ops_nil ?_
         exact fag (IntKind.i64.wrap (i63 + 1)) () (Option.some.inj hp).symm trivial 0 []
        ·
         intro HJ5
         refine st_seq (st_block (st_seq ?_))
         refine st_region (oFs 0 5) (by rfl) ?_
         refine oq [oF 0] [(112, vI i63), (1, vP b1 0), (5, vP b15 0), (108, sl A9 x7 c10), (109, vI (x7.length : Int)), (110, vI i63)] ?_
         obtain ⟨x65, hv66, hp⟩ := obind hp
         obtain ⟨m67, hm68, hx69⟩ := idx_some hv66
         have hl72 := (List.getElem?_eq_some_iff.1 hx69).1
         refine ops_fact (fun w_ hM => hM.orowSome 3 rfl (Nat.lt_of_le_of_lt (Nat.zero_le _) hl72)) ?_
         rintro ⟨g73, rfl, -⟩
         obtain ⟨vs70, hr71, hq74⟩ := h12.at_ m67 x65 hx69
         obtain rfl := hr71
         refine ops_val (op := (.indexAddr 23 (.tmp 108) (.tmp 110))) (d := some 113) (v := vP g73 (m67 * 1)) ⟨by kernel_rfl⟩ (run_indexRow Tryz.underlying23 (z := 1) (by kernel_rfl) rfl rfl hm68 hl72 rfl) ?_
         refine ops_mem (d := some 114) (an := [.v (vI x65)]) (evs := [.load ⟨g73, m67 * 1, none⟩ (vI x65)]) (v := vI x65) ⟨by kernel_rfl⟩ (fun w_ hM hS => ⟨w_, ⟨hM.ocell 3 rfl (hq74 0 _ rfl), rfl⟩, hM, trivial⟩) ?_
         refine oq [oF 3, oF 4] [(13, vI x65), (12, vI i63), (1, vP b1 0), (5, vP b15 0), (108, sl (sa g73) x7 c10), (109, vI (x7.length : Int)), (110, vI i63)] ?_
         refine ops_nil (fin_then (st_seq ?_))
         refine st_region (oFs 0 19) (by rfl) ?_
         refine oq (oFs 0 3) [(117, .bool (decide (x65 < 0))), (13, vI x65), (12, vI i63), (1, vP b1 0), (5, vP b15 0), (108, sl (sa g73) x7 c10), (109, vI (x7.length : Int)), (110, vI i63)] ?_
         refine ob hp [117] (fun hc75 hp => ?_) (fun hc75 hp => ?_)
         ·
          refine oq (oFs 3 16) [(133, .bool true), (1, vP b1 0), (5, vP b15 0), (108, sl (sa g73) x7 c10), (109, vI (x7.length : Int)), (110, vI i63)] ?_
          refine ops_nil (fin_then (st_true rfl (st_seq (st_region [oF 0, oF 1] (by rfl) ?_))))
          refine oq [oF 0, oF 1] [(3, vI 3), (2, .pointer none)] ?_
          refine ops_nil (fin_then (st_ret (fin_ret_block (fin_ret_then (fin_ret_then (fin_ret_block (fin_ret_then ?_)))))))
          obtain rfl := Option.some.inj hp
          obtain rfl := hd4 _ rfl
          have hp : some (.inl 3) = some r_ := hk4
          have hq_ := Option.some.inj hp
          subst hq_
          refine fin_ret [.tmp 2, .tmp 3] [.pointer none, vI 3] rfl rfl (fun w_ hM => (.tmp rfl (.tmp rfl .nil))) (fun w_ hM => ?_)
          refine (isel_l ?_)
          exact ⟨F28, W29, (hx1.trans hx2), rfl, hM.pick 7 [6] (by kernel_rfl) (by decide) rfl⟩
         ·
          refine oq (oFs 3 4) [(121, .bool (decide (1073741824 < x65))), (13, vI x65), (12, vI i63), (1, vP b1 0), (5, vP b15 0), (108, sl (sa g73) x7 c10), (109, vI (x7.length : Int)), (110, vI i63)] ?_
          refine ob hp [121] (fun hc76 hp => ?_) (fun hc76 hp => ?_)
          ·
           refine oq (oFs 7 12) [(133, .bool true), (1, vP b1 0), (5, vP b15 0), (108, sl (sa g73) x7 c10), (109, vI (x7.length : Int)), (110, vI i63)] ?_
           refine ops_nil (fin_then (st_true rfl (st_seq (st_region [oF 0, oF 1] (by rfl) ?_))))
           refine oq [oF 0, oF 1] [(3, vI 3), (2, .pointer none)] ?_
           refine ops_nil (fin_then (st_ret (fin_ret_block (fin_ret_then (fin_ret_then (fin_ret_block (fin_ret_then ?_)))))))
           obtain rfl := Option.some.inj hp
           obtain rfl := hd4 _ rfl
           have hp : some (.inl 3) = some r_ := hk4
           have hq_ := Option.some.inj hp
           subst hq_
           refine fin_ret [.tmp 2, .tmp 3] [.pointer none, vI 3] rfl rfl (fun w_ hM => (.tmp rfl (.tmp rfl .nil))) (fun w_ hM => ?_)
           refine (isel_l ?_)
           exact ⟨F28, W29, (hx1.trans hx2), rfl, hM.pick 7 [6] (by kernel_rfl) (by decide) rfl⟩
          ·
           refine oq (oFs 7 3) [(124, .bool (x65 == 1073741824)), (121, .bool false), (12, vI i63), (1, vP b1 0), (5, vP b15 0), (108, sl (sa g73) x7 c10), (109, vI (x7.length : Int)), (110, vI i63)] ?_
           refine ob hp [124] (fun hc77 hp => ?_) (fun hc77 hp => ?_)
           ·
            refine oq (oFs 10 3) [(127, vP b15 2), (124, .bool true), (121, .bool false), (12, vI i63), (1, vP b1 0), (5, vP b15 0), (108, sl (sa g73) x7 c10), (109, vI (x7.length : Int)), (110, vI i63)] ?_
            refine oM 128 1 2 ?_
            refine oq [oF 14] [(129, vI i63), (128, .map (some g13)), (124, .bool true), (121, .bool false), (1, vP b1 0), (5, vP b15 0), (108, sl (sa g73) x7 c10), (109, vI (x7.length : Int)), (110, vI i63)] ?_
            rcases oel_some hp with ⟨hg79, hp⟩ | ⟨l78, hg79, hp⟩
            ·
             refine ops_law (op := (.lookup 94 (.tmp 128) (.tmp 129) false)) (d := some 130) (σ := Unit) (v := fun _ => .map none) (M' := fun _ => Mem w0 (.blk b1 [sl A_w_0 w_0 c_w_0, sl A_w_1 w_1 c_w_1, sl A_w_2 w_2 c_w_2] 26 :: .blk b15 [sl A16 l18 c17, sl (sa g73) x7 c10, .map (some g13)] 96 :: ow A16 l18 c17 86 2 y19 :: ow (sa g73) x7 c10 3 1 y11 :: .obj g13 (.map es23 ck24) :: K26 :: Fz F28 W29 :: cs)) ⟨by kernel_rfl⟩ (fun o_ w_ ho_ hM hS => ⟨(), w_, run_lookupV rfl rfl (MapW.lookNil (by exact fun h_ => h_.1) h27 (KeyLaw.int Tryz.underlying3) Tryz.underlying94 hg79 (fun u_ => Tryz.zeroValue37 u_) false g13 w_ (hM.mapAt 4 rfl)) o_ ho_, hM, trivial⟩) (fun _ => ?_)
             refine oq (oFs 16 3) [(133, .bool false), (1, vP b1 0), (5, vP b15 0), (108, sl (sa g73) x7 c10), (109, vI (x7.length : Int)), (110, vI i63)] ?_
             refine ops_nil (fin_then (st_false rfl (st_skip (fin_block ?_))))
             exact fj HJ5 () hp 0 []
            ·
             have hg80 := getD_some_some hg79
             obtain ⟨vs81, Kx82, K83, ho84, ha85, hm86, hr87⟩ := MapW.look h27 (KeyLaw.int Tryz.underlying3) Tryz.underlying94 hg80
             obtain ⟨b88, es89, ck90, rfl, rfl, h91⟩ := ha85
             refine ops_law (op := (.lookup 94 (.tmp 128) (.tmp 129) false)) (d := some 130) (σ := Unit) (v := fun _ => .map (some b88)) (M' := fun _ => Mem w0 (.blk b1 [sl A_w_0 w_0 c_w_0, sl A_w_1 w_1 c_w_1, sl A_w_2 w_2 c_w_2] 26 :: .blk b15 [sl A16 l18 c17, sl (sa g73) x7 c10, .map (some g13)] 96 :: ow A16 l18 c17 86 2 y19 :: ow (sa g73) x7 c10 3 1 y11 :: .obj g13 (.map es23 ck24) :: K26 :: Fz F28 W29 :: cs)) ⟨by kernel_rfl⟩ (fun o_ w_ ho_ hM hS => ⟨(), w_, run_lookupV rfl rfl (hr87 false g13 w_ (hM.mapAt 4 rfl)) o_ ho_, hM, trivial⟩) (fun _ => ?_)
             refine ops_conv (l' := [(130, .map (some b88)), (129, vI i63), (128, .map (some g13)), (124, .bool true), (121, .bool false), (1, vP b1 0), (5, vP b15 0), (108, sl (sa g73) x7 c10), (109, vI (x7.length : Int)), (110, vI i63)]) (M' := Mem w0 (.obj b88 (.map es89 ck90) :: .blk b1 [sl A_w_0 w_0 c_w_0, sl A_w_1 w_1 c_w_1, sl A_w_2 w_2 c_w_2] 26 :: .blk b15 [sl A16 l18 c17, sl (sa g73) x7 c10, .map (some g13)] 96 :: ow A16 l18 c17 86 2 y19 :: ow (sa g73) x7 c10 3 1 y11 :: .obj g13 (.map es23 ck24) :: K83 :: Fz F28 W29 :: cs)) rfl (fun w_ h => (hm86 (h.pick 7 [5, 0, 1, 2, 3, 4, 6] (by kernel_rfl) (by decide) rfl)).pick 8 [1, 2, 3, 4, 5, 6, 0, 7] (by kernel_rfl) (by decide) rfl) ?_
             refine oq (oFs 16 3) [(133, .bool true), (1, vP b1 0), (5, vP b15 0), (108, sl (sa g73) x7 c10), (109, vI (x7.length : Int)), (110, vI i63)] ?_
             refine ops_nil (fin_then (st_true rfl (st_seq (st_region [oF 0, oF 1] (by rfl) ?_))))
             refine oq [oF 0, oF 1] [(3, vI 3), (2, .pointer none)] ?_
             refine ops_nil (fin_then (st_ret (fin_ret_block (fin_ret_then (fin_ret_then (fin_ret_block (fin_ret_then ?_)))))))
             obtain ⟨K93, h94, hm95⟩ := MapH.close (x := (some l78)) (Kx := [.obj b88 (.map es89 ck90)]) ho84 (⟨_, _, _, rfl, rfl, h91⟩)
             rw [mput_same hg80] at h94
             refine fin_conv (l' := [(3, vI 3), (2, .pointer none)]) (M' := Mem w0 (.blk b1 [sl A_w_0 w_0 c_w_0, sl A_w_1 w_1 c_w_1, sl A_w_2 w_2 c_w_2] 26 :: .blk b15 [sl A16 l18 c17, sl (sa g73) x7 c10, .map (some g13)] 96 :: ow A16 l18 c17 86 2 y19 :: ow (sa g73) x7 c10 3 1 y11 :: .obj g13 (.map es23 ck24) :: K93 :: Fz F28 W29 :: cs)) rfl (fun w_ h => (hm95 (h.pick 8 [6, 0, 1, 2, 3, 4, 5, 7] (by kernel_rfl) (by decide) rfl)).pick 7 [1, 2, 3, 4, 5, 0, 6] (by kernel_rfl) (by decide) rfl) ?_
             obtain rfl := Option.some.inj hp
             obtain rfl := hd4 _ rfl
             have hp : some (.inl 3) = some r_ := hk4
             have hq_ := Option.some.inj hp
             subst hq_
             refine fin_ret [.tmp 2, .tmp 3] [.pointer none, vI 3] rfl rfl (fun w_ hM => (.tmp rfl (.tmp rfl .nil))) (fun w_ hM => ?_)
             refine (isel_l ?_)
             exact ⟨F28, W29, (hx1.trans hx2), rfl, hM.pick 7 [6] (by kernel_rfl) (by decide) rfl⟩
           ·
            refine oq (oFs 10 9) [(133, .bool false), (1, vP b1 0), (5, vP b15 0), (108, sl (sa g73) x7 c10), (109, vI (x7.length : Int)), (110, vI i63)] ?_
            refine ops_nil (fin_then (st_false rfl (st_skip (fin_block ?_))))
            exact fj HJ5 () hp 0 []
       ·
        refine st_exit (fin_exit_then (fin_exit_then (fin_exit ?_)))
        obtain rfl := Option.some.inj hp
        obtain rfl := hd4 _ rfl
        have hp : (tourref3_Open_j3 l18 x7 l25 w_0 w_1 w_2) = some r_ := hk4
        exact fj HJ3 () hp 0 []
     ·
      intro HJ2
      refine st_seq (st_seq ?_)
      refine st_region (oFs 0 4) (by rfl) ?_
      refine oq [oF 0] [(62, vP b1 2), (1, vP b1 0), (5, vP b15 0)] ?_
      refine oM 63 0 2 ?_
      refine oq [oF 2, oF 3] [(65, vI 0), (64, vI (w_2.length : Int)), (63, sl A_w_2 w_2 c_w_2), (1, vP b1 0), (5, vP b15 0)] ?_
      refine ops_nil (fin_then (st_block ?_))
      obtain ⟨r6, hl6, hk6⟩ := obind hp
      refine lp (σ := (List (Int × (Option (List (Int × (List Int)))))) × Int) (ρ := (Int ⊕ (List (Int × (Option (List (Int × (List Int)))))))) (γ := (Array MapEntry) × Nat × Chunk × (Nat → Prop) × World) hl6 (#[], 0, (Sx.bundle []), F21, W22) (fun s_ g_ => match s_, g_ with | (l98, i101), (es96, ck97, K99, F102, W103) => [(1, vP b1 0), (5, vP b15 0), (63, sl A_w_2 w_2 c_w_2), (64, vI (w_2.length : Int)), (65, vI i101)]) (fun s_ g_ => match s_, g_ with | (l98, i101), (es96, ck97, K99, F102, W103) => Mem w0 (.blk b1 [sl A_w_0 w_0 c_w_0, sl A_w_1 w_1 c_w_1, sl A_w_2 w_2 c_w_2] 26 :: .blk b15 [sl A16 l18 c17, sl A9 x7 c10, .map (some g13)] 96 :: ow A16 l18 c17 86 2 y19 :: ow A9 x7 c10 3 1 y11 :: .obj g13 (.map es96 ck97) :: K99 :: Fz F102 W103 :: cs)) (fun s_ g_ => match s_, g_ with | (l98, i101), (es96, ck97, K99, F102, W103) => (MapW (fun x_ : Int => Value.int .i64 x_) (Own.mr (fun x_ : Int => Value.int .i64 x_) (Rep.sl (Rep.int .i64)) false) false F102 W103 l98 es96 ck97 K99) ∧ (Ext w0 F21 W22 F102 W103)) ⟨h14, (Ext.refl _ _ _)⟩ 0 [] ?_
      rintro ⟨l98, i101⟩ ⟨es96, ck97, K99, F102, W103⟩ o6 ⟨h100, hx6⟩ hs_ hd6
      have hp : (tourref3_Open_l6 w_2 w_0 x7) l98 i101 = some o6 := hs_
      clear hs_
      unfold tourref3_Open_l6 at hp
      have h_w_2 := h_w_2.ext hx6
      have h_w_0 := h_w_0.ext hx6
      have h_w_1 := h_w_1.ext hx6
      have h20 := h20.ext hx6
      have h12 := h12.ext hx6
      refine st_seq (st_region [oF 0] (by rfl) ?_)
      refine oq [oF 0] [(66, .bool (decide (i101 < (w_2.length : Int)))), (1, vP b1 0), (5, vP b15 0), (63, sl A_w_2 w_2 c_w_2), (64, vI (w_2.length : Int)), (65, vI i101)] ?_
      refine ops_nil (fin_then (st_seq ?_))
      refine sif hp (fun hc104 hp => ?_) (fun hc104 hp => ?_)
      ·
       refine st_skip (fin_then ?_)
       refine st_join1 (σ := (Array MapEntry) × Nat × (List (Int × (Option (List (Int × (List Int)))))) × Chunk × (Nat → Prop) × World) (L := fun x_ => match x_ with | (es105, ck106, l107, K108, F110, W111) => [(1, vP b1 0), (5, vP b15 0), (63, sl A_w_2 w_2 c_w_2), (64, vI (w_2.length : Int)), (65, vI i101)]) (N := fun x_ => match x_ with | (es105, ck106, l107, K108, F110, W111) => Mem w0 (.blk b1 [sl A_w_0 w_0 c_w_0, sl A_w_1 w_1 c_w_1, sl A_w_2 w_2 c_w_2] 26 :: .blk b15 [sl A16 l18 c17, sl A9 x7 c10, .map (some g13)] 96 :: ow A16 l18 c17 86 2 y19 :: ow A9 x7 c10 3 1 y11 :: .obj g13 (.map es105 ck106) :: K108 :: Fz F110 W111 :: cs)) (I := fun x_ => match x_ with | (es105, ck106, l107, K108, F110, W111) => ((tourref3_Open_j7 i101) l107 = some o6) ∧ (MapW (fun x_ : Int => Value.int .i64 x_) (Own.mr (fun x_ : Int => Value.int .i64 x_) (Rep.sl (Rep.int .i64)) false) false F110 W111 l107 es105 ck106 K108) ∧ (Ext w0 F102 W103 F110 W111)) ?_ ?_
       ·
        rintro ⟨es105, ck106, l107, K108, F110, W111⟩ ⟨hp, h109, hx7⟩
        have h_w_2 := h_w_2.ext hx7
        have h_w_0 := h_w_0.ext hx7
        have h_w_1 := h_w_1.ext hx7
        have h20 := h20.ext hx7
        have h12 := h12.ext hx7
        unfold tourref3_Open_j7 at hp
        refine st_region [oF 0, oF 1] (by rfl) ?_
        refine oq [oF 0, oF 1] [(65, vI (IntKind.i64.wrap (i101 + 1))), (1, vP b1 0), (5, vP b15 0), (63, sl A_w_2 w_2 c_w_2), (64, vI (w_2.length : Int))] ?_
        refine ops_nil ?_
        exact fag (l107, IntKind.i64.wrap (i101 + 1)) (es105, ck106, K108, F110, W111) (Option.some.inj hp).symm ⟨h109, (hx6.trans hx7)⟩ 0 []
       ·
        intro HJ7
        refine st_seq (st_block (st_seq ?_))
        refine st_region (oFs 0 4) (by rfl) ?_
        obtain ⟨x112, hv113, hp⟩ := obind hp
        obtain ⟨m114, hm115, hx116⟩ := idx_some hv113
        have hl119 := (List.getElem?_eq_some_iff.1 hx116).1
        obtain ⟨ad120, vs117, hA121, hr118, hq122⟩ := RdS.el h_w_2 hx116
        obtain ⟨A123, c124, rfl, h125⟩ := dec_api_Item hr118
        refine ops_val (op := (.indexAddr 24 (.tmp 63) (.tmp 65))) (d := some 67) (v := .pointer (some (ad120.add (m114 * 3)))) ⟨by kernel_rfl⟩ (run_indexA hA121 Tryz.underlying24 (z := 3) (by kernel_rfl) rfl rfl hm115 hl119) ?_
        refine ops_mem (d := some 68) (an := [.v (vI x112.Ent.N), .v (vI x112.Ent.Gen), .v (sl A123 x112.Comps c124)]) (evs := [.load (ad120.add (m114 * 3)) (vI x112.Ent.N), .load ((ad120.add (m114 * 3)).add 1) (vI x112.Ent.Gen), .load ((ad120.add (m114 * 3)).add 2) (sl A123 x112.Comps c124)]) (v := .agg #[vI x112.Ent.N, vI x112.Ent.Gen, sl A123 x112.Comps c124]) ⟨by kernel_rfl⟩ (fun w_ hM hS => ⟨w_, ⟨hM.elcell 6 rfl hq122 0 rfl, hM.elcell 6 rfl hq122 1 rfl, hM.elcell 6 rfl hq122 2 rfl, rfl⟩, hM, trivial⟩) ?_
        refine oN 9 [vI 0, vI 0, .slice none 0 0] 61 (fun b126 => ?_)
        refine oS 0 0 [vI x112.Ent.N, vI x112.Ent.Gen, sl A123 x112.Comps c124] ?_
        refine ops_nil (fin_then (st_seq ?_))
        refine st_region (oFs 0 10) (by rfl) ?_
        refine oq [oF 0] [(70, vP b1 0), (9, vP b126 0), (1, vP b1 0), (5, vP b15 0), (63, sl A_w_2 w_2 c_w_2), (64, vI (w_2.length : Int)), (65, vI i101)] ?_
        refine oM 71 1 0 ?_
        refine oq [oF 2] [(72, vP b126 2), (71, sl A_w_0 w_0 c_w_0), (9, vP b126 0), (1, vP b1 0), (5, vP b15 0), (63, sl A_w_2 w_2 c_w_2), (64, vI (w_2.length : Int)), (65, vI i101)] ?_
        refine oM 73 0 2 ?_
        obtain ⟨r128, hv127, hp⟩ := obind hp
        rcases r128 with x129 | x130
        ·
         have hp := (sel_l hp)
         refine ops_callI (σ := Nat × (Array MapEntry) × Nat × (Nat → Prop) × World) (d := some 74) (f := 9) (args := #[sl A_w_0 w_0 c_w_0, sl A123 x112.Comps c124]) (v := (fun x_ => match x_ with | (b131, es132, ck133, F134, W135) => .tuple #[.map (some b131), vI 0])) (I := (fun x_ => match x_ with | (b131, es132, ck133, F134, W135) => (MapOK (fun x_ : Int => Value.int .i64 x_) (Rep.sl (Rep.int .i64)) false F134 W135 x129 es132 ck133) ∧ (Ext w0 F102 W103 F134 W135))) (M' := (fun x_ => match x_ with | (b131, es132, ck133, F134, W135) => Mem w0 (.obj b131 (.map es132 ck133) :: .blk b126 [vI x112.Ent.N, vI x112.Ent.Gen, sl A123 x112.Comps c124] 61 :: .blk b1 [sl A_w_0 w_0 c_w_0, sl A_w_1 w_1 c_w_1, sl A_w_2 w_2 c_w_2] 26 :: .blk b15 [sl A16 l18 c17, sl A9 x7 c10, .map (some g13)] 96 :: ow A16 l18 c17 86 2 y19 :: ow A9 x7 c10 3 1 y11 :: .obj g13 (.map es96 ck97) :: K99 :: Fz F134 W135 :: cs))) ⟨by kernel_rfl⟩ (fun w_ hM hS => (tourref3_FittedAll_ok w0 w_ (.blk b126 [vI x112.Ent.N, vI x112.Ent.Gen, sl A123 x112.Comps c124] 61 :: .blk b1 [sl A_w_0 w_0 c_w_0, sl A_w_1 w_1 c_w_1, sl A_w_2 w_2 c_w_2] 26 :: .blk b15 [sl A16 l18 c17, sl A9 x7 c10, .map (some g13)] 96 :: ow A16 l18 c17 86 2 y19 :: ow A9 x7 c10 3 1 y11 :: .obj g13 (.map es96 ck97) :: K99 :: cs) F102 W103 A_w_0 c_w_0 w_0 A123 c124 x112.Comps (hM.pick 8 [7, 0, 1, 2, 3, 4, 5, 6] (by kernel_rfl) (by decide) rfl) h_w_0 h125 _ hv127).mono (by intro e w' hq_; obtain ⟨b131, es132, ck133, F134, W135, ⟨h136, h137⟩, rfl, h'⟩ := (psel_l hq_); have h' : Mem w0 (.obj b131 (.map es132 ck133) :: .blk b126 [vI x112.Ent.N, vI x112.Ent.Gen, sl A123 x112.Comps c124] 61 :: .blk b1 [sl A_w_0 w_0 c_w_0, sl A_w_1 w_1 c_w_1, sl A_w_2 w_2 c_w_2] 26 :: .blk b15 [sl A16 l18 c17, sl A9 x7 c10, .map (some g13)] 96 :: ow A16 l18 c17 86 2 y19 :: ow A9 x7 c10 3 1 y11 :: .obj g13 (.map es96 ck97) :: K99 :: Fz F134 W135 :: cs) w' := (h'.pick 9 [0, 2, 3, 4, 5, 6, 7, 8, 1] (by kernel_rfl) (by decide) rfl); exact ⟨(b131, es132, ck133, F134, W135), ⟨h136, h137⟩, rfl, h', trivial⟩)) ?_
         rintro ⟨b131, es132, ck133, F134, W135⟩ ⟨h136, h137⟩
         have h125 := h125.ext h137
         have h_w_0 := h_w_0.ext h137
         have h_w_2 := h_w_2.ext h137
         have h_w_1 := h_w_1.ext h137
         have h20 := h20.ext h137
         have h12 := h12.ext h137
         have h100 := h100.ext h137
         refine oq (oFs 5 5) [(11, vI 0), (10, .map (some b131)), (9, vP b126 0), (1, vP b1 0), (5, vP b15 0), (63, sl A_w_2 w_2 c_w_2), (64, vI (w_2.length : Int)), (65, vI i101)] ?_
         refine ops_nil (fin_then (st_seq (st_seq ?_)))
         refine st_region_fast tourref3_Open__t1 (oTs 0 19) (Mem w0 (.obj b131 (.map es132 ck133) :: .blk b126 [vI x112.Ent.N, vI x112.Ent.Gen, sl A123 x112.Comps c124] 61 :: .blk b1 [sl A_w_0 w_0 c_w_0, sl A_w_1 w_1 c_w_1, sl A_w_2 w_2 c_w_2] 26 :: .blk b15 [sl A16 l18 c17, sl A9 x7 c10, .map (some g13)] 96 :: ow A16 l18 c17 86 2 y19 :: ow A9 x7 c10 3 1 y11 :: .obj g13 (.map es96 ck97) :: K99 :: Fz F134 W135 :: cs)) (by kernel_rfl) (by kernel_rfl) (by kernel_rfl) (by kernel_rfl) (by kernel_rfl) (fun _ d _ _ _ h => by cases d <;> exact h) (M' := Mem w0 (.obj b131 (.map es132 ck133) :: .blk b126 [vI x112.Ent.N, vI x112.Ent.Gen, sl A123 x112.Comps c124] 61 :: .blk b1 [sl A_w_0 w_0 c_w_0, sl A_w_1 w_1 c_w_1, sl A_w_2 w_2 c_w_2] 26 :: .blk b15 [sl A16 l18 c17, sl A9 x7 c10, .map (some g13)] 96 :: ow A16 l18 c17 86 2 y19 :: ow A9 x7 c10 3 1 y11 :: .obj g13 (.map es96 ck97) :: K99 :: Fz F134 W135 :: cs)) (fun w_ hM => ⟨hM.drew, hM.drew.sub (.cons_cons _ (.cons_cons _ (.cons_cons _ (.cons_cons _ (.cons_cons _ (.cons_cons _ (.cons_cons _ (.cons_cons _ (.cons_cons _ (.refl _))))))))))⟩) ?_
         refine oq (oTs 0 5) [(81, vP b126 0), (79, .bool false), (10, .map (some b131)), (9, vP b126 0), (1, vP b1 0), (5, vP b15 0), (63, sl A_w_2 w_2 c_w_2), (64, vI (w_2.length : Int)), (65, vI i101)] ?_
         refine oL 82 1 0 ?_
         refine oq (oTs 6 3) [(85, .bool (decide (x112.Ent.N < 0))), (10, .map (some b131)), (9, vP b126 0), (1, vP b1 0), (5, vP b15 0), (63, sl A_w_2 w_2 c_w_2), (64, vI (w_2.length : Int)), (65, vI i101)] ?_
         refine ob hp [85] (fun hc138 hp => ?_) (fun hc138 hp => ?_)
         ·
          refine oq (oTs 9 10) [(95, .bool true), (10, .map (some b131)), (9, vP b126 0), (1, vP b1 0), (5, vP b15 0), (63, sl A_w_2 w_2 c_w_2), (64, vI (w_2.length : Int)), (65, vI i101)] ?_
          refine ops_nil (fin_then (st_true rfl (st_seq (st_region [oF 0, oF 1] (by rfl) ?_))))
          refine oq [oF 0, oF 1] [(3, vI 3), (2, .pointer none)] ?_
          refine ops_nil (fin_then (st_ret (fin_ret_then (fin_ret_block (fin_ret_then (fin_ret_then (fin_ret_block (fin_ret_then ?_))))))))
          obtain rfl := Option.some.inj hp
          obtain rfl := hd6 _ rfl
          have hp : some (.inl 3) = some r_ := hk6
          have hq_ := Option.some.inj hp
          subst hq_
          refine fin_ret [.tmp 2, .tmp 3] [.pointer none, vI 3] rfl rfl (fun w_ hM => (.tmp rfl (.tmp rfl .nil))) (fun w_ hM => ?_)
          refine (isel_l ?_)
          exact ⟨F134, W135, ((hx1.trans hx6).trans h137), rfl, hM.pick 9 [8] (by kernel_rfl) (by decide) rfl⟩
         ·
          refine oq [oT 9, oT 10] [(87, vP b126 0), (85, .bool false), (10, .map (some b131)), (9, vP b126 0), (1, vP b1 0), (5, vP b15 0), (63, sl A_w_2 w_2 c_w_2), (64, vI (w_2.length : Int)), (65, vI i101)] ?_
          refine oL 88 1 0 ?_
          refine oq (oTs 12 3) [(91, vP b15 1), (88, vI x112.Ent.N), (85, .bool false), (10, .map (some b131)), (9, vP b126 0), (1, vP b1 0), (5, vP b15 0), (63, sl A_w_2 w_2 c_w_2), (64, vI (w_2.length : Int)), (65, vI i101)] ?_
          refine oL 92 3 1 ?_
          refine oq (oTs 16 3) [(95, .bool (decide ((x7.length : Int) ≤ x112.Ent.N))), (10, .map (some b131)), (9, vP b126 0), (1, vP b1 0), (5, vP b15 0), (63, sl A_w_2 w_2 c_w_2), (64, vI (w_2.length : Int)), (65, vI i101)] ?_
          refine ops_nil (fin_then ?_)
          refine sif hp (fun hc139 hp => ?_) (fun hc139 hp => ?_)
          ·
           refine st_seq (st_region [oF 0, oF 1] (by rfl) ?_)
           refine oq [oF 0, oF 1] [(3, vI 3), (2, .pointer none)] ?_
           refine ops_nil (fin_then (st_ret (fin_ret_then (fin_ret_block (fin_ret_then (fin_ret_then (fin_ret_block (fin_ret_then ?_))))))))
           obtain rfl := Option.some.inj hp
           obtain rfl := hd6 _ rfl
           have hp : some (.inl 3) = some r_ := hk6
           have hq_ := Option.some.inj hp
           subst hq_
           refine fin_ret [.tmp 2, .tmp 3] [.pointer none, vI 3] rfl rfl (fun w_ hM => (.tmp rfl (.tmp rfl .nil))) (fun w_ hM => ?_)
           refine (isel_l ?_)
           exact ⟨F134, W135, ((hx1.trans hx6).trans h137), rfl, hM.pick 9 [8] (by kernel_rfl) (by decide) rfl⟩
          ·
           refine st_skip (fin_then ?_)
           refine st_region_draw [oT 0, oT 1, oT 2, oT 3, oT 4, oT 5, oT 6, oT 7, oF 8] (Mem w0 (.obj b131 (.map es132 ck133) :: .blk b126 [vI x112.Ent.N, vI x112.Ent.Gen, sl A123 x112.Comps c124] 61 :: .blk b1 [sl A_w_0 w_0 c_w_0, sl A_w_1 w_1 c_w_1, sl A_w_2 w_2 c_w_2] 26 :: .blk b15 [sl A16 l18 c17, sl A9 x7 c10, .map (some g13)] 96 :: ow A16 l18 c17 86 2 y19 :: ow A9 x7 c10 3 1 y11 :: Fz F134 W135 :: cs)) (by kernel_rfl) (by kernel_rfl) (by kernel_rfl) (fun _ d _ _ _ h => by cases d <;> exact h) (M' := Mem w0 (.obj b131 (.map es132 ck133) :: .blk b126 [vI x112.Ent.N, vI x112.Ent.Gen, sl A123 x112.Comps c124] 61 :: .blk b1 [sl A_w_0 w_0 c_w_0, sl A_w_1 w_1 c_w_1, sl A_w_2 w_2 c_w_2] 26 :: .blk b15 [sl A16 l18 c17, sl A9 x7 c10, .map (some g13)] 96 :: ow A16 l18 c17 86 2 y19 :: ow A9 x7 c10 3 1 y11 :: .obj g13 (.map es96 ck97) :: K99 :: Fz F134 W135 :: cs)) (fun w_ hM => ⟨hM.drew, hM.drew.sub (.cons_cons _ (.cons_cons _ (.cons_cons _ (.cons_cons _ (.cons_cons _ (.cons_cons _ (.cons _ (.cons _ (.cons_cons _ (.refl _))))))))))⟩) ?_
           refine oq (oTs 0 3) [(98, vP b15 2), (10, .map (some b131)), (9, vP b126 0), (1, vP b1 0), (5, vP b15 0), (63, sl A_w_2 w_2 c_w_2), (64, vI (w_2.length : Int)), (65, vI i101)] ?_
           refine oL 99 3 2 ?_
           refine oq [oT 4, oT 5] [(101, vP b126 0), (99, .map (some g13)), (10, .map (some b131)), (1, vP b1 0), (5, vP b15 0), (63, sl A_w_2 w_2 c_w_2), (64, vI (w_2.length : Int)), (65, vI i101)] ?_
           refine oL 102 1 0 ?_
           refine oq [oT 7] [(103, .map (some b131)), (102, vI x112.Ent.N), (99, .map (some g13)), (1, vP b1 0), (5, vP b15 0), (63, sl A_w_2 w_2 c_w_2), (64, vI (w_2.length : Int)), (65, vI i101)] ?_
           obtain ⟨l140, hv141, hp⟩ := obind hp
           obtain ⟨es142, ck143, K144, h145, hm146, hr147⟩ := MapW.update (x := (some x129)) (vs := [.map (some b131)]) (Kx := [.obj b131 (.map es132 ck133)]) h100 (KeyLaw.int Tryz.underlying3) Tryz.underlying94 x112.Ent.N (⟨_, _, _, rfl, rfl, h136⟩)
           rw [Option.some.inj hv141] at h145
           refine ops_unit (op := (.mapUpdate 94 (.tmp 99) (.tmp 102) (.tmp 103))) (σ := Unit) (M' := fun _ => Mem w0 (.obj b131 (.map es132 ck133) :: .blk b126 [vI x112.Ent.N, vI x112.Ent.Gen, sl A123 x112.Comps c124] 61 :: .blk b1 [sl A_w_0 w_0 c_w_0, sl A_w_1 w_1 c_w_1, sl A_w_2 w_2 c_w_2] 26 :: .blk b15 [sl A16 l18 c17, sl A9 x7 c10, .map (some g13)] 96 :: ow A16 l18 c17 86 2 y19 :: ow A9 x7 c10 3 1 y11 :: .obj g13 (.map es142 ck143) :: K99 :: Fz F134 W135 :: cs)) ⟨by kernel_rfl⟩ (fun o_ w_ ho_ hM hS => have h' := hM.setObj 6 rfl _; ⟨(), _, run_updateV rfl rfl rfl (hr147 g13 w_ (hM.mapAt 6 rfl)) o_ ho_, h', (by exact h'.sub (.cons_cons _ (.cons_cons _ (.cons_cons _ (.cons_cons _ (.cons_cons _ (.cons_cons _ (.cons _ (.cons _ (.cons_cons _ (.refl _)))))))))))⟩) (fun _ => ?_)
           refine ops_conv (l' := [(103, .map (some b131)), (102, vI x112.Ent.N), (99, .map (some g13)), (1, vP b1 0), (5, vP b15 0), (63, sl A_w_2 w_2 c_w_2), (64, vI (w_2.length : Int)), (65, vI i101)]) (M' := Mem w0 (.blk b126 [vI x112.Ent.N, vI x112.Ent.Gen, sl A123 x112.Comps c124] 61 :: .blk b1 [sl A_w_0 w_0 c_w_0, sl A_w_1 w_1 c_w_1, sl A_w_2 w_2 c_w_2] 26 :: .blk b15 [sl A16 l18 c17, sl A9 x7 c10, .map (some g13)] 96 :: ow A16 l18 c17 86 2 y19 :: ow A9 x7 c10 3 1 y11 :: .obj g13 (.map es142 ck143) :: K144 :: Fz F134 W135 :: cs)) rfl (fun w_ h => (hm146 (h.pick 9 [7, 0, 1, 2, 3, 4, 5, 6, 8] (by kernel_rfl) (by decide) rfl)).pick 8 [1, 2, 3, 4, 5, 6, 0, 7] (by kernel_rfl) (by decide) rfl) ?_
           refine ops_nil (fin_block ?_)
           exact fj HJ7 (es142, ck143, l140, K144, F134, W135) ⟨hp, h145, h137⟩ 8 [1, 2, 3, 4, 5, 6, 7]
        ·
         have hp := (sel_r hp)
         refine ops_callI (σ := (Nat → Prop) × World) (d := some 74) (f := 9) (args := #[sl A_w_0 w_0 c_w_0, sl A123 x112.Comps c124]) (v := (fun x_ => match x_ with | (F148, W149) => .tuple #[.map none, vI x130])) (I := (fun x_ => match x_ with | (F148, W149) => (Ext w0 F102 W103 F148 W149))) (M' := (fun x_ => match x_ with | (F148, W149) => Mem w0 (.blk b126 [vI x112.Ent.N, vI x112.Ent.Gen, sl A123 x112.Comps c124] 61 :: .blk b1 [sl A_w_0 w_0 c_w_0, sl A_w_1 w_1 c_w_1, sl A_w_2 w_2 c_w_2] 26 :: .blk b15 [sl A16 l18 c17, sl A9 x7 c10, .map (some g13)] 96 :: ow A16 l18 c17 86 2 y19 :: ow A9 x7 c10 3 1 y11 :: .obj g13 (.map es96 ck97) :: K99 :: Fz F148 W149 :: cs))) ⟨by kernel_rfl⟩ (fun w_ hM hS => (tourref3_FittedAll_ok w0 w_ (.blk b126 [vI x112.Ent.N, vI x112.Ent.Gen, sl A123 x112.Comps c124] 61 :: .blk b1 [sl A_w_0 w_0 c_w_0, sl A_w_1 w_1 c_w_1, sl A_w_2 w_2 c_w_2] 26 :: .blk b15 [sl A16 l18 c17, sl A9 x7 c10, .map (some g13)] 96 :: ow A16 l18 c17 86 2 y19 :: ow A9 x7 c10 3 1 y11 :: .obj g13 (.map es96 ck97) :: K99 :: cs) F102 W103 A_w_0 c_w_0 w_0 A123 c124 x112.Comps (hM.pick 8 [7, 0, 1, 2, 3, 4, 5, 6] (by kernel_rfl) (by decide) rfl) h_w_0 h125 _ hv127).mono (by intro e w' hq_; obtain ⟨F148, W149, h150, rfl, h'⟩ := (psel_r hq_); have h' : Mem w0 (.blk b126 [vI x112.Ent.N, vI x112.Ent.Gen, sl A123 x112.Comps c124] 61 :: .blk b1 [sl A_w_0 w_0 c_w_0, sl A_w_1 w_1 c_w_1, sl A_w_2 w_2 c_w_2] 26 :: .blk b15 [sl A16 l18 c17, sl A9 x7 c10, .map (some g13)] 96 :: ow A16 l18 c17 86 2 y19 :: ow A9 x7 c10 3 1 y11 :: .obj g13 (.map es96 ck97) :: K99 :: Fz F148 W149 :: cs) w' := (h'.pick 8 [1, 2, 3, 4, 5, 6, 7, 0] (by kernel_rfl) (by decide) rfl); exact ⟨(F148, W149), h150, rfl, h', trivial⟩)) ?_
         rintro ⟨F148, W149⟩ h150
         have h125 := h125.ext h150
         have h_w_0 := h_w_0.ext h150
         have h_w_2 := h_w_2.ext h150
         have h_w_1 := h_w_1.ext h150
         have h20 := h20.ext h150
         have h12 := h12.ext h150
         have h100 := h100.ext h150
         refine oq (oFs 5 5) [(11, vI x130), (10, .map none), (9, vP b126 0), (1, vP b1 0), (5, vP b15 0), (63, sl A_w_2 w_2 c_w_2), (64, vI (w_2.length : Int)), (65, vI i101)] ?_
         refine ops_nil (fin_then (st_seq (st_seq ?_)))
         refine st_region_fast tourref3_Open__t1 (oTs 0 19) (Mem w0 (.blk b126 [vI x112.Ent.N, vI x112.Ent.Gen, sl A123 x112.Comps c124] 61 :: .blk b1 [sl A_w_0 w_0 c_w_0, sl A_w_1 w_1 c_w_1, sl A_w_2 w_2 c_w_2] 26 :: .blk b15 [sl A16 l18 c17, sl A9 x7 c10, .map (some g13)] 96 :: ow A16 l18 c17 86 2 y19 :: ow A9 x7 c10 3 1 y11 :: .obj g13 (.map es96 ck97) :: K99 :: Fz F148 W149 :: cs)) (by kernel_rfl) (by kernel_rfl) (by kernel_rfl) (by kernel_rfl) (by kernel_rfl) (fun _ d _ _ _ h => by cases d <;> exact h) (M' := Mem w0 (.blk b126 [vI x112.Ent.N, vI x112.Ent.Gen, sl A123 x112.Comps c124] 61 :: .blk b1 [sl A_w_0 w_0 c_w_0, sl A_w_1 w_1 c_w_1, sl A_w_2 w_2 c_w_2] 26 :: .blk b15 [sl A16 l18 c17, sl A9 x7 c10, .map (some g13)] 96 :: ow A16 l18 c17 86 2 y19 :: ow A9 x7 c10 3 1 y11 :: .obj g13 (.map es96 ck97) :: K99 :: Fz F148 W149 :: cs)) (fun w_ hM => ⟨hM.drew, hM.drew.sub (.cons_cons _ (.cons_cons _ (.cons_cons _ (.cons_cons _ (.cons_cons _ (.cons_cons _ (.cons_cons _ (.cons_cons _ (.refl _)))))))))⟩) ?_
         refine oq (oTs 0 3) [(79, .bool (!(x130 == 0))), (10, .map none), (9, vP b126 0), (1, vP b1 0), (5, vP b15 0), (63, sl A_w_2 w_2 c_w_2), (64, vI (w_2.length : Int)), (65, vI i101)] ?_
         refine ob hp [79] (fun hc151 hp => ?_) (fun hc151 hp => ?_)
         ·
          refine oq (oTs 3 16) [(95, .bool true), (10, .map none), (9, vP b126 0), (1, vP b1 0), (5, vP b15 0), (63, sl A_w_2 w_2 c_w_2), (64, vI (w_2.length : Int)), (65, vI i101)] ?_
          refine ops_nil (fin_then (st_true rfl (st_seq (st_region [oF 0, oF 1] (by rfl) ?_))))
          refine oq [oF 0, oF 1] [(3, vI 3), (2, .pointer none)] ?_
          refine ops_nil (fin_then (st_ret (fin_ret_then (fin_ret_block (fin_ret_then (fin_ret_then (fin_ret_block (fin_ret_then ?_))))))))
          obtain rfl := Option.some.inj hp
          obtain rfl := hd6 _ rfl
          have hp : some (.inl 3) = some r_ := hk6
          have hq_ := Option.some.inj hp
          subst hq_
          refine fin_ret [.tmp 2, .tmp 3] [.pointer none, vI 3] rfl rfl (fun w_ hM => (.tmp rfl (.tmp rfl .nil))) (fun w_ hM => ?_)
          refine (isel_l ?_)
          exact ⟨F148, W149, ((hx1.trans hx6).trans h150), rfl, hM.pick 8 [7] (by kernel_rfl) (by decide) rfl⟩
         ·
          refine oq [oT 3, oT 4] [(81, vP b126 0), (79, .bool false), (10, .map none), (9, vP b126 0), (1, vP b1 0), (5, vP b15 0), (63, sl A_w_2 w_2 c_w_2), (64, vI (w_2.length : Int)), (65, vI i101)] ?_
          refine oL 82 0 0 ?_
          refine oq (oTs 6 3) [(85, .bool (decide (x112.Ent.N < 0))), (10, .map none), (9, vP b126 0), (1, vP b1 0), (5, vP b15 0), (63, sl A_w_2 w_2 c_w_2), (64, vI (w_2.length : Int)), (65, vI i101)] ?_
          refine ob hp [85] (fun hc152 hp => ?_) (fun hc152 hp => ?_)
          ·
           refine oq (oTs 9 10) [(95, .bool true), (10, .map none), (9, vP b126 0), (1, vP b1 0), (5, vP b15 0), (63, sl A_w_2 w_2 c_w_2), (64, vI (w_2.length : Int)), (65, vI i101)] ?_
           refine ops_nil (fin_then (st_true rfl (st_seq (st_region [oF 0, oF 1] (by rfl) ?_))))
           refine oq [oF 0, oF 1] [(3, vI 3), (2, .pointer none)] ?_
           refine ops_nil (fin_then (st_ret (fin_ret_then (fin_ret_block (fin_ret_then (fin_ret_then (fin_ret_block (fin_ret_then ?_))))))))
           obtain rfl := Option.some.inj hp
           obtain rfl := hd6 _ rfl
           have hp : some (.inl 3) = some r_ := hk6
           have hq_ := Option.some.inj hp
           subst hq_
           refine fin_ret [.tmp 2, .tmp 3] [.pointer none, vI 3] rfl rfl (fun w_ hM => (.tmp rfl (.tmp rfl .nil))) (fun w_ hM => ?_)
           refine (isel_l ?_)
           exact ⟨F148, W149, ((hx1.trans hx6).trans h150), rfl, hM.pick 8 [7] (by kernel_rfl) (by decide) rfl⟩
          ·
           refine oq [oT 9, oT 10] [(87, vP b126 0), (85, .bool false), (10, .map none), (9, vP b126 0), (1, vP b1 0), (5, vP b15 0), (63, sl A_w_2 w_2 c_w_2), (64, vI (w_2.length : Int)), (65, vI i101)] ?_
           refine oL 88 0 0 ?_
           refine oq (oTs 12 3) [(91, vP b15 1), (88, vI x112.Ent.N), (85, .bool false), (10, .map none), (9, vP b126 0), (1, vP b1 0), (5, vP b15 0), (63, sl A_w_2 w_2 c_w_2), (64, vI (w_2.length : Int)), (65, vI i101)] ?_
           refine oL 92 2 1 ?_
           refine oq (oTs 16 3) [(95, .bool (decide ((x7.length : Int) ≤ x112.Ent.N))), (10, .map none), (9, vP b126 0), (1, vP b1 0), (5, vP b15 0), (63, sl A_w_2 w_2 c_w_2), (64, vI (w_2.length : Int)), (65, vI i101)] ?_
           refine ops_nil (fin_then ?_)
           refine sif hp (fun hc153 hp => ?_) (fun hc153 hp => ?_)
           ·
            refine st_seq (st_region [oF 0, oF 1] (by rfl) ?_)
            refine oq [oF 0, oF 1] [(3, vI 3), (2, .pointer none)] ?_
            refine ops_nil (fin_then (st_ret (fin_ret_then (fin_ret_block (fin_ret_then (fin_ret_then (fin_ret_block (fin_ret_then ?_))))))))
            obtain rfl := Option.some.inj hp
            obtain rfl := hd6 _ rfl
            have hp : some (.inl 3) = some r_ := hk6
            have hq_ := Option.some.inj hp
            subst hq_
            refine fin_ret [.tmp 2, .tmp 3] [.pointer none, vI 3] rfl rfl (fun w_ hM => (.tmp rfl (.tmp rfl .nil))) (fun w_ hM => ?_)
            refine (isel_l ?_)
            exact ⟨F148, W149, ((hx1.trans hx6).trans h150), rfl, hM.pick 8 [7] (by kernel_rfl) (by decide) rfl⟩
           ·
            refine st_skip (fin_then ?_)
            refine st_region_draw [oT 0, oT 1, oT 2, oT 3, oT 4, oT 5, oT 6, oT 7, oF 8] (Mem w0 (.blk b126 [vI x112.Ent.N, vI x112.Ent.Gen, sl A123 x112.Comps c124] 61 :: .blk b1 [sl A_w_0 w_0 c_w_0, sl A_w_1 w_1 c_w_1, sl A_w_2 w_2 c_w_2] 26 :: .blk b15 [sl A16 l18 c17, sl A9 x7 c10, .map (some g13)] 96 :: ow A16 l18 c17 86 2 y19 :: ow A9 x7 c10 3 1 y11 :: Fz F148 W149 :: cs)) (by kernel_rfl) (by kernel_rfl) (by kernel_rfl) (fun _ d _ _ _ h => by cases d <;> exact h) (M' := Mem w0 (.blk b126 [vI x112.Ent.N, vI x112.Ent.Gen, sl A123 x112.Comps c124] 61 :: .blk b1 [sl A_w_0 w_0 c_w_0, sl A_w_1 w_1 c_w_1, sl A_w_2 w_2 c_w_2] 26 :: .blk b15 [sl A16 l18 c17, sl A9 x7 c10, .map (some g13)] 96 :: ow A16 l18 c17 86 2 y19 :: ow A9 x7 c10 3 1 y11 :: .obj g13 (.map es96 ck97) :: K99 :: Fz F148 W149 :: cs)) (fun w_ hM => ⟨hM.drew, hM.drew.sub (.cons_cons _ (.cons_cons _ (.cons_cons _ (.cons_cons _ (.cons_cons _ (.cons _ (.cons _ (.cons_cons _ (.refl _)))))))))⟩) ?_
            refine oq (oTs 0 3) [(98, vP b15 2), (10, .map none), (9, vP b126 0), (1, vP b1 0), (5, vP b15 0), (63, sl A_w_2 w_2 c_w_2), (64, vI (w_2.length : Int)), (65, vI i101)] ?_
            refine oL 99 2 2 ?_
            refine oq [oT 4, oT 5] [(101, vP b126 0), (99, .map (some g13)), (10, .map none), (1, vP b1 0), (5, vP b15 0), (63, sl A_w_2 w_2 c_w_2), (64, vI (w_2.length : Int)), (65, vI i101)] ?_
            refine oL 102 0 0 ?_
            refine oq [oT 7] [(103, .map none), (102, vI x112.Ent.N), (99, .map (some g13)), (1, vP b1 0), (5, vP b15 0), (63, sl A_w_2 w_2 c_w_2), (64, vI (w_2.length : Int)), (65, vI i101)] ?_
            obtain ⟨l154, hv155, hp⟩ := obind hp
            obtain ⟨es156, ck157, K158, h159, hm160, hr161⟩ := MapW.update (x := none) (vs := [.map none]) (Kx := []) h100 (KeyLaw.int Tryz.underlying3) Tryz.underlying94 x112.Ent.N (⟨rfl, rfl⟩)
            rw [Option.some.inj hv155] at h159
            refine ops_unit (op := (.mapUpdate 94 (.tmp 99) (.tmp 102) (.tmp 103))) (σ := Unit) (M' := fun _ => Mem w0 (.blk b126 [vI x112.Ent.N, vI x112.Ent.Gen, sl A123 x112.Comps c124] 61 :: .blk b1 [sl A_w_0 w_0 c_w_0, sl A_w_1 w_1 c_w_1, sl A_w_2 w_2 c_w_2] 26 :: .blk b15 [sl A16 l18 c17, sl A9 x7 c10, .map (some g13)] 96 :: ow A16 l18 c17 86 2 y19 :: ow A9 x7 c10 3 1 y11 :: .obj g13 (.map es156 ck157) :: K99 :: Fz F148 W149 :: cs)) ⟨by kernel_rfl⟩ (fun o_ w_ ho_ hM hS => have h' := hM.setObj 5 rfl _; ⟨(), _, run_updateV rfl rfl rfl (hr161 g13 w_ (hM.mapAt 5 rfl)) o_ ho_, h', (by exact h'.sub (.cons_cons _ (.cons_cons _ (.cons_cons _ (.cons_cons _ (.cons_cons _ (.cons _ (.cons _ (.cons_cons _ (.refl _))))))))))⟩) (fun _ => ?_)
            refine ops_conv (l' := [(103, .map none), (102, vI x112.Ent.N), (99, .map (some g13)), (1, vP b1 0), (5, vP b15 0), (63, sl A_w_2 w_2 c_w_2), (64, vI (w_2.length : Int)), (65, vI i101)]) (M' := Mem w0 (.blk b126 [vI x112.Ent.N, vI x112.Ent.Gen, sl A123 x112.Comps c124] 61 :: .blk b1 [sl A_w_0 w_0 c_w_0, sl A_w_1 w_1 c_w_1, sl A_w_2 w_2 c_w_2] 26 :: .blk b15 [sl A16 l18 c17, sl A9 x7 c10, .map (some g13)] 96 :: ow A16 l18 c17 86 2 y19 :: ow A9 x7 c10 3 1 y11 :: .obj g13 (.map es156 ck157) :: K158 :: Fz F148 W149 :: cs)) rfl (fun w_ h => (hm160 (h.pick 8 [6, 0, 1, 2, 3, 4, 5, 7] (by kernel_rfl) (by decide) rfl)).pick 8 [1, 2, 3, 4, 5, 6, 0, 7] (by kernel_rfl) (by decide) rfl) ?_
            refine ops_nil (fin_block ?_)
            exact fj HJ7 (es156, ck157, l154, K158, F148, W149) ⟨hp, h159, h150⟩ 8 [1, 2, 3, 4, 5, 6, 7]
      ·
       refine st_exit (fin_exit_then (fin_exit_then (fin_exit ?_)))
       obtain rfl := Option.some.inj hp
       obtain rfl := hd6 _ rfl
       have hp : (tourref3_Open_j2 x7 l18 w_0 w_1 w_2) l98 = some r_ := hk6
       exact fj HJ2 (es96, ck97, l98, K99, F102, W103) ⟨hp, h100, hx6⟩ 0 []
    ·
     intro HJ1
     refine st_seq (st_seq ?_)
     refine st_region (oFs 0 4) (by rfl) ?_
     refine oq [oF 0] [(39, vP b1 0), (5, vP b15 0), (1, vP b1 0)] ?_
     refine oM 40 4 0 ?_
     refine oq [oF 2, oF 3] [(42, vI 0), (41, vI (w_0.length : Int)), (40, sl A_w_0 w_0 c_w_0), (5, vP b15 0), (1, vP b1 0)] ?_
     refine ops_nil (fin_then (st_block ?_))
     refine snil 86 2 ?_
     obtain ⟨r8, hl8, hk8⟩ := obind hp
     refine lp (σ := (List api_Kind) × Int) (ρ := (List api_Kind)) (γ := (Option Addr) × Nat × (List Value) × (Nat → Prop) × World) hl8 (none, 0, [], F, W) (fun s_ g_ => match s_, g_ with | (l168, i171), (A166, c167, y169, F172, W173) => [(1, vP b1 0), (5, vP b15 0), (40, sl A_w_0 w_0 c_w_0), (41, vI (w_0.length : Int)), (42, vI i171)]) (fun s_ g_ => match s_, g_ with | (l168, i171), (A166, c167, y169, F172, W173) => Mem w0 (.blk b1 [sl A_w_0 w_0 c_w_0, sl A_w_1 w_1 c_w_1, sl A_w_2 w_2 c_w_2] 26 :: .blk b15 [sl A166 l168 c167, sl A9 x7 c10, .map (some g13)] 96 :: ow A166 l168 c167 86 2 y169 :: ow A9 x7 c10 3 1 y11 :: .obj g13 (.map #[] 0) :: (Sx.bundle []) :: Fz F172 W173 :: cs)) (fun s_ g_ => match s_, g_ with | (l168, i171), (A166, c167, y169, F172, W173) => (RepL R_api_Kind F172 W173 l168 y169) ∧ (Ext w0 F W F172 W173)) ⟨(RepL.nil (R := R_api_Kind)), (Ext.refl _ _ _)⟩ 7 [5, 1, 0, 4, 2, 3, 6] ?_
     rintro ⟨l168, i171⟩ ⟨A166, c167, y169, F172, W173⟩ o8 ⟨h170, hx8⟩ hs_ hd8
     have hp : (tourref3_Open_l8 w_0) l168 i171 = some o8 := hs_
     clear hs_
     unfold tourref3_Open_l8 at hp
     have h_w_0 := h_w_0.ext hx8
     have h_w_1 := h_w_1.ext hx8
     have h_w_2 := h_w_2.ext hx8
     have h12 := h12.ext hx8
     have h14 := h14.ext hx8
     refine st_seq (st_region [oF 0] (by rfl) ?_)
     refine oq [oF 0] [(43, .bool (decide (i171 < (w_0.length : Int)))), (1, vP b1 0), (5, vP b15 0), (40, sl A_w_0 w_0 c_w_0), (41, vI (w_0.length : Int)), (42, vI i171)] ?_
     refine ops_nil (fin_then (st_seq ?_))
     refine sif hp (fun hc174 hp => ?_) (fun hc174 hp => ?_)
     ·
      refine st_skip (fin_then ?_)
      refine st_join1 (σ := (Option Addr) × Nat × (List api_Kind) × (List Value) × (Nat → Prop) × World) (L := fun x_ => match x_ with | (A175, c176, l177, y178, F180, W181) => [(1, vP b1 0), (5, vP b15 0), (40, sl A_w_0 w_0 c_w_0), (41, vI (w_0.length : Int)), (42, vI i171)]) (N := fun x_ => match x_ with | (A175, c176, l177, y178, F180, W181) => Mem w0 (.blk b1 [sl A_w_0 w_0 c_w_0, sl A_w_1 w_1 c_w_1, sl A_w_2 w_2 c_w_2] 26 :: .blk b15 [sl A175 l177 c176, sl A9 x7 c10, .map (some g13)] 96 :: ow A175 l177 c176 86 2 y178 :: ow A9 x7 c10 3 1 y11 :: .obj g13 (.map #[] 0) :: (Sx.bundle []) :: Fz F180 W181 :: cs)) (I := fun x_ => match x_ with | (A175, c176, l177, y178, F180, W181) => ((tourref3_Open_j9 i171) l177 = some o8) ∧ (RepL R_api_Kind F180 W181 l177 y178) ∧ (Ext w0 F172 W173 F180 W181)) ?_ ?_
      ·
       rintro ⟨A175, c176, l177, y178, F180, W181⟩ ⟨hp, h179, hx9⟩
       have h_w_0 := h_w_0.ext hx9
       have h_w_1 := h_w_1.ext hx9
       have h_w_2 := h_w_2.ext hx9
       have h12 := h12.ext hx9
       have h14 := h14.ext hx9
       unfold tourref3_Open_j9 at hp
       refine st_region [oF 0, oF 1] (by rfl) ?_
       refine oq [oF 0, oF 1] [(42, vI (IntKind.i64.wrap (i171 + 1))), (1, vP b1 0), (5, vP b15 0), (40, sl A_w_0 w_0 c_w_0), (41, vI (w_0.length : Int))] ?_
       refine ops_nil ?_
       exact fag (l177, IntKind.i64.wrap (i171 + 1)) (A175, c176, y178, F180, W181) (Option.some.inj hp).symm ⟨h179, (hx8.trans hx9)⟩ 0 []
      ·
       intro HJ9
       refine st_seq (st_block (st_seq ?_))
       refine st_region (oFs 0 4) (by rfl) ?_
       obtain ⟨x182, hv183, hp⟩ := obind hp
       obtain ⟨m184, hm185, hx186⟩ := idx_some hv183
       have hl189 := (List.getElem?_eq_some_iff.1 hx186).1
       obtain ⟨ad190, vs187, hA191, hr188, hq192⟩ := RdS.el h_w_0 hx186
       obtain ⟨A193, c194, rfl, h195⟩ := dec_api_Kind hr188
       refine ops_val (op := (.indexAddr 22 (.tmp 40) (.tmp 42))) (d := some 44) (v := .pointer (some (ad190.add (m184 * 2)))) ⟨by kernel_rfl⟩ (run_indexA hA191 Tryz.underlying22 (z := 2) (by kernel_rfl) rfl rfl hm185 hl189) ?_
       refine ops_mem (d := some 45) (an := [.v (.string x182.Name), .v (sl A193 x182.Fields c194)]) (evs := [.load (ad190.add (m184 * 2)) (.string x182.Name), .load ((ad190.add (m184 * 2)).add 1) (sl A193 x182.Fields c194)]) (v := .agg #[.string x182.Name, sl A193 x182.Fields c194]) ⟨by kernel_rfl⟩ (fun w_ hM hS => ⟨w_, ⟨hM.elcell 6 rfl hq192 0 rfl, hM.elcell 6 rfl hq192 1 rfl, rfl⟩, hM, trivial⟩) ?_
       refine oN 7 [.string ByteArray.empty, .slice none 0 0] 86 (fun b196 => ?_)
       refine oS 0 0 [.string x182.Name, sl A193 x182.Fields c194] ?_
       refine ops_nil (fin_then ?_)
       obtain ⟨x197, hv198, hp⟩ := obind hp
       obtain ⟨l209, hv210, hp⟩ := obind hp
       refine st_region_treeF tourref3_Open__t0 16 (.node [oT 0, oT 1, oT 2, oT 3, oT 5, oT 6, oT 7, oT 8] (.leaf [oF 4, oF 9, oT 10, oF 11, oF 12, oT 13, oT 14, oF 15]) (.node [oF 9, oT 10] (.leaf [oF 4, oF 11, oF 12, oT 13, oT 14, oF 15]) (.leaf [oF 11, oF 4, oF 12, oT 13, oT 14, oF 15]))) (Mem w0 (.blk b196 [.string x182.Name, sl A193 x182.Fields c194] 86 :: .blk b1 [sl A_w_0 w_0 c_w_0, sl A_w_1 w_1 c_w_1, sl A_w_2 w_2 c_w_2] 26 :: ow A9 x7 c10 3 1 y11 :: .obj g13 (.map #[] 0) :: (Sx.bundle []) :: Fz F172 W173 :: cs)) (by kernel_rfl) (by kernel_rfl) (by kernel_rfl) (by kernel_rfl) (by kernel_rfl) (fun _ d _ _ _ h => by cases d <;> exact h) (M' := Mem w0 (.blk b196 [.string x182.Name, sl A193 x182.Fields c194] 86 :: .blk b1 [sl A_w_0 w_0 c_w_0, sl A_w_1 w_1 c_w_1, sl A_w_2 w_2 c_w_2] 26 :: .blk b15 [sl A166 l168 c167, sl A9 x7 c10, .map (some g13)] 96 :: ow A166 l168 c167 86 2 y169 :: ow A9 x7 c10 3 1 y11 :: .obj g13 (.map #[] 0) :: (Sx.bundle []) :: Fz F172 W173 :: cs)) (fun w_ hM => ⟨hM.drew, hM.drew.sub (.cons_cons _ (.cons_cons _ (.cons _ (.cons _ (.cons_cons _ (.cons_cons _ (.cons_cons _ (.cons_cons _ (.refl _)))))))))⟩) ?_
       refine tree_node ?_
       refine oq [oT 0, oT 1, oT 2, oT 3, oT 5] [(51, vP b196 0), (49, vP b15 0), (46, vP b15 0), (7, vP b196 0), (1, vP b1 0), (5, vP b15 0), (40, sl A_w_0 w_0 c_w_0), (41, vI (w_0.length : Int)), (42, vI i171)] ?_
       refine oL 52 0 0 ?_
       refine oq [oT 7] [(53, vP b196 1), (52, .string x182.Name), (49, vP b15 0), (46, vP b15 0), (1, vP b1 0), (5, vP b15 0), (40, sl A_w_0 w_0 c_w_0), (41, vI (w_0.length : Int)), (42, vI i171)] ?_
       refine oL 54 0 1 ?_
       refine ops_nil ?_
       refine tree_both ?_ ?_
       ·
        refine tree_leaf ?_
        refine oM 50 2 0 ?_
        refine ops_callI (σ := (Option Addr) × Nat × (List Value)) (d := some 55) (f := 50) (args := #[sl A193 x182.Fields c194]) (v := (fun x_ => match x_ with | (A211, c212, y213) => sl A211 x197 c212)) (I := (fun x_ => match x_ with | (A211, c212, y213) => (RepL R_api_Field F172 W173 x197 y213))) (M' := (fun x_ => match x_ with | (A211, c212, y213) => Mem w0 (ow A211 x197 c212 99 3 y213 :: .blk b196 [.string x182.Name, sl A193 x182.Fields c194] 86 :: .blk b1 [sl A_w_0 w_0 c_w_0, sl A_w_1 w_1 c_w_1, sl A_w_2 w_2 c_w_2] 26 :: .blk b15 [sl A166 l168 c167, sl A9 x7 c10, .map (some g13)] 96 :: ow A166 l168 c167 86 2 y169 :: ow A9 x7 c10 3 1 y11 :: .obj g13 (.map #[] 0) :: (Sx.bundle []) :: Fz F172 W173 :: cs))) ⟨by kernel_rfl⟩ (fun w_ hM hS => (@slices_Clone_api_Field_api_Field_ok w0 w_ (.blk b196 [.string x182.Name, sl A193 x182.Fields c194] 86 :: .blk b1 [sl A_w_0 w_0 c_w_0, sl A_w_1 w_1 c_w_1, sl A_w_2 w_2 c_w_2] 26 :: .blk b15 [sl A166 l168 c167, sl A9 x7 c10, .map (some g13)] 96 :: ow A166 l168 c167 86 2 y169 :: ow A9 x7 c10 3 1 y11 :: .obj g13 (.map #[] 0) :: (Sx.bundle []) :: cs) F172 W173 A193 c194 x182.Fields (hM.pick 8 [7, 0, 1, 2, 3, 4, 5, 6] (by kernel_rfl) (by decide) rfl) h195 x197 hv198).mono (by rintro e w' ⟨⟨A211, c212, y213⟩, h214, rfl, h'⟩; have h' : Mem w0 (ow A211 x197 c212 99 3 y213 :: .blk b196 [.string x182.Name, sl A193 x182.Fields c194] 86 :: .blk b1 [sl A_w_0 w_0 c_w_0, sl A_w_1 w_1 c_w_1, sl A_w_2 w_2 c_w_2] 26 :: .blk b15 [sl A166 l168 c167, sl A9 x7 c10, .map (some g13)] 96 :: ow A166 l168 c167 86 2 y169 :: ow A9 x7 c10 3 1 y11 :: .obj g13 (.map #[] 0) :: (Sx.bundle []) :: Fz F172 W173 :: cs) w' := (h'.pick 9 [0, 2, 3, 4, 5, 6, 7, 8, 1] (by kernel_rfl) (by decide) rfl); exact ⟨(A211, c212, y213), h214, rfl, h', (by exact h'.sub (.cons _ (.cons_cons _ (.cons_cons _ (.cons _ (.cons _ (.cons_cons _ (.cons_cons _ (.cons_cons _ (.cons_cons _ (.refl _)))))))))))⟩)) ?_
        rintro ⟨A211, c212, y213⟩ h214
        refine oq [oT 10] [(56, .agg #[.string x182.Name, sl A211 x197 c212]), (50, sl A166 l168 c167), (46, vP b15 0), (1, vP b1 0), (5, vP b15 0), (40, sl A_w_0 w_0 c_w_0), (41, vI (w_0.length : Int)), (42, vI i171)] ?_
        refine ops_ex (σ := (Nat → Prop) × World) (I := fun x_ => Ext w0 F172 W173 x_.1 x_.2 ∧ RdS R_api_Field x_.1 x_.2 A211 c212 x197) (M' := fun x_ => Mem w0 (.blk b196 [.string x182.Name, sl A193 x182.Fields c194] 86 :: .blk b1 [sl A_w_0 w_0 c_w_0, sl A_w_1 w_1 c_w_1, sl A_w_2 w_2 c_w_2] 26 :: .blk b15 [sl A166 l168 c167, sl A9 x7 c10, .map (some g13)] 96 :: ow A166 l168 c167 86 2 y169 :: ow A9 x7 c10 3 1 y11 :: .obj g13 (.map #[] 0) :: (Sx.bundle []) :: Fz x_.1 x_.2 :: cs)) (fun w_ hM => ?_) ?_
        · obtain ⟨F_, h1_, h2_, h3_⟩ := (hM.pick 9 [0, 8, 1, 2, 3, 4, 5, 6, 7] (by kernel_rfl) (by decide) rfl : Mem w0 (ow A211 x197 c212 99 3 y213 :: Fz F172 W173 :: .blk b196 [.string x182.Name, sl A193 x182.Fields c194] 86 :: .blk b1 [sl A_w_0 w_0 c_w_0, sl A_w_1 w_1 c_w_1, sl A_w_2 w_2 c_w_2] 26 :: .blk b15 [sl A166 l168 c167, sl A9 x7 c10, .map (some g13)] 96 :: ow A166 l168 c167 86 2 y169 :: ow A9 x7 c10 3 1 y11 :: .obj g13 (.map #[] 0) :: (Sx.bundle []) :: cs) w_).freeze (z := 3) h214 rfl rfl
          exact ⟨(F_, w_), ⟨h1_, h2_⟩, h3_.pick 8 [1, 2, 3, 4, 5, 6, 7, 0] (by kernel_rfl) (by decide) rfl⟩
        rintro ⟨F215, W216⟩ ⟨hx217, h218⟩
        have hx217 : Ext w0 F172 W173 F215 W216 := hx217
        have h218 : RdS R_api_Field F215 W216 A211 c212 x197 := h218
        have h_w_0 := h_w_0.ext hx217
        have h195 := h195.ext hx217
        have h_w_1 := h_w_1.ext hx217
        have h_w_2 := h_w_2.ext hx217
        have h170 := h170.ext hx217
        have h12 := h12.ext hx217
        have h14 := h14.ext hx217
        have h219 : RepL R_api_Kind F215 W216 ([(api_Kind.mk x182.Name x197)] : List api_Kind) ([.string x182.Name, sl A211 x197 c212]) := (RepL.cons (R := R_api_Kind) (F := F215) (w := W216) (vs := [.string x182.Name, sl A211 x197 c212]) (ys := []) (enc_api_Kind h218) RepL.nil)
        refine oBS 57 [.string x182.Name, sl A211 x197 c212] 86 1 2 (fun g220 => ?_)
        obtain ⟨he221, hb222⟩ := app_some hv210
        obtain ⟨y223, hy224⟩ : ∃ y_, y169 ++ ([.string x182.Name, sl A211 x197 c212]) = y_ := ⟨_, rfl⟩
        have h225 : RepL R_api_Kind F215 W216 l209 y223 := by rw [he221, ← hy224]; exact RepL.app h170 h219
        refine ops_appendO (x := (Go.Operand.tmp 50)) (y := (Go.Operand.tmp 57)) (t := 22) (e := 86) (d := some 58) (n' := l209.length) (z := 2) (m := ([(api_Kind.mk x182.Name x197)] : List api_Kind).length) (bytes := 40) (xs' := y223) (news := ([.string x182.Name, sl A211 x197 c212])) (zv := .agg #[.string ByteArray.empty, .slice none 0 0]) 4 ⟨by kernel_rfl⟩ rfl rfl Tryz.underlying22 (by kernel_rfl) (by rfl) rfl (fun w_ hM => hM.srcO 0 rfl) h219.len h219.one hb222 (by have z_ := congrArg List.length he221; rw [List.length_append] at z_; exact z_.symm) hy224 (fun _ _ _ _ hS h' => (by first | exact (Mem.fzback h' 8 rfl hx217).sub (.cons _ (.cons_cons _ (.cons_cons _ (.cons _ (.cons _ (.cons_cons _ (.cons_cons _ (.cons_cons _ (.cons_cons _ (.refl _)))))))))) | exact (Mem.fzback h' 8 rfl (hx8.trans hx217)).sub (.cons _ (.cons_cons _ (.cons_cons _ (.cons _ (.cons _ (.cons_cons _ (.cons_cons _ (.cons_cons _ (.cons_cons _ (.refl _)))))))))))) ?_
        rintro ⟨A226, c227⟩
        refine oq [oT 13, oT 14] [(60, vP b15 0), (58, sl A226 l209 c227), (1, vP b1 0), (5, vP b15 0), (40, sl A_w_0 w_0 c_w_0), (41, vI (w_0.length : Int)), (42, vI i171)] ?_
        refine oSS 3 0 [sl A226 l209 c227] (fun w' h' => (by first | exact (Mem.fzback h' 8 rfl hx217).sub (.cons _ (.cons_cons _ (.cons_cons _ (.cons _ (.cons _ (.cons_cons _ (.cons_cons _ (.cons_cons _ (.cons_cons _ (.refl _)))))))))) | exact (Mem.fzback h' 8 rfl (hx8.trans hx217)).sub (.cons _ (.cons_cons _ (.cons_cons _ (.cons _ (.cons _ (.cons_cons _ (.cons_cons _ (.cons_cons _ (.cons_cons _ (.refl _)))))))))))) ?_
        refine ops_nil (fin_block ?_)
        exact fj HJ9 (A226, c227, l209, y223, F215, W216) ⟨hp, h225, hx217⟩ 9 [2, 3, 4, 5, 6, 7, 8]
       ·
        refine tree_node ?_
        refine ops_callI (σ := (Option Addr) × Nat × (List Value)) (d := some 55) (f := 50) (args := #[sl A193 x182.Fields c194]) (v := (fun x_ => match x_ with | (A228, c229, y230) => sl A228 x197 c229)) (I := (fun x_ => match x_ with | (A228, c229, y230) => (RepL R_api_Field F172 W173 x197 y230))) (M' := (fun x_ => match x_ with | (A228, c229, y230) => Mem w0 (ow A228 x197 c229 99 3 y230 :: .blk b196 [.string x182.Name, sl A193 x182.Fields c194] 86 :: .blk b1 [sl A_w_0 w_0 c_w_0, sl A_w_1 w_1 c_w_1, sl A_w_2 w_2 c_w_2] 26 :: .blk b15 [sl A166 l168 c167, sl A9 x7 c10, .map (some g13)] 96 :: ow A166 l168 c167 86 2 y169 :: ow A9 x7 c10 3 1 y11 :: .obj g13 (.map #[] 0) :: (Sx.bundle []) :: Fz F172 W173 :: cs))) ⟨by kernel_rfl⟩ (fun w_ hM hS => (@slices_Clone_api_Field_api_Field_ok w0 w_ (.blk b196 [.string x182.Name, sl A193 x182.Fields c194] 86 :: .blk b1 [sl A_w_0 w_0 c_w_0, sl A_w_1 w_1 c_w_1, sl A_w_2 w_2 c_w_2] 26 :: .blk b15 [sl A166 l168 c167, sl A9 x7 c10, .map (some g13)] 96 :: ow A166 l168 c167 86 2 y169 :: ow A9 x7 c10 3 1 y11 :: .obj g13 (.map #[] 0) :: (Sx.bundle []) :: cs) F172 W173 A193 c194 x182.Fields (hM.pick 8 [7, 0, 1, 2, 3, 4, 5, 6] (by kernel_rfl) (by decide) rfl) h195 x197 hv198).mono (by rintro e w' ⟨⟨A228, c229, y230⟩, h231, rfl, h'⟩; have h' : Mem w0 (ow A228 x197 c229 99 3 y230 :: .blk b196 [.string x182.Name, sl A193 x182.Fields c194] 86 :: .blk b1 [sl A_w_0 w_0 c_w_0, sl A_w_1 w_1 c_w_1, sl A_w_2 w_2 c_w_2] 26 :: .blk b15 [sl A166 l168 c167, sl A9 x7 c10, .map (some g13)] 96 :: ow A166 l168 c167 86 2 y169 :: ow A9 x7 c10 3 1 y11 :: .obj g13 (.map #[] 0) :: (Sx.bundle []) :: Fz F172 W173 :: cs) w' := (h'.pick 9 [0, 2, 3, 4, 5, 6, 7, 8, 1] (by kernel_rfl) (by decide) rfl); exact ⟨(A228, c229, y230), h231, rfl, h', (by exact h'.sub (.cons _ (.cons_cons _ (.cons_cons _ (.cons _ (.cons _ (.cons_cons _ (.cons_cons _ (.cons_cons _ (.cons_cons _ (.refl _)))))))))))⟩)) ?_
        rintro ⟨A228, c229, y230⟩ h231
        refine oq [oT 10] [(56, .agg #[.string x182.Name, sl A228 x197 c229]), (49, vP b15 0), (46, vP b15 0), (1, vP b1 0), (5, vP b15 0), (40, sl A_w_0 w_0 c_w_0), (41, vI (w_0.length : Int)), (42, vI i171)] ?_
        refine ops_nil ?_
        refine tree_both ?_ ?_
        ·
         refine tree_leaf ?_
         refine oM 50 3 0 ?_
         refine ops_ex (σ := (Nat → Prop) × World) (I := fun x_ => Ext w0 F172 W173 x_.1 x_.2 ∧ RdS R_api_Field x_.1 x_.2 A228 c229 x197) (M' := fun x_ => Mem w0 (.blk b196 [.string x182.Name, sl A193 x182.Fields c194] 86 :: .blk b1 [sl A_w_0 w_0 c_w_0, sl A_w_1 w_1 c_w_1, sl A_w_2 w_2 c_w_2] 26 :: .blk b15 [sl A166 l168 c167, sl A9 x7 c10, .map (some g13)] 96 :: ow A166 l168 c167 86 2 y169 :: ow A9 x7 c10 3 1 y11 :: .obj g13 (.map #[] 0) :: (Sx.bundle []) :: Fz x_.1 x_.2 :: cs)) (fun w_ hM => ?_) ?_
         · obtain ⟨F_, h1_, h2_, h3_⟩ := (hM.pick 9 [0, 8, 1, 2, 3, 4, 5, 6, 7] (by kernel_rfl) (by decide) rfl : Mem w0 (ow A228 x197 c229 99 3 y230 :: Fz F172 W173 :: .blk b196 [.string x182.Name, sl A193 x182.Fields c194] 86 :: .blk b1 [sl A_w_0 w_0 c_w_0, sl A_w_1 w_1 c_w_1, sl A_w_2 w_2 c_w_2] 26 :: .blk b15 [sl A166 l168 c167, sl A9 x7 c10, .map (some g13)] 96 :: ow A166 l168 c167 86 2 y169 :: ow A9 x7 c10 3 1 y11 :: .obj g13 (.map #[] 0) :: (Sx.bundle []) :: cs) w_).freeze (z := 3) h231 rfl rfl
           exact ⟨(F_, w_), ⟨h1_, h2_⟩, h3_.pick 8 [1, 2, 3, 4, 5, 6, 7, 0] (by kernel_rfl) (by decide) rfl⟩
         rintro ⟨F232, W233⟩ ⟨hx234, h235⟩
         have hx234 : Ext w0 F172 W173 F232 W233 := hx234
         have h235 : RdS R_api_Field F232 W233 A228 c229 x197 := h235
         have h_w_0 := h_w_0.ext hx234
         have h195 := h195.ext hx234
         have h_w_1 := h_w_1.ext hx234
         have h_w_2 := h_w_2.ext hx234
         have h170 := h170.ext hx234
         have h12 := h12.ext hx234
         have h14 := h14.ext hx234
         have h236 : RepL R_api_Kind F232 W233 ([(api_Kind.mk x182.Name x197)] : List api_Kind) ([.string x182.Name, sl A228 x197 c229]) := (RepL.cons (R := R_api_Kind) (F := F232) (w := W233) (vs := [.string x182.Name, sl A228 x197 c229]) (ys := []) (enc_api_Kind h235) RepL.nil)
         refine oBS 57 [.string x182.Name, sl A228 x197 c229] 86 1 2 (fun g237 => ?_)
         obtain ⟨he238, hb239⟩ := app_some hv210
         obtain ⟨y240, hy241⟩ : ∃ y_, y169 ++ ([.string x182.Name, sl A228 x197 c229]) = y_ := ⟨_, rfl⟩
         have h242 : RepL R_api_Kind F232 W233 l209 y240 := by rw [he238, ← hy241]; exact RepL.app h170 h236
         refine ops_appendO (x := (Go.Operand.tmp 50)) (y := (Go.Operand.tmp 57)) (t := 22) (e := 86) (d := some 58) (n' := l209.length) (z := 2) (m := ([(api_Kind.mk x182.Name x197)] : List api_Kind).length) (bytes := 40) (xs' := y240) (news := ([.string x182.Name, sl A228 x197 c229])) (zv := .agg #[.string ByteArray.empty, .slice none 0 0]) 4 ⟨by kernel_rfl⟩ rfl rfl Tryz.underlying22 (by kernel_rfl) (by rfl) rfl (fun w_ hM => hM.srcO 0 rfl) h236.len h236.one hb239 (by have z_ := congrArg List.length he238; rw [List.length_append] at z_; exact z_.symm) hy241 (fun _ _ _ _ hS h' => (by first | exact (Mem.fzback h' 8 rfl hx234).sub (.cons _ (.cons_cons _ (.cons_cons _ (.cons _ (.cons _ (.cons_cons _ (.cons_cons _ (.cons_cons _ (.cons_cons _ (.refl _)))))))))) | exact (Mem.fzback h' 8 rfl (hx8.trans hx234)).sub (.cons _ (.cons_cons _ (.cons_cons _ (.cons _ (.cons _ (.cons_cons _ (.cons_cons _ (.cons_cons _ (.cons_cons _ (.refl _)))))))))))) ?_
         rintro ⟨A243, c244⟩
         refine oq [oT 13, oT 14] [(60, vP b15 0), (58, sl A243 l209 c244), (1, vP b1 0), (5, vP b15 0), (40, sl A_w_0 w_0 c_w_0), (41, vI (w_0.length : Int)), (42, vI i171)] ?_
         refine oSS 3 0 [sl A243 l209 c244] (fun w' h' => (by first | exact (Mem.fzback h' 8 rfl hx234).sub (.cons _ (.cons_cons _ (.cons_cons _ (.cons _ (.cons _ (.cons_cons _ (.cons_cons _ (.cons_cons _ (.cons_cons _ (.refl _)))))))))) | exact (Mem.fzback h' 8 rfl (hx8.trans hx234)).sub (.cons _ (.cons_cons _ (.cons_cons _ (.cons _ (.cons _ (.cons_cons _ (.cons_cons _ (.cons_cons _ (.cons_cons _ (.refl _)))))))))))) ?_
         refine ops_nil (fin_block ?_)
         exact fj HJ9 (A243, c244, l209, y240, F232, W233) ⟨hp, h242, hx234⟩ 9 [2, 3, 4, 5, 6, 7, 8]
        ·
         refine tree_leaf ?_
         refine ops_ex (σ := (Nat → Prop) × World) (I := fun x_ => Ext w0 F172 W173 x_.1 x_.2 ∧ RdS R_api_Field x_.1 x_.2 A228 c229 x197) (M' := fun x_ => Mem w0 (.blk b196 [.string x182.Name, sl A193 x182.Fields c194] 86 :: .blk b1 [sl A_w_0 w_0 c_w_0, sl A_w_1 w_1 c_w_1, sl A_w_2 w_2 c_w_2] 26 :: .blk b15 [sl A166 l168 c167, sl A9 x7 c10, .map (some g13)] 96 :: ow A166 l168 c167 86 2 y169 :: ow A9 x7 c10 3 1 y11 :: .obj g13 (.map #[] 0) :: (Sx.bundle []) :: Fz x_.1 x_.2 :: cs)) (fun w_ hM => ?_) ?_
         · obtain ⟨F_, h1_, h2_, h3_⟩ := (hM.pick 9 [0, 8, 1, 2, 3, 4, 5, 6, 7] (by kernel_rfl) (by decide) rfl : Mem w0 (ow A228 x197 c229 99 3 y230 :: Fz F172 W173 :: .blk b196 [.string x182.Name, sl A193 x182.Fields c194] 86 :: .blk b1 [sl A_w_0 w_0 c_w_0, sl A_w_1 w_1 c_w_1, sl A_w_2 w_2 c_w_2] 26 :: .blk b15 [sl A166 l168 c167, sl A9 x7 c10, .map (some g13)] 96 :: ow A166 l168 c167 86 2 y169 :: ow A9 x7 c10 3 1 y11 :: .obj g13 (.map #[] 0) :: (Sx.bundle []) :: cs) w_).freeze (z := 3) h231 rfl rfl
           exact ⟨(F_, w_), ⟨h1_, h2_⟩, h3_.pick 8 [1, 2, 3, 4, 5, 6, 7, 0] (by kernel_rfl) (by decide) rfl⟩
         rintro ⟨F245, W246⟩ ⟨hx247, h248⟩
         have hx247 : Ext w0 F172 W173 F245 W246 := hx247
         have h248 : RdS R_api_Field F245 W246 A228 c229 x197 := h248
         have h_w_0 := h_w_0.ext hx247
         have h195 := h195.ext hx247
         have h_w_1 := h_w_1.ext hx247
         have h_w_2 := h_w_2.ext hx247
         have h170 := h170.ext hx247
         have h12 := h12.ext hx247
         have h14 := h14.ext hx247
         have h249 : RepL R_api_Kind F245 W246 ([(api_Kind.mk x182.Name x197)] : List api_Kind) ([.string x182.Name, sl A228 x197 c229]) := (RepL.cons (R := R_api_Kind) (F := F245) (w := W246) (vs := [.string x182.Name, sl A228 x197 c229]) (ys := []) (enc_api_Kind h248) RepL.nil)
         refine oBS 57 [.string x182.Name, sl A228 x197 c229] 86 1 2 (fun g250 => ?_)
         refine oM 50 3 0 ?_
         obtain ⟨he251, hb252⟩ := app_some hv210
         obtain ⟨y253, hy254⟩ : ∃ y_, y169 ++ ([.string x182.Name, sl A228 x197 c229]) = y_ := ⟨_, rfl⟩
         have h255 : RepL R_api_Kind F245 W246 l209 y253 := by rw [he251, ← hy254]; exact RepL.app h170 h249
         refine ops_appendO (x := (Go.Operand.tmp 50)) (y := (Go.Operand.tmp 57)) (t := 22) (e := 86) (d := some 58) (n' := l209.length) (z := 2) (m := ([(api_Kind.mk x182.Name x197)] : List api_Kind).length) (bytes := 40) (xs' := y253) (news := ([.string x182.Name, sl A228 x197 c229])) (zv := .agg #[.string ByteArray.empty, .slice none 0 0]) 4 ⟨by kernel_rfl⟩ rfl rfl Tryz.underlying22 (by kernel_rfl) (by rfl) rfl (fun w_ hM => hM.srcO 0 rfl) h249.len h249.one hb252 (by have z_ := congrArg List.length he251; rw [List.length_append] at z_; exact z_.symm) hy254 (fun _ _ _ _ hS h' => (by first | exact (Mem.fzback h' 8 rfl hx247).sub (.cons _ (.cons_cons _ (.cons_cons _ (.cons _ (.cons _ (.cons_cons _ (.cons_cons _ (.cons_cons _ (.cons_cons _ (.refl _)))))))))) | exact (Mem.fzback h' 8 rfl (hx8.trans hx247)).sub (.cons _ (.cons_cons _ (.cons_cons _ (.cons _ (.cons _ (.cons_cons _ (.cons_cons _ (.cons_cons _ (.cons_cons _ (.refl _)))))))))))) ?_
         rintro ⟨A256, c257⟩
         refine oq [oT 13, oT 14] [(60, vP b15 0), (58, sl A256 l209 c257), (1, vP b1 0), (5, vP b15 0), (40, sl A_w_0 w_0 c_w_0), (41, vI (w_0.length : Int)), (42, vI i171)] ?_
         refine oSS 3 0 [sl A256 l209 c257] (fun w' h' => (by first | exact (Mem.fzback h' 8 rfl hx247).sub (.cons _ (.cons_cons _ (.cons_cons _ (.cons _ (.cons _ (.cons_cons _ (.cons_cons _ (.cons_cons _ (.cons_cons _ (.refl _)))))))))) | exact (Mem.fzback h' 8 rfl (hx8.trans hx247)).sub (.cons _ (.cons_cons _ (.cons_cons _ (.cons _ (.cons _ (.cons_cons _ (.cons_cons _ (.cons_cons _ (.cons_cons _ (.refl _)))))))))))) ?_
         refine ops_nil (fin_block ?_)
         exact fj HJ9 (A256, c257, l209, y253, F245, W246) ⟨hp, h255, hx247⟩ 9 [2, 3, 4, 5, 6, 7, 8]
     ·
      refine st_exit (fin_exit_then (fin_exit_then (fin_exit ?_)))
      obtain rfl := Option.some.inj hp
      obtain rfl := hd8 _ rfl
      have hp : (tourref3_Open_j1 w_2 w_0 x7 w_1) l168 = some r_ := hk8
      exact fj HJ1 (A166, c167, l168, y169, F172, W173) ⟨hp, h170, hx8⟩ 0 []
def tourref3_Flat_Has__t0 : List Row := [⟨0, 32, 8⟩, ⟨1, 64, 32⟩, ⟨2, 128, 64⟩, ⟨4, 256, 128⟩, ⟨8, 512, 264⟩, ⟨24, 1024, 768⟩, ⟨8, 2048, 257⟩, ⟨72, 4096, 2304⟩, ⟨136, 8192, 4352⟩, ⟨264, 16384, 8448⟩, ⟨520, 32768, 16640⟩, ⟨1064, 65536, 34048⟩, ⟨2056, 131072, 65792⟩, ⟨4104, 262144, 131072⟩, ⟨8192, 524288, 262145⟩, ⟨24576, 1048576, 786432⟩, ⟨40960, 2097152, 1310720⟩, ⟨73728, 4194304, 2359296⟩, ⟨8192, 8388608, 262152⟩, ⟨270336, 16777216, 8650752⟩, ⟨663552, 33554432, 21233664⟩, ⟨1056768, 67108864, 33816576⟩, ⟨2105344, 134217728, 67371008⟩, ⟨4202496, 268435456, 134217728⟩, ⟨8388608, 536870912, 268435457⟩, ⟨25165824, 1073741824, 805306368⟩, ⟨41943040, 2147483648, 1342177280⟩, ⟨75497472, 4294967296, 2415919104⟩, ⟨8388608, 8589934592, 268435464⟩, ⟨276824064, 17179869184, 8858370048⟩, ⟨679477248, 34359738368, 21743271936⟩, ⟨1082130432, 68719476736, 34628173824⟩, ⟨8388608, 137438953472, 268435464⟩, ⟨4303355904, 274877906944, 137707388928⟩, ⟨10745806848, 549755813888, 343865819136⟩, ⟨17188257792, 1099511627776, 550024249344⟩, ⟨68719476735, 16, 1099511627776⟩]
theorem tourref3_Flat_Has_ok {a : Int} {c : Int} (j : Mem w0 (Fz F W :: cs) w) (g : tourref3_Flat_Has a c = some ()) : Calls Tryz.prog 55 #[.pointer none, .agg #[vI a, vI c]] w (Post w0 (fun (_ : Unit) => True) (fun _ => .bool false) (fun _ => Fz F W :: cs)) := by
 unfold tourref3_Flat_Has at g
 refine sx_calls Tryz.func55 rfl (n := 41) (by kernel_rfl) (l := [(0, .pointer none), (1, .agg #[vI a, vI c])]) rfl (by rfl) j ?_
 refine st_seq (st_region [oF 0, oF 1] (by rfl) ?_)
 refine oN 3 [vI a, vI c] 29 (fun f => ?_)
 refine oq [oF 1] [(3, vP f 0), (0, .pointer none)] ?_
 refine ops_nil (fin_then (st_seq ?_))
 refine st_region_fast tourref3_Flat_Has__t0 [oT 0, oT 1, oT 2, oT 3, oT 4, oT 5, oT 6, oT 7, oT 8, oT 9, oT 10, oT 11, oT 12, oT 13, oT 14, oT 15, oT 16, oT 17, oT 18, oT 19, oF 20, oT 21, oT 22, oT 23, oT 24, oT 25, oT 26, oT 27, oT 28, oT 29, oT 30, oT 31, oT 32, oT 33, oT 34, oT 35, oT 36] (Mem w0 (.blk f [vI a, vI c] 29 :: Fz F W :: cs)) (by kernel_rfl) (by kernel_rfl) (by kernel_rfl) (by kernel_rfl) (by kernel_rfl) (fun _ d _ _ _ h => by cases d <;> exact h) (M' := Mem w0 (.blk f [vI a, vI c] 29 :: Fz F W :: cs)) (fun m i => ⟨i.drew, i.drew.sub (.cons_cons _ (.cons_cons _ (.refl _)))⟩) ?_
 refine oq [oT 0] [(5, vP f 0), (3, vP f 0), (0, .pointer none)] ?_
 refine oL 6 0 0 ?_
 refine oq [oT 2, oT 3] [(8, .bool (decide (0 ≤ a))), (3, vP f 0), (0, .pointer none)] ?_
 refine ob g [8] (fun k g => ?_) (fun k g => ?_)
 ·
  refine oq [oT 4] [(9, vP f 0), (8, .bool true), (3, vP f 0), (0, .pointer none)] ?_
  refine oL 10 0 0 ?_
  refine oq [oT 6] [(11, .pointer none), (10, vI a), (8, .bool true), (3, vP f 0), (0, .pointer none)] ?_
  cases g
 ·
  refine oq [oT 4, oT 5, oT 6, oT 7, oT 8, oT 9, oT 10, oT 11, oT 12, oT 13, oT 14, oT 15, oT 16, oT 17, oT 18, oT 19, oF 20, oT 21, oT 22, oT 23, oT 24, oT 25, oT 26, oT 27, oT 28, oT 29, oT 30, oT 31, oT 32, oT 33, oT 34, oT 35, oT 36] [(4, .bool false)] ?_
  refine ops_nil (fin_then (st_ret ?_))
  exact fr [4] () trivial 2 [1]
theorem tourref3_Flat_Kill_ok {b : Int} {c : Int} (g : Mem w0 (Fz F W :: cs) w) (f : tourref3_Flat_Kill b c = some ()) : Calls Tryz.prog 24 #[.pointer none, .agg #[vI b, vI c]] w (Post w0 (fun (_ : Unit) => True) (fun _ => vI 4) (fun _ => Fz F W :: cs)) := by
 unfold tourref3_Flat_Kill at f
 refine sx_calls Tryz.func24 rfl (n := 25) (by kernel_rfl) (l := [(0, .pointer none), (1, .agg #[vI b, vI c])]) rfl (by rfl) g ?_
 refine st_seq (st_region [oF 0, oF 1] (by rfl) ?_)
 refine oN 3 [vI b, vI c] 29 (fun d => ?_)
 refine oq [oF 1] [(3, vP d 0), (0, .pointer none)] ?_
 refine ops_nil (fin_then (st_seq (st_seq ?_)))
 refine st_region (oFs 0 4) (by rfl) ?_
 refine oq [oF 0] [(5, .pointer none), (3, vP d 0), (0, .pointer none)] ?_
 refine oMA 6 0 0 2 ?_
 obtain ⟨_, i, f⟩ := obind f
 refine oV (some 7) 2 [1, 0] 2 [1, 0] (fun _ j => tourref3_Flat_Has_ok j i) ?_
 rintro _ -
 refine oq [oF 3] [(8, .bool true), (3, vP d 0), (0, .pointer none)] ?_
 refine ops_nil (fin_then (st_true rfl (st_seq (st_region [oF 0] (by rfl) ?_))))
 refine oq [oF 0] [(4, vI 4)] ?_
 refine ops_nil (fin_then (st_ret (fin_ret_then ?_)))
 exact fr [4] () trivial 2 [1]
theorem tourlaw3_WorldChanges_2_ok {a : Nat} {c : Int} {d : Int} (g : Mem w0 (.blk a [vI c, vI d] 29 :: Fz F W :: cs) w) (f : tourlaw3_WorldChanges_2 c d = some ()) : Calls Tryz.prog 23 #[.pointer none, vP a 0] w (Post w0 (fun (_ : Unit) => True) (fun _ => vI 4) (fun _ => .blk a [vI c, vI d] 29 :: Fz F W :: cs)) := by
 unfold tourlaw3_WorldChanges_2 at f
 refine sx_calls Tryz.func23 rfl (n := 7) (by kernel_rfl) (l := [(0, .pointer none), (1, vP a 0)]) rfl (by rfl) g ?_
 refine st_seq (st_region [oF 0] (by rfl) ?_)
 refine oq [oF 0] [(0, .pointer none), (1, vP a 0)] ?_
 refine ops_nil (fin_then (st_seq ?_))
 refine st_region (oFs 0 4) (by rfl) ?_
 refine oq [oF 0] [(4, .pointer none), (1, vP a 0)] ?_
 refine oMA 5 0 0 2 ?_
 obtain ⟨_, i, f⟩ := obind f
 refine oV (some 6) 2 [1, 0] 2 [1, 0] (fun _ j => tourref3_Flat_Kill_ok j i) ?_
 rintro _ -
 refine oq [oF 3] [(3, vI 4)] ?_
 refine ops_nil (fin_then (st_ret ?_))
 exact fr [3] () trivial 0 []
theorem tourlaw3_same_ok {a : Option Addr} {f : Nat} {k : List api_Kind} {b : Option Addr} {g : Nat} {m : List Int} {c : Option Addr} {i : Nat} {o : List api_Item} {p : Int} (y : Mem w0 (Fz F W :: cs) w) (u : RdS R_api_Kind F W a f k) (v : RdS (Rep.int .i64) F W b g m) (x : RdS R_api_Item F W c i o) {r : Bool} (q : tourlaw3_same k m o p = some r) : Calls Tryz.prog 14 #[.agg #[sl a k f, sl b m g, sl c o i], .pointer none, vI p] w (Post w0 (fun (_ : Unit) => True) (fun _ => .bool r) (fun _ => Fz F W :: cs)) := by
 unfold tourlaw3_same at q
 refine sx_calls Tryz.func14 rfl (n := 16) (by kernel_rfl) (l := [(0, .agg #[sl a k f, sl b m g, sl c o i]), (1, .pointer none), (2, vI p)]) rfl (by rfl) y ?_
 refine st_seq (st_region [oF 0, oF 1] (by rfl) ?_)
 refine oN 3 [sl a k f, sl b m g, sl c o i] 26 (fun s => ?_)
 refine oq [oF 1] [(3, vP s 0), (1, .pointer none), (2, vI p)] ?_
 refine ops_nil (fin_then (st_seq (st_seq (st_region [oF 0, oF 1] (by rfl) ?_))))
 refine oq [oF 0, oF 1] [(8, .bool (!(p == 0))), (3, vP s 0), (1, .pointer none)] ?_
 refine ops_nil (fin_then ?_)
 refine sif q (fun z q => ?_) (fun z q => ?_)
 ·
  refine st_seq ?_
  refine st_region (oFs 0 4) (by rfl) ?_
  refine oMA 9 0 0 3 ?_
  refine oq [oF 1] [(10, .agg #[.slice none 0 0, .slice none 0 0, .slice none 0 0]), (9, .agg #[sl a k f, sl b m g, sl c o i])] ?_
  obtain ⟨B, A, q⟩ := obind q
  refine oV (some 11) 2 [1, 0] 2 [1, 0] (fun _ t => tourref3_SameWorld_ok t u v x (RdS.empty none) (RdS.empty none) (RdS.empty none) A) ?_
  rintro _ -
  refine oq [oF 3] [(6, .bool B)] ?_
  refine ops_nil (fin_then (st_ret (fin_ret_then ?_)))
  obtain rfl := Option.some.inj q
  exact fr [6] () trivial 2 [1]
 ·
  refine st_skip (fin_then (st_seq ?_))
  refine st_region_draw [oT 0, oT 1, oF 2, oF 3, oT 4] (Mem w0 (.blk s [sl a k f, sl b m g, sl c o i] 26 :: Fz F W :: cs)) (by kernel_rfl) (by kernel_rfl) (by kernel_rfl) (fun _ d _ _ _ h => by cases d <;> exact h) (M' := Mem w0 (.blk s [sl a k f, sl b m g, sl c o i] 26 :: Fz F W :: cs)) (fun C t => ⟨t.drew, t.drew.sub (.cons_cons _ (.cons_cons _ (.refl _)))⟩) ?_
  refine oLA 12 0 0 3 ?_
  refine oq [oT 1] [(13, .pointer none), (12, .agg #[sl a k f, sl b m g, sl c o i])] ?_
  cases q
def tourref3_Flat_Has_v2__t0 : List Row := [⟨0, 32, 8⟩, ⟨1, 64, 32⟩, ⟨2, 128, 64⟩, ⟨4, 256, 128⟩, ⟨8, 512, 264⟩, ⟨24, 1024, 768⟩, ⟨8, 2048, 257⟩, ⟨72, 4096, 2304⟩, ⟨136, 8192, 4352⟩, ⟨264, 16384, 8448⟩, ⟨520, 32768, 16640⟩, ⟨1064, 65536, 34048⟩, ⟨2056, 131072, 65792⟩, ⟨4104, 262144, 131072⟩, ⟨8192, 524288, 262145⟩, ⟨24576, 1048576, 786432⟩, ⟨40960, 2097152, 1310720⟩, ⟨73728, 4194304, 2359296⟩, ⟨8192, 8388608, 262152⟩, ⟨270336, 16777216, 8650752⟩, ⟨663552, 33554432, 21233664⟩, ⟨1056768, 67108864, 33816576⟩, ⟨2105344, 134217728, 67371008⟩, ⟨4202496, 268435456, 134217728⟩, ⟨8388608, 536870912, 268435457⟩, ⟨25165824, 1073741824, 805306368⟩, ⟨41943040, 2147483648, 1342177280⟩, ⟨75497472, 4294967296, 2415919104⟩, ⟨8388608, 8589934592, 268435464⟩, ⟨276824064, 17179869184, 8858370048⟩, ⟨679477248, 34359738368, 21743271936⟩, ⟨1082130432, 68719476736, 34628173824⟩, ⟨8388608, 137438953472, 268435464⟩, ⟨4303355904, 274877906944, 137707388928⟩, ⟨10745806848, 549755813888, 343865819136⟩, ⟨17188257792, 1099511627776, 550024249344⟩, ⟨68719476735, 16, 1099511627776⟩]
theorem tourref3_Flat_Has_v2_ok {f : Nat} {k : Option Addr} {m : Nat} {u : List api_Kind} {c : Option Addr} {b : Nat} {j : List Int} {o : List Value} {a : Nat} {i : Array MapEntry} {g : Nat} {X : List (Int × (Option (List (Int × (List Int)))))} {r : Chunk} {q : Int} {s : Int} (ay : Mem w0 (.blk f [sl k u m, sl c j b, .map (some a)] 96 :: ow c j b 3 1 o :: .obj a (.map i g) :: r :: Fz F W :: cs) w) (ai : RdS R_api_Kind F W k m u) (Z : RepL (Rep.int .i64) F W j o) (C : MapW (fun y : Int => Value.int .i64 y) (Own.mr (fun y : Int => Value.int .i64 y) (Rep.sl (Rep.int .i64)) false) false F W X i g r) {O : Bool} (t : tourref3_Flat_Has_v2 u j X q s = some O) : Calls Tryz.prog 55 #[vP f 0, .agg #[vI q, vI s]] w (Post w0 (fun ((H, B, A, G) : (List Value) × (Array MapEntry) × Nat × Chunk) => (RdS R_api_Kind F W k m u) ∧ (RepL (Rep.int .i64) F W j H) ∧ (MapW (fun y : Int => Value.int .i64 y) (Own.mr (fun y : Int => Value.int .i64 y) (Rep.sl (Rep.int .i64)) false) false F W X B A G)) (fun (H, B, A, G) => .bool O) (fun (H, B, A, G) => .blk f [sl k u m, sl c j b, .map (some a)] 96 :: ow c j b 3 1 H :: .obj a (.map B A) :: G :: Fz F W :: cs)) := by
 unfold tourref3_Flat_Has_v2 at t
 refine sx_calls Tryz.func55 rfl (n := 41) (by kernel_rfl) (l := [(0, vP f 0), (1, .agg #[vI q, vI s])]) rfl (by rfl) ay ?_
 refine st_seq (st_region [oF 0, oF 1] (by rfl) ?_)
 refine oN 3 [vI q, vI s] 29 (fun p => ?_)
 refine oq [oF 1] [(3, vP p 0), (0, vP f 0)] ?_
 refine ops_nil (fin_then ?_)
 refine st_join1 (σ := Bool × (Array MapEntry) × Nat × Chunk) (L := fun y => match y with | (t2, M, K, K5) => [(4, .bool t2)]) (N := fun y => match y with | (t2, M, K, K5) => Mem w0 (.blk f [sl k u m, sl c j b, .map (some a)] 96 :: ow c j b 3 1 o :: .obj a (.map M K) :: K5 :: Fz F W :: cs)) (I := fun y => match y with | (t2, M, K, K5) => (tourref3_Flat_Has_v2_j1 t2 = some O) ∧ (MapW (fun y : Int => Value.int .i64 y) (Own.mr (fun y : Int => Value.int .i64 y) (Rep.sl (Rep.int .i64)) false) false F W X M K K5)) ?_ ?_
 ·
  rintro ⟨t2, M, K, K5⟩ ⟨t, h6⟩
  unfold tourref3_Flat_Has_v2_j1 at t
  refine st_ret ?_
  obtain rfl := Option.some.inj t
  exact fr [4] (o, M, K, K5) ⟨ai, Z, h6⟩ 0 []
 ·
  intro U
  refine st_seq ?_
  refine st_region_fast tourref3_Flat_Has_v2__t0 [oT 0, oT 1, oT 2, oT 3, oT 4, oT 5, oT 6, oT 7, oT 8, oT 9, oT 10, oT 11, oT 12, oT 13, oT 14, oT 15, oT 16, oT 17, oT 18, oT 19, oF 20, oT 21, oT 22, oT 23, oT 24, oT 25, oT 26, oT 27, oT 28, oT 29, oT 30, oT 31, oT 32, oT 33, oT 34, oT 35, oT 36] (Mem w0 (.blk p [vI q, vI s] 29 :: .blk f [sl k u m, sl c j b, .map (some a)] 96 :: ow c j b 3 1 o :: Fz F W :: cs)) (by kernel_rfl) (by kernel_rfl) (by kernel_rfl) (by kernel_rfl) (by kernel_rfl) (fun _ d _ _ _ h => by cases d <;> exact h) (M' := Mem w0 (.blk p [vI q, vI s] 29 :: .blk f [sl k u m, sl c j b, .map (some a)] 96 :: ow c j b 3 1 o :: .obj a (.map i g) :: r :: Fz F W :: cs)) (fun J E => ⟨E.drew, E.drew.sub (.cons_cons _ (.cons_cons _ (.cons_cons _ (.cons _ (.cons _ (.cons_cons _ (.refl _)))))))⟩) ?_
  refine oq [oT 0] [(5, vP p 0), (3, vP p 0), (0, vP f 0)] ?_
  refine oL 6 0 0 ?_
  refine oq [oT 2, oT 3] [(8, .bool (decide (0 ≤ q))), (3, vP p 0), (0, vP f 0)] ?_
  refine ob t [8] (fun az t => ?_) (fun az t => ?_)
  ·
   refine oq [oT 4] [(9, vP p 0), (8, .bool true), (3, vP p 0), (0, vP f 0)] ?_
   refine oL 10 0 0 ?_
   refine oq (oTs 6 3) [(13, vP f 1), (10, vI q), (8, .bool true), (3, vP p 0), (0, vP f 0)] ?_
   refine oL 14 1 1 ?_
   refine oq (oTs 10 4) [(18, .bool (decide (q < (j.length : Int)))), (3, vP p 0), (0, vP f 0)] ?_
   refine ob t [18] (fun a0 t => ?_) (fun a0 t => ?_)
   ·
    refine oq (oTs 14 3) [(21, vP f 2), (18, .bool true), (3, vP p 0), (0, vP f 0)] ?_
    refine oL 22 1 2 ?_
    refine oq [oT 18] [(23, vP p 0), (22, .map (some a)), (18, .bool true), (3, vP p 0), (0, vP f 0)] ?_
    refine oL 24 0 0 ?_
    refine oq [] [(24, vI q), (22, .map (some a)), (18, .bool true), (3, vP p 0), (0, vP f 0)] ?_
    rcases oel_some t with ⟨T, t⟩ | ⟨l9, T, t⟩
    ·
     refine ops_law (op := (.lookup 94 (.tmp 22) (.tmp 24) false)) (d := some 25) (σ := Unit) (v := fun _ => .map none) (M' := fun _ => Mem w0 (.blk p [vI q, vI s] 29 :: .blk f [sl k u m, sl c j b, .map (some a)] 96 :: ow c j b 3 1 o :: .obj a (.map i g) :: r :: Fz F W :: cs)) ⟨by kernel_rfl⟩ (fun o_ J ho_ E hS => ⟨(), J, run_lookupV rfl rfl (MapW.lookNil (by exact fun h_ => h_.1) C (KeyLaw.int Tryz.underlying3) Tryz.underlying94 T (fun u_ => Tryz.zeroValue37 u_) false a J (E.mapAt 3 rfl)) o_ ho_, E, hS⟩) (fun _ => ?_)
     refine oq (oTs 21 16) [(4, .bool false)] ?_
     refine ops_nil ?_
     exact fj U (false, i, g, r) ⟨t, C⟩ 6 [1, 2, 3, 4, 5]
    ·
     have ad := getD_some_some T
     obtain ⟨a4, a1, aw, ar, am, ao, hr18⟩ := MapW.look C (KeyLaw.int Tryz.underlying3) Tryz.underlying94 ad
     obtain ⟨V, ac, ab, rfl, rfl, ax⟩ := am
     refine ops_law (op := (.lookup 94 (.tmp 22) (.tmp 24) false)) (d := some 25) (σ := Unit) (v := fun _ => .map (some V)) (M' := fun _ => Mem w0 (.blk p [vI q, vI s] 29 :: .blk f [sl k u m, sl c j b, .map (some a)] 96 :: ow c j b 3 1 o :: .obj a (.map i g) :: r :: Fz F W :: cs)) ⟨by kernel_rfl⟩ (fun o_ J ho_ E hS => ⟨(), J, run_lookupV rfl rfl (hr18 false a J (E.mapAt 3 rfl)) o_ ho_, E, hS⟩) (fun _ => ?_)
     refine ops_conv (l' := [(25, .map (some V)), (24, vI q), (22, .map (some a)), (18, .bool true), (3, vP p 0), (0, vP f 0)]) (M' := Mem w0 (.obj V (.map ac ab) :: .blk p [vI q, vI s] 29 :: .blk f [sl k u m, sl c j b, .map (some a)] 96 :: ow c j b 3 1 o :: .obj a (.map i g) :: aw :: Fz F W :: cs)) rfl (fun J h => (ao (h.pick 6 [4, 0, 1, 2, 3, 5] (by kernel_rfl) (by decide) rfl)).pick 7 [1, 2, 3, 4, 5, 0, 6] (by kernel_rfl) (by decide) rfl) ?_
     refine oq (oTs 21 6) [(31, vP f 1), (28, .bool true), (3, vP p 0)] ?_
     refine oL 32 1 1 ?_
     refine oq [oT 28] [(33, vP p 0), (32, sl c j b), (28, .bool true), (3, vP p 0)] ?_
     refine oL 34 0 0 ?_
     obtain ⟨D, av, t⟩ := obind t
     obtain ⟨ag, ap, af⟩ := idx_some av
     have ae := (List.getElem?_eq_some_iff.1 af).1
     refine ops_fact (fun J E => E.orowSome 3 rfl (Nat.lt_of_le_of_lt (Nat.zero_le _) ae)) ?_
     rintro ⟨Y, rfl, -⟩
     obtain ⟨a5, hr30, au⟩ := Z.at_ ag D af
     obtain rfl := hr30
     refine ops_val (op := (.indexAddr 23 (.tmp 32) (.tmp 34))) (d := some 35) (v := vP Y (ag * 1)) ⟨by kernel_rfl⟩ (run_indexRow Tryz.underlying23 (z := 1) (by kernel_rfl) rfl rfl ap ae rfl) ?_
     refine ops_load (d := some 36) (an := [.v (vI D)]) (evs := [.load ⟨Y, ag * 1, none⟩ (vI D)]) (v := vI D) ⟨by kernel_rfl⟩ (fun J E => ⟨E.ocell 2 rfl (au 0 _ rfl), rfl⟩) ?_
     refine oq [oT 32] [(37, vP p 1), (36, vI D), (28, .bool true)] ?_
     refine oL 38 0 1 ?_
     refine oq (oTs 34 3) [(4, .bool (D == s))] ?_
     refine ops_nil ?_
     obtain ⟨aj, ak, aq⟩ := MapH.close (x := (some l9)) (Kx := [.obj V (.map ac ab)]) ar (⟨_, _, _, rfl, rfl, ax⟩)
     rw [mput_same ad] at ak
     refine fin_conv (l' := [(4, .bool (D == s))]) (M' := Mem w0 (.blk p [vI q, vI s] 29 :: .blk f [sl k u m, sl (sa Y) j b, .map (some a)] 96 :: ow (sa Y) j b 3 1 o :: .obj a (.map i g) :: aj :: Fz F W :: cs)) rfl (fun J h => (aq (h.pick 7 [5, 0, 1, 2, 3, 4, 6] (by kernel_rfl) (by decide) rfl)).pick 6 [1, 2, 3, 4, 0, 5] (by kernel_rfl) (by decide) rfl) ?_
     exact fj U ((D == s), i, g, aj) ⟨t, ak⟩ 6 [1, 2, 3, 4, 5]
   ·
    refine oq [oT 14, oT 15, oT 16, oT 17, oT 18, oT 19, oF 20, oT 21, oT 22, oT 23, oT 24, oT 25, oT 26, oT 27, oT 28, oT 29, oT 30, oT 31, oT 32, oT 33, oT 34, oT 35, oT 36] [(4, .bool false)] ?_
    refine ops_nil ?_
    exact fj U (false, i, g, r) ⟨t, C⟩ 6 [1, 2, 3, 4, 5]
  ·
   refine oq [oT 4, oT 5, oT 6, oT 7, oT 8, oT 9, oT 10, oT 11, oT 12, oT 13, oT 14, oT 15, oT 16, oT 17, oT 18, oT 19, oF 20, oT 21, oT 22, oT 23, oT 24, oT 25, oT 26, oT 27, oT 28, oT 29, oT 30, oT 31, oT 32, oT 33, oT 34, oT 35, oT 36] [(4, .bool false)] ?_
   refine ops_nil ?_
   exact fj U (false, i, g, r) ⟨t, C⟩ 6 [1, 2, 3, 4, 5]
theorem tourref3_Flat_Kill_v2_ok {f : Nat} {i : Option Addr} {j : Nat} {o : List api_Kind} {c : Option Addr} {b : Nat} {g : List Int} {V : List Value} {a : Nat} {J : Array MapEntry} {I : Nat} {ao : List (Int × (Option (List (Int × (List Int)))))} {N : Chunk} {k : Int} {q : Int} (a5 : Mem w0 (.blk f [sl i o j, sl c g b, .map (some a)] 96 :: ow c g b 3 1 V :: .obj a (.map J I) :: N :: Fz F W :: cs) w) (ai : RdS R_api_Kind F W i j o) (aj : RepL (Rep.int .i64) F W g V) (ak : MapW (fun M : Int => Value.int .i64 M) (Own.mr (fun M : Int => Value.int .i64 M) (Rep.sl (Rep.int .i64)) false) false F W ao J I N) {O : Int} {D : List Int} {U : List (Int × (Option (List (Int × (List Int)))))} (r : tourref3_Flat_Kill_v2 o g ao k q = some (O, D, U)) : Calls Tryz.prog 24 #[vP f 0, .agg #[vI k, vI q]] w (Post w0 (fun ((E, u, t, C) : (List Value) × (Array MapEntry) × Nat × Chunk) => (RdS R_api_Kind F W i j o) ∧ (RepL (Rep.int .i64) F W D E) ∧ (MapW (fun M : Int => Value.int .i64 M) (Own.mr (fun M : Int => Value.int .i64 M) (Rep.sl (Rep.int .i64)) false) false F W U u t C)) (fun (E, u, t, C) => vI O) (fun (E, u, t, C) => .blk f [sl i o j, sl c D b, .map (some a)] 96 :: ow c D b 3 1 E :: .obj a (.map u t) :: C :: Fz F W :: cs)) := by
 unfold tourref3_Flat_Kill_v2 at r
 refine sx_calls Tryz.func24 rfl (n := 25) (by kernel_rfl) (l := [(0, vP f 0), (1, .agg #[vI k, vI q])]) rfl (by rfl) a5 ?_
 refine st_seq (st_region [oF 0, oF 1] (by rfl) ?_)
 refine oN 3 [vI k, vI q] 29 (fun p => ?_)
 refine oq [oF 1] [(3, vP p 0), (0, vP f 0)] ?_
 refine ops_nil (fin_then (st_seq (st_seq ?_)))
 refine st_region (oFs 0 4) (by rfl) ?_
 refine oq [oF 0] [(5, vP f 0), (3, vP p 0), (0, vP f 0)] ?_
 refine oMA 6 0 0 2 ?_
 obtain ⟨x2, a6, r⟩ := obind r
 refine oV (some 7) 6 [1, 2, 3, 4, 5, 0] 6 [5, 0, 1, 2, 3, 4] (fun _ m => tourref3_Flat_Has_v2_ok m ai aj ak a6) ?_
 rintro ⟨K, am, al, K7⟩ ⟨h8, X, ap⟩
 refine oq [oF 3] [(8, .bool (!x2)), (3, vP p 0), (0, vP f 0)] ?_
 refine ops_nil (fin_then ?_)
 refine sif r (fun au r => ?_) (fun au r => ?_)
 ·
  refine st_seq (st_region [oF 0] (by rfl) ?_)
  refine oq [oF 0] [(4, vI 4)] ?_
  refine ops_nil (fin_then (st_ret (fin_ret_then ?_)))
  obtain ⟨rfl, rfl, rfl⟩ := si3 r
  exact fr [4] (K, am, al, K7) ⟨h8, X, ap⟩ 6 [1, 2, 3, 4, 5]
 ·
  refine st_skip (fin_then (st_seq ?_))
  refine st_region_draw [oT 0, oT 1, oT 2, oT 3, oT 4, oT 5, oF 6] (Mem w0 (.blk p [vI k, vI q] 29 :: .blk f [sl i o j, sl c g b, .map (some a)] 96 :: ow c g b 3 1 K :: K7 :: Fz F W :: cs)) (by kernel_rfl) (by kernel_rfl) (by kernel_rfl) (fun _ d _ _ _ h => by cases d <;> exact h) (M' := Mem w0 (.blk p [vI k, vI q] 29 :: .blk f [sl i o j, sl c g b, .map (some a)] 96 :: ow c g b 3 1 K :: .obj a (.map am al) :: K7 :: Fz F W :: cs)) (fun G m => ⟨m.drew, m.drew.sub (.cons_cons _ (.cons_cons _ (.cons_cons _ (.cons _ (.cons_cons _ (.cons_cons _ (.refl _)))))))⟩) ?_
  refine oq (oTs 0 3) [(11, vP f 2), (3, vP p 0), (0, vP f 0)] ?_
  refine oL 12 1 2 ?_
  refine oq [oT 4] [(13, vP p 0), (12, .map (some a)), (3, vP p 0), (0, vP f 0)] ?_
  refine oL 14 0 0 ?_
  refine oq [] [(14, vI k), (12, .map (some a)), (3, vP p 0), (0, vP f 0)] ?_
  obtain ⟨be, az, r⟩ := obind r
  obtain ⟨B, A, H, aq, aw, hrun19⟩ := MapW.delete ap (KeyLaw.int Tryz.underlying3) Tryz.underlying94 k
  rw [Option.some.inj az] at aq
  refine ops_law (op := (.call { callee := (Go.Callee.builtin Go.Builtin.delete), args := #[(.tmp 12), (.tmp 14)], argTypes := #[94, 3] })) (d := none) (σ := Unit) (v := fun _ => .tuple #[]) (M' := fun _ => Mem w0 (.blk p [vI k, vI q] 29 :: .blk f [sl i o j, sl c g b, .map (some a)] 96 :: ow c g b 3 1 K :: .obj a (.map B A) :: K7 :: Fz F W :: cs)) ⟨by kernel_rfl⟩ (fun o_ G ho_ m hS => have h' := m.setObj 3 rfl _; ⟨(), _, run_deleteV rfl rfl (fun ty_ => hrun19 a _ ty_ G (m.mapAt 3 rfl)) o_ ho_, h', (by exact h'.sub (.cons_cons _ (.cons_cons _ (.cons_cons _ (.cons _ (.cons_cons _ (.cons_cons _ (.refl _))))))))⟩) (fun _ => ?_)
  refine ops_conv (l' := [(14, vI k), (12, .map (some a)), (3, vP p 0), (0, vP f 0)]) (M' := Mem w0 (.blk p [vI k, vI q] 29 :: .blk f [sl i o j, sl c g b, .map (some a)] 96 :: ow c g b 3 1 K :: .obj a (.map B A) :: H :: Fz F W :: cs)) rfl (fun G h => (aw (h.pick 6 [4, 0, 1, 2, 3, 5] (by kernel_rfl) (by decide) rfl)).pick 6 [1, 2, 3, 4, 0, 5] (by kernel_rfl) (by decide) rfl) ?_
  refine ops_nil (fin_then (st_seq ?_))
  refine st_region_draw [oT 0, oT 1, oT 2, oT 3, oT 4, oT 5, oT 6, oF 7, oT 8, oT 9, oF 10] (Mem w0 (.blk p [vI k, vI q] 29 :: .blk f [sl i o j, sl c g b, .map (some a)] 96 :: .obj a (.map B A) :: H :: Fz F W :: cs)) (by kernel_rfl) (by kernel_rfl) (by kernel_rfl) (fun _ d _ _ _ h => by cases d <;> exact h) (M' := Mem w0 (.blk p [vI k, vI q] 29 :: .blk f [sl i o j, sl c g b, .map (some a)] 96 :: ow c g b 3 1 K :: .obj a (.map B A) :: H :: Fz F W :: cs)) (fun G m => ⟨m.drew, m.drew.sub (.cons_cons _ (.cons_cons _ (.cons _ (.cons_cons _ (.cons_cons _ (.cons_cons _ (.refl _)))))))⟩) ?_
  refine oq (oTs 0 3) [(17, vP f 1), (3, vP p 0)] ?_
  refine oL 18 1 1 ?_
  refine oq [oT 4] [(19, vP p 0), (18, sl c g b)] ?_
  refine oL 20 0 0 ?_
  obtain ⟨s, a0, r⟩ := obind r
  obtain ⟨af, ax, ac⟩ := idx_some a0
  have Z := (List.getElem?_eq_some_iff.1 ac).1
  refine ops_fact (fun G m => m.orowSome 2 rfl (Nat.lt_of_le_of_lt (Nat.zero_le _) Z)) ?_
  rintro ⟨x, rfl, -⟩
  obtain ⟨bb, hr26, ay⟩ := X.at_ af s ac
  obtain rfl := hr26
  refine ops_val (op := (.indexAddr 23 (.tmp 18) (.tmp 20))) (d := some 21) (v := vP x (af * 1)) ⟨by kernel_rfl⟩ (run_indexRow Tryz.underlying23 (z := 1) (by kernel_rfl) rfl rfl ax Z rfl) ?_
  refine ops_mem (d := some 22) (an := [.v (vI s)]) (evs := [.load ⟨x, af * 1, none⟩ (vI s)]) (v := vI s) ⟨by kernel_rfl⟩ (fun G m hS => ⟨G, ⟨m.ocell 2 rfl (ay 0 _ rfl), rfl⟩, m, hS⟩) ?_
  refine oq [oT 8] [(23, vI (IntKind.i64.wrap (s + 1))), (20, vI k), (18, sl (sa x) g b)] ?_
  obtain ⟨a8, a1, r⟩ := obind r
  obtain ⟨y, ab, ad⟩ := idx_some a1
  have av := (List.getElem?_eq_some_iff.1 ad).1
  obtain ⟨bc, hr36, ba⟩ := X.at_ y a8 ad
  obtain rfl := hr36
  refine ops_val (op := (.indexAddr 23 (.tmp 18) (.tmp 20))) (d := some 24) (v := vP x (y * 1)) ⟨by kernel_rfl⟩ (run_indexRow Tryz.underlying23 (z := 1) (by kernel_rfl) rfl rfl ab av rfl) ?_
  refine oq [] [(24, vP x (y * 1)), (23, vI (IntKind.i64.wrap (s + 1)))] ?_
  obtain ⟨T, a2, r⟩ := obind r
  obtain ⟨a7, a9, aa, Y⟩ := upd_some a2
  obtain rfl : y = a7 := by have := ab; omega
  have L : g.length = T.length := by rw [Y, List.length_set]
  obtain ⟨ag, ae⟩ : ∃ y_, setAll K (y * 1 + 0) [vI (IntKind.i64.wrap (s + 1))] = y_ := ⟨_, rfl⟩
  have a3 : RepL (Rep.int .i64) F W T ag := by rw [Y, ← ae]; exact RepL.set X (List.getElem?_eq_getElem aa) (fun vs_ hr_ _ => by obtain rfl := hr_; exact ⟨rfl, Nat.le_of_ble_eq_true rfl⟩)
  refine ops_store (an := []) (evs := [.store ⟨x, y * 1, none⟩ (vI (IntKind.i64.wrap (s + 1)))]) ⟨by kernel_rfl⟩ (fun G m hS => let ⟨w', he, h'⟩ := m.ostore' 2 rfl (y * 1 + 0) [vI (IntKind.i64.wrap (s + 1))] (by have z_ : K.length = g.length * 1 := X.len; have y_ : (y + 1) * 1 ≤ g.length * 1 := Nat.mul_le_mul_right _ aa; rw [Nat.add_mul] at y_; simp only [List.length_cons, List.length_nil]; omega) L ae; ⟨w', he, h', (by exact h'.sub (.cons_cons _ (.cons_cons _ (.cons _ (.cons_cons _ (.cons_cons _ (.cons_cons _ (.refl _))))))))⟩) ?_
  refine ops_conv (l' := [(24, vP x (y * 1)), (23, vI (IntKind.i64.wrap (s + 1)))]) (M' := Mem w0 (.blk p [vI k, vI q] 29 :: .blk f [sl i o j, sl (sa x) T b, .map (some a)] 96 :: ow (sa x) T b 3 1 ag :: .obj a (.map B A) :: H :: Fz F W :: cs)) (by first | rfl | ((try dsimp only [sl, ow]); rw [L])) (fun G m => by first | exact m | ((try dsimp only [sl, ow] at m ⊢); rw [L] at m; exact m)) ?_
  refine ops_nil (fin_then (st_seq (st_region [oF 0] (by rfl) ?_)))
  refine oq [oF 0] [(4, vI 0)] ?_
  refine ops_nil (fin_then (st_ret ?_))
  obtain ⟨rfl, rfl, rfl⟩ := si3 r
  exact fr [4] (ag, B, A, H) ⟨h8, a3, aq⟩ 6 [1, 2, 3, 4, 5]
theorem tourlaw3_WorldChanges_2_v2_ok {p : Nat} {d : Option Addr} {j : Nat} {s : List api_Kind} {f : Option Addr} {k : Nat} {A : List Int} {B : List Value} {i : Nat} {r : Array MapEntry} {q : Nat} {H : List (Int × (Option (List (Int × (List Int)))))} {x : Chunk} {c : Nat} {t : Int} {u : Int} (M : Mem w0 (.blk p [sl d s j, sl f A k, .map (some i)] 96 :: ow f A k 3 1 B :: .obj i (.map r q) :: x :: .blk c [vI t, vI u] 29 :: Fz F W :: cs) w) (C : RdS R_api_Kind F W d j s) (D : RepL (Rep.int .i64) F W A B) (E : MapW (fun v : Int => Value.int .i64 v) (Own.mr (fun v : Int => Value.int .i64 v) (Rep.sl (Rep.int .i64)) false) false F W H r q x) {y : Int} {m : List Int} {z : List (Int × (Option (List (Int × (List Int)))))} (G : tourlaw3_WorldChanges_2_v2 s A H t u = some (y, m, z)) : Calls Tryz.prog 23 #[vP p 0, vP c 0] w (Post w0 (fun ((o, b, a, g) : (List Value) × (Array MapEntry) × Nat × Chunk) => (RdS R_api_Kind F W d j s) ∧ (RepL (Rep.int .i64) F W m o) ∧ (MapW (fun v : Int => Value.int .i64 v) (Own.mr (fun v : Int => Value.int .i64 v) (Rep.sl (Rep.int .i64)) false) false F W z b a g)) (fun (o, b, a, g) => vI y) (fun (o, b, a, g) => .blk p [sl d s j, sl f m k, .map (some i)] 96 :: ow f m k 3 1 o :: .obj i (.map b a) :: g :: .blk c [vI t, vI u] 29 :: Fz F W :: cs)) := by
 unfold tourlaw3_WorldChanges_2_v2 at G
 refine sx_calls Tryz.func23 rfl (n := 7) (by kernel_rfl) (l := [(0, vP p 0), (1, vP c 0)]) rfl (by rfl) M ?_
 refine st_seq (st_region [oF 0] (by rfl) ?_)
 refine oq [oF 0] [(0, vP p 0), (1, vP c 0)] ?_
 refine ops_nil (fin_then (st_seq ?_))
 refine st_region (oFs 0 4) (by rfl) ?_
 refine oq [oF 0] [(4, vP p 0), (1, vP c 0)] ?_
 refine oMA 5 4 0 2 ?_
 obtain ⟨V, Y, Z, N, G⟩ := obind3 G
 refine oV (some 6) 6 [0, 1, 2, 3, 5, 4] 6 [0, 1, 2, 3, 5, 4] (fun _ U => tourref3_Flat_Kill_v2_ok U C D E N) ?_
 rintro ⟨X, J, I, O⟩ ⟨T, K, L⟩
 refine oq [oF 3] [(3, vI V)] ?_
 refine ops_nil (fin_then (st_ret ?_))
 obtain ⟨rfl, rfl, rfl⟩ := si3 G
 exact fr [3] (X, J, I, O) ⟨T, K, L⟩ 0 []
theorem tourlaw3_same_v2_ok {a : Option Addr} {i : Nat} {x : List api_Kind} {c : Option Addr} {j : Nat} {y : List Int} {g : Option Addr} {k : Nat} {z : List api_Item} {C : Nat} {q : Option Addr} {r : Nat} {O : List api_Kind} {m : Option Addr} {p : Nat} {s : List Int} {ae : List Value} {o : Nat} {N : Array MapEntry} {M : Nat} {aq : List (Int × (Option (List (Int × (List Int)))))} {X : Chunk} {ap : Int} (a8 : Mem w0 (.blk C [sl q O r, sl m s p, .map (some o)] 96 :: ow m s p 3 1 ae :: .obj o (.map N M) :: X :: Fz F W :: cs) w) (ah : RdS R_api_Kind F W a i x) (ai : RdS (Rep.int .i64) F W c j y) (aj : RdS R_api_Item F W g k z) (aw : RdS R_api_Kind F W q r O) (ax : RepL (Rep.int .i64) F W s ae) (ay : MapW (fun T : Int => Value.int .i64 T) (Own.mr (fun T : Int => Value.int .i64 T) (Rep.sl (Rep.int .i64)) false) false F W aq N M X) {az : Bool} (hp : tourlaw3_same_v2 x y z O s aq ap = some az) : Calls Tryz.prog 14 #[.agg #[sl a x i, sl c y j, sl g z k], vP C 0, vI ap] w (Post w0 (fun ((ak, Z, Y, ag, D, E) : (List Value) × (Array MapEntry) × Nat × Chunk × (Nat → Prop) × World) => (RdS R_api_Kind D E q r O) ∧ (RepL (Rep.int .i64) D E s ak) ∧ (MapW (fun T : Int => Value.int .i64 T) (Own.mr (fun T : Int => Value.int .i64 T) (Rep.sl (Rep.int .i64)) false) false D E aq Z Y ag) ∧ (Ext w0 F W D E)) (fun (ak, Z, Y, ag, D, E) => .bool az) (fun (ak, Z, Y, ag, D, E) => .blk C [sl q O r, sl m s p, .map (some o)] 96 :: ow m s p 3 1 ak :: .obj o (.map Z Y) :: ag :: Fz D E :: cs)) := by
 unfold tourlaw3_same_v2 at hp
 refine sx_calls Tryz.func14 rfl (n := 16) (by kernel_rfl) (l := [(0, .agg #[sl a x i, sl c y j, sl g z k]), (1, vP C 0), (2, vI ap)]) rfl (by rfl) a8 ?_
 refine st_seq (st_region [oF 0, oF 1] (by rfl) ?_)
 refine oN 3 [sl a x i, sl c y j, sl g z k] 26 (fun b1 => ?_)
 refine oq [oF 1] [(3, vP b1 0), (1, vP C 0), (2, vI ap)] ?_
 refine ops_nil (fin_then (st_seq (st_seq (st_region [oF 0, oF 1] (by rfl) ?_))))
 refine oq [oF 0, oF 1] [(8, .bool (!(ap == 0))), (3, vP b1 0), (1, vP C 0)] ?_
 refine ops_nil (fin_then ?_)
 refine sif hp (fun ba hp => ?_) (fun ba hp => ?_)
 ·
  refine st_seq ?_
  refine st_region (oFs 0 4) (by rfl) ?_
  refine oMA 9 0 0 3 ?_
  refine oq [oF 1] [(10, .agg #[.slice none 0 0, .slice none 0 0, .slice none 0 0]), (9, .agg #[sl a x i, sl c y j, sl g z k])] ?_
  obtain ⟨x3, bb, hp⟩ := obind hp
  refine oV (some 11) 6 [5, 0, 1, 2, 3, 4] 6 [1, 2, 3, 4, 5, 0] (fun _ hM => tourref3_SameWorld_ok hM ah ai aj (RdS.empty none) (RdS.empty none) (RdS.empty none) bb) ?_
  rintro _ -
  refine oq [oF 3] [(6, .bool x3)] ?_
  refine ops_nil (fin_then (st_ret (fin_ret_then ?_)))
  obtain rfl := Option.some.inj hp
  exact fr [6] (ae, N, M, X, F, W) ⟨aw, ax, ay, (Ext.refl _ _ _)⟩ 6 [1, 2, 3, 4, 5]
 ·
  refine st_skip (fin_then (st_seq ?_))
  refine st_region_draw [oT 0, oT 1, oF 2, oF 3, oT 4] (Mem w0 (.blk b1 [sl a x i, sl c y j, sl g z k] 26 :: Fz F W :: cs)) (by kernel_rfl) (by kernel_rfl) (by kernel_rfl) (fun _ d _ _ _ h => by cases d <;> exact h) (M' := Mem w0 (.blk b1 [sl a x i, sl c y j, sl g z k] 26 :: .blk C [sl q O r, sl m s p, .map (some o)] 96 :: ow m s p 3 1 ae :: .obj o (.map N M) :: X :: Fz F W :: cs)) (fun w_ hM => ⟨hM.drew, hM.drew.sub (.cons_cons _ (.cons _ (.cons _ (.cons _ (.cons _ (.cons_cons _ (.refl _)))))))⟩) ?_
  refine oLA 12 0 0 3 ?_
  refine oq [oT 1] [(13, vP C 0), (12, .agg #[sl a x i, sl c y j, sl g z k])] ?_
  obtain ⟨x5, x6, x7, bc, hp⟩ := obind3 hp
  refine ops_callI (σ := (Option Addr) × Nat × (List Value) × (Option Addr) × Nat × (List Value) × (Option Addr) × Nat × (List Value) × (List Value) × (Array MapEntry) × Nat × Chunk × (Nat → Prop) × World) (d := some 14) (f := 52) (args := #[vP C 0]) (v := (fun T => match T with | (A9, J, ab, G, K, ac, H, L, ad, V, B, A, U, t, u) => .agg #[sl A9 x5 J, sl G x6 K, sl H x7 L])) (I := (fun T => match T with | (A9, J, ab, G, K, ac, H, L, ad, V, B, A, U, t, u) => (RepL R_api_Kind t u x5 ab) ∧ (RepL (Rep.int .i64) t u x6 ac) ∧ (RepL R_api_Item t u x7 ad) ∧ (RdS R_api_Kind t u q r O) ∧ (RepL (Rep.int .i64) t u s V) ∧ (MapW (fun T : Int => Value.int .i64 T) (Own.mr (fun T : Int => Value.int .i64 T) (Rep.sl (Rep.int .i64)) false) false t u aq B A U) ∧ (Ext w0 F W t u))) (M' := (fun T => match T with | (A9, J, ab, G, K, ac, H, L, ad, V, B, A, U, t, u) => Mem w0 (ow A9 x5 J 86 2 ab :: ow G x6 K 3 1 ac :: ow H x7 L 61 3 ad :: .blk b1 [sl a x i, sl c y j, sl g z k] 26 :: .blk C [sl q O r, sl m s p, .map (some o)] 96 :: ow m s p 3 1 V :: .obj o (.map B A) :: U :: Fz t u :: cs))) ⟨by kernel_rfl⟩ (fun w_ hM hS => (@tourref3_Flat_Close_ok w0 w_ (.blk b1 [sl a x i, sl c y j, sl g z k] 26 :: cs) F W C q r O m p s ae o N M aq X (hM.pick 6 [1, 2, 3, 4, 5, 0] (by kernel_rfl) (by decide) rfl) aw ax ay x5 x6 x7 bc).mono (by rintro e w' ⟨⟨A9, J, ab, G, K, ac, H, L, ad, V, B, A, U, t, u⟩, ⟨a0, a1, a2, a3, a4, a5, am⟩, rfl, h'⟩; have h' : Mem w0 (ow A9 x5 J 86 2 ab :: ow G x6 K 3 1 ac :: ow H x7 L 61 3 ad :: .blk b1 [sl a x i, sl c y j, sl g z k] 26 :: .blk C [sl q O r, sl m s p, .map (some o)] 96 :: ow m s p 3 1 V :: .obj o (.map B A) :: U :: Fz t u :: cs) w' := (h'.pick 9 [0, 1, 2, 8, 3, 4, 5, 6, 7] (by kernel_rfl) (by decide) rfl); exact ⟨(A9, J, ab, G, K, ac, H, L, ad, V, B, A, U, t, u), ⟨a0, a1, a2, a3, a4, a5, am⟩, rfl, h', (by first | exact (Mem.fzback h' 8 rfl am).sub (.cons _ (.cons _ (.cons _ (.cons_cons _ (.cons _ (.cons _ (.cons _ (.cons _ (.cons_cons _ (.refl _)))))))))))⟩)) ?_
  rintro ⟨A9, J, ab, G, K, ac, H, L, ad, V, B, A, U, t, u⟩ ⟨a0, a1, a2, a3, a4, a5, am⟩
  have ah := ah.ext am
  have ai := ai.ext am
  have aj := aj.ext am
  obtain ⟨a6, a7, hp⟩ := obind hp
  refine ops_callI (σ := Unit) (d := some 15) (f := 51) (args := #[.agg #[sl a x i, sl c y j, sl g z k], .agg #[sl A9 x5 J, sl G x6 K, sl H x7 L]]) (v := (fun _ => .bool a6)) (I := (fun _ => True)) (M' := (fun _ => Mem w0 (ow A9 x5 J 86 2 ab :: ow G x6 K 3 1 ac :: ow H x7 L 61 3 ad :: .blk b1 [sl a x i, sl c y j, sl g z k] 26 :: .blk C [sl q O r, sl m s p, .map (some o)] 96 :: ow m s p 3 1 V :: .obj o (.map B A) :: U :: Fz t u :: cs))) ⟨by kernel_rfl⟩ (fun w_ hM hS => (@tourref3_SameWorld_ok w_ w_ [] (fun b => b < w_.heap.size) w_ a i x c j y g k z A9 J x5 G K x6 H L x7 (Mem.fz0 w_) (hM.now 8 rfl ah) (hM.now 8 rfl ai) (hM.now 8 rfl aj) (hM.ordS 0 8 rfl rfl a0 rfl rfl) (hM.ordS 1 8 rfl rfl a1 rfl rfl) (hM.ordS 2 8 rfl rfl a2 rfl rfl) a6 a7).mono (by rintro e w' ⟨_, -, rfl, h'⟩; have h' : Mem w_ [] w' := h'.pick 1 [] (by kernel_rfl) (by decide) rfl; exact ⟨(), trivial, rfl, hM.join h' rfl, (hS.step h'.below)⟩)) ?_
  rintro _ -
  refine oq [oT 4] [(6, .bool a6)] ?_
  refine ops_nil (fin_then (st_ret ?_))
  obtain rfl := Option.some.inj hp
  exact fr [6] (V, B, A, U, t, u) ⟨a3, a4, a5, am⟩ 9 [4, 5, 6, 7, 8]
theorem world_Fit_1_ok {i : Int} {d : Option Addr} {f : Nat} {k : List Int} {a : Nat} {j : Int} {b : Option Addr} {c : Nat} {g : List Int} (r : Mem w0 (.blk a [vI j, sl b g c] 42 :: Fz F W :: cs) w) (t : RdS (Rep.int .i64) F W d f k) (p : RdS (Rep.int .i64) F W b c g) {o : Bool} (s : world_Fit_1 i k j g = some o) : Calls Tryz.prog 42 #[.agg #[vI i, sl d k f], vP a 0] w (Post w0 (fun (_ : Unit) => (RdS (Rep.int .i64) F W b c g)) (fun _ => .bool o) (fun _ => .blk a [vI j, sl b g c] 42 :: Fz F W :: cs)) := by
 unfold world_Fit_1 at s
 refine sx_calls Tryz.func42 rfl (n := 9) (by kernel_rfl) (l := [(0, .agg #[vI i, sl d k f]), (1, vP a 0)]) rfl (by rfl) r ?_
 refine st_seq (st_region [oF 0, oF 1] (by rfl) ?_)
 refine oN 2 [vI i, sl d k f] 42 (fun q => ?_)
 refine oq [oF 1] [(2, vP q 0), (1, vP a 0)] ?_
 refine ops_nil (fin_then (st_seq ?_))
 refine st_region (oFs 0 6) (by rfl) ?_
 refine oq [oF 0] [(4, vP q 0), (1, vP a 0)] ?_
 refine oM 5 0 0 ?_
 refine oq [oF 2] [(6, vP a 0), (5, vI i)] ?_
 refine oM 7 1 0 ?_
 refine oq [oF 4, oF 5] [(3, .bool (i == j))] ?_
 refine ops_nil (fin_then (st_ret ?_))
 obtain rfl := Option.some.inj s
 exact fr [3] () p 3 [1, 2]
theorem slices_IndexFunc_api_Comp_api_Comp_ok {k : Option Addr} {m : Nat} {s : List api_Comp} {a : Nat} {j : Int} {b : Option Addr} {c : Nat} {f : List Int} (Z : Mem w0 (.blk a [vI j, sl b f c] 42 :: Fz F W :: cs) w) (aa : RdS R_api_Comp F W k m s) (t : RdS (Rep.int .i64) F W b c f) {p : Int} (i : slices_IndexFunc_api_Comp_api_Comp s j f = some p) : Calls Tryz.prog 68 #[sl k s m, .func (.func 42) #[] #[vP a 0]] w (Post w0 (fun (_ : Unit) => (RdS (Rep.int .i64) F W b c f)) (fun _ => vI p) (fun _ => .blk a [vI j, sl b f c] 42 :: Fz F W :: cs)) := by
 unfold slices_IndexFunc_api_Comp_api_Comp at i
 refine sx_calls Tryz.func68 rfl (n := 19) (by kernel_rfl) (l := [(0, sl k s m), (1, .func (.func 42) #[] #[vP a 0])]) rfl (by rfl) Z ?_
 refine st_seq (st_region [oF 0] (by rfl) ?_)
 refine oq [oF 0] [(0, sl k s m), (1, .func (.func 42) #[] #[vP a 0])] ?_
 refine ops_nil (fin_then ?_)
 refine st_join1 (σ := Unit) (L := fun _ => []) (N := fun _ => Mem w0 (.blk a [vI j, sl b f c] 42 :: Fz F W :: cs)) (I := fun _ => (slices_IndexFunc_api_Comp_api_Comp_j1 = some p) ∧ (RdS (Rep.int .i64) F W b c f)) ?_ ?_
 ·
  rintro _ ⟨i, h1⟩
  unfold slices_IndexFunc_api_Comp_api_Comp_j1 at i
  refine st_seq (st_region [oF 0] (by rfl) ?_)
  refine oq [oF 0] [(4, vI (-1))] ?_
  refine ops_nil (fin_then (st_ret ?_))
  obtain rfl := Option.some.inj i
  exact fr [4] () h1 0 []
 ·
  intro V
  refine st_seq (st_seq ?_)
  refine st_region (oFs 0 3) (by rfl) ?_
  refine oq (oFs 0 3) [(8, vI 0), (7, vI (s.length : Int)), (0, sl k s m), (1, .func (.func 42) #[] #[vP a 0])] ?_
  refine ops_nil (fin_then (st_block ?_))
  obtain ⟨r2, ac, H⟩ := obind i
  refine lp (σ := Int) (ρ := (Int ⊕ Unit)) (γ := Unit) ac () (fun D A => match D, A with | o, _ => [(0, sl k s m), (1, .func (.func 42) #[] #[vP a 0]), (7, vI (s.length : Int)), (8, vI o)]) (fun D A => match D, A with | o, _ => Mem w0 (.blk a [vI j, sl b f c] 42 :: Fz F W :: cs)) (fun D A => match D, A with | o, _ => (RdS (Rep.int .i64) F W b c f)) t 0 [] ?_
  rintro o _ o2 Y hs_ G
  have i : (slices_IndexFunc_api_Comp_api_Comp_l2 s j f) o = some o2 := hs_
  clear hs_
  unfold slices_IndexFunc_api_Comp_api_Comp_l2 at i
  refine st_seq (st_region [oF 0] (by rfl) ?_)
  refine oq [oF 0] [(9, .bool (decide (o < (s.length : Int)))), (0, sl k s m), (1, .func (.func 42) #[] #[vP a 0]), (7, vI (s.length : Int)), (8, vI o)] ?_
  refine ops_nil (fin_then (st_seq ?_))
  refine sif i (fun ab i => ?_) (fun ab i => ?_)
  ·
   refine st_skip (fin_then (st_seq (st_block (st_seq (st_region [oF 0, oF 1] (by rfl) ?_)))))
   refine oq [oF 0, oF 1] [(5, vI o), (0, sl k s m), (1, .func (.func 42) #[] #[vP a 0]), (7, vI (s.length : Int)), (8, vI o)] ?_
   refine ops_nil (fin_then (st_seq ?_))
   refine st_region (oFs 0 6) (by rfl) ?_
   refine oq (oFs 0 3) [(13, vI o), (12, sl k s m), (11, .func (.func 42) #[] #[vP a 0]), (5, vI o), (0, sl k s m), (1, .func (.func 42) #[] #[vP a 0]), (7, vI (s.length : Int)), (8, vI o)] ?_
   obtain ⟨u, ae, i⟩ := obind i
   obtain ⟨U, ad, J⟩ := idx_some ae
   have O := (List.getElem?_eq_some_iff.1 J).1
   obtain ⟨r, ah, K, hr11, C⟩ := RdS.el aa J
   obtain ⟨x, y, rfl, X⟩ := dec_api_Comp hr11
   refine ops_val (op := (.indexAddr 27 (.tmp 12) (.tmp 13))) (d := some 14) (v := .pointer (some (r.add (U * 2)))) ⟨by kernel_rfl⟩ (run_indexA K Tryz.underlying27 (z := 2) (by kernel_rfl) rfl rfl ad O) ?_
   refine ops_mem (d := some 15) (an := [.v (vI u.Kind), .v (sl x u.Vals y)]) (evs := [.load (r.add (U * 2)) (vI u.Kind), .load ((r.add (U * 2)).add 1) (sl x u.Vals y)]) (v := .agg #[vI u.Kind, sl x u.Vals y]) ⟨by kernel_rfl⟩ (fun w_ B hS => ⟨w_, ⟨B.elcell 1 rfl C 0 rfl, B.elcell 1 rfl C 1 rfl, rfl⟩, B, trivial⟩) ?_
   obtain ⟨aj, T, i⟩ := obind i
   refine oV (some 16) 0 [] 0 [] (fun _ B => world_Fit_1_ok B X Y T) ?_
   rintro _ E
   refine ops_nil (fin_then ?_)
   refine sif i (fun M i => ?_) (fun M i => ?_)
   ·
    refine st_seq (st_region [oF 0, oF 1] (by rfl) ?_)
    refine oq [oF 0, oF 1] [(4, vI o)] ?_
    refine ops_nil (fin_then (st_ret (fin_ret_block (fin_ret_then (fin_ret_then (fin_ret_block (fin_ret_then ?_)))))))
    obtain rfl := Option.some.inj i
    obtain rfl := G _ rfl
    have i : some o = some p := H
    obtain rfl := Option.some.inj i
    exact fr [4] () E 0 []
   ·
    refine st_skip (fin_block (fin_then (st_region [oF 0, oF 1] (by rfl) ?_)))
    refine oq [oF 0, oF 1] [(8, vI (IntKind.i64.wrap (o + 1))), (0, sl k s m), (1, .func (.func 42) #[] #[vP a 0]), (7, vI (s.length : Int))] ?_
    refine ops_nil ?_
    exact fag (IntKind.i64.wrap (o + 1)) () (Option.some.inj i).symm E 0 []
  ·
   refine st_exit (fin_exit_then (fin_exit_then (fin_exit ?_)))
   obtain rfl := Option.some.inj i
   obtain rfl := G _ rfl
   have i : slices_IndexFunc_api_Comp_api_Comp_j1 = some p := H
   exact fj V () ⟨i, Y⟩ 0 []
theorem slices_ContainsFunc_api_Comp_api_Comp_ok {g : Option Addr} {i : Nat} {s : List api_Comp} {a : Nat} {f : Int} {b : Option Addr} {c : Nat} {d : List Int} (q : Mem w0 (.blk a [vI f, sl b d c] 42 :: Fz F W :: cs) w) (r : RdS R_api_Comp F W g i s) (j : RdS (Rep.int .i64) F W b c d) {k : Bool} (o : slices_ContainsFunc_api_Comp_api_Comp s f d = some k) : Calls Tryz.prog 41 #[sl g s i, .func (.func 42) #[] #[vP a 0]] w (Post w0 (fun (_ : Unit) => (RdS (Rep.int .i64) F W b c d)) (fun _ => .bool k) (fun _ => .blk a [vI f, sl b d c] 42 :: Fz F W :: cs)) := by
 unfold slices_ContainsFunc_api_Comp_api_Comp at o
 refine sx_calls Tryz.func41 rfl (n := 9) (by kernel_rfl) (l := [(0, sl g s i), (1, .func (.func 42) #[] #[vP a 0])]) rfl (by rfl) q ?_
 refine st_seq (st_region [oF 0] (by rfl) ?_)
 refine oq [oF 0] [(0, sl g s i), (1, .func (.func 42) #[] #[vP a 0])] ?_
 refine ops_nil (fin_then (st_seq ?_))
 refine st_region (oFs 0 5) (by rfl) ?_
 refine oq [oF 0, oF 1] [(6, .func (.func 42) #[] #[vP a 0]), (5, sl g s i)] ?_
 obtain ⟨x, t, o⟩ := obind o
 refine oV (some 7) 0 [] 0 [] (fun _ v => slices_IndexFunc_api_Comp_api_Comp_ok v r j t) ?_
 rintro _ u
 refine oq [oF 3, oF 4] [(4, .bool (decide (0 ≤ x)))] ?_
 refine ops_nil (fin_then (st_ret ?_))
 obtain rfl := Option.some.inj o
 exact fr [4] () u 0 []
end Go.Proofs.YtbfndcookgijfaaGreatDoor.C
