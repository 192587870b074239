/- The Go functions come to what the plain functions tell. No condition. -/
import Derived.Test.YtbfndcookgijfaaGreatDoorProg
import Derived.Test.YtbfndcookgijfaaGreatDoorFnW
import Derived.Test.YtbfndcookgijfaaGreatDoorWkW5
import Derived.Test.YtbfndcookgijfaaGreatDoorWkW8
import Derived.Test.YtbfndcookgijfaaGreatDoorWkW9
import Derived.Test.YtbfndcookgijfaaGreatDoorWkW10
import Derived.Test.YtbfndcookgijfaaGreatDoorWkW11
import Derived.Test.YtbfndcookgijfaaGreatDoorExMap
namespace Go.Proofs.YtbfndcookgijfaaGreatDoor.W
open Go Go.RowKit Go.Proofs.YtbfndcookgijfaaGreatDoor.Sx
set_option linter.unusedVariables false
set_option maxHeartbeats 4000000
set_option maxRecDepth 100000
def tourref3_Open__t0 : List Row := [⟨0, 70368744177664, 32⟩, ⟨0, 140737488355328, 32⟩, ⟨2, 281474976710656, 140737488355328⟩, ⟨4, 562949953421312, 281474976710656⟩, ⟨8, 1125899906842624, 562949953421312⟩, ⟨0, 2251799813685248, 128⟩, ⟨32, 4503599627370496, 2251799813685248⟩, ⟨0, 9007199254740992, 128⟩, ⟨128, 18014398509481984, 9007199254740992⟩, ⟨256, 36028797018963968, 18014398509481984⟩, ⟨576, 72057594037927936, 40532396646334464⟩, ⟨1024, 144115188075855872, 72057594037927936⟩, ⟨2576, 288230376151711744, 145241087982698496⟩, ⟨8191, 576460752303423488, 70368744177664⟩, ⟨16383, 1152921504606846976, 576460752303423488⟩, ⟨24575, 0, 1441151880758558720⟩]
def tourref3_Open__t1 : List Row := [⟨0, 151115727451828646838272, 2048⟩, ⟨1, 302231454903657293676544, 151115727451828646838272⟩, ⟨2, 604462909807314587353088, 302231454903657293676544⟩, ⟨4, 1208925819614629174706176, 604462909807314587353600⟩, ⟨12, 2417851639229258349412352, 1813388729421943762059264⟩, ⟨20, 4835703278458516698824704, 3022314549036572936765440⟩, ⟨36, 9671406556917033397649408, 5440166188265831286177792⟩, ⟨68, 19342813113834066795298816, 10275869466724347985002496⟩, ⟨132, 38685626227668133590597632, 19342813113834066795298816⟩, ⟨256, 77371252455336267181195264, 38685626227668133590598144⟩, ⟨768, 154742504910672534362390528, 116056878683004400771792896⟩, ⟨1280, 309485009821345068724781056, 193428131138340667952988160⟩, ⟨256, 618970019642690137449562112, 38685626227668133590597664⟩, ⟨4352, 1237940039285380274899124224, 657655645870358271040159744⟩, ⟨8448, 2475880078570760549798248448, 1276625665513048408489721856⟩, ⟨16640, 4951760157141521099596496896, 2514565704798428683388846080⟩, ⟨33024, 9903520314283042199192993792, 4990445783369189233187094528⟩, ⟨67840, 19807040628566084398385987584, 10251690950332055401508372480⟩, ⟨131328, 39614081257132168796771975168, 19845726254793752531976585216⟩]
theorem tourref3_Open_ok (w0 w : World) (cs : List Chunk) (F : Nat → Prop) (W : World) (A_w_0 : Option Addr) (c_w_0 : Nat) (w_0 : List api_Kind) (A_w_1 : Option Addr) (c_w_1 : Nat) (w_1 : List Int) (A_w_2 : Option Addr) (c_w_2 : Nat) (w_2 : List api_Item) (hM0 : Mem w0 (Fz F W :: cs) w) (h_w_0 : RdS R_api_Kind F W A_w_0 c_w_0 w_0) (h_w_1 : RdS (Rep.int .i64) F W A_w_1 c_w_1 w_1) (h_w_2 : RdS R_api_Item F W A_w_2 c_w_2 w_2) (r_ : (Int ⊕ (List api_Kind) × (List Int) × (List (Int × (Option (List (Int × (List Int)))))))) (hp : tourref3_Open w_0 w_1 w_2 = some r_) : Calls Tryz.prog 13 #[.agg #[sl A_w_0 w_0 c_w_0, sl A_w_1 w_1 c_w_1, sl A_w_2 w_2 c_w_2]] w fun e w' => Sum.elim (fun (i9001 : Int) => ∃ (F9002 : Nat → Prop), ∃ (W9003 : World), ((Ext w0 F W F9002 W9003)) ∧ e = .returned (.tuple #[.pointer none, vI i9001]) ∧ Mem w0 (Fz F9002 W9003 :: cs) w') (un3 fun (l9007 : List api_Kind) (l9011 : List Int) (l9017 : List (Int × (Option (List (Int × (List Int)))))) => ∃ (b9004 : Nat), ∃ (A9005 : Option Addr), ∃ (c9006 : Nat), ∃ (A9009 : Option Addr), ∃ (c9010 : Nat), ∃ (y9012 : List Value), ∃ (b9014 : Nat), ∃ (es9015 : Array MapEntry), ∃ (ck9016 : Nat), ∃ (F9019 : Nat → Prop), ∃ (W9020 : World), ((RdS R_api_Kind F9019 W9020 A9005 c9006 l9007) ∧ (RepL (Rep.int .i64) F9019 W9020 l9011 y9012) ∧ (MapOK (fun x_ : Int => Value.int .i64 x_) (Rep.map (fun x_ : Int => Value.int .i64 x_) (Rep.sl (Rep.int .i64)) false) false F9019 W9020 l9017 es9015 ck9016) ∧ (Ext w0 F W F9019 W9020)) ∧ e = .returned (.tuple #[vP b9004 0, vI 0]) ∧ Mem w0 (.blk b9004 [sl A9005 l9007 c9006, sl A9009 l9011 c9010, .map (some b9014)] 96 :: ow A9009 l9011 c9010 3 1 y9012 :: .obj b9014 (.map es9015 ck9016) :: Fz F9019 W9020 :: cs) w') r_ := by
 unfold tourref3_Open at hp
 refine sx_calls Tryz.func13 rfl (n := 141) (by kernel_rfl) (l := [(0, .agg #[sl A_w_0 w_0 c_w_0, sl A_w_1 w_1 c_w_1, sl A_w_2 w_2 c_w_2])]) rfl (by rfl) hM0 ?_
 refine st_seq (st_region [oF 0, oF 1, oF 2] (by rfl) ?_)
 refine ops_newB (d := some 1) [sl A_w_0 w_0 c_w_0, sl A_w_1 w_1 c_w_1, sl A_w_2 w_2 c_w_2] 26 (fun b1 => ⟨by kernel_rfl⟩) (fun w_ hM hS => trivial) (fun b1 => ?_)
 refine oQ [oF 1, oF 2] [(1, vP b1 0)] (by kernel_rfl) ?_
 refine ops_nil (fin_then (st_seq (st_seq (st_region [oF 0, oF 1, oF 2, oF 3] (by rfl) ?_))))
 refine oQ [oF 0] [(14, vP b1 0), (1, vP b1 0)] (by kernel_rfl) ?_
 refine ops_mem (d := some 15) (an := [.v (sl A_w_0 w_0 c_w_0)]) (evs := [ld b1 0 (sl A_w_0 w_0 c_w_0)]) (v := sl A_w_0 w_0 c_w_0) ⟨by kernel_rfl⟩ (fun w_ hM hS => ⟨w_, ⟨hM.cell 0 rfl rfl, rfl⟩, hM, trivial⟩) ?_
 obtain ⟨x2, hv3, hp⟩ := obind hp
 refine ops_callI (σ := Unit) (d := some 16) (f := 8) (args := #[sl A_w_0 w_0 c_w_0]) (v := (fun _ => vI x2)) (I := (fun _ => True)) (M' := (fun _ => Mem w0 (.blk b1 [sl A_w_0 w_0 c_w_0, sl A_w_1 w_1 c_w_1, sl A_w_2 w_2 c_w_2] 26 :: Fz F W :: cs))) ⟨by kernel_rfl⟩ (fun w_ hM hS => (tourref3_KindsError_ok w0 w_ (.blk b1 [sl A_w_0 w_0 c_w_0, sl A_w_1 w_1 c_w_1, sl A_w_2 w_2 c_w_2] 26 :: cs) F W A_w_0 c_w_0 w_0 (hM.pick 2 [1, 0] (by kernel_rfl) (by decide) rfl) h_w_0 x2 hv3).mono (by rintro e w' ⟨-, rfl, h'⟩; have h' : Mem w0 (.blk b1 [sl A_w_0 w_0 c_w_0, sl A_w_1 w_1 c_w_1, sl A_w_2 w_2 c_w_2] 26 :: Fz F W :: cs) w' := (h'.pick 2 [1, 0] (by kernel_rfl) (by decide) rfl); exact ⟨(), trivial, rfl, h', trivial⟩)) ?_
 rintro _ -
 refine oQ [oF 3] [(4, vI x2), (1, vP b1 0)] (by kernel_rfl) ?_
 refine ops_nil (fin_then (st_seq (st_region [oF 0, oF 1] (by rfl) ?_)))
 refine oQ [oF 0, oF 1] [(18, .bool (!(x2 == 0))), (4, vI x2), (1, vP b1 0)] (by kernel_rfl) ?_
 refine ops_nil (fin_then ?_)
 refine st_if (b := !(x2 == 0)) rfl (fun hc4 => ?_) (fun hc4 => ?_)
 ·
  have hp := cnd_t hc4 hp
  refine st_seq (st_region [oF 0, oF 1, oF 2] (by rfl) ?_)
  refine oQ [oF 0, oF 1, oF 2] [(3, vI x2), (2, .pointer none)] (by kernel_rfl) ?_
  refine ops_nil (fin_then (st_ret (fin_ret_then ?_)))
  have hq_ := Option.some.inj hp
  subst hq_
  refine fin_ret [.tmp 2, .tmp 3] [.pointer none, vI x2] rfl rfl (fun w_ hM => (.tmp rfl (.tmp rfl .nil))) (fun w_ hM => ?_)
  refine (isel_l ?_)
  exact ⟨F, W, (Ext.refl _ _ _), rfl, hM.pick 2 [1] (by kernel_rfl) (by decide) rfl⟩
 ·
  have hp := cnd_f hc4 hp
  refine st_skip (fin_then (st_seq (st_seq (st_region [oF 0, oF 1, oF 2, oF 3, oF 4, oF 5, oF 6, oF 7, oF 8, oF 9, oF 10, oF 11, oF 12] (by rfl) ?_))))
  refine oQ [oF 0] [(20, vP b1 1), (1, vP b1 0)] (by kernel_rfl) ?_
  refine ops_mem (d := some 21) (an := [.v (sl A_w_1 w_1 c_w_1)]) (evs := [ld b1 1 (sl A_w_1 w_1 c_w_1)]) (v := sl A_w_1 w_1 c_w_1) ⟨by kernel_rfl⟩ (fun w_ hM hS => ⟨w_, ⟨hM.cell 0 rfl rfl, rfl⟩, hM, trivial⟩) ?_
  refine oQ [oF 2, oF 3, oF 4] [(24, .bool (decide (256 < (w_1.length : Int)))), (1, vP b1 0)] (by kernel_rfl) ?_
  refine ops_bool (t := decide (256 < (w_1.length : Int))) (l1 := [(24, .bool true), (1, vP b1 0)]) (l2 := [(24, .bool false), (1, vP b1 0)]) (fun h => by rw [h]) (fun h => by rw [h]) (fun hc5 => ?_) (fun hc5 => ?_)
  ·
   have hp := cnd_t hc5 hp
   refine oQ [oF 5, oF 6, oF 7, oF 8, oF 9, oF 10, oF 11, oF 12] [(32, .bool true), (1, vP b1 0)] (by kernel_rfl) ?_
   refine ops_nil (fin_then (st_true rfl (st_seq (st_region [oF 0, oF 1] (by rfl) ?_))))
   refine oQ [oF 0, oF 1] [(3, vI 2), (2, .pointer none)] (by kernel_rfl) ?_
   refine ops_nil (fin_then (st_ret (fin_ret_then ?_)))
   have hq_ := Option.some.inj hp
   subst hq_
   refine fin_ret [.tmp 2, .tmp 3] [.pointer none, vI 2] rfl rfl (fun w_ hM => (.tmp rfl (.tmp rfl .nil))) (fun w_ hM => ?_)
   refine (isel_l ?_)
   exact ⟨F, W, (Ext.refl _ _ _), rfl, hM.pick 2 [1] (by kernel_rfl) (by decide) rfl⟩
  ·
   have hp := cnd_f hc5 hp
   refine oQ [oF 5] [(25, vP b1 2), (24, .bool false), (1, vP b1 0)] (by kernel_rfl) ?_
   refine ops_mem (d := some 26) (an := [.v (sl A_w_2 w_2 c_w_2)]) (evs := [ld b1 2 (sl A_w_2 w_2 c_w_2)]) (v := sl A_w_2 w_2 c_w_2) ⟨by kernel_rfl⟩ (fun w_ hM hS => ⟨w_, ⟨hM.cell 0 rfl rfl, rfl⟩, hM, trivial⟩) ?_
   refine oQ [oF 7, oF 8] [(28, vP b1 1), (27, vI (w_2.length : Int)), (24, .bool false), (1, vP b1 0)] (by kernel_rfl) ?_
   refine ops_mem (d := some 29) (an := [.v (sl A_w_1 w_1 c_w_1)]) (evs := [ld b1 1 (sl A_w_1 w_1 c_w_1)]) (v := sl A_w_1 w_1 c_w_1) ⟨by kernel_rfl⟩ (fun w_ hM hS => ⟨w_, ⟨hM.cell 0 rfl rfl, rfl⟩, hM, trivial⟩) ?_
   refine oQ [oF 10, oF 11, oF 12] [(32, .bool (decide ((w_1.length : Int) < (w_2.length : Int)))), (1, vP b1 0)] (by kernel_rfl) ?_
   refine ops_nil (fin_then ?_)
   refine st_if (b := decide ((w_1.length : Int) < (w_2.length : Int))) rfl (fun hc6 => ?_) (fun hc6 => ?_)
   ·
    have hp := cnd_t hc6 hp
    refine st_seq (st_region [oF 0, oF 1] (by rfl) ?_)
    refine oQ [oF 0, oF 1] [(3, vI 2), (2, .pointer none)] (by kernel_rfl) ?_
    refine ops_nil (fin_then (st_ret (fin_ret_then ?_)))
    have hq_ := Option.some.inj hp
    subst hq_
    refine fin_ret [.tmp 2, .tmp 3] [.pointer none, vI 2] rfl rfl (fun w_ hM => (.tmp rfl (.tmp rfl .nil))) (fun w_ hM => ?_)
    refine (isel_l ?_)
    exact ⟨F, W, (Ext.refl _ _ _), rfl, hM.pick 2 [1] (by kernel_rfl) (by decide) rfl⟩
   ·
    have hp := cnd_f hc6 hp
    refine st_skip (fin_then (st_seq (st_region [oF 0, oF 1, oF 2, oF 3, oF 4, oF 5, oF 6] (by rfl) ?_)))
    refine oQ [oF 0] [(33, vP b1 1), (1, vP b1 0)] (by kernel_rfl) ?_
    refine ops_mem (d := some 34) (an := [.v (sl A_w_1 w_1 c_w_1)]) (evs := [ld b1 1 (sl A_w_1 w_1 c_w_1)]) (v := sl A_w_1 w_1 c_w_1) ⟨by kernel_rfl⟩ (fun w_ hM hS => ⟨w_, ⟨hM.cell 0 rfl rfl, rfl⟩, hM, trivial⟩) ?_
    obtain ⟨x7, hv8, hp⟩ := obind hp
    refine ops_callI (σ := (Option Addr) × Nat × (List Value)) (d := some 35) (f := 49) (args := #[sl A_w_1 w_1 c_w_1]) (v := (fun x_ => match x_ with | (A9, c10, y11) => sl A9 x7 c10)) (I := (fun x_ => match x_ with | (A9, c10, y11) => (RepL (Rep.int .i64) F W x7 y11))) (M' := (fun x_ => match x_ with | (A9, c10, y11) => Mem w0 (ow A9 x7 c10 3 1 y11 :: .blk b1 [sl A_w_0 w_0 c_w_0, sl A_w_1 w_1 c_w_1, sl A_w_2 w_2 c_w_2] 26 :: Fz F W :: cs))) ⟨by kernel_rfl⟩ (fun w_ hM hS => (slices_Clone_int_int_ok w0 w_ (.blk b1 [sl A_w_0 w_0 c_w_0, sl A_w_1 w_1 c_w_1, sl A_w_2 w_2 c_w_2] 26 :: cs) F W A_w_1 c_w_1 w_1 (hM.pick 2 [1, 0] (by kernel_rfl) (by decide) rfl) h_w_1 x7 hv8).mono (by rintro e w' ⟨A9, c10, y11, h12, rfl, h'⟩; have h' : Mem w0 (ow A9 x7 c10 3 1 y11 :: .blk b1 [sl A_w_0 w_0 c_w_0, sl A_w_1 w_1 c_w_1, sl A_w_2 w_2 c_w_2] 26 :: Fz F W :: cs) w' := (h'.pick 3 [0, 2, 1] (by kernel_rfl) (by decide) rfl); exact ⟨(A9, c10, y11), h12, rfl, h', trivial⟩)) ?_
    rintro ⟨A9, c10, y11⟩ h12
    have h14 := (MapOK.nil : MapOK (fun x_ : Int => Value.int .i64 x_) (Rep.map (fun x_ : Int => Value.int .i64 x_) (Rep.sl (Rep.int .i64)) false) false F W ([] : List (Int × (Option (List (Int × (List Int)))))) #[] 0)
    refine ops_new (d := some 36) (o := .map #[] 0) (v := fun g13 => .map (some g13)) (M' := fun g13 => Mem w0 (.obj g13 (.map #[] 0) :: ow A9 x7 c10 3 1 y11 :: .blk b1 [sl A_w_0 w_0 c_w_0, sl A_w_1 w_1 c_w_1, sl A_w_2 w_2 c_w_2] 26 :: Fz F W :: cs)) (fun g13 => ⟨by kernel_rfl⟩) (fun w_ hM hS => ⟨hM.objNew _, trivial⟩) (fun g13 => ?_)
    refine oQ [oF 4] [(37, .agg #[.slice none 0 0, sl A9 x7 c10, .map (some g13)]), (1, vP b1 0)] (by kernel_rfl) ?_
    refine ops_newB (d := some 38) [.slice none 0 0, sl A9 x7 c10, .map (some g13)] 96 (fun b15 => ⟨by kernel_rfl⟩) (fun w_ hM hS => trivial) (fun b15 => ?_)
    refine oQ [oF 6] [(5, vP b15 0), (1, vP b1 0)] (by kernel_rfl) ?_
    refine ops_nil (fin_then ?_)
    refine st_join1 (σ := (Option Addr) × Nat × (List api_Kind) × (List Value) × (Nat → Prop) × World) (L := fun x_ => match x_ with | (A16, c17, l18, y19, F21, W22) => [(1, vP b1 0), (5, vP b15 0)]) (N := fun x_ => match x_ with | (A16, c17, l18, y19, F21, W22) => Mem w0 (.blk b1 [sl A_w_0 w_0 c_w_0, sl A_w_1 w_1 c_w_1, sl A_w_2 w_2 c_w_2] 26 :: .blk b15 [sl A16 l18 c17, sl A9 x7 c10, .map (some g13)] 96 :: ow A16 l18 c17 86 2 y19 :: ow A9 x7 c10 3 1 y11 :: .obj g13 (.map #[] 0) :: Fz F21 W22 :: cs)) (I := fun x_ => match x_ with | (A16, c17, l18, y19, F21, W22) => ((tourref3_Open_j1 w_2 w_0 x7 w_1) l18 = some r_) ∧ (RepL R_api_Kind F21 W22 l18 y19) ∧ (Ext w0 F W F21 W22)) ?_ ?_
    ·
     rintro ⟨A16, c17, l18, y19, F21, W22⟩ ⟨hp, h20, hx1⟩
     have h_w_0 := h_w_0.ext hx1
     have h_w_1 := h_w_1.ext hx1
     have h_w_2 := h_w_2.ext hx1
     have h12 := h12.ext hx1
     have h14 := h14.ext hx1
     unfold tourref3_Open_j1 at hp
     refine st_join1 (σ := (Array MapEntry) × Nat × (List (Int × (Option (List (Int × (List Int)))))) × (Nat → Prop) × World) (L := fun x_ => match x_ with | (es23, ck24, l25, F27, W28) => [(1, vP b1 0), (5, vP b15 0)]) (N := fun x_ => match x_ with | (es23, ck24, l25, F27, W28) => Mem w0 (.blk b1 [sl A_w_0 w_0 c_w_0, sl A_w_1 w_1 c_w_1, sl A_w_2 w_2 c_w_2] 26 :: .blk b15 [sl A16 l18 c17, sl A9 x7 c10, .map (some g13)] 96 :: ow A16 l18 c17 86 2 y19 :: ow A9 x7 c10 3 1 y11 :: .obj g13 (.map es23 ck24) :: Fz F27 W28 :: cs)) (I := fun x_ => match x_ with | (es23, ck24, l25, F27, W28) => ((tourref3_Open_j2 x7 l18 w_0 w_1 w_2) l25 = some r_) ∧ (MapOK (fun x_ : Int => Value.int .i64 x_) (Rep.map (fun x_ : Int => Value.int .i64 x_) (Rep.sl (Rep.int .i64)) false) false F27 W28 l25 es23 ck24) ∧ (Ext w0 F21 W22 F27 W28)) ?_ ?_
     ·
      rintro ⟨es23, ck24, l25, F27, W28⟩ ⟨hp, h26, hx2⟩
      have h_w_0 := h_w_0.ext hx2
      have h_w_1 := h_w_1.ext hx2
      have h_w_2 := h_w_2.ext hx2
      have h20 := h20.ext hx2
      have h12 := h12.ext hx2
      unfold tourref3_Open_j2 at hp
      refine st_join1 (σ := Unit) (L := fun _ => [(1, vP b1 0), (5, vP b15 0)]) (N := fun _ => Mem w0 (.blk b1 [sl A_w_0 w_0 c_w_0, sl A_w_1 w_1 c_w_1, sl A_w_2 w_2 c_w_2] 26 :: .blk b15 [sl A16 l18 c17, sl A9 x7 c10, .map (some g13)] 96 :: ow A16 l18 c17 86 2 y19 :: ow A9 x7 c10 3 1 y11 :: .obj g13 (.map es23 ck24) :: Fz F27 W28 :: cs)) (I := fun _ => ((tourref3_Open_j3 l18 x7 l25 w_0 w_1 w_2) = some r_)) ?_ ?_
      ·
       rintro _ hp
       unfold tourref3_Open_j3 at hp
       refine st_seq (st_seq ?_)
       refine st_region_draw [oT 0, oT 2, oF 1, oF 3, oT 4] (Mem w0 (.blk b1 [sl A_w_0 w_0 c_w_0, sl A_w_1 w_1 c_w_1, sl A_w_2 w_2 c_w_2] 26 :: Fz F27 W28 :: cs)) (by kernel_rfl) (by kernel_rfl) (by kernel_rfl) (fun _ d _ _ _ h => by cases d <;> exact h) (M' := Mem w0 (.blk b1 [sl A_w_0 w_0 c_w_0, sl A_w_1 w_1 c_w_1, sl A_w_2 w_2 c_w_2] 26 :: .blk b15 [sl A16 l18 c17, sl A9 x7 c10, .map (some g13)] 96 :: ow A16 l18 c17 86 2 y19 :: ow A9 x7 c10 3 1 y11 :: .obj g13 (.map es23 ck24) :: Fz F27 W28 :: cs)) (fun w_ hM => ⟨hM.drew, hM.drew.sub (.cons_cons _ (.cons _ (.cons _ (.cons _ (.cons _ (.cons_cons _ (.refl _)))))))⟩) ?_
       refine oQ [oT 0] [(135, vP b15 0), (1, vP b1 0), (5, vP b15 0)] (by kernel_rfl) ?_
       refine ops_load (d := some 137) (an := [.v (sl A_w_0 w_0 c_w_0), .v (sl A_w_1 w_1 c_w_1), .v (sl A_w_2 w_2 c_w_2)]) (evs := [ld b1 0 (sl A_w_0 w_0 c_w_0), ld b1 1 (sl A_w_1 w_1 c_w_1), ld b1 2 (sl A_w_2 w_2 c_w_2)]) (v := .agg #[sl A_w_0 w_0 c_w_0, sl A_w_1 w_1 c_w_1, sl A_w_2 w_2 c_w_2]) ⟨by kernel_rfl⟩ (fun w_ hM => ⟨hM.cell 0 rfl rfl, hM.cell 0 rfl rfl, hM.cell 0 rfl rfl, rfl⟩) ?_
       refine ops_ex (σ := (Nat → Prop) × World) (I := fun x_ => Ext w0 F27 W28 x_.1 x_.2 ∧ RdS R_api_Kind x_.1 x_.2 A16 c17 l18) (M' := fun x_ => Mem w0 (.blk b1 [sl A_w_0 w_0 c_w_0, sl A_w_1 w_1 c_w_1, sl A_w_2 w_2 c_w_2] 26 :: .blk b15 [sl A16 l18 c17, sl A9 x7 c10, .map (some g13)] 96 :: ow A9 x7 c10 3 1 y11 :: .obj g13 (.map es23 ck24) :: Fz x_.1 x_.2 :: cs)) (fun w_ hM => ?_) ?_
       · obtain ⟨F_, h1_, h2_, h3_⟩ := (hM.pick 6 [2, 5, 0, 1, 3, 4] (by kernel_rfl) (by decide) rfl : Mem w0 (ow A16 l18 c17 86 2 y19 :: Fz F27 W28 :: .blk b1 [sl A_w_0 w_0 c_w_0, sl A_w_1 w_1 c_w_1, sl A_w_2 w_2 c_w_2] 26 :: .blk b15 [sl A16 l18 c17, sl A9 x7 c10, .map (some g13)] 96 :: ow A9 x7 c10 3 1 y11 :: .obj g13 (.map es23 ck24) :: cs) w_).freeze (z := 2) h20 rfl rfl
         exact ⟨(F_, w_), ⟨h1_, h2_⟩, h3_.pick 5 [1, 2, 3, 4, 0] (by kernel_rfl) (by decide) rfl⟩
       rintro ⟨F29, W30⟩ ⟨hx31, h32⟩
       have hx31 : Ext w0 F27 W28 F29 W30 := hx31
       have h32 : RdS R_api_Kind F29 W30 A16 c17 l18 := h32
       have h_w_0 := h_w_0.ext hx31
       have h_w_1 := h_w_1.ext hx31
       have h_w_2 := h_w_2.ext hx31
       have h12 := h12.ext hx31
       have h26 := h26.ext hx31
       obtain ⟨x33, x34, x35, hv36, hp⟩ := obind3 hp
       refine ops_callI (σ := (Option Addr) × Nat × (List Value) × (Option Addr) × Nat × (List Value) × (Option Addr) × Nat × (List Value) × (List Value) × (Array MapEntry) × Nat × (Nat → Prop) × World) (d := some 136) (f := 52) (args := #[vP b15 0]) (v := (fun x_ => match x_ with | (A37, c38, y39, A40, c41, y42, A43, c44, y45, y46, es47, ck48, F49, W50) => .agg #[sl A37 x33 c38, sl A40 x34 c41, sl A43 x35 c44])) (I := (fun x_ => match x_ with | (A37, c38, y39, A40, c41, y42, A43, c44, y45, y46, es47, ck48, F49, W50) => (RepL R_api_Kind F49 W50 x33 y39) ∧ (RepL (Rep.int .i64) F49 W50 x34 y42) ∧ (RepL R_api_Item F49 W50 x35 y45) ∧ (RdS R_api_Kind F49 W50 A16 c17 l18) ∧ (RepL (Rep.int .i64) F49 W50 x7 y46) ∧ (MapOK (fun x_ : Int => Value.int .i64 x_) (Rep.map (fun x_ : Int => Value.int .i64 x_) (Rep.sl (Rep.int .i64)) false) false F49 W50 l25 es47 ck48) ∧ (Ext w0 F29 W30 F49 W50))) (M' := (fun x_ => match x_ with | (A37, c38, y39, A40, c41, y42, A43, c44, y45, y46, es47, ck48, F49, W50) => Mem w0 (ow A37 x33 c38 86 2 y39 :: ow A40 x34 c41 3 1 y42 :: ow A43 x35 c44 61 3 y45 :: .blk b1 [sl A_w_0 w_0 c_w_0, sl A_w_1 w_1 c_w_1, sl A_w_2 w_2 c_w_2] 26 :: .blk b15 [sl A16 l18 c17, sl A9 x7 c10, .map (some g13)] 96 :: ow A9 x7 c10 3 1 y46 :: .obj g13 (.map es47 ck48) :: Fz F49 W50 :: cs))) ⟨by kernel_rfl⟩ (fun w_ hM hS => (tourref3_Flat_Close_ok w0 w_ (.blk b1 [sl A_w_0 w_0 c_w_0, sl A_w_1 w_1 c_w_1, sl A_w_2 w_2 c_w_2] 26 :: cs) F29 W30 b15 A16 c17 l18 A9 c10 x7 y11 g13 es23 ck24 l25 (hM.pick 5 [1, 2, 3, 4, 0] (by kernel_rfl) (by decide) rfl) h32 h12 h26 x33 x34 x35 hv36).mono (by rintro e w' ⟨A37, c38, y39, A40, c41, y42, A43, c44, y45, y46, es47, ck48, F49, W50, ⟨h51, h52, h53, h54, h55, h56, h57⟩, rfl, h'⟩; have h' : Mem w0 (ow A37 x33 c38 86 2 y39 :: ow A40 x34 c41 3 1 y42 :: ow A43 x35 c44 61 3 y45 :: .blk b1 [sl A_w_0 w_0 c_w_0, sl A_w_1 w_1 c_w_1, sl A_w_2 w_2 c_w_2] 26 :: .blk b15 [sl A16 l18 c17, sl A9 x7 c10, .map (some g13)] 96 :: ow A9 x7 c10 3 1 y46 :: .obj g13 (.map es47 ck48) :: Fz F49 W50 :: cs) w' := (h'.pick 8 [0, 1, 2, 7, 3, 4, 5, 6] (by kernel_rfl) (by decide) rfl); exact ⟨(A37, c38, y39, A40, c41, y42, A43, c44, y45, y46, es47, ck48, F49, W50), ⟨h51, h52, h53, h54, h55, h56, h57⟩, rfl, h', (by first | exact (Mem.fzback h' 7 rfl h57).sub (.cons _ (.cons _ (.cons _ (.cons_cons _ (.cons _ (.cons _ (.cons _ (.cons_cons _ (.refl _))))))))) | exact (Mem.fzback h' 7 rfl (hx31.trans h57)).sub (.cons _ (.cons _ (.cons _ (.cons_cons _ (.cons _ (.cons _ (.cons _ (.cons_cons _ (.refl _))))))))) | exact (Mem.fzback h' 7 rfl ((hx2.trans hx31).trans h57)).sub (.cons _ (.cons _ (.cons _ (.cons_cons _ (.cons _ (.cons _ (.cons _ (.cons_cons _ (.refl _))))))))) | exact (Mem.fzback h' 7 rfl (((hx1.trans hx2).trans hx31).trans h57)).sub (.cons _ (.cons _ (.cons _ (.cons_cons _ (.cons _ (.cons _ (.cons _ (.cons_cons _ (.refl _))))))))))⟩)) ?_
       rintro ⟨A37, c38, y39, A40, c41, y42, A43, c44, y45, y46, es47, ck48, F49, W50⟩ ⟨h51, h52, h53, h54, h55, h56, h57⟩
       have h_w_0 := h_w_0.ext h57
       have h_w_1 := h_w_1.ext h57
       have h_w_2 := h_w_2.ext h57
       obtain ⟨x58, hv59, hp⟩ := obind hp
       refine ops_callI (σ := Unit) (d := some 138) (f := 51) (args := #[.agg #[sl A37 x33 c38, sl A40 x34 c41, sl A43 x35 c44], .agg #[sl A_w_0 w_0 c_w_0, sl A_w_1 w_1 c_w_1, sl A_w_2 w_2 c_w_2]]) (v := (fun _ => .bool x58)) (I := (fun _ => True)) (M' := (fun _ => Mem w0 (ow A37 x33 c38 86 2 y39 :: ow A40 x34 c41 3 1 y42 :: ow A43 x35 c44 61 3 y45 :: .blk b1 [sl A_w_0 w_0 c_w_0, sl A_w_1 w_1 c_w_1, sl A_w_2 w_2 c_w_2] 26 :: .blk b15 [sl A16 l18 c17, sl A9 x7 c10, .map (some g13)] 96 :: ow A9 x7 c10 3 1 y46 :: .obj g13 (.map es47 ck48) :: Fz F49 W50 :: cs))) ⟨by kernel_rfl⟩ (fun w_ hM hS => (tourref3_SameWorld_ok w_ w_ [] (fun b => b < w_.heap.size) w_ A37 c38 x33 A40 c41 x34 A43 c44 x35 A_w_0 c_w_0 w_0 A_w_1 c_w_1 w_1 A_w_2 c_w_2 w_2 (Mem.fz0 w_) (hM.ordS 0 7 rfl rfl h51 rfl rfl) (hM.ordS 1 7 rfl rfl h52 rfl rfl) (hM.ordS 2 7 rfl rfl h53 rfl rfl) (hM.now 7 rfl h_w_0) (hM.now 7 rfl h_w_1) (hM.now 7 rfl h_w_2) x58 hv59).mono (by rintro e w' ⟨-, rfl, h'⟩; have h' : Mem w_ [] w' := h'.pick 1 [] (by kernel_rfl) (by decide) rfl; exact ⟨(), trivial, rfl, hM.join h' rfl, (hS.step h'.below)⟩)) ?_
       rintro _ -
       refine oQ [oT 4] [(139, .bool (!x58)), (5, vP b15 0)] (by kernel_rfl) ?_
       refine ops_nil (fin_then ?_)
       refine st_if (b := !x58) rfl (fun hc60 => ?_) (fun hc60 => ?_)
       ·
        have hp := cnd_t hc60 hp
        refine st_seq (st_region [oF 0, oF 1] (by rfl) ?_)
        refine oQ [oF 0, oF 1] [(3, vI 3), (2, .pointer none)] (by kernel_rfl) ?_
        refine ops_nil (fin_then (st_ret (fin_ret_then ?_)))
        have hq_ := Option.some.inj hp
        subst hq_
        refine fin_ret [.tmp 2, .tmp 3] [.pointer none, vI 3] rfl rfl (fun w_ hM => (.tmp rfl (.tmp rfl .nil))) (fun w_ hM => ?_)
        refine (isel_l ?_)
        exact ⟨F49, W50, (((hx1.trans hx2).trans hx31).trans h57), rfl, hM.pick 8 [7] (by kernel_rfl) (by decide) rfl⟩
       ·
        have hp := cnd_f hc60 hp
        refine st_skip (fin_then (st_seq (st_region [oF 0, oF 1, oF 2] (by rfl) ?_)))
        refine oQ [oF 0, oF 1, oF 2] [(3, vI 0), (2, vP b15 0)] (by kernel_rfl) ?_
        refine ops_nil (fin_then (st_ret ?_))
        have hq_ := Option.some.inj hp
        subst hq_
        refine fin_ret [.tmp 2, .tmp 3] [vP b15 0, vI 0] rfl rfl (fun w_ hM => (.tmp rfl (.tmp rfl .nil))) (fun w_ hM => ?_)
        refine (isel_r (iun3_at ?_))
        exact ⟨b15, A16, c17, A9, c10, y46, g13, es47, ck48, F49, W50, ⟨h54, h55, h56, (((hx1.trans hx2).trans hx31).trans h57)⟩, rfl, hM.pick 8 [4, 5, 6, 7] (by kernel_rfl) (by decide) rfl⟩
      ·
       intro HJ3
       refine st_seq (st_seq (st_region [oF 0, oF 1, oF 2, oF 3, oF 4, oF 5] (by rfl) ?_))
       refine oQ [oF 0, oF 1, oF 2] [(107, vP b15 1), (1, vP b1 0), (5, vP b15 0)] (by kernel_rfl) ?_
       refine ops_mem (d := some 108) (an := [.v (sl A9 x7 c10)]) (evs := [ld b15 1 (sl A9 x7 c10)]) (v := sl A9 x7 c10) ⟨by kernel_rfl⟩ (fun w_ hM hS => ⟨w_, ⟨hM.cell 1 rfl rfl, rfl⟩, hM, trivial⟩) ?_
       refine oQ [oF 4, oF 5] [(110, vI 0), (109, vI (x7.length : Int)), (108, sl A9 x7 c10), (1, vP b1 0), (5, vP b15 0)] (by kernel_rfl) ?_
       refine ops_nil (fin_then (st_block ?_))
       obtain ⟨r4, hl4, hk4⟩ := obind hp
       refine st_loopP (σ := Int) (ρ := (Int ⊕ Unit)) (γ := Unit) hl4 () (fun s_ g_ => match s_, g_ with | i61, _ => [(1, vP b1 0), (5, vP b15 0), (108, sl A9 x7 c10), (109, vI (x7.length : Int)), (110, vI i61)]) (fun s_ g_ => match s_, g_ with | i61, _ => Mem w0 (.blk b1 [sl A_w_0 w_0 c_w_0, sl A_w_1 w_1 c_w_1, sl A_w_2 w_2 c_w_2] 26 :: .blk b15 [sl A16 l18 c17, sl A9 x7 c10, .map (some g13)] 96 :: ow A16 l18 c17 86 2 y19 :: ow A9 x7 c10 3 1 y11 :: .obj g13 (.map es23 ck24) :: Fz F27 W28 :: cs)) (fun s_ g_ => match s_, g_ with | i61, _ => True) trivial (look_has ⟨rfl, rfl, rfl, rfl, rfl, trivial⟩) (fun w_ hM => hM) ?_
       rintro i61 _ o4 - hs_ hd4
       have hp : (tourref3_Open_l4 x7 l25) i61 = some o4 := hs_
       clear hs_
       unfold tourref3_Open_l4 at hp
       refine st_seq (st_region [oF 0] (by rfl) ?_)
       refine oQ [oF 0] [(111, .bool (decide (i61 < (x7.length : Int)))), (1, vP b1 0), (5, vP b15 0), (108, sl A9 x7 c10), (109, vI (x7.length : Int)), (110, vI i61)] (by kernel_rfl) ?_
       refine ops_nil (fin_then (st_seq ?_))
       refine st_if (b := decide (i61 < (x7.length : Int))) rfl (fun hc62 => ?_) (fun hc62 => ?_)
       ·
        have hp := cnd_t hc62 hp
        refine st_skip (fin_then ?_)
        refine st_join1 (σ := Unit) (L := fun _ => [(1, vP b1 0), (5, vP b15 0), (108, sl A9 x7 c10), (109, vI (x7.length : Int)), (110, vI i61)]) (N := fun _ => Mem w0 (.blk b1 [sl A_w_0 w_0 c_w_0, sl A_w_1 w_1 c_w_1, sl A_w_2 w_2 c_w_2] 26 :: .blk b15 [sl A16 l18 c17, sl A9 x7 c10, .map (some g13)] 96 :: ow A16 l18 c17 86 2 y19 :: ow A9 x7 c10 3 1 y11 :: .obj g13 (.map es23 ck24) :: Fz F27 W28 :: cs)) (I := fun _ => ((tourref3_Open_j5 i61) = some o4)) ?_ ?_
        ·
         rintro _ hp
         unfold tourref3_Open_j5 at hp
         refine st_region [oF 0, oF 1] (by rfl) ?_
         refine oQ [oF 0, oF 1] [(110, vI (IntKind.i64.wrap (i61 + 1))), (1, vP b1 0), (5, vP b15 0), (108, sl A9 x7 c10), (109, vI (x7.length : Int))] (by kernel_rfl) ?_
         refine ops_nil ?_
         exact fin_again (IntKind.i64.wrap (i61 + 1)) () (Option.some.inj hp).symm trivial (look_has ⟨rfl, rfl, rfl, rfl, rfl, trivial⟩) (fun w_ hM => hM)
        ·
         intro HJ5
         refine st_seq (st_block (st_seq (st_region [oF 0, oF 1, oF 2, oF 3, oF 4] (by rfl) ?_)))
         refine oQ [oF 0] [(112, vI i61), (1, vP b1 0), (5, vP b15 0), (108, sl A9 x7 c10), (109, vI (x7.length : Int)), (110, vI i61)] (by kernel_rfl) ?_
         obtain ⟨x63, hv64, hp⟩ := obind hp
         obtain ⟨m65, hm66, hx67⟩ := idx_some hv64
         have hl70 := (List.getElem?_eq_some_iff.1 hx67).1
         refine ops_fact (fun w_ hM => hM.orowSome 3 rfl (Nat.lt_of_le_of_lt (Nat.zero_le _) hl70)) ?_
         rintro ⟨g71, rfl, -⟩
         obtain ⟨vs68, hr69, hq72⟩ := h12.at_ m65 x63 hx67
         obtain rfl := hr69
         refine ops_val (op := (.indexAddr 23 (.tmp 108) (.tmp 110))) (d := some 113) (v := vP g71 (m65 * 1)) ⟨by kernel_rfl⟩ (run_indexRow Tryz.underlying23 (z := 1) (by kernel_rfl) rfl rfl hm66 hl70 rfl) ?_
         refine ops_mem (d := some 114) (an := [.v (vI x63)]) (evs := [.load ⟨g71, m65 * 1, none⟩ (vI x63)]) (v := vI x63) ⟨by kernel_rfl⟩ (fun w_ hM hS => ⟨w_, ⟨hM.ocell 3 rfl (hq72 0 _ rfl), rfl⟩, hM, trivial⟩) ?_
         refine oQ [oF 3, oF 4] [(13, vI x63), (12, vI i61), (1, vP b1 0), (5, vP b15 0), (108, sl (sa g71) x7 c10), (109, vI (x7.length : Int)), (110, vI i61)] (by kernel_rfl) ?_
         refine ops_nil (fin_then (st_seq (st_region [oF 0, oF 1, oF 2, oF 3, oF 4, oF 5, oF 6, oF 7, oF 8, oF 9, oF 10, oF 11, oF 12, oF 13, oF 14, oF 15, oF 16, oF 17, oF 18] (by rfl) ?_)))
         refine oQ [oF 0, oF 1, oF 2] [(117, .bool (decide (x63 < 0))), (13, vI x63), (12, vI i61), (1, vP b1 0), (5, vP b15 0), (108, sl (sa g71) x7 c10), (109, vI (x7.length : Int)), (110, vI i61)] (by kernel_rfl) ?_
         refine ops_bool (t := decide (x63 < 0)) (l1 := [(117, .bool true), (13, vI x63), (12, vI i61), (1, vP b1 0), (5, vP b15 0), (108, sl (sa g71) x7 c10), (109, vI (x7.length : Int)), (110, vI i61)]) (l2 := [(117, .bool false), (13, vI x63), (12, vI i61), (1, vP b1 0), (5, vP b15 0), (108, sl (sa g71) x7 c10), (109, vI (x7.length : Int)), (110, vI i61)]) (fun h => by rw [h]) (fun h => by rw [h]) (fun hc73 => ?_) (fun hc73 => ?_)
         ·
          have hp := cnd_t hc73 hp
          refine oQ [oF 3, oF 4, oF 5, oF 6, oF 7, oF 8, oF 9, oF 10, oF 11, oF 12, oF 13, oF 14, oF 15, oF 16, oF 17, oF 18] [(133, .bool true), (1, vP b1 0), (5, vP b15 0), (108, sl (sa g71) x7 c10), (109, vI (x7.length : Int)), (110, vI i61)] (by kernel_rfl) ?_
          refine ops_nil (fin_then (st_true rfl (st_seq (st_region [oF 0, oF 1] (by rfl) ?_))))
          refine oQ [oF 0, oF 1] [(3, vI 3), (2, .pointer none)] (by kernel_rfl) ?_
          refine ops_nil (fin_then (st_ret (fin_ret_block (fin_ret_then (fin_ret_then (fin_ret_block (fin_ret_then ?_)))))))
          obtain hq_ := Option.some.inj hp
          subst hq_
          obtain hq_ := hd4 _ rfl
          subst hq_
          have hp : some (.inl 3) = some r_ := hk4
          have hq_ := Option.some.inj hp
          subst hq_
          refine fin_ret [.tmp 2, .tmp 3] [.pointer none, vI 3] rfl rfl (fun w_ hM => (.tmp rfl (.tmp rfl .nil))) (fun w_ hM => ?_)
          refine (isel_l ?_)
          exact ⟨F27, W28, (hx1.trans hx2), rfl, hM.pick 6 [5] (by kernel_rfl) (by decide) rfl⟩
         ·
          have hp := cnd_f hc73 hp
          refine oQ [oF 3, oF 4, oF 5, oF 6] [(121, .bool (decide (1073741824 < x63))), (13, vI x63), (12, vI i61), (1, vP b1 0), (5, vP b15 0), (108, sl (sa g71) x7 c10), (109, vI (x7.length : Int)), (110, vI i61)] (by kernel_rfl) ?_
          refine ops_bool (t := decide (1073741824 < x63)) (l1 := [(121, .bool true), (13, vI x63), (12, vI i61), (1, vP b1 0), (5, vP b15 0), (108, sl (sa g71) x7 c10), (109, vI (x7.length : Int)), (110, vI i61)]) (l2 := [(121, .bool false), (13, vI x63), (12, vI i61), (1, vP b1 0), (5, vP b15 0), (108, sl (sa g71) x7 c10), (109, vI (x7.length : Int)), (110, vI i61)]) (fun h => by rw [h]) (fun h => by rw [h]) (fun hc74 => ?_) (fun hc74 => ?_)
          ·
           have hp := cnd_t hc74 hp
           refine oQ [oF 7, oF 8, oF 9, oF 10, oF 11, oF 12, oF 13, oF 14, oF 15, oF 16, oF 17, oF 18] [(133, .bool true), (1, vP b1 0), (5, vP b15 0), (108, sl (sa g71) x7 c10), (109, vI (x7.length : Int)), (110, vI i61)] (by kernel_rfl) ?_
           refine ops_nil (fin_then (st_true rfl (st_seq (st_region [oF 0, oF 1] (by rfl) ?_))))
           refine oQ [oF 0, oF 1] [(3, vI 3), (2, .pointer none)] (by kernel_rfl) ?_
           refine ops_nil (fin_then (st_ret (fin_ret_block (fin_ret_then (fin_ret_then (fin_ret_block (fin_ret_then ?_)))))))
           obtain hq_ := Option.some.inj hp
           subst hq_
           obtain hq_ := hd4 _ rfl
           subst hq_
           have hp : some (.inl 3) = some r_ := hk4
           have hq_ := Option.some.inj hp
           subst hq_
           refine fin_ret [.tmp 2, .tmp 3] [.pointer none, vI 3] rfl rfl (fun w_ hM => (.tmp rfl (.tmp rfl .nil))) (fun w_ hM => ?_)
           refine (isel_l ?_)
           exact ⟨F27, W28, (hx1.trans hx2), rfl, hM.pick 6 [5] (by kernel_rfl) (by decide) rfl⟩
          ·
           have hp := cnd_f hc74 hp
           refine oQ [oF 7, oF 8, oF 9] [(124, .bool (x63 == 1073741824)), (121, .bool false), (12, vI i61), (1, vP b1 0), (5, vP b15 0), (108, sl (sa g71) x7 c10), (109, vI (x7.length : Int)), (110, vI i61)] (by kernel_rfl) ?_
           refine ops_bool (t := (x63 == 1073741824)) (l1 := [(124, .bool true), (121, .bool false), (12, vI i61), (1, vP b1 0), (5, vP b15 0), (108, sl (sa g71) x7 c10), (109, vI (x7.length : Int)), (110, vI i61)]) (l2 := [(124, .bool false), (121, .bool false), (12, vI i61), (1, vP b1 0), (5, vP b15 0), (108, sl (sa g71) x7 c10), (109, vI (x7.length : Int)), (110, vI i61)]) (fun h => by rw [h]) (fun h => by rw [h]) (fun hc75 => ?_) (fun hc75 => ?_)
           ·
            have hp := cnd_t hc75 hp
            refine oQ [oF 10, oF 11, oF 12] [(127, vP b15 2), (124, .bool true), (121, .bool false), (12, vI i61), (1, vP b1 0), (5, vP b15 0), (108, sl (sa g71) x7 c10), (109, vI (x7.length : Int)), (110, vI i61)] (by kernel_rfl) ?_
            refine ops_mem (d := some 128) (an := [.v (.map (some g13))]) (evs := [ld b15 2 (.map (some g13))]) (v := .map (some g13)) ⟨by kernel_rfl⟩ (fun w_ hM hS => ⟨w_, ⟨hM.cell 1 rfl rfl, rfl⟩, hM, trivial⟩) ?_
            refine oQ [oF 14] [(129, vI i61), (128, .map (some g13)), (124, .bool true), (121, .bool false), (1, vP b1 0), (5, vP b15 0), (108, sl (sa g71) x7 c10), (109, vI (x7.length : Int)), (110, vI i61)] (by kernel_rfl) ?_
            obtain ⟨x76, hv77, hp⟩ := obind hp
            obtain ⟨vs78, hr79, hrun80⟩ := h26.get (KeyLaw.int Tryz.underlying3) Tryz.underlying94 i61 none (⟨none, rfl, rfl⟩) (fun u_ => Tryz.zeroValue37 u_)
            have hr79 : (Rep.map (fun x_ : Int => Value.int .i64 x_) (Rep.sl (Rep.int .i64)) false).rd F27 W28 x76 vs78 := by rw [← Option.some.inj hv77]; exact hr79
            obtain ⟨B81, rfl, h82⟩ := hr79
            refine ops_law (op := (.lookup 94 (.tmp 128) (.tmp 129) false)) (d := some 130) (σ := Unit) (v := fun _ => .map B81) (M' := fun _ => Mem w0 (.blk b1 [sl A_w_0 w_0 c_w_0, sl A_w_1 w_1 c_w_1, sl A_w_2 w_2 c_w_2] 26 :: .blk b15 [sl A16 l18 c17, sl (sa g71) x7 c10, .map (some g13)] 96 :: ow A16 l18 c17 86 2 y19 :: ow (sa g71) x7 c10 3 1 y11 :: .obj g13 (.map es23 ck24) :: Fz F27 W28 :: cs)) ⟨by kernel_rfl⟩ (fun o_ w_ ho_ hM hS => ⟨(), w_, run_lookupV rfl rfl (hrun80 false g13 w_ (hM.mapAt 4 rfl)) o_ ho_, hM, trivial⟩) (fun _ => ?_)
            refine ops_val (op := (.binOp Go.BinOp.neq 37 (.tmp 130) (.const (Go.Value.map none)) 37)) (d := some 131) (v := .bool (!x76.isNone)) ⟨by kernel_rfl⟩ (by rw [← RdM.none_iff h82]; exact run_neqMap Tryz.underlying37 rfl rfl) ?_
            refine oQ [oF 17, oF 18] [(133, .bool (!x76.isNone)), (1, vP b1 0), (5, vP b15 0), (108, sl (sa g71) x7 c10), (109, vI (x7.length : Int)), (110, vI i61)] (by kernel_rfl) ?_
            refine ops_nil (fin_then ?_)
            refine st_if (b := !x76.isNone) rfl (fun hc83 => ?_) (fun hc83 => ?_)
            ·
             have hp := cnd_t hc83 hp
             refine st_seq (st_region [oF 0, oF 1] (by rfl) ?_)
             refine oQ [oF 0, oF 1] [(3, vI 3), (2, .pointer none)] (by kernel_rfl) ?_
             refine ops_nil (fin_then (st_ret (fin_ret_block (fin_ret_then (fin_ret_then (fin_ret_block (fin_ret_then ?_)))))))
             obtain hq_ := Option.some.inj hp
             subst hq_
             obtain hq_ := hd4 _ rfl
             subst hq_
             have hp : some (.inl 3) = some r_ := hk4
             have hq_ := Option.some.inj hp
             subst hq_
             refine fin_ret [.tmp 2, .tmp 3] [.pointer none, vI 3] rfl rfl (fun w_ hM => (.tmp rfl (.tmp rfl .nil))) (fun w_ hM => ?_)
             refine (isel_l ?_)
             exact ⟨F27, W28, (hx1.trans hx2), rfl, hM.pick 6 [5] (by kernel_rfl) (by decide) rfl⟩
            ·
             have hp := cnd_f hc83 hp
             refine st_skip (fin_block ?_)
             exact fin_join HJ5 () hp (look_has ⟨rfl, rfl, rfl, rfl, rfl, trivial⟩) (fun w_ hM => hM)
           ·
            have hp := cnd_f hc75 hp
            refine oQ [oF 10, oF 11, oF 12, oF 13, oF 14, oF 15, oF 16, oF 17, oF 18] [(133, .bool false), (1, vP b1 0), (5, vP b15 0), (108, sl (sa g71) x7 c10), (109, vI (x7.length : Int)), (110, vI i61)] (by kernel_rfl) ?_
            refine ops_nil (fin_then (st_false rfl (st_skip (fin_block ?_))))
            exact fin_join HJ5 () hp (look_has ⟨rfl, rfl, rfl, rfl, rfl, trivial⟩) (fun w_ hM => hM)
       ·
        have hp := cnd_f hc62 hp
        refine st_exit (fin_exit_then (fin_exit_then (fin_exit ?_)))
        obtain hq_ := Option.some.inj hp
        subst hq_
        obtain hq_ := hd4 _ rfl
        subst hq_
        have hp : (tourref3_Open_j3 l18 x7 l25 w_0 w_1 w_2) = some r_ := hk4
        exact fin_join HJ3 () hp (look_has ⟨rfl, rfl, trivial⟩) (fun w_ hM => hM)
     ·
      intro HJ2
      refine st_seq (st_seq (st_region [oF 0, oF 1, oF 2, oF 3] (by rfl) ?_))
      refine oQ [oF 0] [(62, vP b1 2), (1, vP b1 0), (5, vP b15 0)] (by kernel_rfl) ?_
      refine ops_mem (d := some 63) (an := [.v (sl A_w_2 w_2 c_w_2)]) (evs := [ld b1 2 (sl A_w_2 w_2 c_w_2)]) (v := sl A_w_2 w_2 c_w_2) ⟨by kernel_rfl⟩ (fun w_ hM hS => ⟨w_, ⟨hM.cell 0 rfl rfl, rfl⟩, hM, trivial⟩) ?_
      refine oQ [oF 2, oF 3] [(65, vI 0), (64, vI (w_2.length : Int)), (63, sl A_w_2 w_2 c_w_2), (1, vP b1 0), (5, vP b15 0)] (by kernel_rfl) ?_
      refine ops_nil (fin_then (st_block ?_))
      obtain ⟨r6, hl6, hk6⟩ := obind hp
      refine st_loopP (σ := (List (Int × (Option (List (Int × (List Int)))))) × Int) (ρ := (Int ⊕ (List (Int × (Option (List (Int × (List Int)))))))) (γ := (Array MapEntry) × Nat × (Nat → Prop) × World) hl6 (#[], 0, F21, W22) (fun s_ g_ => match s_, g_ with | (l86, i88), (es84, ck85, F89, W90) => [(1, vP b1 0), (5, vP b15 0), (63, sl A_w_2 w_2 c_w_2), (64, vI (w_2.length : Int)), (65, vI i88)]) (fun s_ g_ => match s_, g_ with | (l86, i88), (es84, ck85, F89, W90) => Mem w0 (.blk b1 [sl A_w_0 w_0 c_w_0, sl A_w_1 w_1 c_w_1, sl A_w_2 w_2 c_w_2] 26 :: .blk b15 [sl A16 l18 c17, sl A9 x7 c10, .map (some g13)] 96 :: ow A16 l18 c17 86 2 y19 :: ow A9 x7 c10 3 1 y11 :: .obj g13 (.map es84 ck85) :: Fz F89 W90 :: cs)) (fun s_ g_ => match s_, g_ with | (l86, i88), (es84, ck85, F89, W90) => (MapOK (fun x_ : Int => Value.int .i64 x_) (Rep.map (fun x_ : Int => Value.int .i64 x_) (Rep.sl (Rep.int .i64)) false) false F89 W90 l86 es84 ck85) ∧ (Ext w0 F21 W22 F89 W90)) ⟨h14, (Ext.refl _ _ _)⟩ (look_has ⟨rfl, rfl, rfl, rfl, rfl, trivial⟩) (fun w_ hM => hM) ?_
      rintro ⟨l86, i88⟩ ⟨es84, ck85, F89, W90⟩ o6 ⟨h87, hx6⟩ hs_ hd6
      have hp : (tourref3_Open_l6 w_2 w_0 x7) l86 i88 = some o6 := hs_
      clear hs_
      unfold tourref3_Open_l6 at hp
      have h_w_2 := h_w_2.ext hx6
      have h_w_0 := h_w_0.ext hx6
      have h_w_1 := h_w_1.ext hx6
      have h20 := h20.ext hx6
      have h12 := h12.ext hx6
      refine st_seq (st_region [oF 0] (by rfl) ?_)
      refine oQ [oF 0] [(66, .bool (decide (i88 < (w_2.length : Int)))), (1, vP b1 0), (5, vP b15 0), (63, sl A_w_2 w_2 c_w_2), (64, vI (w_2.length : Int)), (65, vI i88)] (by kernel_rfl) ?_
      refine ops_nil (fin_then (st_seq ?_))
      refine st_if (b := decide (i88 < (w_2.length : Int))) rfl (fun hc91 => ?_) (fun hc91 => ?_)
      ·
       have hp := cnd_t hc91 hp
       refine st_skip (fin_then (st_seq (st_block (st_seq (st_region [oF 0, oF 1, oF 2, oF 3] (by rfl) ?_)))))
       obtain ⟨x92, hv93, hp⟩ := obind hp
       obtain ⟨m94, hm95, hx96⟩ := idx_some hv93
       have hl99 := (List.getElem?_eq_some_iff.1 hx96).1
       obtain ⟨ad100, vs97, hA101, hr98, hq102⟩ := RdS.el h_w_2 hx96
       obtain ⟨A103, c104, rfl, h105⟩ := dec_api_Item hr98
       refine ops_val (op := (.indexAddr 24 (.tmp 63) (.tmp 65))) (d := some 67) (v := .pointer (some (ad100.add (m94 * 3)))) ⟨by kernel_rfl⟩ (run_indexA hA101 Tryz.underlying24 (z := 3) (by kernel_rfl) rfl rfl hm95 hl99) ?_
       refine ops_mem (d := some 68) (an := [.v (vI x92.Ent.N), .v (vI x92.Ent.Gen), .v (sl A103 x92.Comps c104)]) (evs := [.load (ad100.add (m94 * 3)) (vI x92.Ent.N), .load ((ad100.add (m94 * 3)).add 1) (vI x92.Ent.Gen), .load ((ad100.add (m94 * 3)).add 2) (sl A103 x92.Comps c104)]) (v := .agg #[vI x92.Ent.N, vI x92.Ent.Gen, sl A103 x92.Comps c104]) ⟨by kernel_rfl⟩ (fun w_ hM hS => ⟨w_, ⟨hM.elcell 5 rfl hq102 0 rfl, hM.elcell 5 rfl hq102 1 rfl, hM.elcell 5 rfl hq102 2 rfl, rfl⟩, hM, trivial⟩) ?_
       refine ops_newB (d := some 9) [vI 0, vI 0, .slice none 0 0] 61 (fun b106 => ⟨by kernel_rfl⟩) (fun w_ hM hS => trivial) (fun b106 => ?_)
       refine ops_store (an := []) (evs := [sr b106 0 (vI x92.Ent.N), sr b106 1 (vI x92.Ent.Gen), sr b106 2 (sl A103 x92.Comps c104)]) ⟨by kernel_rfl⟩ (fun w_ hM hS => let ⟨w', he, h'⟩ := hM.evs_stores [vI x92.Ent.N, vI x92.Ent.Gen, sl A103 x92.Comps c104] 0 rfl 0 (Nat.le_of_ble_eq_true rfl); ⟨w', he, h', trivial⟩) ?_
       refine ops_nil (fin_then (st_seq (st_region [oF 0, oF 1, oF 2, oF 3, oF 4, oF 5, oF 6, oF 7, oF 8, oF 9] (by rfl) ?_)))
       refine oQ [oF 0] [(70, vP b1 0), (9, vP b106 0), (1, vP b1 0), (5, vP b15 0), (63, sl A_w_2 w_2 c_w_2), (64, vI (w_2.length : Int)), (65, vI i88)] (by kernel_rfl) ?_
       refine ops_mem (d := some 71) (an := [.v (sl A_w_0 w_0 c_w_0)]) (evs := [ld b1 0 (sl A_w_0 w_0 c_w_0)]) (v := sl A_w_0 w_0 c_w_0) ⟨by kernel_rfl⟩ (fun w_ hM hS => ⟨w_, ⟨hM.cell 1 rfl rfl, rfl⟩, hM, trivial⟩) ?_
       refine oQ [oF 2] [(72, vP b106 2), (71, sl A_w_0 w_0 c_w_0), (9, vP b106 0), (1, vP b1 0), (5, vP b15 0), (63, sl A_w_2 w_2 c_w_2), (64, vI (w_2.length : Int)), (65, vI i88)] (by kernel_rfl) ?_
       refine ops_mem (d := some 73) (an := [.v (sl A103 x92.Comps c104)]) (evs := [ld b106 2 (sl A103 x92.Comps c104)]) (v := sl A103 x92.Comps c104) ⟨by kernel_rfl⟩ (fun w_ hM hS => ⟨w_, ⟨hM.cell 0 rfl rfl, rfl⟩, hM, trivial⟩) ?_
       obtain ⟨x107, x108, hv109, hp⟩ := obind2 hp
       refine ops_callI (σ := (Option Nat) × (Nat → Prop) × World) (d := some 74) (f := 9) (args := #[sl A_w_0 w_0 c_w_0, sl A103 x92.Comps c104]) (v := (fun x_ => match x_ with | (B110, F111, W112) => .tuple #[.map B110, vI x108])) (I := (fun x_ => match x_ with | (B110, F111, W112) => (RdM (fun x_ : Int => Value.int .i64 x_) (Rep.sl (Rep.int .i64)) false F111 W112 B110 x107) ∧ (Ext w0 F89 W90 F111 W112))) (M' := (fun x_ => match x_ with | (B110, F111, W112) => Mem w0 (.blk b106 [vI x92.Ent.N, vI x92.Ent.Gen, sl A103 x92.Comps c104] 61 :: .blk b1 [sl A_w_0 w_0 c_w_0, sl A_w_1 w_1 c_w_1, sl A_w_2 w_2 c_w_2] 26 :: .blk b15 [sl A16 l18 c17, sl A9 x7 c10, .map (some g13)] 96 :: ow A16 l18 c17 86 2 y19 :: ow A9 x7 c10 3 1 y11 :: .obj g13 (.map es84 ck85) :: Fz F111 W112 :: cs))) ⟨by kernel_rfl⟩ (fun w_ hM hS => (tourref3_FittedAll_ok w0 w_ (.blk b106 [vI x92.Ent.N, vI x92.Ent.Gen, sl A103 x92.Comps c104] 61 :: .blk b1 [sl A_w_0 w_0 c_w_0, sl A_w_1 w_1 c_w_1, sl A_w_2 w_2 c_w_2] 26 :: .blk b15 [sl A16 l18 c17, sl A9 x7 c10, .map (some g13)] 96 :: ow A16 l18 c17 86 2 y19 :: ow A9 x7 c10 3 1 y11 :: .obj g13 (.map es84 ck85) :: cs) F89 W90 A_w_0 c_w_0 w_0 A103 c104 x92.Comps (hM.pick 7 [6, 0, 1, 2, 3, 4, 5] (by kernel_rfl) (by decide) rfl) h_w_0 h105 x107 x108 hv109).mono (by rintro e w' ⟨B110, F111, W112, ⟨h113, h114⟩, rfl, h'⟩; have h' : Mem w0 (.blk b106 [vI x92.Ent.N, vI x92.Ent.Gen, sl A103 x92.Comps c104] 61 :: .blk b1 [sl A_w_0 w_0 c_w_0, sl A_w_1 w_1 c_w_1, sl A_w_2 w_2 c_w_2] 26 :: .blk b15 [sl A16 l18 c17, sl A9 x7 c10, .map (some g13)] 96 :: ow A16 l18 c17 86 2 y19 :: ow A9 x7 c10 3 1 y11 :: .obj g13 (.map es84 ck85) :: Fz F111 W112 :: cs) w' := (h'.pick 7 [1, 2, 3, 4, 5, 6, 0] (by kernel_rfl) (by decide) rfl); exact ⟨(B110, F111, W112), ⟨h113, h114⟩, rfl, h', trivial⟩)) ?_
       rintro ⟨B110, F111, W112⟩ ⟨h113, h114⟩
       have h105 := h105.ext h114
       have h_w_0 := h_w_0.ext h114
       have h_w_2 := h_w_2.ext h114
       have h_w_1 := h_w_1.ext h114
       have h20 := h20.ext h114
       have h12 := h12.ext h114
       have h87 := h87.ext h114
       refine oQ [oF 5, oF 6, oF 7, oF 8, oF 9] [(11, vI x108), (10, .map B110), (9, vP b106 0), (1, vP b1 0), (5, vP b15 0), (63, sl A_w_2 w_2 c_w_2), (64, vI (w_2.length : Int)), (65, vI i88)] (by kernel_rfl) ?_
       refine ops_nil (fin_then (st_seq (st_seq ?_)))
       refine st_region_fast tourref3_Open__t1 [oT 0, oT 1, oT 2, oT 3, oT 4, oT 5, oT 6, oT 7, oT 8, oT 9, oT 10, oT 11, oT 12, oT 13, oT 14, oT 15, oT 16, oT 17, oT 18] (Mem w0 (.blk b106 [vI x92.Ent.N, vI x92.Ent.Gen, sl A103 x92.Comps c104] 61 :: .blk b1 [sl A_w_0 w_0 c_w_0, sl A_w_1 w_1 c_w_1, sl A_w_2 w_2 c_w_2] 26 :: .blk b15 [sl A16 l18 c17, sl A9 x7 c10, .map (some g13)] 96 :: ow A16 l18 c17 86 2 y19 :: ow A9 x7 c10 3 1 y11 :: .obj g13 (.map es84 ck85) :: Fz F111 W112 :: cs)) (by kernel_rfl) (by kernel_rfl) (by kernel_rfl) (by kernel_rfl) (by kernel_rfl) (fun _ d _ _ _ h => by cases d <;> exact h) (M' := Mem w0 (.blk b106 [vI x92.Ent.N, vI x92.Ent.Gen, sl A103 x92.Comps c104] 61 :: .blk b1 [sl A_w_0 w_0 c_w_0, sl A_w_1 w_1 c_w_1, sl A_w_2 w_2 c_w_2] 26 :: .blk b15 [sl A16 l18 c17, sl A9 x7 c10, .map (some g13)] 96 :: ow A16 l18 c17 86 2 y19 :: ow A9 x7 c10 3 1 y11 :: .obj g13 (.map es84 ck85) :: Fz F111 W112 :: cs)) (fun w_ hM => ⟨hM.drew, hM.drew.sub (.cons_cons _ (.cons_cons _ (.cons_cons _ (.cons_cons _ (.cons_cons _ (.cons_cons _ (.cons_cons _ (.refl _))))))))⟩) ?_
       refine oQ [oT 0, oT 1, oT 2] [(79, .bool (!(x108 == 0))), (10, .map B110), (9, vP b106 0), (1, vP b1 0), (5, vP b15 0), (63, sl A_w_2 w_2 c_w_2), (64, vI (w_2.length : Int)), (65, vI i88)] (by kernel_rfl) ?_
       refine ops_bool (t := !(x108 == 0)) (l1 := [(79, .bool true), (10, .map B110), (9, vP b106 0), (1, vP b1 0), (5, vP b15 0), (63, sl A_w_2 w_2 c_w_2), (64, vI (w_2.length : Int)), (65, vI i88)]) (l2 := [(79, .bool false), (10, .map B110), (9, vP b106 0), (1, vP b1 0), (5, vP b15 0), (63, sl A_w_2 w_2 c_w_2), (64, vI (w_2.length : Int)), (65, vI i88)]) (fun h => by rw [h]) (fun h => by rw [h]) (fun hc115 => ?_) (fun hc115 => ?_)
       ·
        have hp := cnd_t hc115 hp
        refine oQ [oT 3, oT 4, oT 5, oT 6, oT 7, oT 8, oT 9, oT 10, oT 11, oT 12, oT 13, oT 14, oT 15, oT 16, oT 17, oT 18] [(95, .bool true), (10, .map B110), (9, vP b106 0), (1, vP b1 0), (5, vP b15 0), (63, sl A_w_2 w_2 c_w_2), (64, vI (w_2.length : Int)), (65, vI i88)] (by kernel_rfl) ?_
        refine ops_nil (fin_then (st_true rfl (st_seq (st_region [oF 0, oF 1] (by rfl) ?_))))
        refine oQ [oF 0, oF 1] [(3, vI 3), (2, .pointer none)] (by kernel_rfl) ?_
        refine ops_nil (fin_then (st_ret (fin_ret_then (fin_ret_block (fin_ret_then (fin_ret_then (fin_ret_block (fin_ret_then ?_))))))))
        obtain hq_ := Option.some.inj hp
        subst hq_
        obtain hq_ := hd6 _ rfl
        subst hq_
        have hp : some (.inl 3) = some r_ := hk6
        have hq_ := Option.some.inj hp
        subst hq_
        refine fin_ret [.tmp 2, .tmp 3] [.pointer none, vI 3] rfl rfl (fun w_ hM => (.tmp rfl (.tmp rfl .nil))) (fun w_ hM => ?_)
        refine (isel_l ?_)
        exact ⟨F111, W112, ((hx1.trans hx6).trans h114), rfl, hM.pick 7 [6] (by kernel_rfl) (by decide) rfl⟩
       ·
        have hp := cnd_f hc115 hp
        refine oQ [oT 3, oT 4] [(81, vP b106 0), (79, .bool false), (10, .map B110), (9, vP b106 0), (1, vP b1 0), (5, vP b15 0), (63, sl A_w_2 w_2 c_w_2), (64, vI (w_2.length : Int)), (65, vI i88)] (by kernel_rfl) ?_
        refine ops_load (d := some 82) (an := [.v (vI x92.Ent.N)]) (evs := [ld b106 0 (vI x92.Ent.N)]) (v := vI x92.Ent.N) ⟨by kernel_rfl⟩ (fun w_ hM => ⟨hM.cell 0 rfl rfl, rfl⟩) ?_
        refine oQ [oT 6, oT 7, oT 8] [(85, .bool (decide (x92.Ent.N < 0))), (10, .map B110), (9, vP b106 0), (1, vP b1 0), (5, vP b15 0), (63, sl A_w_2 w_2 c_w_2), (64, vI (w_2.length : Int)), (65, vI i88)] (by kernel_rfl) ?_
        refine ops_bool (t := decide (x92.Ent.N < 0)) (l1 := [(85, .bool true), (10, .map B110), (9, vP b106 0), (1, vP b1 0), (5, vP b15 0), (63, sl A_w_2 w_2 c_w_2), (64, vI (w_2.length : Int)), (65, vI i88)]) (l2 := [(85, .bool false), (10, .map B110), (9, vP b106 0), (1, vP b1 0), (5, vP b15 0), (63, sl A_w_2 w_2 c_w_2), (64, vI (w_2.length : Int)), (65, vI i88)]) (fun h => by rw [h]) (fun h => by rw [h]) (fun hc116 => ?_) (fun hc116 => ?_)
        ·
         have hp := cnd_t hc116 hp
         refine oQ [oT 9, oT 10, oT 11, oT 12, oT 13, oT 14, oT 15, oT 16, oT 17, oT 18] [(95, .bool true), (10, .map B110), (9, vP b106 0), (1, vP b1 0), (5, vP b15 0), (63, sl A_w_2 w_2 c_w_2), (64, vI (w_2.length : Int)), (65, vI i88)] (by kernel_rfl) ?_
         refine ops_nil (fin_then (st_true rfl (st_seq (st_region [oF 0, oF 1] (by rfl) ?_))))
         refine oQ [oF 0, oF 1] [(3, vI 3), (2, .pointer none)] (by kernel_rfl) ?_
         refine ops_nil (fin_then (st_ret (fin_ret_then (fin_ret_block (fin_ret_then (fin_ret_then (fin_ret_block (fin_ret_then ?_))))))))
         obtain hq_ := Option.some.inj hp
         subst hq_
         obtain hq_ := hd6 _ rfl
         subst hq_
         have hp : some (.inl 3) = some r_ := hk6
         have hq_ := Option.some.inj hp
         subst hq_
         refine fin_ret [.tmp 2, .tmp 3] [.pointer none, vI 3] rfl rfl (fun w_ hM => (.tmp rfl (.tmp rfl .nil))) (fun w_ hM => ?_)
         refine (isel_l ?_)
         exact ⟨F111, W112, ((hx1.trans hx6).trans h114), rfl, hM.pick 7 [6] (by kernel_rfl) (by decide) rfl⟩
        ·
         have hp := cnd_f hc116 hp
         refine oQ [oT 9, oT 10] [(87, vP b106 0), (85, .bool false), (10, .map B110), (9, vP b106 0), (1, vP b1 0), (5, vP b15 0), (63, sl A_w_2 w_2 c_w_2), (64, vI (w_2.length : Int)), (65, vI i88)] (by kernel_rfl) ?_
         refine ops_load (d := some 88) (an := [.v (vI x92.Ent.N)]) (evs := [ld b106 0 (vI x92.Ent.N)]) (v := vI x92.Ent.N) ⟨by kernel_rfl⟩ (fun w_ hM => ⟨hM.cell 0 rfl rfl, rfl⟩) ?_
         refine oQ [oT 12, oT 13, oT 14] [(91, vP b15 1), (88, vI x92.Ent.N), (85, .bool false), (10, .map B110), (9, vP b106 0), (1, vP b1 0), (5, vP b15 0), (63, sl A_w_2 w_2 c_w_2), (64, vI (w_2.length : Int)), (65, vI i88)] (by kernel_rfl) ?_
         refine ops_load (d := some 92) (an := [.v (sl A9 x7 c10)]) (evs := [ld b15 1 (sl A9 x7 c10)]) (v := sl A9 x7 c10) ⟨by kernel_rfl⟩ (fun w_ hM => ⟨hM.cell 2 rfl rfl, rfl⟩) ?_
         refine oQ [oT 16, oT 17, oT 18] [(95, .bool (decide ((x7.length : Int) ≤ x92.Ent.N))), (10, .map B110), (9, vP b106 0), (1, vP b1 0), (5, vP b15 0), (63, sl A_w_2 w_2 c_w_2), (64, vI (w_2.length : Int)), (65, vI i88)] (by kernel_rfl) ?_
         refine ops_nil (fin_then ?_)
         refine st_if (b := decide ((x7.length : Int) ≤ x92.Ent.N)) rfl (fun hc117 => ?_) (fun hc117 => ?_)
         ·
          have hp := cnd_t hc117 hp
          refine st_seq (st_region [oF 0, oF 1] (by rfl) ?_)
          refine oQ [oF 0, oF 1] [(3, vI 3), (2, .pointer none)] (by kernel_rfl) ?_
          refine ops_nil (fin_then (st_ret (fin_ret_then (fin_ret_block (fin_ret_then (fin_ret_then (fin_ret_block (fin_ret_then ?_))))))))
          obtain hq_ := Option.some.inj hp
          subst hq_
          obtain hq_ := hd6 _ rfl
          subst hq_
          have hp : some (.inl 3) = some r_ := hk6
          have hq_ := Option.some.inj hp
          subst hq_
          refine fin_ret [.tmp 2, .tmp 3] [.pointer none, vI 3] rfl rfl (fun w_ hM => (.tmp rfl (.tmp rfl .nil))) (fun w_ hM => ?_)
          refine (isel_l ?_)
          exact ⟨F111, W112, ((hx1.trans hx6).trans h114), rfl, hM.pick 7 [6] (by kernel_rfl) (by decide) rfl⟩
         ·
          have hp := cnd_f hc117 hp
          refine st_skip (fin_then ?_)
          refine st_region_draw [oT 0, oT 1, oT 2, oT 3, oT 4, oT 5, oT 6, oT 7, oF 8] (Mem w0 (.blk b106 [vI x92.Ent.N, vI x92.Ent.Gen, sl A103 x92.Comps c104] 61 :: .blk b1 [sl A_w_0 w_0 c_w_0, sl A_w_1 w_1 c_w_1, sl A_w_2 w_2 c_w_2] 26 :: .blk b15 [sl A16 l18 c17, sl A9 x7 c10, .map (some g13)] 96 :: ow A16 l18 c17 86 2 y19 :: ow A9 x7 c10 3 1 y11 :: Fz F111 W112 :: cs)) (by kernel_rfl) (by kernel_rfl) (by kernel_rfl) (fun _ d _ _ _ h => by cases d <;> exact h) (M' := Mem w0 (.blk b106 [vI x92.Ent.N, vI x92.Ent.Gen, sl A103 x92.Comps c104] 61 :: .blk b1 [sl A_w_0 w_0 c_w_0, sl A_w_1 w_1 c_w_1, sl A_w_2 w_2 c_w_2] 26 :: .blk b15 [sl A16 l18 c17, sl A9 x7 c10, .map (some g13)] 96 :: ow A16 l18 c17 86 2 y19 :: ow A9 x7 c10 3 1 y11 :: .obj g13 (.map es84 ck85) :: Fz F111 W112 :: cs)) (fun w_ hM => ⟨hM.drew, hM.drew.sub (.cons_cons _ (.cons_cons _ (.cons_cons _ (.cons_cons _ (.cons_cons _ (.cons _ (.cons_cons _ (.refl _))))))))⟩) ?_
          refine oQ [oT 0, oT 1, oT 2] [(98, vP b15 2), (10, .map B110), (9, vP b106 0), (1, vP b1 0), (5, vP b15 0), (63, sl A_w_2 w_2 c_w_2), (64, vI (w_2.length : Int)), (65, vI i88)] (by kernel_rfl) ?_
          refine ops_load (d := some 99) (an := [.v (.map (some g13))]) (evs := [ld b15 2 (.map (some g13))]) (v := .map (some g13)) ⟨by kernel_rfl⟩ (fun w_ hM => ⟨hM.cell 2 rfl rfl, rfl⟩) ?_
          refine oQ [oT 4, oT 5] [(101, vP b106 0), (99, .map (some g13)), (10, .map B110), (1, vP b1 0), (5, vP b15 0), (63, sl A_w_2 w_2 c_w_2), (64, vI (w_2.length : Int)), (65, vI i88)] (by kernel_rfl) ?_
          refine ops_load (d := some 102) (an := [.v (vI x92.Ent.N)]) (evs := [ld b106 0 (vI x92.Ent.N)]) (v := vI x92.Ent.N) ⟨by kernel_rfl⟩ (fun w_ hM => ⟨hM.cell 0 rfl rfl, rfl⟩) ?_
          refine oQ [oT 7] [(103, .map B110), (102, vI x92.Ent.N), (99, .map (some g13)), (1, vP b1 0), (5, vP b15 0), (63, sl A_w_2 w_2 c_w_2), (64, vI (w_2.length : Int)), (65, vI i88)] (by kernel_rfl) ?_
          obtain ⟨l118, hv119, hp⟩ := obind hp
          obtain ⟨es120, ck121, h122, hrun123⟩ := MapOK.update h87 (KeyLaw.int Tryz.underlying3) Tryz.underlying94 x92.Ent.N (v := x107) (vs := [.map B110]) (⟨_, rfl, h113⟩)
          rw [Option.some.inj hv119] at h122
          refine ops_unit (op := (.mapUpdate 94 (.tmp 99) (.tmp 102) (.tmp 103))) (σ := Unit) (M' := fun _ => Mem w0 (.blk b106 [vI x92.Ent.N, vI x92.Ent.Gen, sl A103 x92.Comps c104] 61 :: .blk b1 [sl A_w_0 w_0 c_w_0, sl A_w_1 w_1 c_w_1, sl A_w_2 w_2 c_w_2] 26 :: .blk b15 [sl A16 l18 c17, sl A9 x7 c10, .map (some g13)] 96 :: ow A16 l18 c17 86 2 y19 :: ow A9 x7 c10 3 1 y11 :: .obj g13 (.map es120 ck121) :: Fz F111 W112 :: cs)) ⟨by kernel_rfl⟩ (fun o_ w_ ho_ hM hS => have h' := hM.setObj 5 rfl _; ⟨(), _, run_updateV rfl rfl rfl (hrun123 g13 w_ (hM.mapAt 5 rfl)) o_ ho_, h', (by exact h'.sub (.cons_cons _ (.cons_cons _ (.cons_cons _ (.cons_cons _ (.cons_cons _ (.cons _ (.cons_cons _ (.refl _)))))))))⟩) (fun _ => ?_)
          refine ops_nil (fin_block (fin_then (st_region [oF 0, oF 1] (by rfl) ?_)))
          refine oQ [oF 0, oF 1] [(65, vI (IntKind.i64.wrap (i88 + 1))), (1, vP b1 0), (5, vP b15 0), (63, sl A_w_2 w_2 c_w_2), (64, vI (w_2.length : Int))] (by kernel_rfl) ?_
          refine ops_nil ?_
          exact fin_again (l118, IntKind.i64.wrap (i88 + 1)) (es120, ck121, F111, W112) (Option.some.inj hp).symm ⟨h122, (hx6.trans h114)⟩ (look_has ⟨rfl, rfl, rfl, rfl, rfl, trivial⟩) (fun w_ hM => hM.pick 7 [1, 2, 3, 4, 5, 6] (by kernel_rfl) (by decide) rfl)
      ·
       have hp := cnd_f hc91 hp
       refine st_exit (fin_exit_then (fin_exit_then (fin_exit ?_)))
       obtain hq_ := Option.some.inj hp
       subst hq_
       obtain hq_ := hd6 _ rfl
       subst hq_
       have hp : (tourref3_Open_j2 x7 l18 w_0 w_1 w_2) l86 = some r_ := hk6
       exact fin_join HJ2 (es84, ck85, l86, F89, W90) ⟨hp, h87, hx6⟩ (look_has ⟨rfl, rfl, trivial⟩) (fun w_ hM => hM)
    ·
     intro HJ1
     refine st_seq (st_seq (st_region [oF 0, oF 1, oF 2, oF 3] (by rfl) ?_))
     refine oQ [oF 0] [(39, vP b1 0), (5, vP b15 0), (1, vP b1 0)] (by kernel_rfl) ?_
     refine ops_mem (d := some 40) (an := [.v (sl A_w_0 w_0 c_w_0)]) (evs := [ld b1 0 (sl A_w_0 w_0 c_w_0)]) (v := sl A_w_0 w_0 c_w_0) ⟨by kernel_rfl⟩ (fun w_ hM hS => ⟨w_, ⟨hM.cell 3 rfl rfl, rfl⟩, hM, trivial⟩) ?_
     refine oQ [oF 2, oF 3] [(42, vI 0), (41, vI (w_0.length : Int)), (40, sl A_w_0 w_0 c_w_0), (5, vP b15 0), (1, vP b1 0)] (by kernel_rfl) ?_
     refine ops_nil (fin_then (st_block ?_))
     refine st_conv (l' := [(42, vI 0), (41, vI (w_0.length : Int)), (40, sl A_w_0 w_0 c_w_0), (5, vP b15 0), (1, vP b1 0)]) (M' := Mem w0 (ow none ([] : List api_Kind) 0 86 2 [] :: .blk b15 [.slice none 0 0, sl A9 x7 c10, .map (some g13)] 96 :: .obj g13 (.map #[] 0) :: ow A9 x7 c10 3 1 y11 :: .blk b1 [sl A_w_0 w_0 c_w_0, sl A_w_1 w_1 c_w_1, sl A_w_2 w_2 c_w_2] 26 :: Fz F W :: cs)) rfl (fun w_ h => h.onil none 86 2) ?_
     obtain ⟨r7, hl7, hk7⟩ := obind hp
     refine st_loopP (σ := (List api_Kind) × Int) (ρ := (List api_Kind)) (γ := (Option Addr) × Nat × (List Value) × (Nat → Prop) × World) hl7 (none, 0, [], F, W) (fun s_ g_ => match s_, g_ with | (l130, i133), (A128, c129, y131, F134, W135) => [(1, vP b1 0), (5, vP b15 0), (40, sl A_w_0 w_0 c_w_0), (41, vI (w_0.length : Int)), (42, vI i133)]) (fun s_ g_ => match s_, g_ with | (l130, i133), (A128, c129, y131, F134, W135) => Mem w0 (.blk b1 [sl A_w_0 w_0 c_w_0, sl A_w_1 w_1 c_w_1, sl A_w_2 w_2 c_w_2] 26 :: .blk b15 [sl A128 l130 c129, sl A9 x7 c10, .map (some g13)] 96 :: ow A128 l130 c129 86 2 y131 :: ow A9 x7 c10 3 1 y11 :: .obj g13 (.map #[] 0) :: Fz F134 W135 :: cs)) (fun s_ g_ => match s_, g_ with | (l130, i133), (A128, c129, y131, F134, W135) => (RepL R_api_Kind F134 W135 l130 y131) ∧ (Ext w0 F W F134 W135)) ⟨(RepL.nil (R := R_api_Kind)), (Ext.refl _ _ _)⟩ (look_has ⟨rfl, rfl, rfl, rfl, rfl, trivial⟩) (fun w_ hM => hM.pick 6 [4, 1, 0, 3, 2, 5] (by kernel_rfl) (by decide) rfl) ?_
     rintro ⟨l130, i133⟩ ⟨A128, c129, y131, F134, W135⟩ o7 ⟨h132, hx7⟩ hs_ hd7
     have hp : (tourref3_Open_l7 w_0) l130 i133 = some o7 := hs_
     clear hs_
     unfold tourref3_Open_l7 at hp
     have h_w_0 := h_w_0.ext hx7
     have h_w_1 := h_w_1.ext hx7
     have h_w_2 := h_w_2.ext hx7
     have h12 := h12.ext hx7
     have h14 := h14.ext hx7
     refine st_seq (st_region [oF 0] (by rfl) ?_)
     refine oQ [oF 0] [(43, .bool (decide (i133 < (w_0.length : Int)))), (1, vP b1 0), (5, vP b15 0), (40, sl A_w_0 w_0 c_w_0), (41, vI (w_0.length : Int)), (42, vI i133)] (by kernel_rfl) ?_
     refine ops_nil (fin_then (st_seq ?_))
     refine st_if (b := decide (i133 < (w_0.length : Int))) rfl (fun hc136 => ?_) (fun hc136 => ?_)
     ·
      have hp := cnd_t hc136 hp
      refine st_skip (fin_then ?_)
      refine st_join1 (σ := (Option Addr) × Nat × (List api_Kind) × (List Value) × (Nat → Prop) × World) (L := fun x_ => match x_ with | (A137, c138, l139, y140, F142, W143) => [(1, vP b1 0), (5, vP b15 0), (40, sl A_w_0 w_0 c_w_0), (41, vI (w_0.length : Int)), (42, vI i133)]) (N := fun x_ => match x_ with | (A137, c138, l139, y140, F142, W143) => Mem w0 (.blk b1 [sl A_w_0 w_0 c_w_0, sl A_w_1 w_1 c_w_1, sl A_w_2 w_2 c_w_2] 26 :: .blk b15 [sl A137 l139 c138, sl A9 x7 c10, .map (some g13)] 96 :: ow A137 l139 c138 86 2 y140 :: ow A9 x7 c10 3 1 y11 :: .obj g13 (.map #[] 0) :: Fz F142 W143 :: cs)) (I := fun x_ => match x_ with | (A137, c138, l139, y140, F142, W143) => ((tourref3_Open_j8 i133) l139 = some o7) ∧ (RepL R_api_Kind F142 W143 l139 y140) ∧ (Ext w0 F134 W135 F142 W143)) ?_ ?_
      ·
       rintro ⟨A137, c138, l139, y140, F142, W143⟩ ⟨hp, h141, hx8⟩
       have h_w_0 := h_w_0.ext hx8
       have h_w_1 := h_w_1.ext hx8
       have h_w_2 := h_w_2.ext hx8
       have h12 := h12.ext hx8
       have h14 := h14.ext hx8
       unfold tourref3_Open_j8 at hp
       refine st_region [oF 0, oF 1] (by rfl) ?_
       refine oQ [oF 0, oF 1] [(42, vI (IntKind.i64.wrap (i133 + 1))), (1, vP b1 0), (5, vP b15 0), (40, sl A_w_0 w_0 c_w_0), (41, vI (w_0.length : Int))] (by kernel_rfl) ?_
       refine ops_nil ?_
       exact fin_again (l139, IntKind.i64.wrap (i133 + 1)) (A137, c138, y140, F142, W143) (Option.some.inj hp).symm ⟨h141, (hx7.trans hx8)⟩ (look_has ⟨rfl, rfl, rfl, rfl, rfl, trivial⟩) (fun w_ hM => hM)
      ·
       intro HJ8
       refine st_seq (st_block (st_seq (st_region [oF 0, oF 1, oF 2, oF 3] (by rfl) ?_)))
       obtain ⟨x144, hv145, hp⟩ := obind hp
       obtain ⟨m146, hm147, hx148⟩ := idx_some hv145
       have hl151 := (List.getElem?_eq_some_iff.1 hx148).1
       obtain ⟨ad152, vs149, hA153, hr150, hq154⟩ := RdS.el h_w_0 hx148
       obtain ⟨A155, c156, rfl, h157⟩ := dec_api_Kind hr150
       refine ops_val (op := (.indexAddr 22 (.tmp 40) (.tmp 42))) (d := some 44) (v := .pointer (some (ad152.add (m146 * 2)))) ⟨by kernel_rfl⟩ (run_indexA hA153 Tryz.underlying22 (z := 2) (by kernel_rfl) rfl rfl hm147 hl151) ?_
       refine ops_mem (d := some 45) (an := [.v (.string x144.Name), .v (sl A155 x144.Fields c156)]) (evs := [.load (ad152.add (m146 * 2)) (.string x144.Name), .load ((ad152.add (m146 * 2)).add 1) (sl A155 x144.Fields c156)]) (v := .agg #[.string x144.Name, sl A155 x144.Fields c156]) ⟨by kernel_rfl⟩ (fun w_ hM hS => ⟨w_, ⟨hM.elcell 5 rfl hq154 0 rfl, hM.elcell 5 rfl hq154 1 rfl, rfl⟩, hM, trivial⟩) ?_
       refine ops_newB (d := some 7) [.string ByteArray.empty, .slice none 0 0] 86 (fun b158 => ⟨by kernel_rfl⟩) (fun w_ hM hS => trivial) (fun b158 => ?_)
       refine ops_store (an := []) (evs := [sr b158 0 (.string x144.Name), sr b158 1 (sl A155 x144.Fields c156)]) ⟨by kernel_rfl⟩ (fun w_ hM hS => let ⟨w', he, h'⟩ := hM.evs_stores [.string x144.Name, sl A155 x144.Fields c156] 0 rfl 0 (Nat.le_of_ble_eq_true rfl); ⟨w', he, h', trivial⟩) ?_
       refine ops_nil (fin_then ?_)
       obtain ⟨x159, hv160, hp⟩ := obind hp
       obtain ⟨l171, hv172, hp⟩ := obind hp
       refine st_region_treeF tourref3_Open__t0 16 (.node [oT 0, oT 1, oT 2, oT 3, oT 5, oT 6, oT 7, oT 8] (.leaf [oF 4, oF 9, oT 10, oF 11, oF 12, oT 13, oT 14, oF 15]) (.node [oF 9, oT 10] (.leaf [oF 4, oF 11, oF 12, oT 13, oT 14, oF 15]) (.leaf [oF 11, oF 4, oF 12, oT 13, oT 14, oF 15]))) (Mem w0 (.blk b158 [.string x144.Name, sl A155 x144.Fields c156] 86 :: .blk b1 [sl A_w_0 w_0 c_w_0, sl A_w_1 w_1 c_w_1, sl A_w_2 w_2 c_w_2] 26 :: ow A9 x7 c10 3 1 y11 :: .obj g13 (.map #[] 0) :: Fz F134 W135 :: cs)) (by kernel_rfl) (by kernel_rfl) (by kernel_rfl) (by kernel_rfl) (by kernel_rfl) (fun _ d _ _ _ h => by cases d <;> exact h) (M' := Mem w0 (.blk b158 [.string x144.Name, sl A155 x144.Fields c156] 86 :: .blk b1 [sl A_w_0 w_0 c_w_0, sl A_w_1 w_1 c_w_1, sl A_w_2 w_2 c_w_2] 26 :: .blk b15 [sl A128 l130 c129, sl A9 x7 c10, .map (some g13)] 96 :: ow A128 l130 c129 86 2 y131 :: ow A9 x7 c10 3 1 y11 :: .obj g13 (.map #[] 0) :: Fz F134 W135 :: cs)) (fun w_ hM => ⟨hM.drew, hM.drew.sub (.cons_cons _ (.cons_cons _ (.cons _ (.cons _ (.cons_cons _ (.cons_cons _ (.cons_cons _ (.refl _))))))))⟩) ?_
       refine tree_node ?_
       refine oQ [oT 0, oT 1, oT 2, oT 3, oT 5] [(51, vP b158 0), (49, vP b15 0), (46, vP b15 0), (7, vP b158 0), (1, vP b1 0), (5, vP b15 0), (40, sl A_w_0 w_0 c_w_0), (41, vI (w_0.length : Int)), (42, vI i133)] (by kernel_rfl) ?_
       refine ops_load (d := some 52) (an := [.v (.string x144.Name)]) (evs := [ld b158 0 (.string x144.Name)]) (v := .string x144.Name) ⟨by kernel_rfl⟩ (fun w_ hM => ⟨hM.cell 0 rfl rfl, rfl⟩) ?_
       refine oQ [oT 7] [(53, vP b158 1), (52, .string x144.Name), (49, vP b15 0), (46, vP b15 0), (1, vP b1 0), (5, vP b15 0), (40, sl A_w_0 w_0 c_w_0), (41, vI (w_0.length : Int)), (42, vI i133)] (by kernel_rfl) ?_
       refine ops_load (d := some 54) (an := [.v (sl A155 x144.Fields c156)]) (evs := [ld b158 1 (sl A155 x144.Fields c156)]) (v := sl A155 x144.Fields c156) ⟨by kernel_rfl⟩ (fun w_ hM => ⟨hM.cell 0 rfl rfl, rfl⟩) ?_
       refine ops_nil ?_
       refine tree_both ?_ ?_
       ·
        refine tree_leaf ?_
        refine ops_mem (d := some 50) (an := [.v (sl A128 l130 c129)]) (evs := [ld b15 0 (sl A128 l130 c129)]) (v := sl A128 l130 c129) ⟨by kernel_rfl⟩ (fun w_ hM hS => ⟨w_, ⟨hM.cell 2 rfl rfl, rfl⟩, hM, hS⟩) ?_
        refine ops_callI (σ := (Option Addr) × Nat × (List Value)) (d := some 55) (f := 50) (args := #[sl A155 x144.Fields c156]) (v := (fun x_ => match x_ with | (A173, c174, y175) => sl A173 x159 c174)) (I := (fun x_ => match x_ with | (A173, c174, y175) => (RepL R_api_Field F134 W135 x159 y175))) (M' := (fun x_ => match x_ with | (A173, c174, y175) => Mem w0 (ow A173 x159 c174 99 3 y175 :: .blk b158 [.string x144.Name, sl A155 x144.Fields c156] 86 :: .blk b1 [sl A_w_0 w_0 c_w_0, sl A_w_1 w_1 c_w_1, sl A_w_2 w_2 c_w_2] 26 :: .blk b15 [sl A128 l130 c129, sl A9 x7 c10, .map (some g13)] 96 :: ow A128 l130 c129 86 2 y131 :: ow A9 x7 c10 3 1 y11 :: .obj g13 (.map #[] 0) :: Fz F134 W135 :: cs))) ⟨by kernel_rfl⟩ (fun w_ hM hS => (slices_Clone_api_Field_api_Field_ok w0 w_ (.blk b158 [.string x144.Name, sl A155 x144.Fields c156] 86 :: .blk b1 [sl A_w_0 w_0 c_w_0, sl A_w_1 w_1 c_w_1, sl A_w_2 w_2 c_w_2] 26 :: .blk b15 [sl A128 l130 c129, sl A9 x7 c10, .map (some g13)] 96 :: ow A128 l130 c129 86 2 y131 :: ow A9 x7 c10 3 1 y11 :: .obj g13 (.map #[] 0) :: cs) F134 W135 A155 c156 x144.Fields (hM.pick 7 [6, 0, 1, 2, 3, 4, 5] (by kernel_rfl) (by decide) rfl) h157 x159 hv160).mono (by rintro e w' ⟨A173, c174, y175, h176, rfl, h'⟩; have h' : Mem w0 (ow A173 x159 c174 99 3 y175 :: .blk b158 [.string x144.Name, sl A155 x144.Fields c156] 86 :: .blk b1 [sl A_w_0 w_0 c_w_0, sl A_w_1 w_1 c_w_1, sl A_w_2 w_2 c_w_2] 26 :: .blk b15 [sl A128 l130 c129, sl A9 x7 c10, .map (some g13)] 96 :: ow A128 l130 c129 86 2 y131 :: ow A9 x7 c10 3 1 y11 :: .obj g13 (.map #[] 0) :: Fz F134 W135 :: cs) w' := (h'.pick 8 [0, 2, 3, 4, 5, 6, 7, 1] (by kernel_rfl) (by decide) rfl); exact ⟨(A173, c174, y175), h176, rfl, h', (by exact h'.sub (.cons _ (.cons_cons _ (.cons_cons _ (.cons _ (.cons _ (.cons_cons _ (.cons_cons _ (.cons_cons _ (.refl _))))))))))⟩)) ?_
        rintro ⟨A173, c174, y175⟩ h176
        refine oQ [oT 10] [(56, .agg #[.string x144.Name, sl A173 x159 c174]), (50, sl A128 l130 c129), (46, vP b15 0), (1, vP b1 0), (5, vP b15 0), (40, sl A_w_0 w_0 c_w_0), (41, vI (w_0.length : Int)), (42, vI i133)] (by kernel_rfl) ?_
        refine ops_ex (σ := (Nat → Prop) × World) (I := fun x_ => Ext w0 F134 W135 x_.1 x_.2 ∧ RdS R_api_Field x_.1 x_.2 A173 c174 x159) (M' := fun x_ => Mem w0 (.blk b158 [.string x144.Name, sl A155 x144.Fields c156] 86 :: .blk b1 [sl A_w_0 w_0 c_w_0, sl A_w_1 w_1 c_w_1, sl A_w_2 w_2 c_w_2] 26 :: .blk b15 [sl A128 l130 c129, sl A9 x7 c10, .map (some g13)] 96 :: ow A128 l130 c129 86 2 y131 :: ow A9 x7 c10 3 1 y11 :: .obj g13 (.map #[] 0) :: Fz x_.1 x_.2 :: cs)) (fun w_ hM => ?_) ?_
        · obtain ⟨F_, h1_, h2_, h3_⟩ := (hM.pick 8 [0, 7, 1, 2, 3, 4, 5, 6] (by kernel_rfl) (by decide) rfl : Mem w0 (ow A173 x159 c174 99 3 y175 :: Fz F134 W135 :: .blk b158 [.string x144.Name, sl A155 x144.Fields c156] 86 :: .blk b1 [sl A_w_0 w_0 c_w_0, sl A_w_1 w_1 c_w_1, sl A_w_2 w_2 c_w_2] 26 :: .blk b15 [sl A128 l130 c129, sl A9 x7 c10, .map (some g13)] 96 :: ow A128 l130 c129 86 2 y131 :: ow A9 x7 c10 3 1 y11 :: .obj g13 (.map #[] 0) :: cs) w_).freeze (z := 3) h176 rfl rfl
          exact ⟨(F_, w_), ⟨h1_, h2_⟩, h3_.pick 7 [1, 2, 3, 4, 5, 6, 0] (by kernel_rfl) (by decide) rfl⟩
        rintro ⟨F177, W178⟩ ⟨hx179, h180⟩
        have hx179 : Ext w0 F134 W135 F177 W178 := hx179
        have h180 : RdS R_api_Field F177 W178 A173 c174 x159 := h180
        have h_w_0 := h_w_0.ext hx179
        have h157 := h157.ext hx179
        have h_w_1 := h_w_1.ext hx179
        have h_w_2 := h_w_2.ext hx179
        have h132 := h132.ext hx179
        have h12 := h12.ext hx179
        have h14 := h14.ext hx179
        have h181 : RepL R_api_Kind F177 W178 ([(api_Kind.mk x144.Name x159)] : List api_Kind) ([.string x144.Name, sl A173 x159 c174]) := (RepL.cons (R := R_api_Kind) (F := F177) (w := W178) (vs := [.string x144.Name, sl A173 x159 c174]) (ys := []) (enc_api_Kind h180) RepL.nil)
        refine ops_new (d := some 57) (o := .cells ([.string x144.Name, sl A173 x159 c174] : List Value).toArray 86) (v := fun g182 => .slice (sa g182) ([(api_Kind.mk x144.Name x159)] : List api_Kind).length 1) (M' := fun g182 => Mem w0 (orow (sa g182) ([(api_Kind.mk x144.Name x159)] : List api_Kind).length 1 86 2 ([.string x144.Name, sl A173 x159 c174]) :: .blk b158 [.string x144.Name, sl A155 x144.Fields c156] 86 :: .blk b1 [sl A_w_0 w_0 c_w_0, sl A_w_1 w_1 c_w_1, sl A_w_2 w_2 c_w_2] 26 :: .blk b15 [sl A128 l130 c129, sl A9 x7 c10, .map (some g13)] 96 :: ow A128 l130 c129 86 2 y131 :: ow A9 x7 c10 3 1 y11 :: .obj g13 (.map #[] 0) :: Fz F177 W178 :: cs)) (fun g182 => ⟨by kernel_rfl⟩) (fun w_ hM hS => ⟨hM.onew [.string x144.Name, sl A173 x159 c174] 86 1 2 rfl (by decide), hS.alloc _⟩) (fun g182 => ?_)
        obtain ⟨he183, hb184⟩ := app_some hv172
        obtain ⟨y185, hy186⟩ : ∃ y_, y131 ++ ([.string x144.Name, sl A173 x159 c174]) = y_ := ⟨_, rfl⟩
        have h187 : RepL R_api_Kind F177 W178 l171 y185 := by rw [he183, ← hy186]; exact RepL.app h132 h181
        refine ops_appendO (x := (Go.Operand.tmp 50)) (y := (Go.Operand.tmp 57)) (t := 22) (e := 86) (d := some 58) (n' := l171.length) (z := 2) (m := ([(api_Kind.mk x144.Name x159)] : List api_Kind).length) (bytes := 40) (xs' := y185) (news := ([.string x144.Name, sl A173 x159 c174])) (zv := .agg #[.string ByteArray.empty, .slice none 0 0]) 4 ⟨by kernel_rfl⟩ rfl rfl Tryz.underlying22 (by kernel_rfl) (by rfl) rfl (fun w_ hM => hM.srcO 0 rfl) h181.len h181.one hb184 (by have z_ := congrArg List.length he183; rw [List.length_append] at z_; exact z_.symm) hy186 (fun _ _ _ _ hS h' => (by first | exact (Mem.fzback h' 7 rfl hx179).sub (.cons _ (.cons_cons _ (.cons_cons _ (.cons _ (.cons _ (.cons_cons _ (.cons_cons _ (.cons_cons _ (.refl _))))))))) | exact (Mem.fzback h' 7 rfl (hx7.trans hx179)).sub (.cons _ (.cons_cons _ (.cons_cons _ (.cons _ (.cons _ (.cons_cons _ (.cons_cons _ (.cons_cons _ (.refl _))))))))))) ?_
        rintro ⟨A188, c189⟩
        refine oQ [oT 13, oT 14] [(60, vP b15 0), (58, sl A188 l171 c189), (1, vP b1 0), (5, vP b15 0), (40, sl A_w_0 w_0 c_w_0), (41, vI (w_0.length : Int)), (42, vI i133)] (by kernel_rfl) ?_
        refine ops_store (an := []) (evs := [sr b15 0 (sl A188 l171 c189)]) ⟨by kernel_rfl⟩ (fun w_ hM hS => let ⟨w', he, h'⟩ := hM.evs_stores [sl A188 l171 c189] 3 rfl 0 (Nat.le_of_ble_eq_true rfl); ⟨w', he, h', (by first | exact (Mem.fzback h' 7 rfl hx179).sub (.cons _ (.cons_cons _ (.cons_cons _ (.cons _ (.cons _ (.cons_cons _ (.cons_cons _ (.cons_cons _ (.refl _))))))))) | exact (Mem.fzback h' 7 rfl (hx7.trans hx179)).sub (.cons _ (.cons_cons _ (.cons_cons _ (.cons _ (.cons _ (.cons_cons _ (.cons_cons _ (.cons_cons _ (.refl _))))))))))⟩) ?_
        refine ops_nil (fin_block ?_)
        exact fin_join HJ8 (A188, c189, l171, y185, F177, W178) ⟨hp, h187, hx179⟩ (look_has ⟨rfl, rfl, rfl, rfl, rfl, trivial⟩) (fun w_ hM => hM.pick 8 [2, 3, 4, 5, 6, 7] (by kernel_rfl) (by decide) rfl)
       ·
        refine tree_node ?_
        refine ops_callI (σ := (Option Addr) × Nat × (List Value)) (d := some 55) (f := 50) (args := #[sl A155 x144.Fields c156]) (v := (fun x_ => match x_ with | (A190, c191, y192) => sl A190 x159 c191)) (I := (fun x_ => match x_ with | (A190, c191, y192) => (RepL R_api_Field F134 W135 x159 y192))) (M' := (fun x_ => match x_ with | (A190, c191, y192) => Mem w0 (ow A190 x159 c191 99 3 y192 :: .blk b158 [.string x144.Name, sl A155 x144.Fields c156] 86 :: .blk b1 [sl A_w_0 w_0 c_w_0, sl A_w_1 w_1 c_w_1, sl A_w_2 w_2 c_w_2] 26 :: .blk b15 [sl A128 l130 c129, sl A9 x7 c10, .map (some g13)] 96 :: ow A128 l130 c129 86 2 y131 :: ow A9 x7 c10 3 1 y11 :: .obj g13 (.map #[] 0) :: Fz F134 W135 :: cs))) ⟨by kernel_rfl⟩ (fun w_ hM hS => (slices_Clone_api_Field_api_Field_ok w0 w_ (.blk b158 [.string x144.Name, sl A155 x144.Fields c156] 86 :: .blk b1 [sl A_w_0 w_0 c_w_0, sl A_w_1 w_1 c_w_1, sl A_w_2 w_2 c_w_2] 26 :: .blk b15 [sl A128 l130 c129, sl A9 x7 c10, .map (some g13)] 96 :: ow A128 l130 c129 86 2 y131 :: ow A9 x7 c10 3 1 y11 :: .obj g13 (.map #[] 0) :: cs) F134 W135 A155 c156 x144.Fields (hM.pick 7 [6, 0, 1, 2, 3, 4, 5] (by kernel_rfl) (by decide) rfl) h157 x159 hv160).mono (by rintro e w' ⟨A190, c191, y192, h193, rfl, h'⟩; have h' : Mem w0 (ow A190 x159 c191 99 3 y192 :: .blk b158 [.string x144.Name, sl A155 x144.Fields c156] 86 :: .blk b1 [sl A_w_0 w_0 c_w_0, sl A_w_1 w_1 c_w_1, sl A_w_2 w_2 c_w_2] 26 :: .blk b15 [sl A128 l130 c129, sl A9 x7 c10, .map (some g13)] 96 :: ow A128 l130 c129 86 2 y131 :: ow A9 x7 c10 3 1 y11 :: .obj g13 (.map #[] 0) :: Fz F134 W135 :: cs) w' := (h'.pick 8 [0, 2, 3, 4, 5, 6, 7, 1] (by kernel_rfl) (by decide) rfl); exact ⟨(A190, c191, y192), h193, rfl, h', (by exact h'.sub (.cons _ (.cons_cons _ (.cons_cons _ (.cons _ (.cons _ (.cons_cons _ (.cons_cons _ (.cons_cons _ (.refl _))))))))))⟩)) ?_
        rintro ⟨A190, c191, y192⟩ h193
        refine oQ [oT 10] [(56, .agg #[.string x144.Name, sl A190 x159 c191]), (49, vP b15 0), (46, vP b15 0), (1, vP b1 0), (5, vP b15 0), (40, sl A_w_0 w_0 c_w_0), (41, vI (w_0.length : Int)), (42, vI i133)] (by kernel_rfl) ?_
        refine ops_nil ?_
        refine tree_both ?_ ?_
        ·
         refine tree_leaf ?_
         refine ops_mem (d := some 50) (an := [.v (sl A128 l130 c129)]) (evs := [ld b15 0 (sl A128 l130 c129)]) (v := sl A128 l130 c129) ⟨by kernel_rfl⟩ (fun w_ hM hS => ⟨w_, ⟨hM.cell 3 rfl rfl, rfl⟩, hM, hS⟩) ?_
         refine ops_ex (σ := (Nat → Prop) × World) (I := fun x_ => Ext w0 F134 W135 x_.1 x_.2 ∧ RdS R_api_Field x_.1 x_.2 A190 c191 x159) (M' := fun x_ => Mem w0 (.blk b158 [.string x144.Name, sl A155 x144.Fields c156] 86 :: .blk b1 [sl A_w_0 w_0 c_w_0, sl A_w_1 w_1 c_w_1, sl A_w_2 w_2 c_w_2] 26 :: .blk b15 [sl A128 l130 c129, sl A9 x7 c10, .map (some g13)] 96 :: ow A128 l130 c129 86 2 y131 :: ow A9 x7 c10 3 1 y11 :: .obj g13 (.map #[] 0) :: Fz x_.1 x_.2 :: cs)) (fun w_ hM => ?_) ?_
         · obtain ⟨F_, h1_, h2_, h3_⟩ := (hM.pick 8 [0, 7, 1, 2, 3, 4, 5, 6] (by kernel_rfl) (by decide) rfl : Mem w0 (ow A190 x159 c191 99 3 y192 :: Fz F134 W135 :: .blk b158 [.string x144.Name, sl A155 x144.Fields c156] 86 :: .blk b1 [sl A_w_0 w_0 c_w_0, sl A_w_1 w_1 c_w_1, sl A_w_2 w_2 c_w_2] 26 :: .blk b15 [sl A128 l130 c129, sl A9 x7 c10, .map (some g13)] 96 :: ow A128 l130 c129 86 2 y131 :: ow A9 x7 c10 3 1 y11 :: .obj g13 (.map #[] 0) :: cs) w_).freeze (z := 3) h193 rfl rfl
           exact ⟨(F_, w_), ⟨h1_, h2_⟩, h3_.pick 7 [1, 2, 3, 4, 5, 6, 0] (by kernel_rfl) (by decide) rfl⟩
         rintro ⟨F194, W195⟩ ⟨hx196, h197⟩
         have hx196 : Ext w0 F134 W135 F194 W195 := hx196
         have h197 : RdS R_api_Field F194 W195 A190 c191 x159 := h197
         have h_w_0 := h_w_0.ext hx196
         have h157 := h157.ext hx196
         have h_w_1 := h_w_1.ext hx196
         have h_w_2 := h_w_2.ext hx196
         have h132 := h132.ext hx196
         have h12 := h12.ext hx196
         have h14 := h14.ext hx196
         have h198 : RepL R_api_Kind F194 W195 ([(api_Kind.mk x144.Name x159)] : List api_Kind) ([.string x144.Name, sl A190 x159 c191]) := (RepL.cons (R := R_api_Kind) (F := F194) (w := W195) (vs := [.string x144.Name, sl A190 x159 c191]) (ys := []) (enc_api_Kind h197) RepL.nil)
         refine ops_new (d := some 57) (o := .cells ([.string x144.Name, sl A190 x159 c191] : List Value).toArray 86) (v := fun g199 => .slice (sa g199) ([(api_Kind.mk x144.Name x159)] : List api_Kind).length 1) (M' := fun g199 => Mem w0 (orow (sa g199) ([(api_Kind.mk x144.Name x159)] : List api_Kind).length 1 86 2 ([.string x144.Name, sl A190 x159 c191]) :: .blk b158 [.string x144.Name, sl A155 x144.Fields c156] 86 :: .blk b1 [sl A_w_0 w_0 c_w_0, sl A_w_1 w_1 c_w_1, sl A_w_2 w_2 c_w_2] 26 :: .blk b15 [sl A128 l130 c129, sl A9 x7 c10, .map (some g13)] 96 :: ow A128 l130 c129 86 2 y131 :: ow A9 x7 c10 3 1 y11 :: .obj g13 (.map #[] 0) :: Fz F194 W195 :: cs)) (fun g199 => ⟨by kernel_rfl⟩) (fun w_ hM hS => ⟨hM.onew [.string x144.Name, sl A190 x159 c191] 86 1 2 rfl (by decide), hS.alloc _⟩) (fun g199 => ?_)
         obtain ⟨he200, hb201⟩ := app_some hv172
         obtain ⟨y202, hy203⟩ : ∃ y_, y131 ++ ([.string x144.Name, sl A190 x159 c191]) = y_ := ⟨_, rfl⟩
         have h204 : RepL R_api_Kind F194 W195 l171 y202 := by rw [he200, ← hy203]; exact RepL.app h132 h198
         refine ops_appendO (x := (Go.Operand.tmp 50)) (y := (Go.Operand.tmp 57)) (t := 22) (e := 86) (d := some 58) (n' := l171.length) (z := 2) (m := ([(api_Kind.mk x144.Name x159)] : List api_Kind).length) (bytes := 40) (xs' := y202) (news := ([.string x144.Name, sl A190 x159 c191])) (zv := .agg #[.string ByteArray.empty, .slice none 0 0]) 4 ⟨by kernel_rfl⟩ rfl rfl Tryz.underlying22 (by kernel_rfl) (by rfl) rfl (fun w_ hM => hM.srcO 0 rfl) h198.len h198.one hb201 (by have z_ := congrArg List.length he200; rw [List.length_append] at z_; exact z_.symm) hy203 (fun _ _ _ _ hS h' => (by first | exact (Mem.fzback h' 7 rfl hx196).sub (.cons _ (.cons_cons _ (.cons_cons _ (.cons _ (.cons _ (.cons_cons _ (.cons_cons _ (.cons_cons _ (.refl _))))))))) | exact (Mem.fzback h' 7 rfl (hx7.trans hx196)).sub (.cons _ (.cons_cons _ (.cons_cons _ (.cons _ (.cons _ (.cons_cons _ (.cons_cons _ (.cons_cons _ (.refl _))))))))))) ?_
         rintro ⟨A205, c206⟩
         refine oQ [oT 13, oT 14] [(60, vP b15 0), (58, sl A205 l171 c206), (1, vP b1 0), (5, vP b15 0), (40, sl A_w_0 w_0 c_w_0), (41, vI (w_0.length : Int)), (42, vI i133)] (by kernel_rfl) ?_
         refine ops_store (an := []) (evs := [sr b15 0 (sl A205 l171 c206)]) ⟨by kernel_rfl⟩ (fun w_ hM hS => let ⟨w', he, h'⟩ := hM.evs_stores [sl A205 l171 c206] 3 rfl 0 (Nat.le_of_ble_eq_true rfl); ⟨w', he, h', (by first | exact (Mem.fzback h' 7 rfl hx196).sub (.cons _ (.cons_cons _ (.cons_cons _ (.cons _ (.cons _ (.cons_cons _ (.cons_cons _ (.cons_cons _ (.refl _))))))))) | exact (Mem.fzback h' 7 rfl (hx7.trans hx196)).sub (.cons _ (.cons_cons _ (.cons_cons _ (.cons _ (.cons _ (.cons_cons _ (.cons_cons _ (.cons_cons _ (.refl _))))))))))⟩) ?_
         refine ops_nil (fin_block ?_)
         exact fin_join HJ8 (A205, c206, l171, y202, F194, W195) ⟨hp, h204, hx196⟩ (look_has ⟨rfl, rfl, rfl, rfl, rfl, trivial⟩) (fun w_ hM => hM.pick 8 [2, 3, 4, 5, 6, 7] (by kernel_rfl) (by decide) rfl)
        ·
         refine tree_leaf ?_
         refine ops_ex (σ := (Nat → Prop) × World) (I := fun x_ => Ext w0 F134 W135 x_.1 x_.2 ∧ RdS R_api_Field x_.1 x_.2 A190 c191 x159) (M' := fun x_ => Mem w0 (.blk b158 [.string x144.Name, sl A155 x144.Fields c156] 86 :: .blk b1 [sl A_w_0 w_0 c_w_0, sl A_w_1 w_1 c_w_1, sl A_w_2 w_2 c_w_2] 26 :: .blk b15 [sl A128 l130 c129, sl A9 x7 c10, .map (some g13)] 96 :: ow A128 l130 c129 86 2 y131 :: ow A9 x7 c10 3 1 y11 :: .obj g13 (.map #[] 0) :: Fz x_.1 x_.2 :: cs)) (fun w_ hM => ?_) ?_
         · obtain ⟨F_, h1_, h2_, h3_⟩ := (hM.pick 8 [0, 7, 1, 2, 3, 4, 5, 6] (by kernel_rfl) (by decide) rfl : Mem w0 (ow A190 x159 c191 99 3 y192 :: Fz F134 W135 :: .blk b158 [.string x144.Name, sl A155 x144.Fields c156] 86 :: .blk b1 [sl A_w_0 w_0 c_w_0, sl A_w_1 w_1 c_w_1, sl A_w_2 w_2 c_w_2] 26 :: .blk b15 [sl A128 l130 c129, sl A9 x7 c10, .map (some g13)] 96 :: ow A128 l130 c129 86 2 y131 :: ow A9 x7 c10 3 1 y11 :: .obj g13 (.map #[] 0) :: cs) w_).freeze (z := 3) h193 rfl rfl
           exact ⟨(F_, w_), ⟨h1_, h2_⟩, h3_.pick 7 [1, 2, 3, 4, 5, 6, 0] (by kernel_rfl) (by decide) rfl⟩
         rintro ⟨F207, W208⟩ ⟨hx209, h210⟩
         have hx209 : Ext w0 F134 W135 F207 W208 := hx209
         have h210 : RdS R_api_Field F207 W208 A190 c191 x159 := h210
         have h_w_0 := h_w_0.ext hx209
         have h157 := h157.ext hx209
         have h_w_1 := h_w_1.ext hx209
         have h_w_2 := h_w_2.ext hx209
         have h132 := h132.ext hx209
         have h12 := h12.ext hx209
         have h14 := h14.ext hx209
         have h211 : RepL R_api_Kind F207 W208 ([(api_Kind.mk x144.Name x159)] : List api_Kind) ([.string x144.Name, sl A190 x159 c191]) := (RepL.cons (R := R_api_Kind) (F := F207) (w := W208) (vs := [.string x144.Name, sl A190 x159 c191]) (ys := []) (enc_api_Kind h210) RepL.nil)
         refine ops_new (d := some 57) (o := .cells ([.string x144.Name, sl A190 x159 c191] : List Value).toArray 86) (v := fun g212 => .slice (sa g212) ([(api_Kind.mk x144.Name x159)] : List api_Kind).length 1) (M' := fun g212 => Mem w0 (orow (sa g212) ([(api_Kind.mk x144.Name x159)] : List api_Kind).length 1 86 2 ([.string x144.Name, sl A190 x159 c191]) :: .blk b158 [.string x144.Name, sl A155 x144.Fields c156] 86 :: .blk b1 [sl A_w_0 w_0 c_w_0, sl A_w_1 w_1 c_w_1, sl A_w_2 w_2 c_w_2] 26 :: .blk b15 [sl A128 l130 c129, sl A9 x7 c10, .map (some g13)] 96 :: ow A128 l130 c129 86 2 y131 :: ow A9 x7 c10 3 1 y11 :: .obj g13 (.map #[] 0) :: Fz F207 W208 :: cs)) (fun g212 => ⟨by kernel_rfl⟩) (fun w_ hM hS => ⟨hM.onew [.string x144.Name, sl A190 x159 c191] 86 1 2 rfl (by decide), hS.alloc _⟩) (fun g212 => ?_)
         refine ops_mem (d := some 50) (an := [.v (sl A128 l130 c129)]) (evs := [ld b15 0 (sl A128 l130 c129)]) (v := sl A128 l130 c129) ⟨by kernel_rfl⟩ (fun w_ hM hS => ⟨w_, ⟨hM.cell 3 rfl rfl, rfl⟩, hM, hS⟩) ?_
         obtain ⟨he213, hb214⟩ := app_some hv172
         obtain ⟨y215, hy216⟩ : ∃ y_, y131 ++ ([.string x144.Name, sl A190 x159 c191]) = y_ := ⟨_, rfl⟩
         have h217 : RepL R_api_Kind F207 W208 l171 y215 := by rw [he213, ← hy216]; exact RepL.app h132 h211
         refine ops_appendO (x := (Go.Operand.tmp 50)) (y := (Go.Operand.tmp 57)) (t := 22) (e := 86) (d := some 58) (n' := l171.length) (z := 2) (m := ([(api_Kind.mk x144.Name x159)] : List api_Kind).length) (bytes := 40) (xs' := y215) (news := ([.string x144.Name, sl A190 x159 c191])) (zv := .agg #[.string ByteArray.empty, .slice none 0 0]) 4 ⟨by kernel_rfl⟩ rfl rfl Tryz.underlying22 (by kernel_rfl) (by rfl) rfl (fun w_ hM => hM.srcO 0 rfl) h211.len h211.one hb214 (by have z_ := congrArg List.length he213; rw [List.length_append] at z_; exact z_.symm) hy216 (fun _ _ _ _ hS h' => (by first | exact (Mem.fzback h' 7 rfl hx209).sub (.cons _ (.cons_cons _ (.cons_cons _ (.cons _ (.cons _ (.cons_cons _ (.cons_cons _ (.cons_cons _ (.refl _))))))))) | exact (Mem.fzback h' 7 rfl (hx7.trans hx209)).sub (.cons _ (.cons_cons _ (.cons_cons _ (.cons _ (.cons _ (.cons_cons _ (.cons_cons _ (.cons_cons _ (.refl _))))))))))) ?_
         rintro ⟨A218, c219⟩
         refine oQ [oT 13, oT 14] [(60, vP b15 0), (58, sl A218 l171 c219), (1, vP b1 0), (5, vP b15 0), (40, sl A_w_0 w_0 c_w_0), (41, vI (w_0.length : Int)), (42, vI i133)] (by kernel_rfl) ?_
         refine ops_store (an := []) (evs := [sr b15 0 (sl A218 l171 c219)]) ⟨by kernel_rfl⟩ (fun w_ hM hS => let ⟨w', he, h'⟩ := hM.evs_stores [sl A218 l171 c219] 3 rfl 0 (Nat.le_of_ble_eq_true rfl); ⟨w', he, h', (by first | exact (Mem.fzback h' 7 rfl hx209).sub (.cons _ (.cons_cons _ (.cons_cons _ (.cons _ (.cons _ (.cons_cons _ (.cons_cons _ (.cons_cons _ (.refl _))))))))) | exact (Mem.fzback h' 7 rfl (hx7.trans hx209)).sub (.cons _ (.cons_cons _ (.cons_cons _ (.cons _ (.cons _ (.cons_cons _ (.cons_cons _ (.cons_cons _ (.refl _))))))))))⟩) ?_
         refine ops_nil (fin_block ?_)
         exact fin_join HJ8 (A218, c219, l171, y215, F207, W208) ⟨hp, h217, hx209⟩ (look_has ⟨rfl, rfl, rfl, rfl, rfl, trivial⟩) (fun w_ hM => hM.pick 8 [2, 3, 4, 5, 6, 7] (by kernel_rfl) (by decide) rfl)
     ·
      have hp := cnd_f hc136 hp
      refine st_exit (fin_exit_then (fin_exit_then (fin_exit ?_)))
      obtain hq_ := Option.some.inj hp
      subst hq_
      obtain hq_ := hd7 _ rfl
      subst hq_
      have hp : (tourref3_Open_j1 w_2 w_0 x7 w_1) l130 = some r_ := hk7
      exact fin_join HJ1 (A128, c129, l130, y131, F134, W135) ⟨hp, h132, hx7⟩ (look_has ⟨rfl, rfl, trivial⟩) (fun w_ hM => hM)
theorem tourlaw3_same_ok (w0 w : World) (cs : List Chunk) (F : Nat → Prop) (W : World) (A_w_0 : Option Addr) (c_w_0 : Nat) (w_0 : List api_Kind) (A_w_1 : Option Addr) (c_w_1 : Nat) (w_1 : List Int) (A_w_2 : Option Addr) (c_w_2 : Nat) (w_2 : List api_Item) (e_1 : Int) (hM0 : Mem w0 (Fz F W :: cs) w) (h_w_0 : RdS R_api_Kind F W A_w_0 c_w_0 w_0) (h_w_1 : RdS (Rep.int .i64) F W A_w_1 c_w_1 w_1) (h_w_2 : RdS R_api_Item F W A_w_2 c_w_2 w_2) (t9001 : Bool) (hp : tourlaw3_same w_0 w_1 w_2 e_1 = some t9001) : Calls Tryz.prog 14 #[.agg #[sl A_w_0 w_0 c_w_0, sl A_w_1 w_1 c_w_1, sl A_w_2 w_2 c_w_2], .pointer none, vI e_1] w fun e w' => (True) ∧ e = .returned (.bool t9001) ∧ Mem w0 (Fz F W :: cs) w' := by
 unfold tourlaw3_same at hp
 refine sx_calls Tryz.func14 rfl (n := 16) (by kernel_rfl) (l := [(0, .agg #[sl A_w_0 w_0 c_w_0, sl A_w_1 w_1 c_w_1, sl A_w_2 w_2 c_w_2]), (1, .pointer none), (2, vI e_1)]) rfl (by rfl) hM0 ?_
 refine st_seq (st_region [oF 0, oF 1] (by rfl) ?_)
 refine ops_newB (d := some 3) [sl A_w_0 w_0 c_w_0, sl A_w_1 w_1 c_w_1, sl A_w_2 w_2 c_w_2] 26 (fun b1 => ⟨by kernel_rfl⟩) (fun w_ hM hS => trivial) (fun b1 => ?_)
 refine oQ [oF 1] [(3, vP b1 0), (1, .pointer none), (2, vI e_1)] (by kernel_rfl) ?_
 refine ops_nil (fin_then (st_seq (st_seq (st_region [oF 0, oF 1] (by rfl) ?_))))
 refine oQ [oF 0, oF 1] [(8, .bool (!(e_1 == 0))), (3, vP b1 0), (1, .pointer none)] (by kernel_rfl) ?_
 refine ops_nil (fin_then ?_)
 refine st_if (b := !(e_1 == 0)) rfl (fun hc2 => ?_) (fun hc2 => ?_)
 ·
  have hp := cnd_t hc2 hp
  refine st_seq (st_region [oF 0, oF 1, oF 2, oF 3] (by rfl) ?_)
  refine ops_mem (d := some 9) (an := [.v (sl A_w_0 w_0 c_w_0), .v (sl A_w_1 w_1 c_w_1), .v (sl A_w_2 w_2 c_w_2)]) (evs := [ld b1 0 (sl A_w_0 w_0 c_w_0), ld b1 1 (sl A_w_1 w_1 c_w_1), ld b1 2 (sl A_w_2 w_2 c_w_2)]) (v := .agg #[sl A_w_0 w_0 c_w_0, sl A_w_1 w_1 c_w_1, sl A_w_2 w_2 c_w_2]) ⟨by kernel_rfl⟩ (fun w_ hM hS => ⟨w_, ⟨hM.cell 0 rfl rfl, hM.cell 0 rfl rfl, hM.cell 0 rfl rfl, rfl⟩, hM, trivial⟩) ?_
  refine oQ [oF 1] [(10, .agg #[.slice none 0 0, .slice none 0 0, .slice none 0 0]), (9, .agg #[sl A_w_0 w_0 c_w_0, sl A_w_1 w_1 c_w_1, sl A_w_2 w_2 c_w_2])] (by kernel_rfl) ?_
  obtain ⟨x3, hv4, hp⟩ := obind hp
  refine ops_callI (σ := Unit) (d := some 11) (f := 51) (args := #[.agg #[sl A_w_0 w_0 c_w_0, sl A_w_1 w_1 c_w_1, sl A_w_2 w_2 c_w_2], .agg #[.slice none 0 0, .slice none 0 0, .slice none 0 0]]) (v := (fun _ => .bool x3)) (I := (fun _ => True)) (M' := (fun _ => Mem w0 (.blk b1 [sl A_w_0 w_0 c_w_0, sl A_w_1 w_1 c_w_1, sl A_w_2 w_2 c_w_2] 26 :: Fz F W :: cs))) ⟨by kernel_rfl⟩ (fun w_ hM hS => (tourref3_SameWorld_ok w0 w_ (.blk b1 [sl A_w_0 w_0 c_w_0, sl A_w_1 w_1 c_w_1, sl A_w_2 w_2 c_w_2] 26 :: cs) F W A_w_0 c_w_0 w_0 A_w_1 c_w_1 w_1 A_w_2 c_w_2 w_2 none 0 [] none 0 [] none 0 [] (hM.pick 2 [1, 0] (by kernel_rfl) (by decide) rfl) h_w_0 h_w_1 h_w_2 (RdS.empty _) (RdS.empty _) (RdS.empty _) x3 hv4).mono (by rintro e w' ⟨-, rfl, h'⟩; have h' : Mem w0 (.blk b1 [sl A_w_0 w_0 c_w_0, sl A_w_1 w_1 c_w_1, sl A_w_2 w_2 c_w_2] 26 :: Fz F W :: cs) w' := (h'.pick 2 [1, 0] (by kernel_rfl) (by decide) rfl); exact ⟨(), trivial, rfl, h', trivial⟩)) ?_
  rintro _ -
  refine oQ [oF 3] [(6, .bool x3)] (by kernel_rfl) ?_
  refine ops_nil (fin_then (st_ret (fin_ret_then ?_)))
  have hq_ := Option.some.inj hp
  have hr0_ := hq_
  subst hr0_
  refine fin_ret [.tmp 6] [.bool x3] rfl rfl (fun w_ hM => (.tmp rfl .nil)) (fun w_ hM => ?_)
  exact ⟨trivial, rfl, hM.pick 2 [1] (by kernel_rfl) (by decide) rfl⟩
 ·
  have hp := cnd_f hc2 hp
  refine st_skip (fin_then (st_seq ?_))
  refine st_region_draw [oT 0, oT 1, oF 2, oF 3, oT 4] (Mem w0 (.blk b1 [sl A_w_0 w_0 c_w_0, sl A_w_1 w_1 c_w_1, sl A_w_2 w_2 c_w_2] 26 :: Fz F W :: cs)) (by kernel_rfl) (by kernel_rfl) (by kernel_rfl) (fun _ d _ _ _ h => by cases d <;> exact h) (M' := Mem w0 (.blk b1 [sl A_w_0 w_0 c_w_0, sl A_w_1 w_1 c_w_1, sl A_w_2 w_2 c_w_2] 26 :: Fz F W :: cs)) (fun w_ hM => ⟨hM.drew, hM.drew.sub (.cons_cons _ (.cons_cons _ (.refl _)))⟩) ?_
  refine ops_load (d := some 12) (an := [.v (sl A_w_0 w_0 c_w_0), .v (sl A_w_1 w_1 c_w_1), .v (sl A_w_2 w_2 c_w_2)]) (evs := [ld b1 0 (sl A_w_0 w_0 c_w_0), ld b1 1 (sl A_w_1 w_1 c_w_1), ld b1 2 (sl A_w_2 w_2 c_w_2)]) (v := .agg #[sl A_w_0 w_0 c_w_0, sl A_w_1 w_1 c_w_1, sl A_w_2 w_2 c_w_2]) ⟨by kernel_rfl⟩ (fun w_ hM => ⟨hM.cell 0 rfl rfl, hM.cell 0 rfl rfl, hM.cell 0 rfl rfl, rfl⟩) ?_
  refine oQ [oT 1] [(13, .pointer none), (12, .agg #[sl A_w_0 w_0 c_w_0, sl A_w_1 w_1 c_w_1, sl A_w_2 w_2 c_w_2])] (by kernel_rfl) ?_
  cases hp
end Go.Proofs.YtbfndcookgijfaaGreatDoor.W
