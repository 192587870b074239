/- The Go functions come to what the plain functions tell. No condition. -/
import Derived.Test.YthcbepikeinglaaDoorProg
import Derived.Test.YthcbepikeinglaaDoorFnN
import Derived.Test.YthcbepikeinglaaDoorWkN4
import Derived.Test.YthcbepikeinglaaDoorWkN6
import Derived.Test.YthcbepikeinglaaDoorWkN7
import Derived.Test.YthcbepikeinglaaDoorExMap
namespace Go.Proofs.YthcbepikeinglaaDoor.N
open Go Go.RowKit Go.Proofs.YthcbepikeinglaaDoor.Sx
set_option linter.unusedVariables false
set_option maxHeartbeats 4000000
set_option maxRecDepth 100000
def tourref3_Open__t0 : List Row := [⟨0, 151115727451828646838272, 2048⟩, ⟨1, 302231454903657293676544, 151115727451828646838272⟩, ⟨2, 604462909807314587353088, 302231454903657293676544⟩, ⟨4, 1208925819614629174706176, 604462909807314587353600⟩, ⟨12, 2417851639229258349412352, 1813388729421943762059264⟩, ⟨20, 4835703278458516698824704, 3022314549036572936765440⟩, ⟨36, 9671406556917033397649408, 5440166188265831286177792⟩, ⟨68, 19342813113834066795298816, 10275869466724347985002496⟩, ⟨132, 38685626227668133590597632, 19342813113834066795298816⟩, ⟨256, 77371252455336267181195264, 38685626227668133590598144⟩, ⟨768, 154742504910672534362390528, 116056878683004400771792896⟩, ⟨1280, 309485009821345068724781056, 193428131138340667952988160⟩, ⟨256, 618970019642690137449562112, 38685626227668133590597664⟩, ⟨4352, 1237940039285380274899124224, 657655645870358271040159744⟩, ⟨8448, 2475880078570760549798248448, 1276625665513048408489721856⟩, ⟨16640, 4951760157141521099596496896, 2514565704798428683388846080⟩, ⟨33024, 9903520314283042199192993792, 4990445783369189233187094528⟩, ⟨67840, 19807040628566084398385987584, 10251690950332055401508372480⟩, ⟨131328, 39614081257132168796771975168, 19845726254793752531976585216⟩]
theorem tourref3_Open_ok (w0 w : World) (cs : List Chunk) (F : Nat → Prop) (W : World) (A_w_0 : Option Addr) (c_w_0 : Nat) (w_0 : List api_Kind) (A_w_1 : Option Addr) (c_w_1 : Nat) (w_1 : List Int) (A_w_2 : Option Addr) (c_w_2 : Nat) (w_2 : List api_Item) (hM0 : Mem w0 (Fz F W :: cs) w) (h_w_0 : RdS R_api_Kind F W A_w_0 c_w_0 w_0) (h_w_1 : RdS (Rep.int .i64) F W A_w_1 c_w_1 w_1) (h_w_2 : RdS R_api_Item F W A_w_2 c_w_2 w_2) (r_ : (Int ⊕ (List api_Kind) × (List Int) × (List (Int × (Option (List (Int × (List Int)))))))) (hp : tourref3_Open w_0 w_1 w_2 = some r_) : Calls Tryd.prog 46 #[.agg #[sl A_w_0 w_0 c_w_0, sl A_w_1 w_1 c_w_1, sl A_w_2 w_2 c_w_2]] w fun e w' => Sum.elim (fun (i9001 : Int) => ∃ (F9002 : Nat → Prop), ∃ (W9003 : World), ((Ext w0 F W F9002 W9003)) ∧ e = .returned (.tuple #[.pointer none, vI i9001]) ∧ Mem w0 (Fz F9002 W9003 :: cs) w') (un3 fun (l9007 : List api_Kind) (l9012 : List Int) (l9018 : List (Int × (Option (List (Int × (List Int)))))) => ∃ (b9004 : Nat), ∃ (A9005 : Option Addr), ∃ (c9006 : Nat), ∃ (y9008 : List Value), ∃ (A9010 : Option Addr), ∃ (c9011 : Nat), ∃ (y9013 : List Value), ∃ (b9015 : Nat), ∃ (es9016 : Array MapEntry), ∃ (ck9017 : Nat), ∃ (F9020 : Nat → Prop), ∃ (W9021 : World), ((RepL R_api_Kind F9020 W9021 l9007 y9008) ∧ (RepL (Rep.int .i64) F9020 W9021 l9012 y9013) ∧ (MapOK (fun x_ : Int => Value.int .i64 x_) (Rep.map (fun x_ : Int => Value.int .i64 x_) (Rep.sl (Rep.int .i64)) false) false F9020 W9021 l9018 es9016 ck9017) ∧ (Ext w0 F W F9020 W9021)) ∧ e = .returned (.tuple #[vP b9004 0, vI 0]) ∧ Mem w0 (.blk b9004 [sl A9005 l9007 c9006, sl A9010 l9012 c9011, .map (some b9015)] 123 :: ow A9005 l9007 c9006 27 2 y9008 :: ow A9010 l9012 c9011 3 1 y9013 :: .obj b9015 (.map es9016 ck9017) :: Fz F9020 W9021 :: cs) w') r_ := by
 unfold tourref3_Open at hp
 refine sx_calls Tryd.func46 rfl (n := 141) (by kernel_rfl) (l := [(0, .agg #[sl A_w_0 w_0 c_w_0, sl A_w_1 w_1 c_w_1, sl A_w_2 w_2 c_w_2])]) rfl (by rfl) hM0 ?_
 refine st_seq (st_region [oF 0, oF 1, oF 2] (by rfl) ?_)
 refine ops_newB (d := some 1) [sl A_w_0 w_0 c_w_0, sl A_w_1 w_1 c_w_1, sl A_w_2 w_2 c_w_2] 71 (fun b1 => ⟨by kernel_rfl⟩) (fun w_ hM hS => trivial) (fun b1 => ?_)
 refine oQ [oF 1, oF 2] [(1, vP b1 0)] (by kernel_rfl) ?_
 refine ops_nil (fin_then (st_seq (st_seq (st_region [oF 0, oF 1, oF 2, oF 3] (by rfl) ?_))))
 refine oQ [oF 0] [(14, vP b1 0), (1, vP b1 0)] (by kernel_rfl) ?_
 refine ops_mem (d := some 15) (an := [.v (sl A_w_0 w_0 c_w_0)]) (evs := [ld b1 0 (sl A_w_0 w_0 c_w_0)]) (v := sl A_w_0 w_0 c_w_0) ⟨by kernel_rfl⟩ (fun w_ hM hS => ⟨w_, ⟨hM.cell 0 rfl rfl, rfl⟩, hM, trivial⟩) ?_
 obtain ⟨x2, hv3, hp⟩ := obind hp
 refine ops_callI (σ := Unit) (d := some 16) (f := 23) (args := #[sl A_w_0 w_0 c_w_0]) (v := (fun _ => vI x2)) (I := (fun _ => True)) (M' := (fun _ => Mem w0 (.blk b1 [sl A_w_0 w_0 c_w_0, sl A_w_1 w_1 c_w_1, sl A_w_2 w_2 c_w_2] 71 :: Fz F W :: cs))) ⟨by kernel_rfl⟩ (fun w_ hM hS => (tourref3_KindsError_ok w0 w_ (.blk b1 [sl A_w_0 w_0 c_w_0, sl A_w_1 w_1 c_w_1, sl A_w_2 w_2 c_w_2] 71 :: cs) F W A_w_0 c_w_0 w_0 (hM.pick 2 [1, 0] (by kernel_rfl) (by decide) rfl) h_w_0 x2 hv3).mono (by rintro e w' ⟨-, rfl, h'⟩; have h' : Mem w0 (.blk b1 [sl A_w_0 w_0 c_w_0, sl A_w_1 w_1 c_w_1, sl A_w_2 w_2 c_w_2] 71 :: Fz F W :: cs) w' := (h'.pick 2 [1, 0] (by kernel_rfl) (by decide) rfl); exact ⟨(), trivial, rfl, h', trivial⟩)) ?_
 rintro _ -
 refine oQ [oF 3] [(4, vI x2), (1, vP b1 0)] (by kernel_rfl) ?_
 refine ops_nil (fin_then (st_seq (st_region [oF 0, oF 1] (by rfl) ?_)))
 refine oQ [oF 0, oF 1] [(18, .bool (!(x2 == 0))), (4, vI x2), (1, vP b1 0)] (by kernel_rfl) ?_
 refine ops_nil (fin_then ?_)
 refine st_if (b := !(x2 == 0)) rfl (fun hc4 => ?_) (fun hc4 => ?_)
 ·
  have hp := cnd_t hc4 hp
  refine st_seq (st_region [oF 0, oF 1, oF 2] (by rfl) ?_)
  refine oQ [oF 0, oF 1, oF 2] [(3, vI x2), (2, .pointer none)] (by kernel_rfl) ?_
  refine ops_nil (fin_then (st_ret (fin_ret_then ?_)))
  have hq_ := Option.some.inj hp
  subst hq_
  refine fin_ret [.tmp 2, .tmp 3] [.pointer none, vI x2] rfl rfl (fun w_ hM => (.tmp rfl (.tmp rfl .nil))) (fun w_ hM => ?_)
  refine (isel_l ?_)
  exact ⟨F, W, (Ext.refl _ _ _), rfl, hM.pick 2 [1] (by kernel_rfl) (by decide) rfl⟩
 ·
  have hp := cnd_f hc4 hp
  refine st_skip (fin_then (st_seq (st_seq (st_region [oF 0, oF 1, oF 2, oF 3, oF 4, oF 5, oF 6, oF 7, oF 8, oF 9, oF 10, oF 11, oF 12] (by rfl) ?_))))
  refine oQ [oF 0] [(20, vP b1 1), (1, vP b1 0)] (by kernel_rfl) ?_
  refine ops_mem (d := some 21) (an := [.v (sl A_w_1 w_1 c_w_1)]) (evs := [ld b1 1 (sl A_w_1 w_1 c_w_1)]) (v := sl A_w_1 w_1 c_w_1) ⟨by kernel_rfl⟩ (fun w_ hM hS => ⟨w_, ⟨hM.cell 0 rfl rfl, rfl⟩, hM, trivial⟩) ?_
  refine oQ [oF 2, oF 3, oF 4] [(24, .bool (decide (256 < (w_1.length : Int)))), (1, vP b1 0)] (by kernel_rfl) ?_
  refine ops_bool (t := decide (256 < (w_1.length : Int))) (l1 := [(24, .bool true), (1, vP b1 0)]) (l2 := [(24, .bool false), (1, vP b1 0)]) (fun h => by rw [h]) (fun h => by rw [h]) (fun hc5 => ?_) (fun hc5 => ?_)
  ·
   have hp := cnd_t hc5 hp
   refine oQ [oF 5, oF 6, oF 7, oF 8, oF 9, oF 10, oF 11, oF 12] [(32, .bool true), (1, vP b1 0)] (by kernel_rfl) ?_
   refine ops_nil (fin_then (st_true rfl (st_seq (st_region [oF 0, oF 1] (by rfl) ?_))))
   refine oQ [oF 0, oF 1] [(3, vI 2), (2, .pointer none)] (by kernel_rfl) ?_
   refine ops_nil (fin_then (st_ret (fin_ret_then ?_)))
   have hq_ := Option.some.inj hp
   subst hq_
   refine fin_ret [.tmp 2, .tmp 3] [.pointer none, vI 2] rfl rfl (fun w_ hM => (.tmp rfl (.tmp rfl .nil))) (fun w_ hM => ?_)
   refine (isel_l ?_)
   exact ⟨F, W, (Ext.refl _ _ _), rfl, hM.pick 2 [1] (by kernel_rfl) (by decide) rfl⟩
  ·
   have hp := cnd_f hc5 hp
   refine oQ [oF 5] [(25, vP b1 2), (24, .bool false), (1, vP b1 0)] (by kernel_rfl) ?_
   refine ops_mem (d := some 26) (an := [.v (sl A_w_2 w_2 c_w_2)]) (evs := [ld b1 2 (sl A_w_2 w_2 c_w_2)]) (v := sl A_w_2 w_2 c_w_2) ⟨by kernel_rfl⟩ (fun w_ hM hS => ⟨w_, ⟨hM.cell 0 rfl rfl, rfl⟩, hM, trivial⟩) ?_
   refine oQ [oF 7, oF 8] [(28, vP b1 1), (27, vI (w_2.length : Int)), (24, .bool false), (1, vP b1 0)] (by kernel_rfl) ?_
   refine ops_mem (d := some 29) (an := [.v (sl A_w_1 w_1 c_w_1)]) (evs := [ld b1 1 (sl A_w_1 w_1 c_w_1)]) (v := sl A_w_1 w_1 c_w_1) ⟨by kernel_rfl⟩ (fun w_ hM hS => ⟨w_, ⟨hM.cell 0 rfl rfl, rfl⟩, hM, trivial⟩) ?_
   refine oQ [oF 10, oF 11, oF 12] [(32, .bool (decide ((w_1.length : Int) < (w_2.length : Int)))), (1, vP b1 0)] (by kernel_rfl) ?_
   refine ops_nil (fin_then ?_)
   refine st_if (b := decide ((w_1.length : Int) < (w_2.length : Int))) rfl (fun hc6 => ?_) (fun hc6 => ?_)
   ·
    have hp := cnd_t hc6 hp
    refine st_seq (st_region [oF 0, oF 1] (by rfl) ?_)
    refine oQ [oF 0, oF 1] [(3, vI 2), (2, .pointer none)] (by kernel_rfl) ?_
    refine ops_nil (fin_then (st_ret (fin_ret_then ?_)))
    have hq_ := Option.some.inj hp
    subst hq_
    refine fin_ret [.tmp 2, .tmp 3] [.pointer none, vI 2] rfl rfl (fun w_ hM => (.tmp rfl (.tmp rfl .nil))) (fun w_ hM => ?_)
    refine (isel_l ?_)
    exact ⟨F, W, (Ext.refl _ _ _), rfl, hM.pick 2 [1] (by kernel_rfl) (by decide) rfl⟩
   ·
    have hp := cnd_f hc6 hp
    refine st_skip (fin_then (st_seq (st_region [oF 0, oF 1, oF 2, oF 3, oF 4, oF 5, oF 6] (by rfl) ?_)))
    refine oQ [oF 0] [(33, vP b1 1), (1, vP b1 0)] (by kernel_rfl) ?_
    refine ops_mem (d := some 34) (an := [.v (sl A_w_1 w_1 c_w_1)]) (evs := [ld b1 1 (sl A_w_1 w_1 c_w_1)]) (v := sl A_w_1 w_1 c_w_1) ⟨by kernel_rfl⟩ (fun w_ hM hS => ⟨w_, ⟨hM.cell 0 rfl rfl, rfl⟩, hM, trivial⟩) ?_
    obtain ⟨x7, hv8, hp⟩ := obind hp
    refine ops_callI (σ := (Option Addr) × Nat × (List Value)) (d := some 35) (f := 74) (args := #[sl A_w_1 w_1 c_w_1]) (v := (fun x_ => match x_ with | (A9, c10, y11) => sl A9 x7 c10)) (I := (fun x_ => match x_ with | (A9, c10, y11) => (RepL (Rep.int .i64) F W x7 y11))) (M' := (fun x_ => match x_ with | (A9, c10, y11) => Mem w0 (ow A9 x7 c10 3 1 y11 :: .blk b1 [sl A_w_0 w_0 c_w_0, sl A_w_1 w_1 c_w_1, sl A_w_2 w_2 c_w_2] 71 :: Fz F W :: cs))) ⟨by kernel_rfl⟩ (fun w_ hM hS => (slices_Clone_int_int_ok w0 w_ (.blk b1 [sl A_w_0 w_0 c_w_0, sl A_w_1 w_1 c_w_1, sl A_w_2 w_2 c_w_2] 71 :: cs) F W A_w_1 c_w_1 w_1 (hM.pick 2 [1, 0] (by kernel_rfl) (by decide) rfl) h_w_1 x7 hv8).mono (by rintro e w' ⟨A9, c10, y11, h12, rfl, h'⟩; have h' : Mem w0 (ow A9 x7 c10 3 1 y11 :: .blk b1 [sl A_w_0 w_0 c_w_0, sl A_w_1 w_1 c_w_1, sl A_w_2 w_2 c_w_2] 71 :: Fz F W :: cs) w' := (h'.pick 3 [0, 2, 1] (by kernel_rfl) (by decide) rfl); exact ⟨(A9, c10, y11), h12, rfl, h', trivial⟩)) ?_
    rintro ⟨A9, c10, y11⟩ h12
    have h14 := (MapOK.nil : MapOK (fun x_ : Int => Value.int .i64 x_) (Rep.map (fun x_ : Int => Value.int .i64 x_) (Rep.sl (Rep.int .i64)) false) false F W ([] : List (Int × (Option (List (Int × (List Int)))))) #[] 0)
    refine ops_new (d := some 36) (o := .map #[] 0) (v := fun g13 => .map (some g13)) (M' := fun g13 => Mem w0 (.obj g13 (.map #[] 0) :: ow A9 x7 c10 3 1 y11 :: .blk b1 [sl A_w_0 w_0 c_w_0, sl A_w_1 w_1 c_w_1, sl A_w_2 w_2 c_w_2] 71 :: Fz F W :: cs)) (fun g13 => ⟨by kernel_rfl⟩) (fun w_ hM hS => ⟨hM.objNew _, trivial⟩) (fun g13 => ?_)
    refine oQ [oF 4] [(37, .agg #[.slice none 0 0, sl A9 x7 c10, .map (some g13)]), (1, vP b1 0)] (by kernel_rfl) ?_
    refine ops_newB (d := some 38) [.slice none 0 0, sl A9 x7 c10, .map (some g13)] 123 (fun b15 => ⟨by kernel_rfl⟩) (fun w_ hM hS => trivial) (fun b15 => ?_)
    refine oQ [oF 6] [(5, vP b15 0), (1, vP b1 0)] (by kernel_rfl) ?_
    refine ops_nil (fin_then ?_)
    refine st_join1 (σ := (Option Addr) × Nat × (List api_Kind) × (List Value) × (Nat → Prop) × World) (L := fun x_ => match x_ with | (A16, c17, l18, y19, F21, W22) => [(1, vP b1 0), (5, vP b15 0)]) (N := fun x_ => match x_ with | (A16, c17, l18, y19, F21, W22) => Mem w0 (.blk b1 [sl A_w_0 w_0 c_w_0, sl A_w_1 w_1 c_w_1, sl A_w_2 w_2 c_w_2] 71 :: .blk b15 [sl A16 l18 c17, sl A9 x7 c10, .map (some g13)] 123 :: ow A16 l18 c17 27 2 y19 :: ow A9 x7 c10 3 1 y11 :: .obj g13 (.map #[] 0) :: Fz F21 W22 :: cs)) (I := fun x_ => match x_ with | (A16, c17, l18, y19, F21, W22) => ((tourref3_Open_j1 w_2 w_0 x7 w_1) l18 = some r_) ∧ (RepL R_api_Kind F21 W22 l18 y19) ∧ (Ext w0 F W F21 W22)) ?_ ?_
    ·
     rintro ⟨A16, c17, l18, y19, F21, W22⟩ ⟨hp, h20, hx1⟩
     have h_w_0 := h_w_0.ext hx1
     have h_w_1 := h_w_1.ext hx1
     have h_w_2 := h_w_2.ext hx1
     have h12 := h12.ext hx1
     have h14 := h14.ext hx1
     unfold tourref3_Open_j1 at hp
     refine st_join1 (σ := (Array MapEntry) × Nat × (List (Int × (Option (List (Int × (List Int)))))) × (Nat → Prop) × World) (L := fun x_ => match x_ with | (es23, ck24, l25, F27, W28) => [(1, vP b1 0), (5, vP b15 0)]) (N := fun x_ => match x_ with | (es23, ck24, l25, F27, W28) => Mem w0 (.blk b1 [sl A_w_0 w_0 c_w_0, sl A_w_1 w_1 c_w_1, sl A_w_2 w_2 c_w_2] 71 :: .blk b15 [sl A16 l18 c17, sl A9 x7 c10, .map (some g13)] 123 :: ow A16 l18 c17 27 2 y19 :: ow A9 x7 c10 3 1 y11 :: .obj g13 (.map es23 ck24) :: Fz F27 W28 :: cs)) (I := fun x_ => match x_ with | (es23, ck24, l25, F27, W28) => ((tourref3_Open_j2 x7 l18 w_0 w_1 w_2) l25 = some r_) ∧ (MapOK (fun x_ : Int => Value.int .i64 x_) (Rep.map (fun x_ : Int => Value.int .i64 x_) (Rep.sl (Rep.int .i64)) false) false F27 W28 l25 es23 ck24) ∧ (Ext w0 F21 W22 F27 W28)) ?_ ?_
     ·
      rintro ⟨es23, ck24, l25, F27, W28⟩ ⟨hp, h26, hx2⟩
      have h_w_0 := h_w_0.ext hx2
      have h_w_1 := h_w_1.ext hx2
      have h_w_2 := h_w_2.ext hx2
      have h20 := h20.ext hx2
      have h12 := h12.ext hx2
      unfold tourref3_Open_j2 at hp
      refine st_join1 (σ := Unit) (L := fun _ => [(1, vP b1 0), (5, vP b15 0)]) (N := fun _ => Mem w0 (.blk b1 [sl A_w_0 w_0 c_w_0, sl A_w_1 w_1 c_w_1, sl A_w_2 w_2 c_w_2] 71 :: .blk b15 [sl A16 l18 c17, sl A9 x7 c10, .map (some g13)] 123 :: ow A16 l18 c17 27 2 y19 :: ow A9 x7 c10 3 1 y11 :: .obj g13 (.map es23 ck24) :: Fz F27 W28 :: cs)) (I := fun _ => ((tourref3_Open_j3 l18 x7 l25 w_0 w_1 w_2) = some r_)) ?_ ?_
      ·
       rintro _ hp
       unfold tourref3_Open_j3 at hp
       refine st_seq (st_seq ?_)
       refine st_region_draw [oT 0, oT 2, oF 1, oF 3, oT 4] (Mem w0 (.blk b1 [sl A_w_0 w_0 c_w_0, sl A_w_1 w_1 c_w_1, sl A_w_2 w_2 c_w_2] 71 :: Fz F27 W28 :: cs)) (by kernel_rfl) (by kernel_rfl) (by kernel_rfl) (fun _ d _ _ _ h => by cases d <;> exact h) (M' := Mem w0 (.blk b1 [sl A_w_0 w_0 c_w_0, sl A_w_1 w_1 c_w_1, sl A_w_2 w_2 c_w_2] 71 :: .blk b15 [sl A16 l18 c17, sl A9 x7 c10, .map (some g13)] 123 :: ow A16 l18 c17 27 2 y19 :: ow A9 x7 c10 3 1 y11 :: .obj g13 (.map es23 ck24) :: Fz F27 W28 :: cs)) (fun w_ hM => ⟨hM.drew, hM.drew.sub (.cons_cons _ (.cons _ (.cons _ (.cons _ (.cons _ (.cons_cons _ (.refl _)))))))⟩) ?_
       refine oQ [oT 0] [(135, vP b15 0), (1, vP b1 0), (5, vP b15 0)] (by kernel_rfl) ?_
       refine ops_load (d := some 137) (an := [.v (sl A_w_0 w_0 c_w_0), .v (sl A_w_1 w_1 c_w_1), .v (sl A_w_2 w_2 c_w_2)]) (evs := [ld b1 0 (sl A_w_0 w_0 c_w_0), ld b1 1 (sl A_w_1 w_1 c_w_1), ld b1 2 (sl A_w_2 w_2 c_w_2)]) (v := .agg #[sl A_w_0 w_0 c_w_0, sl A_w_1 w_1 c_w_1, sl A_w_2 w_2 c_w_2]) ⟨by kernel_rfl⟩ (fun w_ hM => ⟨hM.cell 0 rfl rfl, hM.cell 0 rfl rfl, hM.cell 0 rfl rfl, rfl⟩) ?_
       obtain ⟨x29, x30, x31, hv32, hp⟩ := obind3 hp
       refine ops_callI (σ := (Option Addr) × Nat × (List Value) × (Option Addr) × Nat × (List Value) × (Option Addr) × Nat × (List Value) × (List Value) × (List Value) × (Array MapEntry) × Nat × (Nat → Prop) × World) (d := some 136) (f := 77) (args := #[vP b15 0]) (v := (fun x_ => match x_ with | (A33, c34, y35, A36, c37, y38, A39, c40, y41, y42, y43, es44, ck45, F46, W47) => .agg #[sl A33 x29 c34, sl A36 x30 c37, sl A39 x31 c40])) (I := (fun x_ => match x_ with | (A33, c34, y35, A36, c37, y38, A39, c40, y41, y42, y43, es44, ck45, F46, W47) => (RepL R_api_Kind F46 W47 x29 y35) ∧ (RepL (Rep.int .i64) F46 W47 x30 y38) ∧ (RepL R_api_Item F46 W47 x31 y41) ∧ (RepL R_api_Kind F46 W47 l18 y42) ∧ (RepL (Rep.int .i64) F46 W47 x7 y43) ∧ (MapOK (fun x_ : Int => Value.int .i64 x_) (Rep.map (fun x_ : Int => Value.int .i64 x_) (Rep.sl (Rep.int .i64)) false) false F46 W47 l25 es44 ck45) ∧ (Ext w0 F27 W28 F46 W47))) (M' := (fun x_ => match x_ with | (A33, c34, y35, A36, c37, y38, A39, c40, y41, y42, y43, es44, ck45, F46, W47) => Mem w0 (ow A33 x29 c34 27 2 y35 :: ow A36 x30 c37 3 1 y38 :: ow A39 x31 c40 115 3 y41 :: .blk b1 [sl A_w_0 w_0 c_w_0, sl A_w_1 w_1 c_w_1, sl A_w_2 w_2 c_w_2] 71 :: .blk b15 [sl A16 l18 c17, sl A9 x7 c10, .map (some g13)] 123 :: ow A16 l18 c17 27 2 y42 :: ow A9 x7 c10 3 1 y43 :: .obj g13 (.map es44 ck45) :: Fz F46 W47 :: cs))) ⟨by kernel_rfl⟩ (fun w_ hM hS => (tourref3_Flat_Close_ok w0 w_ (.blk b1 [sl A_w_0 w_0 c_w_0, sl A_w_1 w_1 c_w_1, sl A_w_2 w_2 c_w_2] 71 :: cs) F27 W28 b15 A16 c17 l18 y19 A9 c10 x7 y11 g13 es23 ck24 l25 (hM.pick 6 [1, 2, 3, 4, 5, 0] (by kernel_rfl) (by decide) rfl) h20 h12 h26 x29 x30 x31 hv32).mono (by rintro e w' ⟨A33, c34, y35, A36, c37, y38, A39, c40, y41, y42, y43, es44, ck45, F46, W47, ⟨h48, h49, h50, h51, h52, h53, h54⟩, rfl, h'⟩; have h' : Mem w0 (ow A33 x29 c34 27 2 y35 :: ow A36 x30 c37 3 1 y38 :: ow A39 x31 c40 115 3 y41 :: .blk b1 [sl A_w_0 w_0 c_w_0, sl A_w_1 w_1 c_w_1, sl A_w_2 w_2 c_w_2] 71 :: .blk b15 [sl A16 l18 c17, sl A9 x7 c10, .map (some g13)] 123 :: ow A16 l18 c17 27 2 y42 :: ow A9 x7 c10 3 1 y43 :: .obj g13 (.map es44 ck45) :: Fz F46 W47 :: cs) w' := (h'.pick 9 [0, 1, 2, 8, 3, 4, 5, 6, 7] (by kernel_rfl) (by decide) rfl); exact ⟨(A33, c34, y35, A36, c37, y38, A39, c40, y41, y42, y43, es44, ck45, F46, W47), ⟨h48, h49, h50, h51, h52, h53, h54⟩, rfl, h', (by first | exact (Mem.fzback h' 8 rfl h54).sub (.cons _ (.cons _ (.cons _ (.cons_cons _ (.cons _ (.cons _ (.cons _ (.cons _ (.cons_cons _ (.refl _)))))))))) | exact (Mem.fzback h' 8 rfl (hx2.trans h54)).sub (.cons _ (.cons _ (.cons _ (.cons_cons _ (.cons _ (.cons _ (.cons _ (.cons _ (.cons_cons _ (.refl _)))))))))) | exact (Mem.fzback h' 8 rfl ((hx1.trans hx2).trans h54)).sub (.cons _ (.cons _ (.cons _ (.cons_cons _ (.cons _ (.cons _ (.cons _ (.cons _ (.cons_cons _ (.refl _)))))))))))⟩)) ?_
       rintro ⟨A33, c34, y35, A36, c37, y38, A39, c40, y41, y42, y43, es44, ck45, F46, W47⟩ ⟨h48, h49, h50, h51, h52, h53, h54⟩
       have h_w_0 := h_w_0.ext h54
       have h_w_1 := h_w_1.ext h54
       have h_w_2 := h_w_2.ext h54
       obtain ⟨x55, hv56, hp⟩ := obind hp
       refine ops_callI (σ := Unit) (d := some 138) (f := 48) (args := #[.agg #[sl A33 x29 c34, sl A36 x30 c37, sl A39 x31 c40], .agg #[sl A_w_0 w_0 c_w_0, sl A_w_1 w_1 c_w_1, sl A_w_2 w_2 c_w_2]]) (v := (fun _ => .bool x55)) (I := (fun _ => True)) (M' := (fun _ => Mem w0 (ow A33 x29 c34 27 2 y35 :: ow A36 x30 c37 3 1 y38 :: ow A39 x31 c40 115 3 y41 :: .blk b1 [sl A_w_0 w_0 c_w_0, sl A_w_1 w_1 c_w_1, sl A_w_2 w_2 c_w_2] 71 :: .blk b15 [sl A16 l18 c17, sl A9 x7 c10, .map (some g13)] 123 :: ow A16 l18 c17 27 2 y42 :: ow A9 x7 c10 3 1 y43 :: .obj g13 (.map es44 ck45) :: Fz F46 W47 :: cs))) ⟨by kernel_rfl⟩ (fun w_ hM hS => (tourref3_SameWorld_ok w_ w_ [] (fun b => b < w_.heap.size) w_ A33 c34 x29 A36 c37 x30 A39 c40 x31 A_w_0 c_w_0 w_0 A_w_1 c_w_1 w_1 A_w_2 c_w_2 w_2 (Mem.fz0 w_) (hM.ordS 0 8 rfl rfl h48 rfl rfl) (hM.ordS 1 8 rfl rfl h49 rfl rfl) (hM.ordS 2 8 rfl rfl h50 rfl rfl) (hM.now 8 rfl h_w_0) (hM.now 8 rfl h_w_1) (hM.now 8 rfl h_w_2) x55 hv56).mono (by rintro e w' ⟨-, rfl, h'⟩; have h' : Mem w_ [] w' := h'.pick 1 [] (by kernel_rfl) (by decide) rfl; exact ⟨(), trivial, rfl, hM.join h' rfl, (hS.step h'.below)⟩)) ?_
       rintro _ -
       refine oQ [oT 4] [(139, .bool (!x55)), (5, vP b15 0)] (by kernel_rfl) ?_
       refine ops_nil (fin_then ?_)
       refine st_if (b := !x55) rfl (fun hc57 => ?_) (fun hc57 => ?_)
       ·
        have hp := cnd_t hc57 hp
        refine st_seq (st_region [oF 0, oF 1] (by rfl) ?_)
        refine oQ [oF 0, oF 1] [(3, vI 3), (2, .pointer none)] (by kernel_rfl) ?_
        refine ops_nil (fin_then (st_ret (fin_ret_then ?_)))
        have hq_ := Option.some.inj hp
        subst hq_
        refine fin_ret [.tmp 2, .tmp 3] [.pointer none, vI 3] rfl rfl (fun w_ hM => (.tmp rfl (.tmp rfl .nil))) (fun w_ hM => ?_)
        refine (isel_l ?_)
        exact ⟨F46, W47, ((hx1.trans hx2).trans h54), rfl, hM.pick 9 [8] (by kernel_rfl) (by decide) rfl⟩
       ·
        have hp := cnd_f hc57 hp
        refine st_skip (fin_then (st_seq (st_region [oF 0, oF 1, oF 2] (by rfl) ?_)))
        refine oQ [oF 0, oF 1, oF 2] [(3, vI 0), (2, vP b15 0)] (by kernel_rfl) ?_
        refine ops_nil (fin_then (st_ret ?_))
        have hq_ := Option.some.inj hp
        subst hq_
        refine fin_ret [.tmp 2, .tmp 3] [vP b15 0, vI 0] rfl rfl (fun w_ hM => (.tmp rfl (.tmp rfl .nil))) (fun w_ hM => ?_)
        refine (isel_r (iun3_at ?_))
        exact ⟨b15, A16, c17, y42, A9, c10, y43, g13, es44, ck45, F46, W47, ⟨h51, h52, h53, ((hx1.trans hx2).trans h54)⟩, rfl, hM.pick 9 [4, 5, 6, 7, 8] (by kernel_rfl) (by decide) rfl⟩
      ·
       intro HJ3
       refine st_seq (st_seq (st_region [oF 0, oF 1, oF 2, oF 3, oF 4, oF 5] (by rfl) ?_))
       refine oQ [oF 0, oF 1, oF 2] [(107, vP b15 1), (1, vP b1 0), (5, vP b15 0)] (by kernel_rfl) ?_
       refine ops_mem (d := some 108) (an := [.v (sl A9 x7 c10)]) (evs := [ld b15 1 (sl A9 x7 c10)]) (v := sl A9 x7 c10) ⟨by kernel_rfl⟩ (fun w_ hM hS => ⟨w_, ⟨hM.cell 1 rfl rfl, rfl⟩, hM, trivial⟩) ?_
       refine oQ [oF 4, oF 5] [(110, vI 0), (109, vI (x7.length : Int)), (108, sl A9 x7 c10), (1, vP b1 0), (5, vP b15 0)] (by kernel_rfl) ?_
       refine ops_nil (fin_then (st_block ?_))
       obtain ⟨r4, hl4, hk4⟩ := obind hp
       refine st_loopP (σ := Int) (ρ := (Int ⊕ Unit)) (γ := Unit) hl4 () (fun s_ g_ => match s_, g_ with | i58, _ => [(1, vP b1 0), (5, vP b15 0), (108, sl A9 x7 c10), (109, vI (x7.length : Int)), (110, vI i58)]) (fun s_ g_ => match s_, g_ with | i58, _ => Mem w0 (.blk b1 [sl A_w_0 w_0 c_w_0, sl A_w_1 w_1 c_w_1, sl A_w_2 w_2 c_w_2] 71 :: .blk b15 [sl A16 l18 c17, sl A9 x7 c10, .map (some g13)] 123 :: ow A16 l18 c17 27 2 y19 :: ow A9 x7 c10 3 1 y11 :: .obj g13 (.map es23 ck24) :: Fz F27 W28 :: cs)) (fun s_ g_ => match s_, g_ with | i58, _ => True) trivial (look_has ⟨rfl, rfl, rfl, rfl, rfl, trivial⟩) (fun w_ hM => hM) ?_
       rintro i58 _ o4 - hs_ hd4
       have hp : (tourref3_Open_l4 x7 l25) i58 = some o4 := hs_
       clear hs_
       unfold tourref3_Open_l4 at hp
       refine st_seq (st_region [oF 0] (by rfl) ?_)
       refine oQ [oF 0] [(111, .bool (decide (i58 < (x7.length : Int)))), (1, vP b1 0), (5, vP b15 0), (108, sl A9 x7 c10), (109, vI (x7.length : Int)), (110, vI i58)] (by kernel_rfl) ?_
       refine ops_nil (fin_then (st_seq ?_))
       refine st_if (b := decide (i58 < (x7.length : Int))) rfl (fun hc59 => ?_) (fun hc59 => ?_)
       ·
        have hp := cnd_t hc59 hp
        refine st_skip (fin_then ?_)
        refine st_join1 (σ := Unit) (L := fun _ => [(1, vP b1 0), (5, vP b15 0), (108, sl A9 x7 c10), (109, vI (x7.length : Int)), (110, vI i58)]) (N := fun _ => Mem w0 (.blk b1 [sl A_w_0 w_0 c_w_0, sl A_w_1 w_1 c_w_1, sl A_w_2 w_2 c_w_2] 71 :: .blk b15 [sl A16 l18 c17, sl A9 x7 c10, .map (some g13)] 123 :: ow A16 l18 c17 27 2 y19 :: ow A9 x7 c10 3 1 y11 :: .obj g13 (.map es23 ck24) :: Fz F27 W28 :: cs)) (I := fun _ => ((tourref3_Open_j5 i58) = some o4)) ?_ ?_
        ·
         rintro _ hp
         unfold tourref3_Open_j5 at hp
         refine st_region [oF 0, oF 1] (by rfl) ?_
         refine oQ [oF 0, oF 1] [(110, vI (IntKind.i64.wrap (i58 + 1))), (1, vP b1 0), (5, vP b15 0), (108, sl A9 x7 c10), (109, vI (x7.length : Int))] (by kernel_rfl) ?_
         refine ops_nil ?_
         exact fin_again (IntKind.i64.wrap (i58 + 1)) () (Option.some.inj hp).symm trivial (look_has ⟨rfl, rfl, rfl, rfl, rfl, trivial⟩) (fun w_ hM => hM)
        ·
         intro HJ5
         refine st_seq (st_block (st_seq (st_region [oF 0, oF 1, oF 2, oF 3, oF 4] (by rfl) ?_)))
         refine oQ [oF 0] [(112, vI i58), (1, vP b1 0), (5, vP b15 0), (108, sl A9 x7 c10), (109, vI (x7.length : Int)), (110, vI i58)] (by kernel_rfl) ?_
         obtain ⟨x60, hv61, hp⟩ := obind hp
         obtain ⟨m62, hm63, hx64⟩ := idx_some hv61
         have hl67 := (List.getElem?_eq_some_iff.1 hx64).1
         refine ops_fact (fun w_ hM => hM.orowSome 3 rfl (Nat.lt_of_le_of_lt (Nat.zero_le _) hl67)) ?_
         rintro ⟨g68, rfl, -⟩
         obtain ⟨vs65, hr66, hq69⟩ := h12.at_ m62 x60 hx64
         obtain rfl := hr66
         refine ops_val (op := (.indexAddr 33 (.tmp 108) (.tmp 110))) (d := some 113) (v := vP g68 (m62 * 1)) ⟨by kernel_rfl⟩ (run_indexRow Tryd.underlying33 (z := 1) (by kernel_rfl) rfl rfl hm63 hl67 rfl) ?_
         refine ops_mem (d := some 114) (an := [.v (vI x60)]) (evs := [.load ⟨g68, m62 * 1, none⟩ (vI x60)]) (v := vI x60) ⟨by kernel_rfl⟩ (fun w_ hM hS => ⟨w_, ⟨hM.ocell 3 rfl (hq69 0 _ rfl), rfl⟩, hM, trivial⟩) ?_
         refine oQ [oF 3, oF 4] [(13, vI x60), (12, vI i58), (1, vP b1 0), (5, vP b15 0), (108, sl (sa g68) x7 c10), (109, vI (x7.length : Int)), (110, vI i58)] (by kernel_rfl) ?_
         refine ops_nil (fin_then (st_seq (st_region [oF 0, oF 1, oF 2, oF 3, oF 4, oF 5, oF 6, oF 7, oF 8, oF 9, oF 10, oF 11, oF 12, oF 13, oF 14, oF 15, oF 16, oF 17, oF 18] (by rfl) ?_)))
         refine oQ [oF 0, oF 1, oF 2] [(117, .bool (decide (x60 < 0))), (13, vI x60), (12, vI i58), (1, vP b1 0), (5, vP b15 0), (108, sl (sa g68) x7 c10), (109, vI (x7.length : Int)), (110, vI i58)] (by kernel_rfl) ?_
         refine ops_bool (t := decide (x60 < 0)) (l1 := [(117, .bool true), (13, vI x60), (12, vI i58), (1, vP b1 0), (5, vP b15 0), (108, sl (sa g68) x7 c10), (109, vI (x7.length : Int)), (110, vI i58)]) (l2 := [(117, .bool false), (13, vI x60), (12, vI i58), (1, vP b1 0), (5, vP b15 0), (108, sl (sa g68) x7 c10), (109, vI (x7.length : Int)), (110, vI i58)]) (fun h => by rw [h]) (fun h => by rw [h]) (fun hc70 => ?_) (fun hc70 => ?_)
         ·
          have hp := cnd_t hc70 hp
          refine oQ [oF 3, oF 4, oF 5, oF 6, oF 7, oF 8, oF 9, oF 10, oF 11, oF 12, oF 13, oF 14, oF 15, oF 16, oF 17, oF 18] [(133, .bool true), (1, vP b1 0), (5, vP b15 0), (108, sl (sa g68) x7 c10), (109, vI (x7.length : Int)), (110, vI i58)] (by kernel_rfl) ?_
          refine ops_nil (fin_then (st_true rfl (st_seq (st_region [oF 0, oF 1] (by rfl) ?_))))
          refine oQ [oF 0, oF 1] [(3, vI 3), (2, .pointer none)] (by kernel_rfl) ?_
          refine ops_nil (fin_then (st_ret (fin_ret_block (fin_ret_then (fin_ret_then (fin_ret_block (fin_ret_then ?_)))))))
          obtain hq_ := Option.some.inj hp
          subst hq_
          obtain hq_ := hd4 _ rfl
          subst hq_
          have hp : some (.inl 3) = some r_ := hk4
          have hq_ := Option.some.inj hp
          subst hq_
          refine fin_ret [.tmp 2, .tmp 3] [.pointer none, vI 3] rfl rfl (fun w_ hM => (.tmp rfl (.tmp rfl .nil))) (fun w_ hM => ?_)
          refine (isel_l ?_)
          exact ⟨F27, W28, (hx1.trans hx2), rfl, hM.pick 6 [5] (by kernel_rfl) (by decide) rfl⟩
         ·
          have hp := cnd_f hc70 hp
          refine oQ [oF 3, oF 4, oF 5, oF 6] [(121, .bool (decide (1073741824 < x60))), (13, vI x60), (12, vI i58), (1, vP b1 0), (5, vP b15 0), (108, sl (sa g68) x7 c10), (109, vI (x7.length : Int)), (110, vI i58)] (by kernel_rfl) ?_
          refine ops_bool (t := decide (1073741824 < x60)) (l1 := [(121, .bool true), (13, vI x60), (12, vI i58), (1, vP b1 0), (5, vP b15 0), (108, sl (sa g68) x7 c10), (109, vI (x7.length : Int)), (110, vI i58)]) (l2 := [(121, .bool false), (13, vI x60), (12, vI i58), (1, vP b1 0), (5, vP b15 0), (108, sl (sa g68) x7 c10), (109, vI (x7.length : Int)), (110, vI i58)]) (fun h => by rw [h]) (fun h => by rw [h]) (fun hc71 => ?_) (fun hc71 => ?_)
          ·
           have hp := cnd_t hc71 hp
           refine oQ [oF 7, oF 8, oF 9, oF 10, oF 11, oF 12, oF 13, oF 14, oF 15, oF 16, oF 17, oF 18] [(133, .bool true), (1, vP b1 0), (5, vP b15 0), (108, sl (sa g68) x7 c10), (109, vI (x7.length : Int)), (110, vI i58)] (by kernel_rfl) ?_
           refine ops_nil (fin_then (st_true rfl (st_seq (st_region [oF 0, oF 1] (by rfl) ?_))))
           refine oQ [oF 0, oF 1] [(3, vI 3), (2, .pointer none)] (by kernel_rfl) ?_
           refine ops_nil (fin_then (st_ret (fin_ret_block (fin_ret_then (fin_ret_then (fin_ret_block (fin_ret_then ?_)))))))
           obtain hq_ := Option.some.inj hp
           subst hq_
           obtain hq_ := hd4 _ rfl
           subst hq_
           have hp : some (.inl 3) = some r_ := hk4
           have hq_ := Option.some.inj hp
           subst hq_
           refine fin_ret [.tmp 2, .tmp 3] [.pointer none, vI 3] rfl rfl (fun w_ hM => (.tmp rfl (.tmp rfl .nil))) (fun w_ hM => ?_)
           refine (isel_l ?_)
           exact ⟨F27, W28, (hx1.trans hx2), rfl, hM.pick 6 [5] (by kernel_rfl) (by decide) rfl⟩
          ·
           have hp := cnd_f hc71 hp
           refine oQ [oF 7, oF 8, oF 9] [(124, .bool (x60 == 1073741824)), (121, .bool false), (12, vI i58), (1, vP b1 0), (5, vP b15 0), (108, sl (sa g68) x7 c10), (109, vI (x7.length : Int)), (110, vI i58)] (by kernel_rfl) ?_
           refine ops_bool (t := (x60 == 1073741824)) (l1 := [(124, .bool true), (121, .bool false), (12, vI i58), (1, vP b1 0), (5, vP b15 0), (108, sl (sa g68) x7 c10), (109, vI (x7.length : Int)), (110, vI i58)]) (l2 := [(124, .bool false), (121, .bool false), (12, vI i58), (1, vP b1 0), (5, vP b15 0), (108, sl (sa g68) x7 c10), (109, vI (x7.length : Int)), (110, vI i58)]) (fun h => by rw [h]) (fun h => by rw [h]) (fun hc72 => ?_) (fun hc72 => ?_)
           ·
            have hp := cnd_t hc72 hp
            refine oQ [oF 10, oF 11, oF 12] [(127, vP b15 2), (124, .bool true), (121, .bool false), (12, vI i58), (1, vP b1 0), (5, vP b15 0), (108, sl (sa g68) x7 c10), (109, vI (x7.length : Int)), (110, vI i58)] (by kernel_rfl) ?_
            refine ops_mem (d := some 128) (an := [.v (.map (some g13))]) (evs := [ld b15 2 (.map (some g13))]) (v := .map (some g13)) ⟨by kernel_rfl⟩ (fun w_ hM hS => ⟨w_, ⟨hM.cell 1 rfl rfl, rfl⟩, hM, trivial⟩) ?_
            refine oQ [oF 14] [(129, vI i58), (128, .map (some g13)), (124, .bool true), (121, .bool false), (1, vP b1 0), (5, vP b15 0), (108, sl (sa g68) x7 c10), (109, vI (x7.length : Int)), (110, vI i58)] (by kernel_rfl) ?_
            obtain ⟨x73, hv74, hp⟩ := obind hp
            obtain ⟨vs75, hr76, hrun77⟩ := h26.get (KeyLaw.int Tryd.underlying3) Tryd.underlying121 i58 none (⟨none, rfl, rfl⟩) (fun u_ => Tryd.zeroValue125 u_)
            have hr76 : (Rep.map (fun x_ : Int => Value.int .i64 x_) (Rep.sl (Rep.int .i64)) false).rd F27 W28 x73 vs75 := by rw [← Option.some.inj hv74]; exact hr76
            obtain ⟨B78, rfl, h79⟩ := hr76
            refine ops_law (op := (.lookup 121 (.tmp 128) (.tmp 129) false)) (d := some 130) (σ := Unit) (v := fun _ => .map B78) (M' := fun _ => Mem w0 (.blk b1 [sl A_w_0 w_0 c_w_0, sl A_w_1 w_1 c_w_1, sl A_w_2 w_2 c_w_2] 71 :: .blk b15 [sl A16 l18 c17, sl (sa g68) x7 c10, .map (some g13)] 123 :: ow A16 l18 c17 27 2 y19 :: ow (sa g68) x7 c10 3 1 y11 :: .obj g13 (.map es23 ck24) :: Fz F27 W28 :: cs)) ⟨by kernel_rfl⟩ (fun o_ w_ ho_ hM hS => ⟨(), w_, run_lookupV rfl rfl (hrun77 false g13 w_ (hM.mapAt 4 rfl)) o_ ho_, hM, trivial⟩) (fun _ => ?_)
            refine ops_val (op := (.binOp Go.BinOp.neq 125 (.tmp 130) (.const (Go.Value.map none)) 125)) (d := some 131) (v := .bool (!x73.isNone)) ⟨by kernel_rfl⟩ (by rw [← RdM.none_iff h79]; exact run_neqMap Tryd.underlying125 rfl rfl) ?_
            refine oQ [oF 17, oF 18] [(133, .bool (!x73.isNone)), (1, vP b1 0), (5, vP b15 0), (108, sl (sa g68) x7 c10), (109, vI (x7.length : Int)), (110, vI i58)] (by kernel_rfl) ?_
            refine ops_nil (fin_then ?_)
            refine st_if (b := !x73.isNone) rfl (fun hc80 => ?_) (fun hc80 => ?_)
            ·
             have hp := cnd_t hc80 hp
             refine st_seq (st_region [oF 0, oF 1] (by rfl) ?_)
             refine oQ [oF 0, oF 1] [(3, vI 3), (2, .pointer none)] (by kernel_rfl) ?_
             refine ops_nil (fin_then (st_ret (fin_ret_block (fin_ret_then (fin_ret_then (fin_ret_block (fin_ret_then ?_)))))))
             obtain hq_ := Option.some.inj hp
             subst hq_
             obtain hq_ := hd4 _ rfl
             subst hq_
             have hp : some (.inl 3) = some r_ := hk4
             have hq_ := Option.some.inj hp
             subst hq_
             refine fin_ret [.tmp 2, .tmp 3] [.pointer none, vI 3] rfl rfl (fun w_ hM => (.tmp rfl (.tmp rfl .nil))) (fun w_ hM => ?_)
             refine (isel_l ?_)
             exact ⟨F27, W28, (hx1.trans hx2), rfl, hM.pick 6 [5] (by kernel_rfl) (by decide) rfl⟩
            ·
             have hp := cnd_f hc80 hp
             refine st_skip (fin_block ?_)
             exact fin_join HJ5 () hp (look_has ⟨rfl, rfl, rfl, rfl, rfl, trivial⟩) (fun w_ hM => hM)
           ·
            have hp := cnd_f hc72 hp
            refine oQ [oF 10, oF 11, oF 12, oF 13, oF 14, oF 15, oF 16, oF 17, oF 18] [(133, .bool false), (1, vP b1 0), (5, vP b15 0), (108, sl (sa g68) x7 c10), (109, vI (x7.length : Int)), (110, vI i58)] (by kernel_rfl) ?_
            refine ops_nil (fin_then (st_false rfl (st_skip (fin_block ?_))))
            exact fin_join HJ5 () hp (look_has ⟨rfl, rfl, rfl, rfl, rfl, trivial⟩) (fun w_ hM => hM)
       ·
        have hp := cnd_f hc59 hp
        refine st_exit (fin_exit_then (fin_exit_then (fin_exit ?_)))
        obtain hq_ := Option.some.inj hp
        subst hq_
        obtain hq_ := hd4 _ rfl
        subst hq_
        have hp : (tourref3_Open_j3 l18 x7 l25 w_0 w_1 w_2) = some r_ := hk4
        exact fin_join HJ3 () hp (look_has ⟨rfl, rfl, trivial⟩) (fun w_ hM => hM)
     ·
      intro HJ2
      refine st_seq (st_seq (st_region [oF 0, oF 1, oF 2, oF 3] (by rfl) ?_))
      refine oQ [oF 0] [(62, vP b1 2), (1, vP b1 0), (5, vP b15 0)] (by kernel_rfl) ?_
      refine ops_mem (d := some 63) (an := [.v (sl A_w_2 w_2 c_w_2)]) (evs := [ld b1 2 (sl A_w_2 w_2 c_w_2)]) (v := sl A_w_2 w_2 c_w_2) ⟨by kernel_rfl⟩ (fun w_ hM hS => ⟨w_, ⟨hM.cell 0 rfl rfl, rfl⟩, hM, trivial⟩) ?_
      refine oQ [oF 2, oF 3] [(65, vI 0), (64, vI (w_2.length : Int)), (63, sl A_w_2 w_2 c_w_2), (1, vP b1 0), (5, vP b15 0)] (by kernel_rfl) ?_
      refine ops_nil (fin_then (st_block ?_))
      obtain ⟨r6, hl6, hk6⟩ := obind hp
      refine st_loopP (σ := (List (Int × (Option (List (Int × (List Int)))))) × Int) (ρ := (Int ⊕ (List (Int × (Option (List (Int × (List Int)))))))) (γ := (Array MapEntry) × Nat × (Nat → Prop) × World) hl6 (#[], 0, F21, W22) (fun s_ g_ => match s_, g_ with | (l83, i85), (es81, ck82, F86, W87) => [(1, vP b1 0), (5, vP b15 0), (63, sl A_w_2 w_2 c_w_2), (64, vI (w_2.length : Int)), (65, vI i85)]) (fun s_ g_ => match s_, g_ with | (l83, i85), (es81, ck82, F86, W87) => Mem w0 (.blk b1 [sl A_w_0 w_0 c_w_0, sl A_w_1 w_1 c_w_1, sl A_w_2 w_2 c_w_2] 71 :: .blk b15 [sl A16 l18 c17, sl A9 x7 c10, .map (some g13)] 123 :: ow A16 l18 c17 27 2 y19 :: ow A9 x7 c10 3 1 y11 :: .obj g13 (.map es81 ck82) :: Fz F86 W87 :: cs)) (fun s_ g_ => match s_, g_ with | (l83, i85), (es81, ck82, F86, W87) => (MapOK (fun x_ : Int => Value.int .i64 x_) (Rep.map (fun x_ : Int => Value.int .i64 x_) (Rep.sl (Rep.int .i64)) false) false F86 W87 l83 es81 ck82) ∧ (Ext w0 F21 W22 F86 W87)) ⟨h14, (Ext.refl _ _ _)⟩ (look_has ⟨rfl, rfl, rfl, rfl, rfl, trivial⟩) (fun w_ hM => hM) ?_
      rintro ⟨l83, i85⟩ ⟨es81, ck82, F86, W87⟩ o6 ⟨h84, hx6⟩ hs_ hd6
      have hp : (tourref3_Open_l6 w_2 w_0 x7) l83 i85 = some o6 := hs_
      clear hs_
      unfold tourref3_Open_l6 at hp
      have h_w_2 := h_w_2.ext hx6
      have h_w_0 := h_w_0.ext hx6
      have h_w_1 := h_w_1.ext hx6
      have h20 := h20.ext hx6
      have h12 := h12.ext hx6
      refine st_seq (st_region [oF 0] (by rfl) ?_)
      refine oQ [oF 0] [(66, .bool (decide (i85 < (w_2.length : Int)))), (1, vP b1 0), (5, vP b15 0), (63, sl A_w_2 w_2 c_w_2), (64, vI (w_2.length : Int)), (65, vI i85)] (by kernel_rfl) ?_
      refine ops_nil (fin_then (st_seq ?_))
      refine st_if (b := decide (i85 < (w_2.length : Int))) rfl (fun hc88 => ?_) (fun hc88 => ?_)
      ·
       have hp := cnd_t hc88 hp
       refine st_skip (fin_then (st_seq (st_block (st_seq (st_region [oF 0, oF 1, oF 2, oF 3] (by rfl) ?_)))))
       obtain ⟨x89, hv90, hp⟩ := obind hp
       obtain ⟨m91, hm92, hx93⟩ := idx_some hv90
       have hl96 := (List.getElem?_eq_some_iff.1 hx93).1
       obtain ⟨ad97, vs94, hA98, hr95, hq99⟩ := RdS.el h_w_2 hx93
       obtain ⟨A100, c101, rfl, h102⟩ := dec_api_Item hr95
       refine ops_val (op := (.indexAddr 69 (.tmp 63) (.tmp 65))) (d := some 67) (v := .pointer (some (ad97.add (m91 * 3)))) ⟨by kernel_rfl⟩ (run_indexA hA98 Tryd.underlying69 (z := 3) (by kernel_rfl) rfl rfl hm92 hl96) ?_
       refine ops_mem (d := some 68) (an := [.v (vI x89.Ent.N), .v (vI x89.Ent.Gen), .v (sl A100 x89.Comps c101)]) (evs := [.load (ad97.add (m91 * 3)) (vI x89.Ent.N), .load ((ad97.add (m91 * 3)).add 1) (vI x89.Ent.Gen), .load ((ad97.add (m91 * 3)).add 2) (sl A100 x89.Comps c101)]) (v := .agg #[vI x89.Ent.N, vI x89.Ent.Gen, sl A100 x89.Comps c101]) ⟨by kernel_rfl⟩ (fun w_ hM hS => ⟨w_, ⟨hM.elcell 5 rfl hq99 0 rfl, hM.elcell 5 rfl hq99 1 rfl, hM.elcell 5 rfl hq99 2 rfl, rfl⟩, hM, trivial⟩) ?_
       refine ops_newB (d := some 9) [vI 0, vI 0, .slice none 0 0] 115 (fun b103 => ⟨by kernel_rfl⟩) (fun w_ hM hS => trivial) (fun b103 => ?_)
       refine ops_store (an := []) (evs := [sr b103 0 (vI x89.Ent.N), sr b103 1 (vI x89.Ent.Gen), sr b103 2 (sl A100 x89.Comps c101)]) ⟨by kernel_rfl⟩ (fun w_ hM hS => let ⟨w', he, h'⟩ := hM.evs_stores [vI x89.Ent.N, vI x89.Ent.Gen, sl A100 x89.Comps c101] 0 rfl 0 (Nat.le_of_ble_eq_true rfl); ⟨w', he, h', trivial⟩) ?_
       refine ops_nil (fin_then (st_seq (st_region [oF 0, oF 1, oF 2, oF 3, oF 4, oF 5, oF 6, oF 7, oF 8, oF 9] (by rfl) ?_)))
       refine oQ [oF 0] [(70, vP b1 0), (9, vP b103 0), (1, vP b1 0), (5, vP b15 0), (63, sl A_w_2 w_2 c_w_2), (64, vI (w_2.length : Int)), (65, vI i85)] (by kernel_rfl) ?_
       refine ops_mem (d := some 71) (an := [.v (sl A_w_0 w_0 c_w_0)]) (evs := [ld b1 0 (sl A_w_0 w_0 c_w_0)]) (v := sl A_w_0 w_0 c_w_0) ⟨by kernel_rfl⟩ (fun w_ hM hS => ⟨w_, ⟨hM.cell 1 rfl rfl, rfl⟩, hM, trivial⟩) ?_
       refine oQ [oF 2] [(72, vP b103 2), (71, sl A_w_0 w_0 c_w_0), (9, vP b103 0), (1, vP b1 0), (5, vP b15 0), (63, sl A_w_2 w_2 c_w_2), (64, vI (w_2.length : Int)), (65, vI i85)] (by kernel_rfl) ?_
       refine ops_mem (d := some 73) (an := [.v (sl A100 x89.Comps c101)]) (evs := [ld b103 2 (sl A100 x89.Comps c101)]) (v := sl A100 x89.Comps c101) ⟨by kernel_rfl⟩ (fun w_ hM hS => ⟨w_, ⟨hM.cell 0 rfl rfl, rfl⟩, hM, trivial⟩) ?_
       obtain ⟨x104, x105, hv106, hp⟩ := obind2 hp
       refine ops_callI (σ := (Option Nat) × (Nat → Prop) × World) (d := some 74) (f := 76) (args := #[sl A_w_0 w_0 c_w_0, sl A100 x89.Comps c101]) (v := (fun x_ => match x_ with | (B107, F108, W109) => .tuple #[.map B107, vI x105])) (I := (fun x_ => match x_ with | (B107, F108, W109) => (RdM (fun x_ : Int => Value.int .i64 x_) (Rep.sl (Rep.int .i64)) false F108 W109 B107 x104) ∧ (Ext w0 F86 W87 F108 W109))) (M' := (fun x_ => match x_ with | (B107, F108, W109) => Mem w0 (.blk b103 [vI x89.Ent.N, vI x89.Ent.Gen, sl A100 x89.Comps c101] 115 :: .blk b1 [sl A_w_0 w_0 c_w_0, sl A_w_1 w_1 c_w_1, sl A_w_2 w_2 c_w_2] 71 :: .blk b15 [sl A16 l18 c17, sl A9 x7 c10, .map (some g13)] 123 :: ow A16 l18 c17 27 2 y19 :: ow A9 x7 c10 3 1 y11 :: .obj g13 (.map es81 ck82) :: Fz F108 W109 :: cs))) ⟨by kernel_rfl⟩ (fun w_ hM hS => (tourref3_FittedAll_ok w0 w_ (.blk b103 [vI x89.Ent.N, vI x89.Ent.Gen, sl A100 x89.Comps c101] 115 :: .blk b1 [sl A_w_0 w_0 c_w_0, sl A_w_1 w_1 c_w_1, sl A_w_2 w_2 c_w_2] 71 :: .blk b15 [sl A16 l18 c17, sl A9 x7 c10, .map (some g13)] 123 :: ow A16 l18 c17 27 2 y19 :: ow A9 x7 c10 3 1 y11 :: .obj g13 (.map es81 ck82) :: cs) F86 W87 A_w_0 c_w_0 w_0 A100 c101 x89.Comps (hM.pick 7 [6, 0, 1, 2, 3, 4, 5] (by kernel_rfl) (by decide) rfl) h_w_0 h102 x104 x105 hv106).mono (by rintro e w' ⟨B107, F108, W109, ⟨h110, h111⟩, rfl, h'⟩; have h' : Mem w0 (.blk b103 [vI x89.Ent.N, vI x89.Ent.Gen, sl A100 x89.Comps c101] 115 :: .blk b1 [sl A_w_0 w_0 c_w_0, sl A_w_1 w_1 c_w_1, sl A_w_2 w_2 c_w_2] 71 :: .blk b15 [sl A16 l18 c17, sl A9 x7 c10, .map (some g13)] 123 :: ow A16 l18 c17 27 2 y19 :: ow A9 x7 c10 3 1 y11 :: .obj g13 (.map es81 ck82) :: Fz F108 W109 :: cs) w' := (h'.pick 7 [1, 2, 3, 4, 5, 6, 0] (by kernel_rfl) (by decide) rfl); exact ⟨(B107, F108, W109), ⟨h110, h111⟩, rfl, h', trivial⟩)) ?_
       rintro ⟨B107, F108, W109⟩ ⟨h110, h111⟩
       have h102 := h102.ext h111
       have h_w_0 := h_w_0.ext h111
       have h_w_2 := h_w_2.ext h111
       have h_w_1 := h_w_1.ext h111
       have h20 := h20.ext h111
       have h12 := h12.ext h111
       have h84 := h84.ext h111
       refine oQ [oF 5, oF 6, oF 7, oF 8, oF 9] [(11, vI x105), (10, .map B107), (9, vP b103 0), (1, vP b1 0), (5, vP b15 0), (63, sl A_w_2 w_2 c_w_2), (64, vI (w_2.length : Int)), (65, vI i85)] (by kernel_rfl) ?_
       refine ops_nil (fin_then (st_seq (st_seq ?_)))
       refine st_region_fast tourref3_Open__t0 [oT 0, oT 1, oT 2, oT 3, oT 4, oT 5, oT 6, oT 7, oT 8, oT 9, oT 10, oT 11, oT 12, oT 13, oT 14, oT 15, oT 16, oT 17, oT 18] (Mem w0 (.blk b103 [vI x89.Ent.N, vI x89.Ent.Gen, sl A100 x89.Comps c101] 115 :: .blk b1 [sl A_w_0 w_0 c_w_0, sl A_w_1 w_1 c_w_1, sl A_w_2 w_2 c_w_2] 71 :: .blk b15 [sl A16 l18 c17, sl A9 x7 c10, .map (some g13)] 123 :: ow A16 l18 c17 27 2 y19 :: ow A9 x7 c10 3 1 y11 :: .obj g13 (.map es81 ck82) :: Fz F108 W109 :: cs)) (by kernel_rfl) (by kernel_rfl) (by kernel_rfl) (by kernel_rfl) (by kernel_rfl) (fun _ d _ _ _ h => by cases d <;> exact h) (M' := Mem w0 (.blk b103 [vI x89.Ent.N, vI x89.Ent.Gen, sl A100 x89.Comps c101] 115 :: .blk b1 [sl A_w_0 w_0 c_w_0, sl A_w_1 w_1 c_w_1, sl A_w_2 w_2 c_w_2] 71 :: .blk b15 [sl A16 l18 c17, sl A9 x7 c10, .map (some g13)] 123 :: ow A16 l18 c17 27 2 y19 :: ow A9 x7 c10 3 1 y11 :: .obj g13 (.map es81 ck82) :: Fz F108 W109 :: cs)) (fun w_ hM => ⟨hM.drew, hM.drew.sub (.cons_cons _ (.cons_cons _ (.cons_cons _ (.cons_cons _ (.cons_cons _ (.cons_cons _ (.cons_cons _ (.refl _))))))))⟩) ?_
       refine oQ [oT 0, oT 1, oT 2] [(79, .bool (!(x105 == 0))), (10, .map B107), (9, vP b103 0), (1, vP b1 0), (5, vP b15 0), (63, sl A_w_2 w_2 c_w_2), (64, vI (w_2.length : Int)), (65, vI i85)] (by kernel_rfl) ?_
       refine ops_bool (t := !(x105 == 0)) (l1 := [(79, .bool true), (10, .map B107), (9, vP b103 0), (1, vP b1 0), (5, vP b15 0), (63, sl A_w_2 w_2 c_w_2), (64, vI (w_2.length : Int)), (65, vI i85)]) (l2 := [(79, .bool false), (10, .map B107), (9, vP b103 0), (1, vP b1 0), (5, vP b15 0), (63, sl A_w_2 w_2 c_w_2), (64, vI (w_2.length : Int)), (65, vI i85)]) (fun h => by rw [h]) (fun h => by rw [h]) (fun hc112 => ?_) (fun hc112 => ?_)
       ·
        have hp := cnd_t hc112 hp
        refine oQ [oT 3, oT 4, oT 5, oT 6, oT 7, oT 8, oT 9, oT 10, oT 11, oT 12, oT 13, oT 14, oT 15, oT 16, oT 17, oT 18] [(95, .bool true), (10, .map B107), (9, vP b103 0), (1, vP b1 0), (5, vP b15 0), (63, sl A_w_2 w_2 c_w_2), (64, vI (w_2.length : Int)), (65, vI i85)] (by kernel_rfl) ?_
        refine ops_nil (fin_then (st_true rfl (st_seq (st_region [oF 0, oF 1] (by rfl) ?_))))
        refine oQ [oF 0, oF 1] [(3, vI 3), (2, .pointer none)] (by kernel_rfl) ?_
        refine ops_nil (fin_then (st_ret (fin_ret_then (fin_ret_block (fin_ret_then (fin_ret_then (fin_ret_block (fin_ret_then ?_))))))))
        obtain hq_ := Option.some.inj hp
        subst hq_
        obtain hq_ := hd6 _ rfl
        subst hq_
        have hp : some (.inl 3) = some r_ := hk6
        have hq_ := Option.some.inj hp
        subst hq_
        refine fin_ret [.tmp 2, .tmp 3] [.pointer none, vI 3] rfl rfl (fun w_ hM => (.tmp rfl (.tmp rfl .nil))) (fun w_ hM => ?_)
        refine (isel_l ?_)
        exact ⟨F108, W109, ((hx1.trans hx6).trans h111), rfl, hM.pick 7 [6] (by kernel_rfl) (by decide) rfl⟩
       ·
        have hp := cnd_f hc112 hp
        refine oQ [oT 3, oT 4] [(81, vP b103 0), (79, .bool false), (10, .map B107), (9, vP b103 0), (1, vP b1 0), (5, vP b15 0), (63, sl A_w_2 w_2 c_w_2), (64, vI (w_2.length : Int)), (65, vI i85)] (by kernel_rfl) ?_
        refine ops_load (d := some 82) (an := [.v (vI x89.Ent.N)]) (evs := [ld b103 0 (vI x89.Ent.N)]) (v := vI x89.Ent.N) ⟨by kernel_rfl⟩ (fun w_ hM => ⟨hM.cell 0 rfl rfl, rfl⟩) ?_
        refine oQ [oT 6, oT 7, oT 8] [(85, .bool (decide (x89.Ent.N < 0))), (10, .map B107), (9, vP b103 0), (1, vP b1 0), (5, vP b15 0), (63, sl A_w_2 w_2 c_w_2), (64, vI (w_2.length : Int)), (65, vI i85)] (by kernel_rfl) ?_
        refine ops_bool (t := decide (x89.Ent.N < 0)) (l1 := [(85, .bool true), (10, .map B107), (9, vP b103 0), (1, vP b1 0), (5, vP b15 0), (63, sl A_w_2 w_2 c_w_2), (64, vI (w_2.length : Int)), (65, vI i85)]) (l2 := [(85, .bool false), (10, .map B107), (9, vP b103 0), (1, vP b1 0), (5, vP b15 0), (63, sl A_w_2 w_2 c_w_2), (64, vI (w_2.length : Int)), (65, vI i85)]) (fun h => by rw [h]) (fun h => by rw [h]) (fun hc113 => ?_) (fun hc113 => ?_)
        ·
         have hp := cnd_t hc113 hp
         refine oQ [oT 9, oT 10, oT 11, oT 12, oT 13, oT 14, oT 15, oT 16, oT 17, oT 18] [(95, .bool true), (10, .map B107), (9, vP b103 0), (1, vP b1 0), (5, vP b15 0), (63, sl A_w_2 w_2 c_w_2), (64, vI (w_2.length : Int)), (65, vI i85)] (by kernel_rfl) ?_
         refine ops_nil (fin_then (st_true rfl (st_seq (st_region [oF 0, oF 1] (by rfl) ?_))))
         refine oQ [oF 0, oF 1] [(3, vI 3), (2, .pointer none)] (by kernel_rfl) ?_
         refine ops_nil (fin_then (st_ret (fin_ret_then (fin_ret_block (fin_ret_then (fin_ret_then (fin_ret_block (fin_ret_then ?_))))))))
         obtain hq_ := Option.some.inj hp
         subst hq_
         obtain hq_ := hd6 _ rfl
         subst hq_
         have hp : some (.inl 3) = some r_ := hk6
         have hq_ := Option.some.inj hp
         subst hq_
         refine fin_ret [.tmp 2, .tmp 3] [.pointer none, vI 3] rfl rfl (fun w_ hM => (.tmp rfl (.tmp rfl .nil))) (fun w_ hM => ?_)
         refine (isel_l ?_)
         exact ⟨F108, W109, ((hx1.trans hx6).trans h111), rfl, hM.pick 7 [6] (by kernel_rfl) (by decide) rfl⟩
        ·
         have hp := cnd_f hc113 hp
         refine oQ [oT 9, oT 10] [(87, vP b103 0), (85, .bool false), (10, .map B107), (9, vP b103 0), (1, vP b1 0), (5, vP b15 0), (63, sl A_w_2 w_2 c_w_2), (64, vI (w_2.length : Int)), (65, vI i85)] (by kernel_rfl) ?_
         refine ops_load (d := some 88) (an := [.v (vI x89.Ent.N)]) (evs := [ld b103 0 (vI x89.Ent.N)]) (v := vI x89.Ent.N) ⟨by kernel_rfl⟩ (fun w_ hM => ⟨hM.cell 0 rfl rfl, rfl⟩) ?_
         refine oQ [oT 12, oT 13, oT 14] [(91, vP b15 1), (88, vI x89.Ent.N), (85, .bool false), (10, .map B107), (9, vP b103 0), (1, vP b1 0), (5, vP b15 0), (63, sl A_w_2 w_2 c_w_2), (64, vI (w_2.length : Int)), (65, vI i85)] (by kernel_rfl) ?_
         refine ops_load (d := some 92) (an := [.v (sl A9 x7 c10)]) (evs := [ld b15 1 (sl A9 x7 c10)]) (v := sl A9 x7 c10) ⟨by kernel_rfl⟩ (fun w_ hM => ⟨hM.cell 2 rfl rfl, rfl⟩) ?_
         refine oQ [oT 16, oT 17, oT 18] [(95, .bool (decide ((x7.length : Int) ≤ x89.Ent.N))), (10, .map B107), (9, vP b103 0), (1, vP b1 0), (5, vP b15 0), (63, sl A_w_2 w_2 c_w_2), (64, vI (w_2.length : Int)), (65, vI i85)] (by kernel_rfl) ?_
         refine ops_nil (fin_then ?_)
         refine st_if (b := decide ((x7.length : Int) ≤ x89.Ent.N)) rfl (fun hc114 => ?_) (fun hc114 => ?_)
         ·
          have hp := cnd_t hc114 hp
          refine st_seq (st_region [oF 0, oF 1] (by rfl) ?_)
          refine oQ [oF 0, oF 1] [(3, vI 3), (2, .pointer none)] (by kernel_rfl) ?_
          refine ops_nil (fin_then (st_ret (fin_ret_then (fin_ret_block (fin_ret_then (fin_ret_then (fin_ret_block (fin_ret_then ?_))))))))
          obtain hq_ := Option.some.inj hp
          subst hq_
          obtain hq_ := hd6 _ rfl
          subst hq_
          have hp : some (.inl 3) = some r_ := hk6
          have hq_ := Option.some.inj hp
          subst hq_
          refine fin_ret [.tmp 2, .tmp 3] [.pointer none, vI 3] rfl rfl (fun w_ hM => (.tmp rfl (.tmp rfl .nil))) (fun w_ hM => ?_)
          refine (isel_l ?_)
          exact ⟨F108, W109, ((hx1.trans hx6).trans h111), rfl, hM.pick 7 [6] (by kernel_rfl) (by decide) rfl⟩
         ·
          have hp := cnd_f hc114 hp
          refine st_skip (fin_then ?_)
          refine st_region_draw [oT 0, oT 1, oT 2, oT 3, oT 4, oT 5, oT 6, oT 7, oF 8] (Mem w0 (.blk b103 [vI x89.Ent.N, vI x89.Ent.Gen, sl A100 x89.Comps c101] 115 :: .blk b1 [sl A_w_0 w_0 c_w_0, sl A_w_1 w_1 c_w_1, sl A_w_2 w_2 c_w_2] 71 :: .blk b15 [sl A16 l18 c17, sl A9 x7 c10, .map (some g13)] 123 :: ow A16 l18 c17 27 2 y19 :: ow A9 x7 c10 3 1 y11 :: Fz F108 W109 :: cs)) (by kernel_rfl) (by kernel_rfl) (by kernel_rfl) (fun _ d _ _ _ h => by cases d <;> exact h) (M' := Mem w0 (.blk b103 [vI x89.Ent.N, vI x89.Ent.Gen, sl A100 x89.Comps c101] 115 :: .blk b1 [sl A_w_0 w_0 c_w_0, sl A_w_1 w_1 c_w_1, sl A_w_2 w_2 c_w_2] 71 :: .blk b15 [sl A16 l18 c17, sl A9 x7 c10, .map (some g13)] 123 :: ow A16 l18 c17 27 2 y19 :: ow A9 x7 c10 3 1 y11 :: .obj g13 (.map es81 ck82) :: Fz F108 W109 :: cs)) (fun w_ hM => ⟨hM.drew, hM.drew.sub (.cons_cons _ (.cons_cons _ (.cons_cons _ (.cons_cons _ (.cons_cons _ (.cons _ (.cons_cons _ (.refl _))))))))⟩) ?_
          refine oQ [oT 0, oT 1, oT 2] [(98, vP b15 2), (10, .map B107), (9, vP b103 0), (1, vP b1 0), (5, vP b15 0), (63, sl A_w_2 w_2 c_w_2), (64, vI (w_2.length : Int)), (65, vI i85)] (by kernel_rfl) ?_
          refine ops_load (d := some 99) (an := [.v (.map (some g13))]) (evs := [ld b15 2 (.map (some g13))]) (v := .map (some g13)) ⟨by kernel_rfl⟩ (fun w_ hM => ⟨hM.cell 2 rfl rfl, rfl⟩) ?_
          refine oQ [oT 4, oT 5] [(101, vP b103 0), (99, .map (some g13)), (10, .map B107), (1, vP b1 0), (5, vP b15 0), (63, sl A_w_2 w_2 c_w_2), (64, vI (w_2.length : Int)), (65, vI i85)] (by kernel_rfl) ?_
          refine ops_load (d := some 102) (an := [.v (vI x89.Ent.N)]) (evs := [ld b103 0 (vI x89.Ent.N)]) (v := vI x89.Ent.N) ⟨by kernel_rfl⟩ (fun w_ hM => ⟨hM.cell 0 rfl rfl, rfl⟩) ?_
          refine oQ [oT 7] [(103, .map B107), (102, vI x89.Ent.N), (99, .map (some g13)), (1, vP b1 0), (5, vP b15 0), (63, sl A_w_2 w_2 c_w_2), (64, vI (w_2.length : Int)), (65, vI i85)] (by kernel_rfl) ?_
          obtain ⟨l115, hv116, hp⟩ := obind hp
          obtain ⟨es117, ck118, h119, hrun120⟩ := MapOK.update h84 (KeyLaw.int Tryd.underlying3) Tryd.underlying121 x89.Ent.N (v := x104) (vs := [.map B107]) (⟨_, rfl, h110⟩)
          rw [Option.some.inj hv116] at h119
          refine ops_unit (op := (.mapUpdate 121 (.tmp 99) (.tmp 102) (.tmp 103))) (σ := Unit) (M' := fun _ => Mem w0 (.blk b103 [vI x89.Ent.N, vI x89.Ent.Gen, sl A100 x89.Comps c101] 115 :: .blk b1 [sl A_w_0 w_0 c_w_0, sl A_w_1 w_1 c_w_1, sl A_w_2 w_2 c_w_2] 71 :: .blk b15 [sl A16 l18 c17, sl A9 x7 c10, .map (some g13)] 123 :: ow A16 l18 c17 27 2 y19 :: ow A9 x7 c10 3 1 y11 :: .obj g13 (.map es117 ck118) :: Fz F108 W109 :: cs)) ⟨by kernel_rfl⟩ (fun o_ w_ ho_ hM hS => have h' := hM.setObj 5 rfl _; ⟨(), _, run_updateV rfl rfl rfl (hrun120 g13 w_ (hM.mapAt 5 rfl)) o_ ho_, h', (by exact h'.sub (.cons_cons _ (.cons_cons _ (.cons_cons _ (.cons_cons _ (.cons_cons _ (.cons _ (.cons_cons _ (.refl _)))))))))⟩) (fun _ => ?_)
          refine ops_nil (fin_block (fin_then (st_region [oF 0, oF 1] (by rfl) ?_)))
          refine oQ [oF 0, oF 1] [(65, vI (IntKind.i64.wrap (i85 + 1))), (1, vP b1 0), (5, vP b15 0), (63, sl A_w_2 w_2 c_w_2), (64, vI (w_2.length : Int))] (by kernel_rfl) ?_
          refine ops_nil ?_
          exact fin_again (l115, IntKind.i64.wrap (i85 + 1)) (es117, ck118, F108, W109) (Option.some.inj hp).symm ⟨h119, (hx6.trans h111)⟩ (look_has ⟨rfl, rfl, rfl, rfl, rfl, trivial⟩) (fun w_ hM => hM.pick 7 [1, 2, 3, 4, 5, 6] (by kernel_rfl) (by decide) rfl)
      ·
       have hp := cnd_f hc88 hp
       refine st_exit (fin_exit_then (fin_exit_then (fin_exit ?_)))
       obtain hq_ := Option.some.inj hp
       subst hq_
       obtain hq_ := hd6 _ rfl
       subst hq_
       have hp : (tourref3_Open_j2 x7 l18 w_0 w_1 w_2) l83 = some r_ := hk6
       exact fin_join HJ2 (es81, ck82, l83, F86, W87) ⟨hp, h84, hx6⟩ (look_has ⟨rfl, rfl, trivial⟩) (fun w_ hM => hM)
    ·
     intro HJ1
     refine st_seq (st_seq (st_region [oF 0, oF 1, oF 2, oF 3] (by rfl) ?_))
     refine oQ [oF 0] [(39, vP b1 0), (5, vP b15 0), (1, vP b1 0)] (by kernel_rfl) ?_
     refine ops_mem (d := some 40) (an := [.v (sl A_w_0 w_0 c_w_0)]) (evs := [ld b1 0 (sl A_w_0 w_0 c_w_0)]) (v := sl A_w_0 w_0 c_w_0) ⟨by kernel_rfl⟩ (fun w_ hM hS => ⟨w_, ⟨hM.cell 3 rfl rfl, rfl⟩, hM, trivial⟩) ?_
     refine oQ [oF 2, oF 3] [(42, vI 0), (41, vI (w_0.length : Int)), (40, sl A_w_0 w_0 c_w_0), (5, vP b15 0), (1, vP b1 0)] (by kernel_rfl) ?_
     refine ops_nil (fin_then (st_block ?_))
     refine st_conv (l' := [(42, vI 0), (41, vI (w_0.length : Int)), (40, sl A_w_0 w_0 c_w_0), (5, vP b15 0), (1, vP b1 0)]) (M' := Mem w0 (ow none ([] : List api_Kind) 0 27 2 [] :: .blk b15 [.slice none 0 0, sl A9 x7 c10, .map (some g13)] 123 :: .obj g13 (.map #[] 0) :: ow A9 x7 c10 3 1 y11 :: .blk b1 [sl A_w_0 w_0 c_w_0, sl A_w_1 w_1 c_w_1, sl A_w_2 w_2 c_w_2] 71 :: Fz F W :: cs)) rfl (fun w_ h => h.onil none 27 2) ?_
     obtain ⟨r7, hl7, hk7⟩ := obind hp
     refine st_loopP (σ := (List api_Kind) × Int) (ρ := (List api_Kind)) (γ := (Option Addr) × Nat × (List Value) × (Nat → Prop) × World) hl7 (none, 0, [], F, W) (fun s_ g_ => match s_, g_ with | (l127, i130), (A125, c126, y128, F131, W132) => [(1, vP b1 0), (5, vP b15 0), (40, sl A_w_0 w_0 c_w_0), (41, vI (w_0.length : Int)), (42, vI i130)]) (fun s_ g_ => match s_, g_ with | (l127, i130), (A125, c126, y128, F131, W132) => Mem w0 (.blk b1 [sl A_w_0 w_0 c_w_0, sl A_w_1 w_1 c_w_1, sl A_w_2 w_2 c_w_2] 71 :: .blk b15 [sl A125 l127 c126, sl A9 x7 c10, .map (some g13)] 123 :: ow A125 l127 c126 27 2 y128 :: ow A9 x7 c10 3 1 y11 :: .obj g13 (.map #[] 0) :: Fz F131 W132 :: cs)) (fun s_ g_ => match s_, g_ with | (l127, i130), (A125, c126, y128, F131, W132) => (RepL R_api_Kind F131 W132 l127 y128) ∧ (Ext w0 F W F131 W132)) ⟨(RepL.nil (R := R_api_Kind)), (Ext.refl _ _ _)⟩ (look_has ⟨rfl, rfl, rfl, rfl, rfl, trivial⟩) (fun w_ hM => hM.pick 6 [4, 1, 0, 3, 2, 5] (by kernel_rfl) (by decide) rfl) ?_
     rintro ⟨l127, i130⟩ ⟨A125, c126, y128, F131, W132⟩ o7 ⟨h129, hx7⟩ hs_ hd7
     have hp : (tourref3_Open_l7 w_0) l127 i130 = some o7 := hs_
     clear hs_
     unfold tourref3_Open_l7 at hp
     have h_w_0 := h_w_0.ext hx7
     have h_w_1 := h_w_1.ext hx7
     have h_w_2 := h_w_2.ext hx7
     have h12 := h12.ext hx7
     have h14 := h14.ext hx7
     refine st_seq (st_region [oF 0] (by rfl) ?_)
     refine oQ [oF 0] [(43, .bool (decide (i130 < (w_0.length : Int)))), (1, vP b1 0), (5, vP b15 0), (40, sl A_w_0 w_0 c_w_0), (41, vI (w_0.length : Int)), (42, vI i130)] (by kernel_rfl) ?_
     refine ops_nil (fin_then (st_seq ?_))
     refine st_if (b := decide (i130 < (w_0.length : Int))) rfl (fun hc133 => ?_) (fun hc133 => ?_)
     ·
      have hp := cnd_t hc133 hp
      refine st_skip (fin_then ?_)
      refine st_join1 (σ := (Option Addr) × Nat × (List api_Kind) × (List Value) × (Nat → Prop) × World) (L := fun x_ => match x_ with | (A134, c135, l136, y137, F139, W140) => [(1, vP b1 0), (5, vP b15 0), (40, sl A_w_0 w_0 c_w_0), (41, vI (w_0.length : Int)), (42, vI i130)]) (N := fun x_ => match x_ with | (A134, c135, l136, y137, F139, W140) => Mem w0 (.blk b1 [sl A_w_0 w_0 c_w_0, sl A_w_1 w_1 c_w_1, sl A_w_2 w_2 c_w_2] 71 :: .blk b15 [sl A134 l136 c135, sl A9 x7 c10, .map (some g13)] 123 :: ow A134 l136 c135 27 2 y137 :: ow A9 x7 c10 3 1 y11 :: .obj g13 (.map #[] 0) :: Fz F139 W140 :: cs)) (I := fun x_ => match x_ with | (A134, c135, l136, y137, F139, W140) => ((tourref3_Open_j8 i130) l136 = some o7) ∧ (RepL R_api_Kind F139 W140 l136 y137) ∧ (Ext w0 F131 W132 F139 W140)) ?_ ?_
      ·
       rintro ⟨A134, c135, l136, y137, F139, W140⟩ ⟨hp, h138, hx8⟩
       have h_w_0 := h_w_0.ext hx8
       have h_w_1 := h_w_1.ext hx8
       have h_w_2 := h_w_2.ext hx8
       have h12 := h12.ext hx8
       have h14 := h14.ext hx8
       unfold tourref3_Open_j8 at hp
       refine st_region [oF 0, oF 1] (by rfl) ?_
       refine oQ [oF 0, oF 1] [(42, vI (IntKind.i64.wrap (i130 + 1))), (1, vP b1 0), (5, vP b15 0), (40, sl A_w_0 w_0 c_w_0), (41, vI (w_0.length : Int))] (by kernel_rfl) ?_
       refine ops_nil ?_
       exact fin_again (l136, IntKind.i64.wrap (i130 + 1)) (A134, c135, y137, F139, W140) (Option.some.inj hp).symm ⟨h138, (hx7.trans hx8)⟩ (look_has ⟨rfl, rfl, rfl, rfl, rfl, trivial⟩) (fun w_ hM => hM)
      ·
       intro HJ8
       refine st_seq (st_block (st_seq (st_region [oF 0, oF 1, oF 2, oF 3] (by rfl) ?_)))
       obtain ⟨x141, hv142, hp⟩ := obind hp
       obtain ⟨m143, hm144, hx145⟩ := idx_some hv142
       have hl148 := (List.getElem?_eq_some_iff.1 hx145).1
       obtain ⟨ad149, vs146, hA150, hr147, hq151⟩ := RdS.el h_w_0 hx145
       obtain ⟨A152, c153, rfl, h154⟩ := dec_api_Kind hr147
       refine ops_val (op := (.indexAddr 28 (.tmp 40) (.tmp 42))) (d := some 44) (v := .pointer (some (ad149.add (m143 * 2)))) ⟨by kernel_rfl⟩ (run_indexA hA150 Tryd.underlying28 (z := 2) (by kernel_rfl) rfl rfl hm144 hl148) ?_
       refine ops_mem (d := some 45) (an := [.v (.string x141.Name), .v (sl A152 x141.Fields c153)]) (evs := [.load (ad149.add (m143 * 2)) (.string x141.Name), .load ((ad149.add (m143 * 2)).add 1) (sl A152 x141.Fields c153)]) (v := .agg #[.string x141.Name, sl A152 x141.Fields c153]) ⟨by kernel_rfl⟩ (fun w_ hM hS => ⟨w_, ⟨hM.elcell 5 rfl hq151 0 rfl, hM.elcell 5 rfl hq151 1 rfl, rfl⟩, hM, trivial⟩) ?_
       refine ops_newB (d := some 7) [.string ByteArray.empty, .slice none 0 0] 27 (fun b155 => ⟨by kernel_rfl⟩) (fun w_ hM hS => trivial) (fun b155 => ?_)
       refine ops_store (an := []) (evs := [sr b155 0 (.string x141.Name), sr b155 1 (sl A152 x141.Fields c153)]) ⟨by kernel_rfl⟩ (fun w_ hM hS => let ⟨w', he, h'⟩ := hM.evs_stores [.string x141.Name, sl A152 x141.Fields c153] 0 rfl 0 (Nat.le_of_ble_eq_true rfl); ⟨w', he, h', trivial⟩) ?_
       refine ops_nil (fin_then ?_)
       obtain ⟨x156, hv157, hp⟩ := obind hp
       obtain ⟨l168, hv169, hp⟩ := obind hp
       refine st_region_tree (.node [oT 0, oT 1, oT 2, oT 3, oT 5, oT 6, oT 7, oT 8] (.leaf [oF 4, oF 9, oT 10, oF 11, oF 12, oT 13, oT 14, oF 15]) (.node [oF 9, oT 10] (.leaf [oF 4, oF 11, oF 12, oT 13, oT 14, oF 15]) (.leaf [oF 11, oF 4, oF 12, oT 13, oT 14, oF 15]))) (Mem w0 (.blk b155 [.string x141.Name, sl A152 x141.Fields c153] 27 :: .blk b1 [sl A_w_0 w_0 c_w_0, sl A_w_1 w_1 c_w_1, sl A_w_2 w_2 c_w_2] 71 :: ow A9 x7 c10 3 1 y11 :: .obj g13 (.map #[] 0) :: Fz F131 W132 :: cs)) (by kernel_rfl) (by kernel_rfl) (by kernel_rfl) (fun _ d _ _ _ h => by cases d <;> exact h) (M' := Mem w0 (.blk b155 [.string x141.Name, sl A152 x141.Fields c153] 27 :: .blk b1 [sl A_w_0 w_0 c_w_0, sl A_w_1 w_1 c_w_1, sl A_w_2 w_2 c_w_2] 71 :: .blk b15 [sl A125 l127 c126, sl A9 x7 c10, .map (some g13)] 123 :: ow A125 l127 c126 27 2 y128 :: ow A9 x7 c10 3 1 y11 :: .obj g13 (.map #[] 0) :: Fz F131 W132 :: cs)) (fun w_ hM => ⟨hM.drew, hM.drew.sub (.cons_cons _ (.cons_cons _ (.cons _ (.cons _ (.cons_cons _ (.cons_cons _ (.cons_cons _ (.refl _))))))))⟩) ?_
       refine tree_node ?_
       refine oQ [oT 0, oT 1, oT 2, oT 3, oT 5] [(51, vP b155 0), (49, vP b15 0), (46, vP b15 0), (7, vP b155 0), (1, vP b1 0), (5, vP b15 0), (40, sl A_w_0 w_0 c_w_0), (41, vI (w_0.length : Int)), (42, vI i130)] (by kernel_rfl) ?_
       refine ops_load (d := some 52) (an := [.v (.string x141.Name)]) (evs := [ld b155 0 (.string x141.Name)]) (v := .string x141.Name) ⟨by kernel_rfl⟩ (fun w_ hM => ⟨hM.cell 0 rfl rfl, rfl⟩) ?_
       refine oQ [oT 7] [(53, vP b155 1), (52, .string x141.Name), (49, vP b15 0), (46, vP b15 0), (1, vP b1 0), (5, vP b15 0), (40, sl A_w_0 w_0 c_w_0), (41, vI (w_0.length : Int)), (42, vI i130)] (by kernel_rfl) ?_
       refine ops_load (d := some 54) (an := [.v (sl A152 x141.Fields c153)]) (evs := [ld b155 1 (sl A152 x141.Fields c153)]) (v := sl A152 x141.Fields c153) ⟨by kernel_rfl⟩ (fun w_ hM => ⟨hM.cell 0 rfl rfl, rfl⟩) ?_
       refine ops_nil ?_
       refine tree_both ?_ ?_
       ·
        refine tree_leaf ?_
        refine ops_mem (d := some 50) (an := [.v (sl A125 l127 c126)]) (evs := [ld b15 0 (sl A125 l127 c126)]) (v := sl A125 l127 c126) ⟨by kernel_rfl⟩ (fun w_ hM hS => ⟨w_, ⟨hM.cell 2 rfl rfl, rfl⟩, hM, hS⟩) ?_
        refine ops_callI (σ := (Option Addr) × Nat × (List Value)) (d := some 55) (f := 75) (args := #[sl A152 x141.Fields c153]) (v := (fun x_ => match x_ with | (A170, c171, y172) => sl A170 x156 c171)) (I := (fun x_ => match x_ with | (A170, c171, y172) => (RepL R_api_Field F131 W132 x156 y172))) (M' := (fun x_ => match x_ with | (A170, c171, y172) => Mem w0 (ow A170 x156 c171 23 3 y172 :: .blk b155 [.string x141.Name, sl A152 x141.Fields c153] 27 :: .blk b1 [sl A_w_0 w_0 c_w_0, sl A_w_1 w_1 c_w_1, sl A_w_2 w_2 c_w_2] 71 :: .blk b15 [sl A125 l127 c126, sl A9 x7 c10, .map (some g13)] 123 :: ow A125 l127 c126 27 2 y128 :: ow A9 x7 c10 3 1 y11 :: .obj g13 (.map #[] 0) :: Fz F131 W132 :: cs))) ⟨by kernel_rfl⟩ (fun w_ hM hS => (slices_Clone_api_Field_api_Field_ok w0 w_ (.blk b155 [.string x141.Name, sl A152 x141.Fields c153] 27 :: .blk b1 [sl A_w_0 w_0 c_w_0, sl A_w_1 w_1 c_w_1, sl A_w_2 w_2 c_w_2] 71 :: .blk b15 [sl A125 l127 c126, sl A9 x7 c10, .map (some g13)] 123 :: ow A125 l127 c126 27 2 y128 :: ow A9 x7 c10 3 1 y11 :: .obj g13 (.map #[] 0) :: cs) F131 W132 A152 c153 x141.Fields (hM.pick 7 [6, 0, 1, 2, 3, 4, 5] (by kernel_rfl) (by decide) rfl) h154 x156 hv157).mono (by rintro e w' ⟨A170, c171, y172, h173, rfl, h'⟩; have h' : Mem w0 (ow A170 x156 c171 23 3 y172 :: .blk b155 [.string x141.Name, sl A152 x141.Fields c153] 27 :: .blk b1 [sl A_w_0 w_0 c_w_0, sl A_w_1 w_1 c_w_1, sl A_w_2 w_2 c_w_2] 71 :: .blk b15 [sl A125 l127 c126, sl A9 x7 c10, .map (some g13)] 123 :: ow A125 l127 c126 27 2 y128 :: ow A9 x7 c10 3 1 y11 :: .obj g13 (.map #[] 0) :: Fz F131 W132 :: cs) w' := (h'.pick 8 [0, 2, 3, 4, 5, 6, 7, 1] (by kernel_rfl) (by decide) rfl); exact ⟨(A170, c171, y172), h173, rfl, h', (by exact h'.sub (.cons _ (.cons_cons _ (.cons_cons _ (.cons _ (.cons _ (.cons_cons _ (.cons_cons _ (.cons_cons _ (.refl _))))))))))⟩)) ?_
        rintro ⟨A170, c171, y172⟩ h173
        refine oQ [oT 10] [(56, .agg #[.string x141.Name, sl A170 x156 c171]), (50, sl A125 l127 c126), (46, vP b15 0), (1, vP b1 0), (5, vP b15 0), (40, sl A_w_0 w_0 c_w_0), (41, vI (w_0.length : Int)), (42, vI i130)] (by kernel_rfl) ?_
        refine ops_ex (σ := (Nat → Prop) × World) (I := fun x_ => Ext w0 F131 W132 x_.1 x_.2 ∧ RdS R_api_Field x_.1 x_.2 A170 c171 x156) (M' := fun x_ => Mem w0 (.blk b155 [.string x141.Name, sl A152 x141.Fields c153] 27 :: .blk b1 [sl A_w_0 w_0 c_w_0, sl A_w_1 w_1 c_w_1, sl A_w_2 w_2 c_w_2] 71 :: .blk b15 [sl A125 l127 c126, sl A9 x7 c10, .map (some g13)] 123 :: ow A125 l127 c126 27 2 y128 :: ow A9 x7 c10 3 1 y11 :: .obj g13 (.map #[] 0) :: Fz x_.1 x_.2 :: cs)) (fun w_ hM => ?_) ?_
        · obtain ⟨F_, h1_, h2_, h3_⟩ := (hM.pick 8 [0, 7, 1, 2, 3, 4, 5, 6] (by kernel_rfl) (by decide) rfl : Mem w0 (ow A170 x156 c171 23 3 y172 :: Fz F131 W132 :: .blk b155 [.string x141.Name, sl A152 x141.Fields c153] 27 :: .blk b1 [sl A_w_0 w_0 c_w_0, sl A_w_1 w_1 c_w_1, sl A_w_2 w_2 c_w_2] 71 :: .blk b15 [sl A125 l127 c126, sl A9 x7 c10, .map (some g13)] 123 :: ow A125 l127 c126 27 2 y128 :: ow A9 x7 c10 3 1 y11 :: .obj g13 (.map #[] 0) :: cs) w_).freeze (z := 3) h173 rfl rfl
          exact ⟨(F_, w_), ⟨h1_, h2_⟩, h3_.pick 7 [1, 2, 3, 4, 5, 6, 0] (by kernel_rfl) (by decide) rfl⟩
        rintro ⟨F174, W175⟩ ⟨hx176, h177⟩
        have hx176 : Ext w0 F131 W132 F174 W175 := hx176
        have h177 : RdS R_api_Field F174 W175 A170 c171 x156 := h177
        have h_w_0 := h_w_0.ext hx176
        have h154 := h154.ext hx176
        have h_w_1 := h_w_1.ext hx176
        have h_w_2 := h_w_2.ext hx176
        have h129 := h129.ext hx176
        have h12 := h12.ext hx176
        have h14 := h14.ext hx176
        have h178 : RepL R_api_Kind F174 W175 ([(api_Kind.mk x141.Name x156)] : List api_Kind) ([.string x141.Name, sl A170 x156 c171]) := (RepL.cons (R := R_api_Kind) (F := F174) (w := W175) (vs := [.string x141.Name, sl A170 x156 c171]) (ys := []) (enc_api_Kind h177) RepL.nil)
        refine ops_new (d := some 57) (o := .cells ([.string x141.Name, sl A170 x156 c171]).toArray 27) (v := fun g179 => .slice (sa g179) ([(api_Kind.mk x141.Name x156)] : List api_Kind).length 1) (M' := fun g179 => Mem w0 (orow (sa g179) ([(api_Kind.mk x141.Name x156)] : List api_Kind).length 1 27 2 ([.string x141.Name, sl A170 x156 c171]) :: .blk b155 [.string x141.Name, sl A152 x141.Fields c153] 27 :: .blk b1 [sl A_w_0 w_0 c_w_0, sl A_w_1 w_1 c_w_1, sl A_w_2 w_2 c_w_2] 71 :: .blk b15 [sl A125 l127 c126, sl A9 x7 c10, .map (some g13)] 123 :: ow A125 l127 c126 27 2 y128 :: ow A9 x7 c10 3 1 y11 :: .obj g13 (.map #[] 0) :: Fz F174 W175 :: cs)) (fun g179 => ⟨by kernel_rfl⟩) (fun w_ hM hS => ⟨hM.onew [.string x141.Name, sl A170 x156 c171] 27 1 2 rfl (by decide), hS.alloc _⟩) (fun g179 => ?_)
        obtain ⟨he180, hb181⟩ := app_some hv169
        obtain ⟨y182, hy183⟩ : ∃ y_, y128 ++ ([.string x141.Name, sl A170 x156 c171]) = y_ := ⟨_, rfl⟩
        have h184 : RepL R_api_Kind F174 W175 l168 y182 := by rw [he180, ← hy183]; exact RepL.app h129 h178
        refine ops_appendO (x := (Go.Operand.tmp 50)) (y := (Go.Operand.tmp 57)) (t := 28) (e := 27) (d := some 58) (n' := l168.length) (z := 2) (m := ([(api_Kind.mk x141.Name x156)] : List api_Kind).length) (bytes := 40) (xs' := y182) (news := ([.string x141.Name, sl A170 x156 c171])) (zv := .agg #[.string ByteArray.empty, .slice none 0 0]) 4 ⟨by kernel_rfl⟩ rfl rfl Tryd.underlying28 (by kernel_rfl) (by rfl) rfl (fun w_ hM => hM.srcO 0 rfl) h178.len h178.one hb181 (by have z_ := congrArg List.length he180; rw [List.length_append] at z_; exact z_.symm) hy183 (fun _ _ _ _ hS h' => (by first | exact (Mem.fzback h' 7 rfl hx176).sub (.cons _ (.cons_cons _ (.cons_cons _ (.cons _ (.cons _ (.cons_cons _ (.cons_cons _ (.cons_cons _ (.refl _))))))))) | exact (Mem.fzback h' 7 rfl (hx7.trans hx176)).sub (.cons _ (.cons_cons _ (.cons_cons _ (.cons _ (.cons _ (.cons_cons _ (.cons_cons _ (.cons_cons _ (.refl _))))))))))) ?_
        rintro ⟨A185, c186⟩
        refine oQ [oT 13, oT 14] [(60, vP b15 0), (58, sl A185 l168 c186), (1, vP b1 0), (5, vP b15 0), (40, sl A_w_0 w_0 c_w_0), (41, vI (w_0.length : Int)), (42, vI i130)] (by kernel_rfl) ?_
        refine ops_store (an := []) (evs := [sr b15 0 (sl A185 l168 c186)]) ⟨by kernel_rfl⟩ (fun w_ hM hS => let ⟨w', he, h'⟩ := hM.evs_stores [sl A185 l168 c186] 3 rfl 0 (Nat.le_of_ble_eq_true rfl); ⟨w', he, h', (by first | exact (Mem.fzback h' 7 rfl hx176).sub (.cons _ (.cons_cons _ (.cons_cons _ (.cons _ (.cons _ (.cons_cons _ (.cons_cons _ (.cons_cons _ (.refl _))))))))) | exact (Mem.fzback h' 7 rfl (hx7.trans hx176)).sub (.cons _ (.cons_cons _ (.cons_cons _ (.cons _ (.cons _ (.cons_cons _ (.cons_cons _ (.cons_cons _ (.refl _))))))))))⟩) ?_
        refine ops_nil (fin_block ?_)
        exact fin_join HJ8 (A185, c186, l168, y182, F174, W175) ⟨hp, h184, hx176⟩ (look_has ⟨rfl, rfl, rfl, rfl, rfl, trivial⟩) (fun w_ hM => hM.pick 8 [2, 3, 4, 5, 6, 7] (by kernel_rfl) (by decide) rfl)
       ·
        refine tree_node ?_
        refine ops_callI (σ := (Option Addr) × Nat × (List Value)) (d := some 55) (f := 75) (args := #[sl A152 x141.Fields c153]) (v := (fun x_ => match x_ with | (A187, c188, y189) => sl A187 x156 c188)) (I := (fun x_ => match x_ with | (A187, c188, y189) => (RepL R_api_Field F131 W132 x156 y189))) (M' := (fun x_ => match x_ with | (A187, c188, y189) => Mem w0 (ow A187 x156 c188 23 3 y189 :: .blk b155 [.string x141.Name, sl A152 x141.Fields c153] 27 :: .blk b1 [sl A_w_0 w_0 c_w_0, sl A_w_1 w_1 c_w_1, sl A_w_2 w_2 c_w_2] 71 :: .blk b15 [sl A125 l127 c126, sl A9 x7 c10, .map (some g13)] 123 :: ow A125 l127 c126 27 2 y128 :: ow A9 x7 c10 3 1 y11 :: .obj g13 (.map #[] 0) :: Fz F131 W132 :: cs))) ⟨by kernel_rfl⟩ (fun w_ hM hS => (slices_Clone_api_Field_api_Field_ok w0 w_ (.blk b155 [.string x141.Name, sl A152 x141.Fields c153] 27 :: .blk b1 [sl A_w_0 w_0 c_w_0, sl A_w_1 w_1 c_w_1, sl A_w_2 w_2 c_w_2] 71 :: .blk b15 [sl A125 l127 c126, sl A9 x7 c10, .map (some g13)] 123 :: ow A125 l127 c126 27 2 y128 :: ow A9 x7 c10 3 1 y11 :: .obj g13 (.map #[] 0) :: cs) F131 W132 A152 c153 x141.Fields (hM.pick 7 [6, 0, 1, 2, 3, 4, 5] (by kernel_rfl) (by decide) rfl) h154 x156 hv157).mono (by rintro e w' ⟨A187, c188, y189, h190, rfl, h'⟩; have h' : Mem w0 (ow A187 x156 c188 23 3 y189 :: .blk b155 [.string x141.Name, sl A152 x141.Fields c153] 27 :: .blk b1 [sl A_w_0 w_0 c_w_0, sl A_w_1 w_1 c_w_1, sl A_w_2 w_2 c_w_2] 71 :: .blk b15 [sl A125 l127 c126, sl A9 x7 c10, .map (some g13)] 123 :: ow A125 l127 c126 27 2 y128 :: ow A9 x7 c10 3 1 y11 :: .obj g13 (.map #[] 0) :: Fz F131 W132 :: cs) w' := (h'.pick 8 [0, 2, 3, 4, 5, 6, 7, 1] (by kernel_rfl) (by decide) rfl); exact ⟨(A187, c188, y189), h190, rfl, h', (by exact h'.sub (.cons _ (.cons_cons _ (.cons_cons _ (.cons _ (.cons _ (.cons_cons _ (.cons_cons _ (.cons_cons _ (.refl _))))))))))⟩)) ?_
        rintro ⟨A187, c188, y189⟩ h190
        refine oQ [oT 10] [(56, .agg #[.string x141.Name, sl A187 x156 c188]), (49, vP b15 0), (46, vP b15 0), (1, vP b1 0), (5, vP b15 0), (40, sl A_w_0 w_0 c_w_0), (41, vI (w_0.length : Int)), (42, vI i130)] (by kernel_rfl) ?_
        refine ops_nil ?_
        refine tree_both ?_ ?_
        ·
         refine tree_leaf ?_
         refine ops_mem (d := some 50) (an := [.v (sl A125 l127 c126)]) (evs := [ld b15 0 (sl A125 l127 c126)]) (v := sl A125 l127 c126) ⟨by kernel_rfl⟩ (fun w_ hM hS => ⟨w_, ⟨hM.cell 3 rfl rfl, rfl⟩, hM, hS⟩) ?_
         refine ops_ex (σ := (Nat → Prop) × World) (I := fun x_ => Ext w0 F131 W132 x_.1 x_.2 ∧ RdS R_api_Field x_.1 x_.2 A187 c188 x156) (M' := fun x_ => Mem w0 (.blk b155 [.string x141.Name, sl A152 x141.Fields c153] 27 :: .blk b1 [sl A_w_0 w_0 c_w_0, sl A_w_1 w_1 c_w_1, sl A_w_2 w_2 c_w_2] 71 :: .blk b15 [sl A125 l127 c126, sl A9 x7 c10, .map (some g13)] 123 :: ow A125 l127 c126 27 2 y128 :: ow A9 x7 c10 3 1 y11 :: .obj g13 (.map #[] 0) :: Fz x_.1 x_.2 :: cs)) (fun w_ hM => ?_) ?_
         · obtain ⟨F_, h1_, h2_, h3_⟩ := (hM.pick 8 [0, 7, 1, 2, 3, 4, 5, 6] (by kernel_rfl) (by decide) rfl : Mem w0 (ow A187 x156 c188 23 3 y189 :: Fz F131 W132 :: .blk b155 [.string x141.Name, sl A152 x141.Fields c153] 27 :: .blk b1 [sl A_w_0 w_0 c_w_0, sl A_w_1 w_1 c_w_1, sl A_w_2 w_2 c_w_2] 71 :: .blk b15 [sl A125 l127 c126, sl A9 x7 c10, .map (some g13)] 123 :: ow A125 l127 c126 27 2 y128 :: ow A9 x7 c10 3 1 y11 :: .obj g13 (.map #[] 0) :: cs) w_).freeze (z := 3) h190 rfl rfl
           exact ⟨(F_, w_), ⟨h1_, h2_⟩, h3_.pick 7 [1, 2, 3, 4, 5, 6, 0] (by kernel_rfl) (by decide) rfl⟩
         rintro ⟨F191, W192⟩ ⟨hx193, h194⟩
         have hx193 : Ext w0 F131 W132 F191 W192 := hx193
         have h194 : RdS R_api_Field F191 W192 A187 c188 x156 := h194
         have h_w_0 := h_w_0.ext hx193
         have h154 := h154.ext hx193
         have h_w_1 := h_w_1.ext hx193
         have h_w_2 := h_w_2.ext hx193
         have h129 := h129.ext hx193
         have h12 := h12.ext hx193
         have h14 := h14.ext hx193
         have h195 : RepL R_api_Kind F191 W192 ([(api_Kind.mk x141.Name x156)] : List api_Kind) ([.string x141.Name, sl A187 x156 c188]) := (RepL.cons (R := R_api_Kind) (F := F191) (w := W192) (vs := [.string x141.Name, sl A187 x156 c188]) (ys := []) (enc_api_Kind h194) RepL.nil)
         refine ops_new (d := some 57) (o := .cells ([.string x141.Name, sl A187 x156 c188]).toArray 27) (v := fun g196 => .slice (sa g196) ([(api_Kind.mk x141.Name x156)] : List api_Kind).length 1) (M' := fun g196 => Mem w0 (orow (sa g196) ([(api_Kind.mk x141.Name x156)] : List api_Kind).length 1 27 2 ([.string x141.Name, sl A187 x156 c188]) :: .blk b155 [.string x141.Name, sl A152 x141.Fields c153] 27 :: .blk b1 [sl A_w_0 w_0 c_w_0, sl A_w_1 w_1 c_w_1, sl A_w_2 w_2 c_w_2] 71 :: .blk b15 [sl A125 l127 c126, sl A9 x7 c10, .map (some g13)] 123 :: ow A125 l127 c126 27 2 y128 :: ow A9 x7 c10 3 1 y11 :: .obj g13 (.map #[] 0) :: Fz F191 W192 :: cs)) (fun g196 => ⟨by kernel_rfl⟩) (fun w_ hM hS => ⟨hM.onew [.string x141.Name, sl A187 x156 c188] 27 1 2 rfl (by decide), hS.alloc _⟩) (fun g196 => ?_)
         obtain ⟨he197, hb198⟩ := app_some hv169
         obtain ⟨y199, hy200⟩ : ∃ y_, y128 ++ ([.string x141.Name, sl A187 x156 c188]) = y_ := ⟨_, rfl⟩
         have h201 : RepL R_api_Kind F191 W192 l168 y199 := by rw [he197, ← hy200]; exact RepL.app h129 h195
         refine ops_appendO (x := (Go.Operand.tmp 50)) (y := (Go.Operand.tmp 57)) (t := 28) (e := 27) (d := some 58) (n' := l168.length) (z := 2) (m := ([(api_Kind.mk x141.Name x156)] : List api_Kind).length) (bytes := 40) (xs' := y199) (news := ([.string x141.Name, sl A187 x156 c188])) (zv := .agg #[.string ByteArray.empty, .slice none 0 0]) 4 ⟨by kernel_rfl⟩ rfl rfl Tryd.underlying28 (by kernel_rfl) (by rfl) rfl (fun w_ hM => hM.srcO 0 rfl) h195.len h195.one hb198 (by have z_ := congrArg List.length he197; rw [List.length_append] at z_; exact z_.symm) hy200 (fun _ _ _ _ hS h' => (by first | exact (Mem.fzback h' 7 rfl hx193).sub (.cons _ (.cons_cons _ (.cons_cons _ (.cons _ (.cons _ (.cons_cons _ (.cons_cons _ (.cons_cons _ (.refl _))))))))) | exact (Mem.fzback h' 7 rfl (hx7.trans hx193)).sub (.cons _ (.cons_cons _ (.cons_cons _ (.cons _ (.cons _ (.cons_cons _ (.cons_cons _ (.cons_cons _ (.refl _))))))))))) ?_
         rintro ⟨A202, c203⟩
         refine oQ [oT 13, oT 14] [(60, vP b15 0), (58, sl A202 l168 c203), (1, vP b1 0), (5, vP b15 0), (40, sl A_w_0 w_0 c_w_0), (41, vI (w_0.length : Int)), (42, vI i130)] (by kernel_rfl) ?_
         refine ops_store (an := []) (evs := [sr b15 0 (sl A202 l168 c203)]) ⟨by kernel_rfl⟩ (fun w_ hM hS => let ⟨w', he, h'⟩ := hM.evs_stores [sl A202 l168 c203] 3 rfl 0 (Nat.le_of_ble_eq_true rfl); ⟨w', he, h', (by first | exact (Mem.fzback h' 7 rfl hx193).sub (.cons _ (.cons_cons _ (.cons_cons _ (.cons _ (.cons _ (.cons_cons _ (.cons_cons _ (.cons_cons _ (.refl _))))))))) | exact (Mem.fzback h' 7 rfl (hx7.trans hx193)).sub (.cons _ (.cons_cons _ (.cons_cons _ (.cons _ (.cons _ (.cons_cons _ (.cons_cons _ (.cons_cons _ (.refl _))))))))))⟩) ?_
         refine ops_nil (fin_block ?_)
         exact fin_join HJ8 (A202, c203, l168, y199, F191, W192) ⟨hp, h201, hx193⟩ (look_has ⟨rfl, rfl, rfl, rfl, rfl, trivial⟩) (fun w_ hM => hM.pick 8 [2, 3, 4, 5, 6, 7] (by kernel_rfl) (by decide) rfl)
        ·
         refine tree_leaf ?_
         refine ops_ex (σ := (Nat → Prop) × World) (I := fun x_ => Ext w0 F131 W132 x_.1 x_.2 ∧ RdS R_api_Field x_.1 x_.2 A187 c188 x156) (M' := fun x_ => Mem w0 (.blk b155 [.string x141.Name, sl A152 x141.Fields c153] 27 :: .blk b1 [sl A_w_0 w_0 c_w_0, sl A_w_1 w_1 c_w_1, sl A_w_2 w_2 c_w_2] 71 :: .blk b15 [sl A125 l127 c126, sl A9 x7 c10, .map (some g13)] 123 :: ow A125 l127 c126 27 2 y128 :: ow A9 x7 c10 3 1 y11 :: .obj g13 (.map #[] 0) :: Fz x_.1 x_.2 :: cs)) (fun w_ hM => ?_) ?_
         · obtain ⟨F_, h1_, h2_, h3_⟩ := (hM.pick 8 [0, 7, 1, 2, 3, 4, 5, 6] (by kernel_rfl) (by decide) rfl : Mem w0 (ow A187 x156 c188 23 3 y189 :: Fz F131 W132 :: .blk b155 [.string x141.Name, sl A152 x141.Fields c153] 27 :: .blk b1 [sl A_w_0 w_0 c_w_0, sl A_w_1 w_1 c_w_1, sl A_w_2 w_2 c_w_2] 71 :: .blk b15 [sl A125 l127 c126, sl A9 x7 c10, .map (some g13)] 123 :: ow A125 l127 c126 27 2 y128 :: ow A9 x7 c10 3 1 y11 :: .obj g13 (.map #[] 0) :: cs) w_).freeze (z := 3) h190 rfl rfl
           exact ⟨(F_, w_), ⟨h1_, h2_⟩, h3_.pick 7 [1, 2, 3, 4, 5, 6, 0] (by kernel_rfl) (by decide) rfl⟩
         rintro ⟨F204, W205⟩ ⟨hx206, h207⟩
         have hx206 : Ext w0 F131 W132 F204 W205 := hx206
         have h207 : RdS R_api_Field F204 W205 A187 c188 x156 := h207
         have h_w_0 := h_w_0.ext hx206
         have h154 := h154.ext hx206
         have h_w_1 := h_w_1.ext hx206
         have h_w_2 := h_w_2.ext hx206
         have h129 := h129.ext hx206
         have h12 := h12.ext hx206
         have h14 := h14.ext hx206
         have h208 : RepL R_api_Kind F204 W205 ([(api_Kind.mk x141.Name x156)] : List api_Kind) ([.string x141.Name, sl A187 x156 c188]) := (RepL.cons (R := R_api_Kind) (F := F204) (w := W205) (vs := [.string x141.Name, sl A187 x156 c188]) (ys := []) (enc_api_Kind h207) RepL.nil)
         refine ops_new (d := some 57) (o := .cells ([.string x141.Name, sl A187 x156 c188]).toArray 27) (v := fun g209 => .slice (sa g209) ([(api_Kind.mk x141.Name x156)] : List api_Kind).length 1) (M' := fun g209 => Mem w0 (orow (sa g209) ([(api_Kind.mk x141.Name x156)] : List api_Kind).length 1 27 2 ([.string x141.Name, sl A187 x156 c188]) :: .blk b155 [.string x141.Name, sl A152 x141.Fields c153] 27 :: .blk b1 [sl A_w_0 w_0 c_w_0, sl A_w_1 w_1 c_w_1, sl A_w_2 w_2 c_w_2] 71 :: .blk b15 [sl A125 l127 c126, sl A9 x7 c10, .map (some g13)] 123 :: ow A125 l127 c126 27 2 y128 :: ow A9 x7 c10 3 1 y11 :: .obj g13 (.map #[] 0) :: Fz F204 W205 :: cs)) (fun g209 => ⟨by kernel_rfl⟩) (fun w_ hM hS => ⟨hM.onew [.string x141.Name, sl A187 x156 c188] 27 1 2 rfl (by decide), hS.alloc _⟩) (fun g209 => ?_)
         refine ops_mem (d := some 50) (an := [.v (sl A125 l127 c126)]) (evs := [ld b15 0 (sl A125 l127 c126)]) (v := sl A125 l127 c126) ⟨by kernel_rfl⟩ (fun w_ hM hS => ⟨w_, ⟨hM.cell 3 rfl rfl, rfl⟩, hM, hS⟩) ?_
         obtain ⟨he210, hb211⟩ := app_some hv169
         obtain ⟨y212, hy213⟩ : ∃ y_, y128 ++ ([.string x141.Name, sl A187 x156 c188]) = y_ := ⟨_, rfl⟩
         have h214 : RepL R_api_Kind F204 W205 l168 y212 := by rw [he210, ← hy213]; exact RepL.app h129 h208
         refine ops_appendO (x := (Go.Operand.tmp 50)) (y := (Go.Operand.tmp 57)) (t := 28) (e := 27) (d := some 58) (n' := l168.length) (z := 2) (m := ([(api_Kind.mk x141.Name x156)] : List api_Kind).length) (bytes := 40) (xs' := y212) (news := ([.string x141.Name, sl A187 x156 c188])) (zv := .agg #[.string ByteArray.empty, .slice none 0 0]) 4 ⟨by kernel_rfl⟩ rfl rfl Tryd.underlying28 (by kernel_rfl) (by rfl) rfl (fun w_ hM => hM.srcO 0 rfl) h208.len h208.one hb211 (by have z_ := congrArg List.length he210; rw [List.length_append] at z_; exact z_.symm) hy213 (fun _ _ _ _ hS h' => (by first | exact (Mem.fzback h' 7 rfl hx206).sub (.cons _ (.cons_cons _ (.cons_cons _ (.cons _ (.cons _ (.cons_cons _ (.cons_cons _ (.cons_cons _ (.refl _))))))))) | exact (Mem.fzback h' 7 rfl (hx7.trans hx206)).sub (.cons _ (.cons_cons _ (.cons_cons _ (.cons _ (.cons _ (.cons_cons _ (.cons_cons _ (.cons_cons _ (.refl _))))))))))) ?_
         rintro ⟨A215, c216⟩
         refine oQ [oT 13, oT 14] [(60, vP b15 0), (58, sl A215 l168 c216), (1, vP b1 0), (5, vP b15 0), (40, sl A_w_0 w_0 c_w_0), (41, vI (w_0.length : Int)), (42, vI i130)] (by kernel_rfl) ?_
         refine ops_store (an := []) (evs := [sr b15 0 (sl A215 l168 c216)]) ⟨by kernel_rfl⟩ (fun w_ hM hS => let ⟨w', he, h'⟩ := hM.evs_stores [sl A215 l168 c216] 3 rfl 0 (Nat.le_of_ble_eq_true rfl); ⟨w', he, h', (by first | exact (Mem.fzback h' 7 rfl hx206).sub (.cons _ (.cons_cons _ (.cons_cons _ (.cons _ (.cons _ (.cons_cons _ (.cons_cons _ (.cons_cons _ (.refl _))))))))) | exact (Mem.fzback h' 7 rfl (hx7.trans hx206)).sub (.cons _ (.cons_cons _ (.cons_cons _ (.cons _ (.cons _ (.cons_cons _ (.cons_cons _ (.cons_cons _ (.refl _))))))))))⟩) ?_
         refine ops_nil (fin_block ?_)
         exact fin_join HJ8 (A215, c216, l168, y212, F204, W205) ⟨hp, h214, hx206⟩ (look_has ⟨rfl, rfl, rfl, rfl, rfl, trivial⟩) (fun w_ hM => hM.pick 8 [2, 3, 4, 5, 6, 7] (by kernel_rfl) (by decide) rfl)
     ·
      have hp := cnd_f hc133 hp
      refine st_exit (fin_exit_then (fin_exit_then (fin_exit ?_)))
      obtain hq_ := Option.some.inj hp
      subst hq_
      obtain hq_ := hd7 _ rfl
      subst hq_
      have hp : (tourref3_Open_j1 w_2 w_0 x7 w_1) l127 = some r_ := hk7
      exact fin_join HJ1 (A125, c126, l127, y128, F131, W132) ⟨hp, h129, hx7⟩ (look_has ⟨rfl, rfl, trivial⟩) (fun w_ hM => hM)
end Go.Proofs.YthcbepikeinglaaDoor.N
