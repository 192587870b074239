/- The Go functions come to what the plain functions tell. No condition. -/
import Derived.Test.YtbfndcookgijfaaGreatDoorProg
import Derived.Test.YtbfndcookgijfaaGreatDoorFnW
import Derived.Test.YtbfndcookgijfaaGreatDoorWkW3
import Derived.Test.YtbfndcookgijfaaGreatDoorWkW5
import Derived.Test.YtbfndcookgijfaaGreatDoorWkW7
import Derived.Test.YtbfndcookgijfaaGreatDoorWkW8
import Derived.Test.YtbfndcookgijfaaGreatDoorWkW9
import Derived.Test.YtbfndcookgijfaaGreatDoorWkW12
import Derived.Test.YtbfndcookgijfaaGreatDoorWkW13
import Derived.Test.YtbfndcookgijfaaGreatDoorEqW
import Derived.Test.YtbfndcookgijfaaGreatDoorExMap
namespace Go.Proofs.YtbfndcookgijfaaGreatDoor.W
open Go Go.RowKit Go.Proofs.YtbfndcookgijfaaGreatDoor.Sx
set_option linter.unusedVariables false
set_option maxHeartbeats 4000000
set_option maxRecDepth 100000
theorem tourlaw3_WorldSpawns_ok (w0 w : World) (cs : List Chunk) (F : Nat → Prop) (W : World) (A_w_0 : Option Addr) (c_w_0 : Nat) (w_0 : List api_Kind) (A_w_1 : Option Addr) (c_w_1 : Nat) (w_1 : List Int) (A_w_2 : Option Addr) (c_w_2 : Nat) (w_2 : List api_Item) (A_l : Option Addr) (c_l : Nat) (l : List api_Comp) (hM0 : Mem w0 (Fz F W :: cs) w) (h_w_0 : RdS R_api_Kind F W A_w_0 c_w_0 w_0) (h_w_1 : RdS (Rep.int .i64) F W A_w_1 c_w_1 w_1) (h_w_2 : RdS R_api_Item F W A_w_2 c_w_2 w_2) (h_l : RdS R_api_Comp F W A_l c_l l) (t9001 : Bool) (hp : tourlaw3_WorldSpawns w_0 w_1 w_2 l = some t9001) : Calls Tryz.prog 3 #[.agg #[sl A_w_0 w_0 c_w_0, sl A_w_1 w_1 c_w_1, sl A_w_2 w_2 c_w_2], sl A_l l c_l] w fun e w' => ∃ (F9002 : Nat → Prop), ∃ (W9003 : World), ((Ext w0 F W F9002 W9003)) ∧ e = .returned (.bool t9001) ∧ Mem w0 (Fz F9002 W9003 :: cs) w' := by
 unfold tourlaw3_WorldSpawns at hp
 refine sx_calls Tryz.func3 rfl (n := 153) (by kernel_rfl) (l := [(0, .agg #[sl A_w_0 w_0 c_w_0, sl A_w_1 w_1 c_w_1, sl A_w_2 w_2 c_w_2]), (1, sl A_l l c_l)]) rfl (by rfl) hM0 ?_
 refine st_seq (st_region [oF 0, oF 1] (by rfl) ?_)
 refine ops_newB (d := some 2) [sl A_w_0 w_0 c_w_0, sl A_w_1 w_1 c_w_1, sl A_w_2 w_2 c_w_2] 26 (fun b1 => ⟨by kernel_rfl⟩) (fun w_ hM hS => trivial) (fun b1 => ?_)
 refine oQ [oF 1] [(2, vP b1 0), (1, sl A_l l c_l)] (by kernel_rfl) ?_
 refine ops_nil (fin_then (st_seq (st_seq (st_region [oF 0, oF 1, oF 2, oF 3, oF 4, oF 5, oF 6, oF 7, oF 8, oF 9, oF 10] (by rfl) ?_))))
 obtain ⟨x2, x3, x4, hv5, hp⟩ := obind3 hp
 refine ops_callI (σ := (Option Addr) × (List Value) × (Option Addr) × (List Value) × (Option Addr) × (List Value) × (Nat → Prop) × World) (d := some 25) (f := 6) (args := #[]) (v := (fun x_ => match x_ with | (A6, y7, A8, y9, A10, y11, F12, W13) => .agg #[sl A6 x2 2, sl A8 x3 2, sl A10 x4 2])) (I := (fun x_ => match x_ with | (A6, y7, A8, y9, A10, y11, F12, W13) => (RepL R_api_Kind F12 W13 x2 y7) ∧ (RepL (Rep.int .i64) F12 W13 x3 y9) ∧ (RepL R_api_Item F12 W13 x4 y11) ∧ (Ext w0 F W F12 W13))) (M' := (fun x_ => match x_ with | (A6, y7, A8, y9, A10, y11, F12, W13) => Mem w0 (ow A6 x2 2 86 2 y7 :: ow A8 x3 2 3 1 y9 :: ow A10 x4 2 61 3 y11 :: .blk b1 [sl A_w_0 w_0 c_w_0, sl A_w_1 w_1 c_w_1, sl A_w_2 w_2 c_w_2] 26 :: Fz F12 W13 :: cs))) ⟨by kernel_rfl⟩ (fun w_ hM hS => (tourlaw3_pair_ok w0 w_ (.blk b1 [sl A_w_0 w_0 c_w_0, sl A_w_1 w_1 c_w_1, sl A_w_2 w_2 c_w_2] 26 :: cs) F W  (hM.pick 2 [1, 0] (by kernel_rfl) (by decide) rfl)  x2 x3 x4 hv5).mono (by rintro e w' ⟨A6, y7, A8, y9, A10, y11, F12, W13, ⟨h14, h15, h16, h17⟩, rfl, h'⟩; have h' : Mem w0 (ow A6 x2 2 86 2 y7 :: ow A8 x3 2 3 1 y9 :: ow A10 x4 2 61 3 y11 :: .blk b1 [sl A_w_0 w_0 c_w_0, sl A_w_1 w_1 c_w_1, sl A_w_2 w_2 c_w_2] 26 :: Fz F12 W13 :: cs) w' := (h'.pick 5 [0, 1, 2, 4, 3] (by kernel_rfl) (by decide) rfl); exact ⟨(A6, y7, A8, y9, A10, y11, F12, W13), ⟨h14, h15, h16, h17⟩, rfl, h', trivial⟩)) ?_
 rintro ⟨A6, y7, A8, y9, A10, y11, F12, W13⟩ ⟨h14, h15, h16, h17⟩
 have h_l := h_l.ext h17
 have h_w_0 := h_w_0.ext h17
 have h_w_1 := h_w_1.ext h17
 have h_w_2 := h_w_2.ext h17
 refine ops_ex (σ := (Nat → Prop) × World) (I := fun x_ => Ext w0 F12 W13 x_.1 x_.2 ∧ RdS R_api_Kind x_.1 x_.2 A6 2 x2) (M' := fun x_ => Mem w0 (ow A8 x3 2 3 1 y9 :: ow A10 x4 2 61 3 y11 :: .blk b1 [sl A_w_0 w_0 c_w_0, sl A_w_1 w_1 c_w_1, sl A_w_2 w_2 c_w_2] 26 :: Fz x_.1 x_.2 :: cs)) (fun w_ hM => ?_) ?_
 · obtain ⟨F_, h1_, h2_, h3_⟩ := (hM.pick 5 [0, 4, 1, 2, 3] (by kernel_rfl) (by decide) rfl : Mem w0 (ow A6 x2 2 86 2 y7 :: Fz F12 W13 :: ow A8 x3 2 3 1 y9 :: ow A10 x4 2 61 3 y11 :: .blk b1 [sl A_w_0 w_0 c_w_0, sl A_w_1 w_1 c_w_1, sl A_w_2 w_2 c_w_2] 26 :: cs) w_).freeze (z := 2) h14 rfl rfl
   exact ⟨(F_, w_), ⟨h1_, h2_⟩, h3_.pick 4 [1, 2, 3, 0] (by kernel_rfl) (by decide) rfl⟩
 rintro ⟨F18, W19⟩ ⟨hx20, h21⟩
 have hx20 : Ext w0 F12 W13 F18 W19 := hx20
 have h21 : RdS R_api_Kind F18 W19 A6 2 x2 := h21
 have h_l := h_l.ext hx20
 have h15 := h15.ext hx20
 have h16 := h16.ext hx20
 have h_w_0 := h_w_0.ext hx20
 have h_w_1 := h_w_1.ext hx20
 have h_w_2 := h_w_2.ext hx20
 refine ops_ex (σ := (Nat → Prop) × World) (I := fun x_ => Ext w0 F18 W19 x_.1 x_.2 ∧ RdS (Rep.int .i64) x_.1 x_.2 A8 2 x3) (M' := fun x_ => Mem w0 (ow A10 x4 2 61 3 y11 :: .blk b1 [sl A_w_0 w_0 c_w_0, sl A_w_1 w_1 c_w_1, sl A_w_2 w_2 c_w_2] 26 :: Fz x_.1 x_.2 :: cs)) (fun w_ hM => ?_) ?_
 · obtain ⟨F_, h1_, h2_, h3_⟩ := (hM.pick 4 [0, 3, 1, 2] (by kernel_rfl) (by decide) rfl : Mem w0 (ow A8 x3 2 3 1 y9 :: Fz F18 W19 :: ow A10 x4 2 61 3 y11 :: .blk b1 [sl A_w_0 w_0 c_w_0, sl A_w_1 w_1 c_w_1, sl A_w_2 w_2 c_w_2] 26 :: cs) w_).freeze (z := 1) h15 rfl rfl
   exact ⟨(F_, w_), ⟨h1_, h2_⟩, h3_.pick 3 [1, 2, 0] (by kernel_rfl) (by decide) rfl⟩
 rintro ⟨F22, W23⟩ ⟨hx24, h25⟩
 have hx24 : Ext w0 F18 W19 F22 W23 := hx24
 have h25 : RdS (Rep.int .i64) F22 W23 A8 2 x3 := h25
 have h21 := h21.ext hx24
 have h_l := h_l.ext hx24
 have h16 := h16.ext hx24
 have h_w_0 := h_w_0.ext hx24
 have h_w_1 := h_w_1.ext hx24
 have h_w_2 := h_w_2.ext hx24
 refine ops_ex (σ := (Nat → Prop) × World) (I := fun x_ => Ext w0 F22 W23 x_.1 x_.2 ∧ RdS R_api_Item x_.1 x_.2 A10 2 x4) (M' := fun x_ => Mem w0 (.blk b1 [sl A_w_0 w_0 c_w_0, sl A_w_1 w_1 c_w_1, sl A_w_2 w_2 c_w_2] 26 :: Fz x_.1 x_.2 :: cs)) (fun w_ hM => ?_) ?_
 · obtain ⟨F_, h1_, h2_, h3_⟩ := (hM.pick 3 [0, 2, 1] (by kernel_rfl) (by decide) rfl : Mem w0 (ow A10 x4 2 61 3 y11 :: Fz F22 W23 :: .blk b1 [sl A_w_0 w_0 c_w_0, sl A_w_1 w_1 c_w_1, sl A_w_2 w_2 c_w_2] 26 :: cs) w_).freeze (z := 3) h16 rfl rfl
   exact ⟨(F_, w_), ⟨h1_, h2_⟩, h3_.pick 2 [1, 0] (by kernel_rfl) (by decide) rfl⟩
 rintro ⟨F26, W27⟩ ⟨hx28, h29⟩
 have hx28 : Ext w0 F22 W23 F26 W27 := hx28
 have h29 : RdS R_api_Item F26 W27 A10 2 x4 := h29
 have h21 := h21.ext hx28
 have h25 := h25.ext hx28
 have h_l := h_l.ext hx28
 have h_w_0 := h_w_0.ext hx28
 have h_w_1 := h_w_1.ext hx28
 have h_w_2 := h_w_2.ext hx28
 obtain ⟨x30, x31, x32, x33, x34, x35, hv36, hp⟩ := obind6 hp
 refine ops_callI (σ := (Option Addr) × Nat × (List Value) × (Option Addr) × Nat × (List Value) × (Option Addr) × Nat × (List Value) × (Nat → Prop) × World) (d := some 26) (f := 5) (args := #[.agg #[sl A6 x2 2, sl A8 x3 2, sl A10 x4 2], .slice none 0 0]) (v := (fun x_ => match x_ with | (A37, c38, y39, A40, c41, y42, A43, c44, y45, F46, W47) => .tuple #[.agg #[sl A37 x30 c38, sl A40 x31 c41, sl A43 x32 c44], .agg #[vI x33, vI x34], vI x35])) (I := (fun x_ => match x_ with | (A37, c38, y39, A40, c41, y42, A43, c44, y45, F46, W47) => (RepL R_api_Kind F46 W47 x30 y39) ∧ (RepL (Rep.int .i64) F46 W47 x31 y42) ∧ (RepL R_api_Item F46 W47 x32 y45) ∧ (Ext w0 F26 W27 F46 W47))) (M' := (fun x_ => match x_ with | (A37, c38, y39, A40, c41, y42, A43, c44, y45, F46, W47) => Mem w0 (ow A37 x30 c38 86 2 y39 :: ow A40 x31 c41 3 1 y42 :: ow A43 x32 c44 61 3 y45 :: .blk b1 [sl A_w_0 w_0 c_w_0, sl A_w_1 w_1 c_w_1, sl A_w_2 w_2 c_w_2] 26 :: Fz F46 W47 :: cs))) ⟨by kernel_rfl⟩ (fun w_ hM hS => (world_Spawn_ok w0 w_ (.blk b1 [sl A_w_0 w_0 c_w_0, sl A_w_1 w_1 c_w_1, sl A_w_2 w_2 c_w_2] 26 :: cs) F26 W27 A6 2 x2 A8 2 x3 A10 2 x4 none 0 [] (hM.pick 2 [1, 0] (by kernel_rfl) (by decide) rfl) h21 h25 h29 (RdS.empty _) x30 x31 x32 x33 x34 x35 hv36).mono (by rintro e w' ⟨A37, c38, y39, A40, c41, y42, A43, c44, y45, F46, W47, ⟨h48, h49, h50, h51⟩, rfl, h'⟩; have h' : Mem w0 (ow A37 x30 c38 86 2 y39 :: ow A40 x31 c41 3 1 y42 :: ow A43 x32 c44 61 3 y45 :: .blk b1 [sl A_w_0 w_0 c_w_0, sl A_w_1 w_1 c_w_1, sl A_w_2 w_2 c_w_2] 26 :: Fz F46 W47 :: cs) w' := (h'.pick 5 [0, 1, 2, 4, 3] (by kernel_rfl) (by decide) rfl); exact ⟨(A37, c38, y39, A40, c41, y42, A43, c44, y45, F46, W47), ⟨h48, h49, h50, h51⟩, rfl, h', trivial⟩)) ?_
 rintro ⟨A37, c38, y39, A40, c41, y42, A43, c44, y45, F46, W47⟩ ⟨h48, h49, h50, h51⟩
 have h21 := h21.ext h51
 have h25 := h25.ext h51
 have h29 := h29.ext h51
 have h_l := h_l.ext h51
 have h_w_0 := h_w_0.ext h51
 have h_w_1 := h_w_1.ext h51
 have h_w_2 := h_w_2.ext h51
 refine oQ [oF 2, oF 3, oF 4, oF 5] [(29, vI x35), (28, .agg #[vI x33, vI x34]), (27, .agg #[sl A37 x30 c38, sl A40 x31 c41, sl A43 x32 c44]), (2, vP b1 0), (1, sl A_l l c_l)] (by kernel_rfl) ?_
 refine ops_newB (d := some 5) [.slice none 0 0, .slice none 0 0, .slice none 0 0] 26 (fun b52 => ⟨by kernel_rfl⟩) (fun w_ hM hS => trivial) (fun b52 => ?_)
 refine ops_newB (d := some 6) [vI 0, vI 0] 29 (fun b53 => ⟨by kernel_rfl⟩) (fun w_ hM hS => trivial) (fun b53 => ?_)
 refine ops_store (an := []) (evs := [sr b52 0 (sl A37 x30 c38), sr b52 1 (sl A40 x31 c41), sr b52 2 (sl A43 x32 c44)]) ⟨by kernel_rfl⟩ (fun w_ hM hS => let ⟨w', he, h'⟩ := hM.evs_stores [sl A37 x30 c38, sl A40 x31 c41, sl A43 x32 c44] 1 rfl 0 (Nat.le_of_ble_eq_true rfl); ⟨w', he, h', trivial⟩) ?_
 refine ops_store (an := []) (evs := [sr b53 0 (vI x33), sr b53 1 (vI x34)]) ⟨by kernel_rfl⟩ (fun w_ hM hS => let ⟨w', he, h'⟩ := hM.evs_stores [vI x33, vI x34] 0 rfl 0 (Nat.le_of_ble_eq_true rfl); ⟨w', he, h', trivial⟩) ?_
 refine oQ [oF 10] [(7, vI x35), (6, vP b53 0), (2, vP b1 0), (1, sl A_l l c_l)] (by kernel_rfl) ?_
 refine ops_nil (fin_then (st_seq (st_region [oF 0, oF 1, oF 2, oF 3, oF 4, oF 5, oF 6] (by rfl) ?_)))
 refine oQ [oF 0, oF 1, oF 2] [(32, .bool (!(x35 == 0))), (6, vP b53 0), (2, vP b1 0), (1, sl A_l l c_l)] (by kernel_rfl) ?_
 refine ops_bool (t := !(x35 == 0)) (l1 := [(32, .bool true), (6, vP b53 0), (2, vP b1 0), (1, sl A_l l c_l)]) (l2 := [(32, .bool false), (6, vP b53 0), (2, vP b1 0), (1, sl A_l l c_l)]) (fun h => by rw [h]) (fun h => by rw [h]) (fun hc54 => ?_) (fun hc54 => ?_)
 ·
  have hp := cnd_t hc54 hp
  refine oQ [oF 3, oF 4, oF 5, oF 6] [(36, .bool true), (2, vP b1 0), (1, sl A_l l c_l)] (by kernel_rfl) ?_
  refine ops_nil (fin_then (st_true rfl (st_seq (st_region [oF 0] (by rfl) ?_))))
  refine oQ [oF 0] [(4, .bool false)] (by kernel_rfl) ?_
  refine ops_nil (fin_then (st_ret (fin_ret_then ?_)))
  have hq_ := Option.some.inj hp
  have hr0_ := hq_
  subst hr0_
  refine fin_ret [.tmp 4] [.bool false] rfl rfl (fun w_ hM => (.tmp rfl .nil)) (fun w_ hM => ?_)
  exact ⟨F46, W47, ((((h17.trans hx20).trans hx24).trans hx28).trans h51), rfl, hM.pick 7 [6] (by kernel_rfl) (by decide) rfl⟩
 ·
  have hp := cnd_f hc54 hp
  refine oQ [oF 3] [(33, vP b53 0), (32, .bool false), (2, vP b1 0), (1, sl A_l l c_l)] (by kernel_rfl) ?_
  refine ops_mem (d := some 34) (an := [.v (vI x33)]) (evs := [ld b53 0 (vI x33)]) (v := vI x33) ⟨by kernel_rfl⟩ (fun w_ hM hS => ⟨w_, ⟨hM.cell 0 rfl rfl, rfl⟩, hM, trivial⟩) ?_
  refine oQ [oF 5, oF 6] [(36, .bool (!(x33 == 2))), (2, vP b1 0), (1, sl A_l l c_l)] (by kernel_rfl) ?_
  refine ops_nil (fin_then ?_)
  refine st_if (b := !(x33 == 2)) rfl (fun hc55 => ?_) (fun hc55 => ?_)
  ·
   have hp := cnd_t hc55 hp
   refine st_seq (st_region [oF 0] (by rfl) ?_)
   refine oQ [oF 0] [(4, .bool false)] (by kernel_rfl) ?_
   refine ops_nil (fin_then (st_ret (fin_ret_then ?_)))
   have hq_ := Option.some.inj hp
   have hr0_ := hq_
   subst hr0_
   refine fin_ret [.tmp 4] [.bool false] rfl rfl (fun w_ hM => (.tmp rfl .nil)) (fun w_ hM => ?_)
   exact ⟨F46, W47, ((((h17.trans hx20).trans hx24).trans hx28).trans h51), rfl, hM.pick 7 [6] (by kernel_rfl) (by decide) rfl⟩
  ·
   have hp := cnd_f hc55 hp
   refine st_skip (fin_then (st_seq (st_region [oF 0, oF 1, oF 2, oF 3, oF 4, oF 5, oF 6, oF 7, oF 8] (by rfl) ?_)))
   refine oQ [oF 0] [(38, vP b1 0), (2, vP b1 0), (1, sl A_l l c_l)] (by kernel_rfl) ?_
   refine ops_mem (d := some 39) (an := [.v (sl A_w_0 w_0 c_w_0)]) (evs := [ld b1 0 (sl A_w_0 w_0 c_w_0)]) (v := sl A_w_0 w_0 c_w_0) ⟨by kernel_rfl⟩ (fun w_ hM hS => ⟨w_, ⟨hM.cell 5 rfl rfl, rfl⟩, hM, trivial⟩) ?_
   refine oQ [oF 2] [(40, sl A_l l c_l), (39, sl A_w_0 w_0 c_w_0), (2, vP b1 0), (1, sl A_l l c_l)] (by kernel_rfl) ?_
   obtain ⟨x56, x57, hv58, hp⟩ := obind2 hp
   refine ops_callI (σ := (Option Addr) × Nat × (List Value) × (Nat → Prop) × World) (d := some 41) (f := 7) (args := #[sl A_w_0 w_0 c_w_0, sl A_l l c_l]) (v := (fun x_ => match x_ with | (A59, c60, y61, F62, W63) => .tuple #[sl A59 x56 c60, vI x57])) (I := (fun x_ => match x_ with | (A59, c60, y61, F62, W63) => (RepL R_api_Comp F62 W63 x56 y61) ∧ (Ext w0 F46 W47 F62 W63))) (M' := (fun x_ => match x_ with | (A59, c60, y61, F62, W63) => Mem w0 (ow A59 x56 c60 42 2 y61 :: .blk b53 [vI x33, vI x34] 29 :: .blk b52 [sl A37 x30 c38, sl A40 x31 c41, sl A43 x32 c44] 26 :: ow A37 x30 c38 86 2 y39 :: ow A40 x31 c41 3 1 y42 :: ow A43 x32 c44 61 3 y45 :: .blk b1 [sl A_w_0 w_0 c_w_0, sl A_w_1 w_1 c_w_1, sl A_w_2 w_2 c_w_2] 26 :: Fz F62 W63 :: cs))) ⟨by kernel_rfl⟩ (fun w_ hM hS => (world_Fit_ok w0 w_ (.blk b53 [vI x33, vI x34] 29 :: .blk b52 [sl A37 x30 c38, sl A40 x31 c41, sl A43 x32 c44] 26 :: ow A37 x30 c38 86 2 y39 :: ow A40 x31 c41 3 1 y42 :: ow A43 x32 c44 61 3 y45 :: .blk b1 [sl A_w_0 w_0 c_w_0, sl A_w_1 w_1 c_w_1, sl A_w_2 w_2 c_w_2] 26 :: cs) F46 W47 A_w_0 c_w_0 w_0 A_l c_l l (hM.pick 7 [6, 0, 1, 2, 3, 4, 5] (by kernel_rfl) (by decide) rfl) h_w_0 h_l x56 x57 hv58).mono (by rintro e w' ⟨A59, c60, y61, F62, W63, ⟨h64, h65⟩, rfl, h'⟩; have h' : Mem w0 (ow A59 x56 c60 42 2 y61 :: .blk b53 [vI x33, vI x34] 29 :: .blk b52 [sl A37 x30 c38, sl A40 x31 c41, sl A43 x32 c44] 26 :: ow A37 x30 c38 86 2 y39 :: ow A40 x31 c41 3 1 y42 :: ow A43 x32 c44 61 3 y45 :: .blk b1 [sl A_w_0 w_0 c_w_0, sl A_w_1 w_1 c_w_1, sl A_w_2 w_2 c_w_2] 26 :: Fz F62 W63 :: cs) w' := (h'.pick 8 [0, 2, 3, 4, 5, 6, 7, 1] (by kernel_rfl) (by decide) rfl); exact ⟨(A59, c60, y61, F62, W63), ⟨h64, h65⟩, rfl, h', trivial⟩)) ?_
   rintro ⟨A59, c60, y61, F62, W63⟩ ⟨h64, h65⟩
   have h_l := h_l.ext h65
   have h_w_0 := h_w_0.ext h65
   have h48 := h48.ext h65
   have h49 := h49.ext h65
   have h50 := h50.ext h65
   have h_w_1 := h_w_1.ext h65
   have h_w_2 := h_w_2.ext h65
   refine oQ [oF 4, oF 5, oF 6, oF 7, oF 8] [(9, vI x57), (8, sl A59 x56 c60), (2, vP b1 0), (1, sl A_l l c_l)] (by kernel_rfl) ?_
   refine ops_nil (fin_then (st_seq (st_region [oF 0, oF 1, oF 2, oF 3] (by rfl) ?_)))
   refine oQ [oF 0] [(44, vP b1 0), (9, vI x57), (8, sl A59 x56 c60), (2, vP b1 0), (1, sl A_l l c_l)] (by kernel_rfl) ?_
   refine ops_mem (d := some 45) (an := [.v (sl A_w_0 w_0 c_w_0)]) (evs := [ld b1 0 (sl A_w_0 w_0 c_w_0)]) (v := sl A_w_0 w_0 c_w_0) ⟨by kernel_rfl⟩ (fun w_ hM hS => ⟨w_, ⟨hM.cell 6 rfl rfl, rfl⟩, hM, trivial⟩) ?_
   obtain ⟨x66, hv67, hp⟩ := obind hp
   refine ops_callI (σ := Unit) (d := some 46) (f := 8) (args := #[sl A_w_0 w_0 c_w_0]) (v := (fun _ => vI x66)) (I := (fun _ => True)) (M' := (fun _ => Mem w0 (ow A59 x56 c60 42 2 y61 :: .blk b53 [vI x33, vI x34] 29 :: .blk b52 [sl A37 x30 c38, sl A40 x31 c41, sl A43 x32 c44] 26 :: ow A37 x30 c38 86 2 y39 :: ow A40 x31 c41 3 1 y42 :: ow A43 x32 c44 61 3 y45 :: .blk b1 [sl A_w_0 w_0 c_w_0, sl A_w_1 w_1 c_w_1, sl A_w_2 w_2 c_w_2] 26 :: Fz F62 W63 :: cs))) ⟨by kernel_rfl⟩ (fun w_ hM hS => (tourref3_KindsError_ok w0 w_ (ow A59 x56 c60 42 2 y61 :: .blk b53 [vI x33, vI x34] 29 :: .blk b52 [sl A37 x30 c38, sl A40 x31 c41, sl A43 x32 c44] 26 :: ow A37 x30 c38 86 2 y39 :: ow A40 x31 c41 3 1 y42 :: ow A43 x32 c44 61 3 y45 :: .blk b1 [sl A_w_0 w_0 c_w_0, sl A_w_1 w_1 c_w_1, sl A_w_2 w_2 c_w_2] 26 :: cs) F62 W63 A_w_0 c_w_0 w_0 (hM.pick 8 [7, 0, 1, 2, 3, 4, 5, 6] (by kernel_rfl) (by decide) rfl) h_w_0 x66 hv67).mono (by rintro e w' ⟨-, rfl, h'⟩; have h' : Mem w0 (ow A59 x56 c60 42 2 y61 :: .blk b53 [vI x33, vI x34] 29 :: .blk b52 [sl A37 x30 c38, sl A40 x31 c41, sl A43 x32 c44] 26 :: ow A37 x30 c38 86 2 y39 :: ow A40 x31 c41 3 1 y42 :: ow A43 x32 c44 61 3 y45 :: .blk b1 [sl A_w_0 w_0 c_w_0, sl A_w_1 w_1 c_w_1, sl A_w_2 w_2 c_w_2] 26 :: Fz F62 W63 :: cs) w' := (h'.pick 8 [1, 2, 3, 4, 5, 6, 7, 0] (by kernel_rfl) (by decide) rfl); exact ⟨(), trivial, rfl, h', trivial⟩)) ?_
   rintro _ -
   refine oQ [oF 3] [(10, vI x66), (9, vI x57), (8, sl A59 x56 c60), (2, vP b1 0), (1, sl A_l l c_l)] (by kernel_rfl) ?_
   refine ops_nil (fin_then ?_)
   refine st_join1 (σ := (Nat → Prop) × World) (L := fun x_ => match x_ with | (F68, W69) => [(1, sl A_l l c_l), (2, vP b1 0)]) (N := fun x_ => match x_ with | (F68, W69) => Mem w0 (.blk b1 [sl A_w_0 w_0 c_w_0, sl A_w_1 w_1 c_w_1, sl A_w_2 w_2 c_w_2] 26 :: Fz F68 W69 :: cs)) (I := fun x_ => match x_ with | (F68, W69) => ((tourlaw3_WorldSpawns_j1 w_0 w_1 w_2 l) = some t9001) ∧ (Ext w0 F62 W63 F68 W69)) ?_ ?_
   ·
    rintro ⟨F68, W69⟩ ⟨hp, hx1⟩
    have h_l := h_l.ext hx1
    have h_w_0 := h_w_0.ext hx1
    have h_w_1 := h_w_1.ext hx1
    have h_w_2 := h_w_2.ext hx1
    unfold tourlaw3_WorldSpawns_j1 at hp
    refine st_seq (st_region [oF 0, oF 1, oF 2, oF 3, oF 4, oF 5, oF 6, oF 7, oF 8, oF 9, oF 10, oF 11] (by rfl) ?_)
    refine ops_mem (d := some 88) (an := [.v (sl A_w_0 w_0 c_w_0), .v (sl A_w_1 w_1 c_w_1), .v (sl A_w_2 w_2 c_w_2)]) (evs := [ld b1 0 (sl A_w_0 w_0 c_w_0), ld b1 1 (sl A_w_1 w_1 c_w_1), ld b1 2 (sl A_w_2 w_2 c_w_2)]) (v := .agg #[sl A_w_0 w_0 c_w_0, sl A_w_1 w_1 c_w_1, sl A_w_2 w_2 c_w_2]) ⟨by kernel_rfl⟩ (fun w_ hM hS => ⟨w_, ⟨hM.cell 0 rfl rfl, hM.cell 0 rfl rfl, hM.cell 0 rfl rfl, rfl⟩, hM, trivial⟩) ?_
    refine oQ [oF 1] [(89, sl A_l l c_l), (88, .agg #[sl A_w_0 w_0 c_w_0, sl A_w_1 w_1 c_w_1, sl A_w_2 w_2 c_w_2]), (1, sl A_l l c_l), (2, vP b1 0)] (by kernel_rfl) ?_
    obtain ⟨x70, x71, x72, x73, x74, x75, hv76, hp⟩ := obind6 hp
    refine ops_callI (σ := (Option Addr) × Nat × (List Value) × (Option Addr) × Nat × (List Value) × (Option Addr) × Nat × (List Value) × (Nat → Prop) × World) (d := some 90) (f := 5) (args := #[.agg #[sl A_w_0 w_0 c_w_0, sl A_w_1 w_1 c_w_1, sl A_w_2 w_2 c_w_2], sl A_l l c_l]) (v := (fun x_ => match x_ with | (A77, c78, y79, A80, c81, y82, A83, c84, y85, F86, W87) => .tuple #[.agg #[sl A77 x70 c78, sl A80 x71 c81, sl A83 x72 c84], .agg #[vI x73, vI x74], vI x75])) (I := (fun x_ => match x_ with | (A77, c78, y79, A80, c81, y82, A83, c84, y85, F86, W87) => (RepL R_api_Kind F86 W87 x70 y79) ∧ (RepL (Rep.int .i64) F86 W87 x71 y82) ∧ (RepL R_api_Item F86 W87 x72 y85) ∧ (Ext w0 F68 W69 F86 W87))) (M' := (fun x_ => match x_ with | (A77, c78, y79, A80, c81, y82, A83, c84, y85, F86, W87) => Mem w0 (ow A77 x70 c78 86 2 y79 :: ow A80 x71 c81 3 1 y82 :: ow A83 x72 c84 61 3 y85 :: .blk b1 [sl A_w_0 w_0 c_w_0, sl A_w_1 w_1 c_w_1, sl A_w_2 w_2 c_w_2] 26 :: Fz F86 W87 :: cs))) ⟨by kernel_rfl⟩ (fun w_ hM hS => (world_Spawn_ok w0 w_ (.blk b1 [sl A_w_0 w_0 c_w_0, sl A_w_1 w_1 c_w_1, sl A_w_2 w_2 c_w_2] 26 :: cs) F68 W69 A_w_0 c_w_0 w_0 A_w_1 c_w_1 w_1 A_w_2 c_w_2 w_2 A_l c_l l (hM.pick 2 [1, 0] (by kernel_rfl) (by decide) rfl) h_w_0 h_w_1 h_w_2 h_l x70 x71 x72 x73 x74 x75 hv76).mono (by rintro e w' ⟨A77, c78, y79, A80, c81, y82, A83, c84, y85, F86, W87, ⟨h88, h89, h90, h91⟩, rfl, h'⟩; have h' : Mem w0 (ow A77 x70 c78 86 2 y79 :: ow A80 x71 c81 3 1 y82 :: ow A83 x72 c84 61 3 y85 :: .blk b1 [sl A_w_0 w_0 c_w_0, sl A_w_1 w_1 c_w_1, sl A_w_2 w_2 c_w_2] 26 :: Fz F86 W87 :: cs) w' := (h'.pick 5 [0, 1, 2, 4, 3] (by kernel_rfl) (by decide) rfl); exact ⟨(A77, c78, y79, A80, c81, y82, A83, c84, y85, F86, W87), ⟨h88, h89, h90, h91⟩, rfl, h', trivial⟩)) ?_
    rintro ⟨A77, c78, y79, A80, c81, y82, A83, c84, y85, F86, W87⟩ ⟨h88, h89, h90, h91⟩
    have h_l := h_l.ext h91
    have h_w_0 := h_w_0.ext h91
    have h_w_1 := h_w_1.ext h91
    have h_w_2 := h_w_2.ext h91
    refine oQ [oF 3, oF 4, oF 5, oF 6] [(93, vI x75), (92, .agg #[vI x73, vI x74]), (91, .agg #[sl A77 x70 c78, sl A80 x71 c81, sl A83 x72 c84]), (1, sl A_l l c_l), (2, vP b1 0)] (by kernel_rfl) ?_
    refine ops_newB (d := some 13) [.slice none 0 0, .slice none 0 0, .slice none 0 0] 26 (fun b92 => ⟨by kernel_rfl⟩) (fun w_ hM hS => trivial) (fun b92 => ?_)
    refine ops_newB (d := some 14) [vI 0, vI 0] 29 (fun b93 => ⟨by kernel_rfl⟩) (fun w_ hM hS => trivial) (fun b93 => ?_)
    refine ops_store (an := []) (evs := [sr b92 0 (sl A77 x70 c78), sr b92 1 (sl A80 x71 c81), sr b92 2 (sl A83 x72 c84)]) ⟨by kernel_rfl⟩ (fun w_ hM hS => let ⟨w', he, h'⟩ := hM.evs_stores [sl A77 x70 c78, sl A80 x71 c81, sl A83 x72 c84] 1 rfl 0 (Nat.le_of_ble_eq_true rfl); ⟨w', he, h', trivial⟩) ?_
    refine ops_store (an := []) (evs := [sr b93 0 (vI x73), sr b93 1 (vI x74)]) ⟨by kernel_rfl⟩ (fun w_ hM hS => let ⟨w', he, h'⟩ := hM.evs_stores [vI x73, vI x74] 0 rfl 0 (Nat.le_of_ble_eq_true rfl); ⟨w', he, h', trivial⟩) ?_
    refine oQ [oF 11] [(15, vI x75), (14, vP b93 0), (13, vP b92 0), (1, sl A_l l c_l), (2, vP b1 0)] (by kernel_rfl) ?_
    refine ops_nil (fin_then (st_seq (st_region [oF 0, oF 1, oF 2, oF 3, oF 4, oF 5, oF 6] (by rfl) ?_)))
    refine ops_mem (d := some 95) (an := [.v (sl A_w_0 w_0 c_w_0), .v (sl A_w_1 w_1 c_w_1), .v (sl A_w_2 w_2 c_w_2)]) (evs := [ld b1 0 (sl A_w_0 w_0 c_w_0), ld b1 1 (sl A_w_1 w_1 c_w_1), ld b1 2 (sl A_w_2 w_2 c_w_2)]) (v := .agg #[sl A_w_0 w_0 c_w_0, sl A_w_1 w_1 c_w_1, sl A_w_2 w_2 c_w_2]) ⟨by kernel_rfl⟩ (fun w_ hM hS => ⟨w_, ⟨hM.cell 5 rfl rfl, hM.cell 5 rfl rfl, hM.cell 5 rfl rfl, rfl⟩, hM, trivial⟩) ?_
    obtain ⟨r95, hv94, hp⟩ := obind hp
    rcases r95 with x96 | ⟨x97, x98, x99⟩
    ·
     have hp := (sel_l hp)
     refine ops_callI (σ := (Nat → Prop) × World) (d := some 96) (f := 13) (args := #[.agg #[sl A_w_0 w_0 c_w_0, sl A_w_1 w_1 c_w_1, sl A_w_2 w_2 c_w_2]]) (v := (fun x_ => match x_ with | (F100, W101) => .tuple #[.pointer none, vI x96])) (I := (fun x_ => match x_ with | (F100, W101) => (Ext w0 F86 W87 F100 W101))) (M' := (fun x_ => match x_ with | (F100, W101) => Mem w0 (.blk b93 [vI x73, vI x74] 29 :: .blk b92 [sl A77 x70 c78, sl A80 x71 c81, sl A83 x72 c84] 26 :: ow A77 x70 c78 86 2 y79 :: ow A80 x71 c81 3 1 y82 :: ow A83 x72 c84 61 3 y85 :: .blk b1 [sl A_w_0 w_0 c_w_0, sl A_w_1 w_1 c_w_1, sl A_w_2 w_2 c_w_2] 26 :: Fz F100 W101 :: cs))) ⟨by kernel_rfl⟩ (fun w_ hM hS => (tourref3_Open_ok w0 w_ (.blk b93 [vI x73, vI x74] 29 :: .blk b92 [sl A77 x70 c78, sl A80 x71 c81, sl A83 x72 c84] 26 :: ow A77 x70 c78 86 2 y79 :: ow A80 x71 c81 3 1 y82 :: ow A83 x72 c84 61 3 y85 :: .blk b1 [sl A_w_0 w_0 c_w_0, sl A_w_1 w_1 c_w_1, sl A_w_2 w_2 c_w_2] 26 :: cs) F86 W87 A_w_0 c_w_0 w_0 A_w_1 c_w_1 w_1 A_w_2 c_w_2 w_2 (hM.pick 7 [6, 0, 1, 2, 3, 4, 5] (by kernel_rfl) (by decide) rfl) h_w_0 h_w_1 h_w_2 _ hv94).mono (by intro e w' hq_; obtain ⟨F100, W101, h102, rfl, h'⟩ := (psel_l hq_); have h' : Mem w0 (.blk b93 [vI x73, vI x74] 29 :: .blk b92 [sl A77 x70 c78, sl A80 x71 c81, sl A83 x72 c84] 26 :: ow A77 x70 c78 86 2 y79 :: ow A80 x71 c81 3 1 y82 :: ow A83 x72 c84 61 3 y85 :: .blk b1 [sl A_w_0 w_0 c_w_0, sl A_w_1 w_1 c_w_1, sl A_w_2 w_2 c_w_2] 26 :: Fz F100 W101 :: cs) w' := (h'.pick 7 [1, 2, 3, 4, 5, 6, 0] (by kernel_rfl) (by decide) rfl); exact ⟨(F100, W101), h102, rfl, h', trivial⟩)) ?_
     rintro ⟨F100, W101⟩ h102
     have h_w_0 := h_w_0.ext h102
     have h_w_1 := h_w_1.ext h102
     have h_w_2 := h_w_2.ext h102
     have h_l := h_l.ext h102
     have h88 := h88.ext h102
     have h89 := h89.ext h102
     have h90 := h90.ext h102
     refine oQ [oF 2, oF 3, oF 4, oF 5, oF 6] [(17, vI x96), (16, .pointer none), (15, vI x75), (14, vP b93 0), (13, vP b92 0), (1, sl A_l l c_l), (2, vP b1 0)] (by kernel_rfl) ?_
     refine ops_nil (fin_then (st_seq (st_seq (st_region [oF 0, oF 1] (by rfl) ?_))))
     refine oQ [oF 0, oF 1] [(100, .bool (!(x96 == 0))), (17, vI x96), (16, .pointer none), (15, vI x75), (14, vP b93 0), (13, vP b92 0), (1, sl A_l l c_l), (2, vP b1 0)] (by kernel_rfl) ?_
     refine ops_nil (fin_then ?_)
     refine st_if (b := !(x96 == 0)) rfl (fun hc103 => ?_) (fun hc103 => ?_)
     ·
      have hp := cnd_t hc103 hp
      refine st_join1 (σ := Bool) (L := fun x_ => match x_ with | t104 => [(4, .bool t104)]) (N := fun x_ => match x_ with | t104 => Mem w0 (Fz F100 W101 :: cs)) (I := fun x_ => match x_ with | t104 => (tourlaw3_WorldSpawns_j2 t104 = some t9001)) ?_ ?_
      ·
       rintro t104 hp
       unfold tourlaw3_WorldSpawns_j2 at hp
       refine st_ret (fin_ret_then ?_)
       have hq_ := Option.some.inj hp
       have hr0_ := hq_
       subst hr0_
       refine fin_ret [.tmp 4] [.bool t104] rfl rfl (fun w_ hM => (.tmp rfl .nil)) (fun w_ hM => ?_)
       exact ⟨F100, W101, ((((((((h17.trans hx20).trans hx24).trans hx28).trans h51).trans h65).trans hx1).trans h91).trans h102), rfl, hM⟩
      ·
       intro HJ2
       refine st_seq (st_region [oF 0, oF 1, oF 2, oF 3, oF 4, oF 5, oF 6, oF 7, oF 8, oF 9, oF 10, oF 11, oF 12, oF 13, oF 14] (by rfl) ?_)
       refine oQ [oF 0, oF 1, oF 2, oF 3] [(104, .bool (x75 == x96)), (17, vI x96), (16, .pointer none), (14, vP b93 0), (13, vP b92 0)] (by kernel_rfl) ?_
       refine ops_bool (t := (x75 == x96)) (l1 := [(104, .bool true), (17, vI x96), (16, .pointer none), (14, vP b93 0), (13, vP b92 0)]) (l2 := [(104, .bool false), (17, vI x96), (16, .pointer none), (14, vP b93 0), (13, vP b92 0)]) (fun h => by rw [h]) (fun h => by rw [h]) (fun hc105 => ?_) (fun hc105 => ?_)
       ·
        have hp := cnd_t hc105 hp
        refine ops_mem (d := some 105) (an := [.v (vI x73), .v (vI x74)]) (evs := [ld b93 0 (vI x73), ld b93 1 (vI x74)]) (v := .agg #[vI x73, vI x74]) ⟨by kernel_rfl⟩ (fun w_ hM hS => ⟨w_, ⟨hM.cell 0 rfl rfl, hM.cell 0 rfl rfl, rfl⟩, hM, trivial⟩) ?_
        refine oQ [oF 5] [(106, .agg #[vI 0, vI 0]), (105, .agg #[vI x73, vI x74]), (104, .bool true), (17, vI x96), (16, .pointer none), (13, vP b92 0)] (by kernel_rfl) ?_
        refine ops_val (op := (.binOp Go.BinOp.eql 29 (.tmp 105) (.tmp 106) 29)) (d := some 107) (v := .bool (x73 == 0 && (x74 == 0))) ⟨by kernel_rfl⟩ (run_eql_agg (r := x73 == 0 && (x74 == 0)) rfl rfl (by kernel_rfl) (fun w => eqA29 9998 w x73 0 x74 0)) ?_
        refine oQ [oF 7, oF 8] [(109, .bool (x73 == 0 && (x74 == 0))), (17, vI x96), (16, .pointer none), (13, vP b92 0)] (by kernel_rfl) ?_
        refine ops_bool (t := x73 == 0 && (x74 == 0)) (l1 := [(109, .bool true), (17, vI x96), (16, .pointer none), (13, vP b92 0)]) (l2 := [(109, .bool false), (17, vI x96), (16, .pointer none), (13, vP b92 0)]) (fun h => by rw [h]) (fun h => by rw [h]) (fun hc106 => ?_) (fun hc106 => ?_)
        ·
         have hp := cnd_t hc106 hp
         refine ops_mem (d := some 110) (an := [.v (sl A77 x70 c78), .v (sl A80 x71 c81), .v (sl A83 x72 c84)]) (evs := [ld b92 0 (sl A77 x70 c78), ld b92 1 (sl A80 x71 c81), ld b92 2 (sl A83 x72 c84)]) (v := .agg #[sl A77 x70 c78, sl A80 x71 c81, sl A83 x72 c84]) ⟨by kernel_rfl⟩ (fun w_ hM hS => ⟨w_, ⟨hM.cell 1 rfl rfl, hM.cell 1 rfl rfl, hM.cell 1 rfl rfl, rfl⟩, hM, trivial⟩) ?_
         refine oQ [oF 10, oF 11] [(112, vI x96), (111, .pointer none), (110, .agg #[sl A77 x70 c78, sl A80 x71 c81, sl A83 x72 c84]), (109, .bool true)] (by kernel_rfl) ?_
         obtain ⟨x107, hv108, hp⟩ := obind hp
         refine ops_callI (σ := Unit) (d := some 113) (f := 14) (args := #[.agg #[sl A77 x70 c78, sl A80 x71 c81, sl A83 x72 c84], .pointer none, vI x96]) (v := (fun _ => .bool x107)) (I := (fun _ => True)) (M' := (fun _ => Mem w0 (.blk b93 [vI x73, vI x74] 29 :: .blk b92 [sl A77 x70 c78, sl A80 x71 c81, sl A83 x72 c84] 26 :: ow A77 x70 c78 86 2 y79 :: ow A80 x71 c81 3 1 y82 :: ow A83 x72 c84 61 3 y85 :: .blk b1 [sl A_w_0 w_0 c_w_0, sl A_w_1 w_1 c_w_1, sl A_w_2 w_2 c_w_2] 26 :: Fz F100 W101 :: cs))) ⟨by kernel_rfl⟩ (fun w_ hM hS => (tourlaw3_same_ok w_ w_ [] (fun b => b < w_.heap.size) w_ A77 c78 x70 A80 c81 x71 A83 c84 x72 x96 (Mem.fz0 w_) (hM.ordS 2 6 rfl rfl h88 rfl rfl) (hM.ordS 3 6 rfl rfl h89 rfl rfl) (hM.ordS 4 6 rfl rfl h90 rfl rfl) x107 hv108).mono (by rintro e w' ⟨-, rfl, h'⟩; have h' : Mem w_ [] w' := h'.pick 1 [] (by kernel_rfl) (by decide) rfl; exact ⟨(), trivial, rfl, hM.join h' rfl, trivial⟩)) ?_
         rintro _ -
         refine oQ [oF 13, oF 14] [(4, .bool x107)] (by kernel_rfl) ?_
         refine ops_nil ?_
         exact fin_join HJ2 x107 hp (look_has ⟨rfl, trivial⟩) (fun w_ hM => hM.pick 7 [6] (by kernel_rfl) (by decide) rfl)
        ·
         have hp := cnd_f hc106 hp
         refine oQ [oF 9, oF 10, oF 11, oF 12, oF 13, oF 14] [(4, .bool false)] (by kernel_rfl) ?_
         refine ops_nil ?_
         exact fin_join HJ2 false hp (look_has ⟨rfl, trivial⟩) (fun w_ hM => hM.pick 7 [6] (by kernel_rfl) (by decide) rfl)
       ·
        have hp := cnd_f hc105 hp
        refine oQ [oF 4, oF 5, oF 6, oF 7, oF 8, oF 9, oF 10, oF 11, oF 12, oF 13, oF 14] [(4, .bool false)] (by kernel_rfl) ?_
        refine ops_nil ?_
        exact fin_join HJ2 false hp (look_has ⟨rfl, trivial⟩) (fun w_ hM => hM.pick 7 [6] (by kernel_rfl) (by decide) rfl)
     ·
      have hp := cnd_f hc103 hp
      refine st_skip (fin_then (st_seq (st_region [oF 0, oF 1, oF 2, oF 3, oF 4, oF 5, oF 6] (by rfl) ?_)))
      refine ops_mem (d := some 116) (an := [.v (sl A_w_0 w_0 c_w_0), .v (sl A_w_1 w_1 c_w_1), .v (sl A_w_2 w_2 c_w_2)]) (evs := [ld b1 0 (sl A_w_0 w_0 c_w_0), ld b1 1 (sl A_w_1 w_1 c_w_1), ld b1 2 (sl A_w_2 w_2 c_w_2)]) (v := .agg #[sl A_w_0 w_0 c_w_0, sl A_w_1 w_1 c_w_1, sl A_w_2 w_2 c_w_2]) ⟨by kernel_rfl⟩ (fun w_ hM hS => ⟨w_, ⟨hM.cell 5 rfl rfl, hM.cell 5 rfl rfl, hM.cell 5 rfl rfl, rfl⟩, hM, trivial⟩) ?_
      obtain ⟨x109, x110, hv111, hp⟩ := obind2 hp
      refine ops_callI (σ := Unit) (d := some 117) (f := 15) (args := #[.agg #[sl A_w_0 w_0 c_w_0, sl A_w_1 w_1 c_w_1, sl A_w_2 w_2 c_w_2]]) (v := (fun _ => .tuple #[vI x109, .bool x110])) (I := (fun _ => True)) (M' := (fun _ => Mem w0 (.blk b93 [vI x73, vI x74] 29 :: .blk b92 [sl A77 x70 c78, sl A80 x71 c81, sl A83 x72 c84] 26 :: ow A77 x70 c78 86 2 y79 :: ow A80 x71 c81 3 1 y82 :: ow A83 x72 c84 61 3 y85 :: .blk b1 [sl A_w_0 w_0 c_w_0, sl A_w_1 w_1 c_w_1, sl A_w_2 w_2 c_w_2] 26 :: Fz F100 W101 :: cs))) ⟨by kernel_rfl⟩ (fun w_ hM hS => (world_Free_ok w0 w_ (.blk b93 [vI x73, vI x74] 29 :: .blk b92 [sl A77 x70 c78, sl A80 x71 c81, sl A83 x72 c84] 26 :: ow A77 x70 c78 86 2 y79 :: ow A80 x71 c81 3 1 y82 :: ow A83 x72 c84 61 3 y85 :: .blk b1 [sl A_w_0 w_0 c_w_0, sl A_w_1 w_1 c_w_1, sl A_w_2 w_2 c_w_2] 26 :: cs) F100 W101 A_w_0 c_w_0 w_0 A_w_1 c_w_1 w_1 A_w_2 c_w_2 w_2 (hM.pick 7 [6, 0, 1, 2, 3, 4, 5] (by kernel_rfl) (by decide) rfl) h_w_0 h_w_1 h_w_2 x109 x110 hv111).mono (by rintro e w' ⟨-, rfl, h'⟩; have h' : Mem w0 (.blk b93 [vI x73, vI x74] 29 :: .blk b92 [sl A77 x70 c78, sl A80 x71 c81, sl A83 x72 c84] 26 :: ow A77 x70 c78 86 2 y79 :: ow A80 x71 c81 3 1 y82 :: ow A83 x72 c84 61 3 y85 :: .blk b1 [sl A_w_0 w_0 c_w_0, sl A_w_1 w_1 c_w_1, sl A_w_2 w_2 c_w_2] 26 :: Fz F100 W101 :: cs) w' := (h'.pick 7 [1, 2, 3, 4, 5, 6, 0] (by kernel_rfl) (by decide) rfl); exact ⟨(), trivial, rfl, h', trivial⟩)) ?_
      rintro _ -
      refine oQ [oF 2, oF 3, oF 4, oF 5, oF 6] [(19, .bool x110), (18, vI x109), (16, .pointer none), (15, vI x75), (14, vP b93 0), (13, vP b92 0), (1, sl A_l l c_l)] (by kernel_rfl) ?_
      refine ops_nil (fin_then (st_seq (st_seq (st_region [oF 0, oF 1, oF 2, oF 3, oF 4, oF 5, oF 6] (by rfl) ?_))))
      refine oQ [oF 0] [(121, .pointer none), (19, .bool x110), (18, vI x109), (16, .pointer none), (15, vI x75), (14, vP b93 0), (13, vP b92 0), (1, sl A_l l c_l)] (by kernel_rfl) ?_
      cases hp
    ·
     have hp := (un3_at (sel_r hp))
     refine ops_callI (σ := Nat × (Option Addr) × Nat × (Option Addr) × Nat × (List Value) × Nat × (Array MapEntry) × Nat × (Nat → Prop) × World) (d := some 96) (f := 13) (args := #[.agg #[sl A_w_0 w_0 c_w_0, sl A_w_1 w_1 c_w_1, sl A_w_2 w_2 c_w_2]]) (v := (fun x_ => match x_ with | (b112, A113, c114, A115, c116, y117, b118, es119, ck120, F121, W122) => .tuple #[vP b112 0, vI 0])) (I := (fun x_ => match x_ with | (b112, A113, c114, A115, c116, y117, b118, es119, ck120, F121, W122) => (RdS R_api_Kind F121 W122 A113 c114 x97) ∧ (RepL (Rep.int .i64) F121 W122 x98 y117) ∧ (MapOK (fun x_ : Int => Value.int .i64 x_) (Rep.map (fun x_ : Int => Value.int .i64 x_) (Rep.sl (Rep.int .i64)) false) false F121 W122 x99 es119 ck120) ∧ (Ext w0 F86 W87 F121 W122))) (M' := (fun x_ => match x_ with | (b112, A113, c114, A115, c116, y117, b118, es119, ck120, F121, W122) => Mem w0 (.blk b112 [sl A113 x97 c114, sl A115 x98 c116, .map (some b118)] 96 :: ow A115 x98 c116 3 1 y117 :: .obj b118 (.map es119 ck120) :: .blk b93 [vI x73, vI x74] 29 :: .blk b92 [sl A77 x70 c78, sl A80 x71 c81, sl A83 x72 c84] 26 :: ow A77 x70 c78 86 2 y79 :: ow A80 x71 c81 3 1 y82 :: ow A83 x72 c84 61 3 y85 :: .blk b1 [sl A_w_0 w_0 c_w_0, sl A_w_1 w_1 c_w_1, sl A_w_2 w_2 c_w_2] 26 :: Fz F121 W122 :: cs))) ⟨by kernel_rfl⟩ (fun w_ hM hS => (tourref3_Open_ok w0 w_ (.blk b93 [vI x73, vI x74] 29 :: .blk b92 [sl A77 x70 c78, sl A80 x71 c81, sl A83 x72 c84] 26 :: ow A77 x70 c78 86 2 y79 :: ow A80 x71 c81 3 1 y82 :: ow A83 x72 c84 61 3 y85 :: .blk b1 [sl A_w_0 w_0 c_w_0, sl A_w_1 w_1 c_w_1, sl A_w_2 w_2 c_w_2] 26 :: cs) F86 W87 A_w_0 c_w_0 w_0 A_w_1 c_w_1 w_1 A_w_2 c_w_2 w_2 (hM.pick 7 [6, 0, 1, 2, 3, 4, 5] (by kernel_rfl) (by decide) rfl) h_w_0 h_w_1 h_w_2 _ hv94).mono (by intro e w' hq_; obtain ⟨b112, A113, c114, A115, c116, y117, b118, es119, ck120, F121, W122, ⟨h123, h124, h125, h126⟩, rfl, h'⟩ := (pun3_at (psel_r hq_)); have h' : Mem w0 (.blk b112 [sl A113 x97 c114, sl A115 x98 c116, .map (some b118)] 96 :: ow A115 x98 c116 3 1 y117 :: .obj b118 (.map es119 ck120) :: .blk b93 [vI x73, vI x74] 29 :: .blk b92 [sl A77 x70 c78, sl A80 x71 c81, sl A83 x72 c84] 26 :: ow A77 x70 c78 86 2 y79 :: ow A80 x71 c81 3 1 y82 :: ow A83 x72 c84 61 3 y85 :: .blk b1 [sl A_w_0 w_0 c_w_0, sl A_w_1 w_1 c_w_1, sl A_w_2 w_2 c_w_2] 26 :: Fz F121 W122 :: cs) w' := (h'.pick 10 [0, 1, 2, 4, 5, 6, 7, 8, 9, 3] (by kernel_rfl) (by decide) rfl); exact ⟨(b112, A113, c114, A115, c116, y117, b118, es119, ck120, F121, W122), ⟨h123, h124, h125, h126⟩, rfl, h', trivial⟩)) ?_
     rintro ⟨b112, A113, c114, A115, c116, y117, b118, es119, ck120, F121, W122⟩ ⟨h123, h124, h125, h126⟩
     have h_w_0 := h_w_0.ext h126
     have h_w_1 := h_w_1.ext h126
     have h_w_2 := h_w_2.ext h126
     have h_l := h_l.ext h126
     have h88 := h88.ext h126
     have h89 := h89.ext h126
     have h90 := h90.ext h126
     refine oQ [oF 2, oF 3, oF 4, oF 5, oF 6] [(17, vI 0), (16, vP b112 0), (15, vI x75), (14, vP b93 0), (13, vP b92 0), (1, sl A_l l c_l), (2, vP b1 0)] (by kernel_rfl) ?_
     refine ops_nil (fin_then (st_seq (st_seq (st_region [oF 0, oF 1] (by rfl) ?_))))
     refine oQ [oF 0, oF 1] [(100, .bool false), (17, vI 0), (16, vP b112 0), (15, vI x75), (14, vP b93 0), (13, vP b92 0), (1, sl A_l l c_l), (2, vP b1 0)] (by kernel_rfl) ?_
     refine ops_nil (fin_then (st_false rfl (st_skip (fin_then (st_seq (st_region [oF 0, oF 1, oF 2, oF 3, oF 4, oF 5, oF 6] (by rfl) ?_))))))
     refine ops_mem (d := some 116) (an := [.v (sl A_w_0 w_0 c_w_0), .v (sl A_w_1 w_1 c_w_1), .v (sl A_w_2 w_2 c_w_2)]) (evs := [ld b1 0 (sl A_w_0 w_0 c_w_0), ld b1 1 (sl A_w_1 w_1 c_w_1), ld b1 2 (sl A_w_2 w_2 c_w_2)]) (v := .agg #[sl A_w_0 w_0 c_w_0, sl A_w_1 w_1 c_w_1, sl A_w_2 w_2 c_w_2]) ⟨by kernel_rfl⟩ (fun w_ hM hS => ⟨w_, ⟨hM.cell 8 rfl rfl, hM.cell 8 rfl rfl, hM.cell 8 rfl rfl, rfl⟩, hM, trivial⟩) ?_
     obtain ⟨x127, x128, hv129, hp⟩ := obind2 hp
     refine ops_callI (σ := Unit) (d := some 117) (f := 15) (args := #[.agg #[sl A_w_0 w_0 c_w_0, sl A_w_1 w_1 c_w_1, sl A_w_2 w_2 c_w_2]]) (v := (fun _ => .tuple #[vI x127, .bool x128])) (I := (fun _ => True)) (M' := (fun _ => Mem w0 (.blk b112 [sl A113 x97 c114, sl A115 x98 c116, .map (some b118)] 96 :: ow A115 x98 c116 3 1 y117 :: .obj b118 (.map es119 ck120) :: .blk b93 [vI x73, vI x74] 29 :: .blk b92 [sl A77 x70 c78, sl A80 x71 c81, sl A83 x72 c84] 26 :: ow A77 x70 c78 86 2 y79 :: ow A80 x71 c81 3 1 y82 :: ow A83 x72 c84 61 3 y85 :: .blk b1 [sl A_w_0 w_0 c_w_0, sl A_w_1 w_1 c_w_1, sl A_w_2 w_2 c_w_2] 26 :: Fz F121 W122 :: cs))) ⟨by kernel_rfl⟩ (fun w_ hM hS => (world_Free_ok w0 w_ (.blk b112 [sl A113 x97 c114, sl A115 x98 c116, .map (some b118)] 96 :: ow A115 x98 c116 3 1 y117 :: .obj b118 (.map es119 ck120) :: .blk b93 [vI x73, vI x74] 29 :: .blk b92 [sl A77 x70 c78, sl A80 x71 c81, sl A83 x72 c84] 26 :: ow A77 x70 c78 86 2 y79 :: ow A80 x71 c81 3 1 y82 :: ow A83 x72 c84 61 3 y85 :: .blk b1 [sl A_w_0 w_0 c_w_0, sl A_w_1 w_1 c_w_1, sl A_w_2 w_2 c_w_2] 26 :: cs) F121 W122 A_w_0 c_w_0 w_0 A_w_1 c_w_1 w_1 A_w_2 c_w_2 w_2 (hM.pick 10 [9, 0, 1, 2, 3, 4, 5, 6, 7, 8] (by kernel_rfl) (by decide) rfl) h_w_0 h_w_1 h_w_2 x127 x128 hv129).mono (by rintro e w' ⟨-, rfl, h'⟩; have h' : Mem w0 (.blk b112 [sl A113 x97 c114, sl A115 x98 c116, .map (some b118)] 96 :: ow A115 x98 c116 3 1 y117 :: .obj b118 (.map es119 ck120) :: .blk b93 [vI x73, vI x74] 29 :: .blk b92 [sl A77 x70 c78, sl A80 x71 c81, sl A83 x72 c84] 26 :: ow A77 x70 c78 86 2 y79 :: ow A80 x71 c81 3 1 y82 :: ow A83 x72 c84 61 3 y85 :: .blk b1 [sl A_w_0 w_0 c_w_0, sl A_w_1 w_1 c_w_1, sl A_w_2 w_2 c_w_2] 26 :: Fz F121 W122 :: cs) w' := (h'.pick 10 [1, 2, 3, 4, 5, 6, 7, 8, 9, 0] (by kernel_rfl) (by decide) rfl); exact ⟨(), trivial, rfl, h', trivial⟩)) ?_
     rintro _ -
     refine oQ [oF 2, oF 3, oF 4, oF 5, oF 6] [(19, .bool x128), (18, vI x127), (16, vP b112 0), (15, vI x75), (14, vP b93 0), (13, vP b92 0), (1, sl A_l l c_l)] (by kernel_rfl) ?_
     refine ops_nil (fin_then (st_seq (st_seq (st_region [oF 0, oF 1, oF 2, oF 3, oF 4, oF 5, oF 6] (by rfl) ?_))))
     refine oQ [oF 0] [(121, vP b112 0), (19, .bool x128), (18, vI x127), (16, vP b112 0), (15, vI x75), (14, vP b93 0), (13, vP b92 0), (1, sl A_l l c_l)] (by kernel_rfl) ?_
     obtain ⟨x130, x131, hv132, hp⟩ := obind2 hp
     refine ops_callI (σ := (List Value) × (Array MapEntry) × Nat) (d := some 122) (f := 16) (args := #[vP b112 0]) (v := (fun x_ => match x_ with | (y133, es134, ck135) => .tuple #[vI x130, .bool x131])) (I := (fun x_ => match x_ with | (y133, es134, ck135) => (RdS R_api_Kind F121 W122 A113 c114 x97) ∧ (RepL (Rep.int .i64) F121 W122 x98 y133) ∧ (MapOK (fun x_ : Int => Value.int .i64 x_) (Rep.map (fun x_ : Int => Value.int .i64 x_) (Rep.sl (Rep.int .i64)) false) false F121 W122 x99 es134 ck135))) (M' := (fun x_ => match x_ with | (y133, es134, ck135) => Mem w0 (.blk b112 [sl A113 x97 c114, sl A115 x98 c116, .map (some b118)] 96 :: ow A115 x98 c116 3 1 y133 :: .obj b118 (.map es134 ck135) :: .blk b93 [vI x73, vI x74] 29 :: .blk b92 [sl A77 x70 c78, sl A80 x71 c81, sl A83 x72 c84] 26 :: ow A77 x70 c78 86 2 y79 :: ow A80 x71 c81 3 1 y82 :: ow A83 x72 c84 61 3 y85 :: .blk b1 [sl A_w_0 w_0 c_w_0, sl A_w_1 w_1 c_w_1, sl A_w_2 w_2 c_w_2] 26 :: Fz F121 W122 :: cs))) ⟨by kernel_rfl⟩ (fun w_ hM hS => (tourref3_Flat_Room_ok w0 w_ (.blk b93 [vI x73, vI x74] 29 :: .blk b92 [sl A77 x70 c78, sl A80 x71 c81, sl A83 x72 c84] 26 :: ow A77 x70 c78 86 2 y79 :: ow A80 x71 c81 3 1 y82 :: ow A83 x72 c84 61 3 y85 :: .blk b1 [sl A_w_0 w_0 c_w_0, sl A_w_1 w_1 c_w_1, sl A_w_2 w_2 c_w_2] 26 :: cs) F121 W122 b112 A113 c114 x97 A115 c116 x98 y117 b118 es119 ck120 x99 (hM.pick 10 [0, 1, 2, 9, 3, 4, 5, 6, 7, 8] (by kernel_rfl) (by decide) rfl) h123 h124 h125 x130 x131 hv132).mono (by rintro e w' ⟨y133, es134, ck135, ⟨h136, h137, h138⟩, rfl, h'⟩; have h' : Mem w0 (.blk b112 [sl A113 x97 c114, sl A115 x98 c116, .map (some b118)] 96 :: ow A115 x98 c116 3 1 y133 :: .obj b118 (.map es134 ck135) :: .blk b93 [vI x73, vI x74] 29 :: .blk b92 [sl A77 x70 c78, sl A80 x71 c81, sl A83 x72 c84] 26 :: ow A77 x70 c78 86 2 y79 :: ow A80 x71 c81 3 1 y82 :: ow A83 x72 c84 61 3 y85 :: .blk b1 [sl A_w_0 w_0 c_w_0, sl A_w_1 w_1 c_w_1, sl A_w_2 w_2 c_w_2] 26 :: Fz F121 W122 :: cs) w' := (h'.pick 10 [0, 1, 2, 4, 5, 6, 7, 8, 9, 3] (by kernel_rfl) (by decide) rfl); exact ⟨(y133, es134, ck135), ⟨h136, h137, h138⟩, rfl, h', trivial⟩)) ?_
     rintro ⟨y133, es134, ck135⟩ ⟨h136, h137, h138⟩
     refine oQ [oF 2, oF 3, oF 4, oF 5, oF 6] [(21, .bool x131), (20, vI x130), (19, .bool x128), (18, vI x127), (16, vP b112 0), (15, vI x75), (14, vP b93 0), (13, vP b92 0), (1, sl A_l l c_l)] (by kernel_rfl) ?_
     refine ops_nil (fin_then (st_seq (st_region [oF 0, oF 1, oF 2, oF 3, oF 4, oF 5, oF 6, oF 7] (by rfl) ?_)))
     refine oQ [oF 0, oF 1, oF 2, oF 3] [(128, .bool (!(x127 == x130))), (21, .bool x131), (19, .bool x128), (16, vP b112 0), (15, vI x75), (14, vP b93 0), (13, vP b92 0), (1, sl A_l l c_l)] (by kernel_rfl) ?_
     refine ops_bool (t := !(x127 == x130)) (l1 := [(128, .bool true), (21, .bool x131), (19, .bool x128), (16, vP b112 0), (15, vI x75), (14, vP b93 0), (13, vP b92 0), (1, sl A_l l c_l)]) (l2 := [(128, .bool false), (21, .bool x131), (19, .bool x128), (16, vP b112 0), (15, vI x75), (14, vP b93 0), (13, vP b92 0), (1, sl A_l l c_l)]) (fun h => by rw [h]) (fun h => by rw [h]) (fun hc139 => ?_) (fun hc139 => ?_)
     ·
      have hp := cnd_t hc139 hp
      refine oQ [oF 4, oF 5, oF 6, oF 7] [(132, .bool true), (16, vP b112 0), (15, vI x75), (14, vP b93 0), (13, vP b92 0), (1, sl A_l l c_l)] (by kernel_rfl) ?_
      refine ops_nil (fin_then (st_true rfl (st_seq (st_region [oF 0] (by rfl) ?_))))
      refine oQ [oF 0] [(4, .bool false)] (by kernel_rfl) ?_
      refine ops_nil (fin_then (st_ret (fin_ret_then ?_)))
      have hq_ := Option.some.inj hp
      have hr0_ := hq_
      subst hr0_
      refine fin_ret [.tmp 4] [.bool false] rfl rfl (fun w_ hM => (.tmp rfl .nil)) (fun w_ hM => ?_)
      exact ⟨F121, W122, ((((((((h17.trans hx20).trans hx24).trans hx28).trans h51).trans h65).trans hx1).trans h91).trans h126), rfl, hM.pick 10 [9] (by kernel_rfl) (by decide) rfl⟩
     ·
      have hp := cnd_f hc139 hp
      refine oQ [oF 4, oF 5, oF 6, oF 7] [(132, .bool (!(x128 == x131))), (16, vP b112 0), (15, vI x75), (14, vP b93 0), (13, vP b92 0), (1, sl A_l l c_l)] (by kernel_rfl) ?_
      refine ops_nil (fin_then ?_)
      refine st_if (b := !(x128 == x131)) rfl (fun hc140 => ?_) (fun hc140 => ?_)
      ·
       have hp := cnd_t hc140 hp
       refine st_seq (st_region [oF 0] (by rfl) ?_)
       refine oQ [oF 0] [(4, .bool false)] (by kernel_rfl) ?_
       refine ops_nil (fin_then (st_ret (fin_ret_then ?_)))
       have hq_ := Option.some.inj hp
       have hr0_ := hq_
       subst hr0_
       refine fin_ret [.tmp 4] [.bool false] rfl rfl (fun w_ hM => (.tmp rfl .nil)) (fun w_ hM => ?_)
       exact ⟨F121, W122, ((((((((h17.trans hx20).trans hx24).trans hx28).trans h51).trans h65).trans hx1).trans h91).trans h126), rfl, hM.pick 10 [9] (by kernel_rfl) (by decide) rfl⟩
      ·
       have hp := cnd_f hc140 hp
       refine st_skip (fin_then (st_seq (st_region [oF 0, oF 1, oF 2, oF 3, oF 4, oF 5, oF 6, oF 7, oF 8] (by rfl) ?_)))
       refine oQ [oF 0, oF 1] [(135, sl A_l l c_l), (134, vP b112 0), (16, vP b112 0), (15, vI x75), (14, vP b93 0), (13, vP b92 0)] (by kernel_rfl) ?_
       obtain ⟨x141, x142, x143, x144, x145, hv146, hp⟩ := obind5 hp
       refine ops_callI (σ := (Option Addr) × Nat × (List Value) × (Array MapEntry) × Nat × (Nat → Prop) × World) (d := some 136) (f := 17) (args := #[vP b112 0, sl A_l l c_l]) (v := (fun x_ => match x_ with | (A147, c148, y149, es150, ck151, F152, W153) => .tuple #[.agg #[vI x141, vI x142], vI x143])) (I := (fun x_ => match x_ with | (A147, c148, y149, es150, ck151, F152, W153) => (RdS R_api_Kind F152 W153 A113 c114 x97) ∧ (RepL (Rep.int .i64) F152 W153 x144 y149) ∧ (MapOK (fun x_ : Int => Value.int .i64 x_) (Rep.map (fun x_ : Int => Value.int .i64 x_) (Rep.sl (Rep.int .i64)) false) false F152 W153 x145 es150 ck151) ∧ (Ext w0 F121 W122 F152 W153))) (M' := (fun x_ => match x_ with | (A147, c148, y149, es150, ck151, F152, W153) => Mem w0 (ow A147 x144 c148 3 1 y149 :: .blk b112 [sl A113 x97 c114, sl A147 x144 c148, .map (some b118)] 96 :: .obj b118 (.map es150 ck151) :: .blk b93 [vI x73, vI x74] 29 :: .blk b92 [sl A77 x70 c78, sl A80 x71 c81, sl A83 x72 c84] 26 :: ow A77 x70 c78 86 2 y79 :: ow A80 x71 c81 3 1 y82 :: ow A83 x72 c84 61 3 y85 :: .blk b1 [sl A_w_0 w_0 c_w_0, sl A_w_1 w_1 c_w_1, sl A_w_2 w_2 c_w_2] 26 :: Fz F152 W153 :: cs))) ⟨by kernel_rfl⟩ (fun w_ hM hS => (tourref3_Flat_Spawn_ok w0 w_ (.blk b93 [vI x73, vI x74] 29 :: .blk b92 [sl A77 x70 c78, sl A80 x71 c81, sl A83 x72 c84] 26 :: ow A77 x70 c78 86 2 y79 :: ow A80 x71 c81 3 1 y82 :: ow A83 x72 c84 61 3 y85 :: .blk b1 [sl A_w_0 w_0 c_w_0, sl A_w_1 w_1 c_w_1, sl A_w_2 w_2 c_w_2] 26 :: cs) F121 W122 b112 A113 c114 x97 A115 c116 x98 y133 b118 es134 ck135 x99 A_l c_l l (hM.pick 10 [0, 1, 2, 9, 3, 4, 5, 6, 7, 8] (by kernel_rfl) (by decide) rfl) h136 h137 h138 h_l x141 x142 x143 x144 x145 hv146).mono (by rintro e w' ⟨A147, c148, y149, es150, ck151, F152, W153, ⟨h154, h155, h156, h157⟩, rfl, h'⟩; have h' : Mem w0 (ow A147 x144 c148 3 1 y149 :: .blk b112 [sl A113 x97 c114, sl A147 x144 c148, .map (some b118)] 96 :: .obj b118 (.map es150 ck151) :: .blk b93 [vI x73, vI x74] 29 :: .blk b92 [sl A77 x70 c78, sl A80 x71 c81, sl A83 x72 c84] 26 :: ow A77 x70 c78 86 2 y79 :: ow A80 x71 c81 3 1 y82 :: ow A83 x72 c84 61 3 y85 :: .blk b1 [sl A_w_0 w_0 c_w_0, sl A_w_1 w_1 c_w_1, sl A_w_2 w_2 c_w_2] 26 :: Fz F152 W153 :: cs) w' := (h'.pick 10 [1, 0, 2, 4, 5, 6, 7, 8, 9, 3] (by kernel_rfl) (by decide) rfl); exact ⟨(A147, c148, y149, es150, ck151, F152, W153), ⟨h154, h155, h156, h157⟩, rfl, h', trivial⟩)) ?_
       rintro ⟨A147, c148, y149, es150, ck151, F152, W153⟩ ⟨h154, h155, h156, h157⟩
       have h_l := h_l.ext h157
       have h88 := h88.ext h157
       have h89 := h89.ext h157
       have h90 := h90.ext h157
       have h_w_0 := h_w_0.ext h157
       have h_w_1 := h_w_1.ext h157
       have h_w_2 := h_w_2.ext h157
       refine oQ [oF 3, oF 4, oF 5] [(138, vI x143), (137, .agg #[vI x141, vI x142]), (16, vP b112 0), (15, vI x75), (14, vP b93 0), (13, vP b92 0)] (by kernel_rfl) ?_
       refine ops_newB (d := some 22) [vI 0, vI 0] 29 (fun b158 => ⟨by kernel_rfl⟩) (fun w_ hM hS => trivial) (fun b158 => ?_)
       refine ops_store (an := []) (evs := [sr b158 0 (vI x141), sr b158 1 (vI x142)]) ⟨by kernel_rfl⟩ (fun w_ hM hS => let ⟨w', he, h'⟩ := hM.evs_stores [vI x141, vI x142] 0 rfl 0 (Nat.le_of_ble_eq_true rfl); ⟨w', he, h', trivial⟩) ?_
       refine oQ [oF 8] [(23, vI x143), (22, vP b158 0), (16, vP b112 0), (15, vI x75), (14, vP b93 0), (13, vP b92 0)] (by kernel_rfl) ?_
       refine ops_nil (fin_then ?_)
       refine st_join1 (σ := Bool × (Nat → Prop) × World) (L := fun x_ => match x_ with | (t159, F160, W161) => [(4, .bool t159)]) (N := fun x_ => match x_ with | (t159, F160, W161) => Mem w0 (Fz F160 W161 :: cs)) (I := fun x_ => match x_ with | (t159, F160, W161) => (tourlaw3_WorldSpawns_j3 t159 = some t9001) ∧ (Ext w0 F152 W153 F160 W161)) ?_ ?_
       ·
        rintro ⟨t159, F160, W161⟩ ⟨hp, hx3⟩
        unfold tourlaw3_WorldSpawns_j3 at hp
        refine st_ret ?_
        have hq_ := Option.some.inj hp
        have hr0_ := hq_
        subst hr0_
        refine fin_ret [.tmp 4] [.bool t159] rfl rfl (fun w_ hM => (.tmp rfl .nil)) (fun w_ hM => ?_)
        exact ⟨F160, W161, ((((((((((h17.trans hx20).trans hx24).trans hx28).trans h51).trans h65).trans hx1).trans h91).trans h126).trans h157).trans hx3), rfl, hM⟩
       ·
        intro HJ3
        refine st_seq (st_region [oF 0, oF 1, oF 2, oF 3, oF 4, oF 5, oF 6, oF 7, oF 8, oF 9, oF 10, oF 11, oF 12, oF 13, oF 14] (by rfl) ?_)
        refine oQ [oF 0, oF 1, oF 2, oF 3] [(142, .bool (x75 == x143)), (23, vI x143), (22, vP b158 0), (16, vP b112 0), (14, vP b93 0), (13, vP b92 0)] (by kernel_rfl) ?_
        refine ops_bool (t := (x75 == x143)) (l1 := [(142, .bool true), (23, vI x143), (22, vP b158 0), (16, vP b112 0), (14, vP b93 0), (13, vP b92 0)]) (l2 := [(142, .bool false), (23, vI x143), (22, vP b158 0), (16, vP b112 0), (14, vP b93 0), (13, vP b92 0)]) (fun h => by rw [h]) (fun h => by rw [h]) (fun hc162 => ?_) (fun hc162 => ?_)
        ·
         have hp := cnd_t hc162 hp
         refine ops_mem (d := some 143) (an := [.v (vI x73), .v (vI x74)]) (evs := [ld b93 0 (vI x73), ld b93 1 (vI x74)]) (v := .agg #[vI x73, vI x74]) ⟨by kernel_rfl⟩ (fun w_ hM hS => ⟨w_, ⟨hM.cell 4 rfl rfl, hM.cell 4 rfl rfl, rfl⟩, hM, trivial⟩) ?_
         refine ops_mem (d := some 144) (an := [.v (vI x141), .v (vI x142)]) (evs := [ld b158 0 (vI x141), ld b158 1 (vI x142)]) (v := .agg #[vI x141, vI x142]) ⟨by kernel_rfl⟩ (fun w_ hM hS => ⟨w_, ⟨hM.cell 0 rfl rfl, hM.cell 0 rfl rfl, rfl⟩, hM, trivial⟩) ?_
         refine ops_val (op := (.binOp Go.BinOp.eql 29 (.tmp 143) (.tmp 144) 29)) (d := some 145) (v := .bool (x73 == x141 && (x74 == x142))) ⟨by kernel_rfl⟩ (run_eql_agg (r := x73 == x141 && (x74 == x142)) rfl rfl (by kernel_rfl) (fun w => eqA29 9998 w x73 x141 x74 x142)) ?_
         refine oQ [oF 7, oF 8] [(147, .bool (x73 == x141 && (x74 == x142))), (23, vI x143), (16, vP b112 0), (13, vP b92 0)] (by kernel_rfl) ?_
         refine ops_bool (t := x73 == x141 && (x74 == x142)) (l1 := [(147, .bool true), (23, vI x143), (16, vP b112 0), (13, vP b92 0)]) (l2 := [(147, .bool false), (23, vI x143), (16, vP b112 0), (13, vP b92 0)]) (fun h => by rw [h]) (fun h => by rw [h]) (fun hc163 => ?_) (fun hc163 => ?_)
         ·
          have hp := cnd_t hc163 hp
          refine ops_mem (d := some 148) (an := [.v (sl A77 x70 c78), .v (sl A80 x71 c81), .v (sl A83 x72 c84)]) (evs := [ld b92 0 (sl A77 x70 c78), ld b92 1 (sl A80 x71 c81), ld b92 2 (sl A83 x72 c84)]) (v := .agg #[sl A77 x70 c78, sl A80 x71 c81, sl A83 x72 c84]) ⟨by kernel_rfl⟩ (fun w_ hM hS => ⟨w_, ⟨hM.cell 5 rfl rfl, hM.cell 5 rfl rfl, hM.cell 5 rfl rfl, rfl⟩, hM, trivial⟩) ?_
          refine oQ [oF 10, oF 11] [(150, vI x143), (149, vP b112 0), (148, .agg #[sl A77 x70 c78, sl A80 x71 c81, sl A83 x72 c84]), (147, .bool true)] (by kernel_rfl) ?_
          refine ops_ex (σ := (Nat → Prop) × World) (I := fun x_ => Ext w0 F152 W153 x_.1 x_.2 ∧ RdS R_api_Kind x_.1 x_.2 A77 c78 x70) (M' := fun x_ => Mem w0 (.blk b158 [vI x141, vI x142] 29 :: ow A147 x144 c148 3 1 y149 :: .blk b112 [sl A113 x97 c114, sl A147 x144 c148, .map (some b118)] 96 :: .obj b118 (.map es150 ck151) :: .blk b93 [vI x73, vI x74] 29 :: .blk b92 [sl A77 x70 c78, sl A80 x71 c81, sl A83 x72 c84] 26 :: ow A80 x71 c81 3 1 y82 :: ow A83 x72 c84 61 3 y85 :: .blk b1 [sl A_w_0 w_0 c_w_0, sl A_w_1 w_1 c_w_1, sl A_w_2 w_2 c_w_2] 26 :: Fz x_.1 x_.2 :: cs)) (fun w_ hM => ?_) ?_
          · obtain ⟨F_, h1_, h2_, h3_⟩ := (hM.pick 11 [6, 10, 0, 1, 2, 3, 4, 5, 7, 8, 9] (by kernel_rfl) (by decide) rfl : Mem w0 (ow A77 x70 c78 86 2 y79 :: Fz F152 W153 :: .blk b158 [vI x141, vI x142] 29 :: ow A147 x144 c148 3 1 y149 :: .blk b112 [sl A113 x97 c114, sl A147 x144 c148, .map (some b118)] 96 :: .obj b118 (.map es150 ck151) :: .blk b93 [vI x73, vI x74] 29 :: .blk b92 [sl A77 x70 c78, sl A80 x71 c81, sl A83 x72 c84] 26 :: ow A80 x71 c81 3 1 y82 :: ow A83 x72 c84 61 3 y85 :: .blk b1 [sl A_w_0 w_0 c_w_0, sl A_w_1 w_1 c_w_1, sl A_w_2 w_2 c_w_2] 26 :: cs) w_).freeze (z := 2) h88 rfl rfl
            exact ⟨(F_, w_), ⟨h1_, h2_⟩, h3_.pick 10 [1, 2, 3, 4, 5, 6, 7, 8, 9, 0] (by kernel_rfl) (by decide) rfl⟩
          rintro ⟨F164, W165⟩ ⟨hx166, h167⟩
          have hx166 : Ext w0 F152 W153 F164 W165 := hx166
          have h167 : RdS R_api_Kind F164 W165 A77 c78 x70 := h167
          have h155 := h155.ext hx166
          have h154 := h154.ext hx166
          have h156 := h156.ext hx166
          have h89 := h89.ext hx166
          have h90 := h90.ext hx166
          have h_w_0 := h_w_0.ext hx166
          have h_w_1 := h_w_1.ext hx166
          have h_w_2 := h_w_2.ext hx166
          refine ops_ex (σ := (Nat → Prop) × World) (I := fun x_ => Ext w0 F164 W165 x_.1 x_.2 ∧ RdS (Rep.int .i64) x_.1 x_.2 A80 c81 x71) (M' := fun x_ => Mem w0 (.blk b158 [vI x141, vI x142] 29 :: ow A147 x144 c148 3 1 y149 :: .blk b112 [sl A113 x97 c114, sl A147 x144 c148, .map (some b118)] 96 :: .obj b118 (.map es150 ck151) :: .blk b93 [vI x73, vI x74] 29 :: .blk b92 [sl A77 x70 c78, sl A80 x71 c81, sl A83 x72 c84] 26 :: ow A83 x72 c84 61 3 y85 :: .blk b1 [sl A_w_0 w_0 c_w_0, sl A_w_1 w_1 c_w_1, sl A_w_2 w_2 c_w_2] 26 :: Fz x_.1 x_.2 :: cs)) (fun w_ hM => ?_) ?_
          · obtain ⟨F_, h1_, h2_, h3_⟩ := (hM.pick 10 [6, 9, 0, 1, 2, 3, 4, 5, 7, 8] (by kernel_rfl) (by decide) rfl : Mem w0 (ow A80 x71 c81 3 1 y82 :: Fz F164 W165 :: .blk b158 [vI x141, vI x142] 29 :: ow A147 x144 c148 3 1 y149 :: .blk b112 [sl A113 x97 c114, sl A147 x144 c148, .map (some b118)] 96 :: .obj b118 (.map es150 ck151) :: .blk b93 [vI x73, vI x74] 29 :: .blk b92 [sl A77 x70 c78, sl A80 x71 c81, sl A83 x72 c84] 26 :: ow A83 x72 c84 61 3 y85 :: .blk b1 [sl A_w_0 w_0 c_w_0, sl A_w_1 w_1 c_w_1, sl A_w_2 w_2 c_w_2] 26 :: cs) w_).freeze (z := 1) h89 rfl rfl
            exact ⟨(F_, w_), ⟨h1_, h2_⟩, h3_.pick 9 [1, 2, 3, 4, 5, 6, 7, 8, 0] (by kernel_rfl) (by decide) rfl⟩
          rintro ⟨F168, W169⟩ ⟨hx170, h171⟩
          have hx170 : Ext w0 F164 W165 F168 W169 := hx170
          have h171 : RdS (Rep.int .i64) F168 W169 A80 c81 x71 := h171
          have h167 := h167.ext hx170
          have h155 := h155.ext hx170
          have h154 := h154.ext hx170
          have h156 := h156.ext hx170
          have h90 := h90.ext hx170
          have h_w_0 := h_w_0.ext hx170
          have h_w_1 := h_w_1.ext hx170
          have h_w_2 := h_w_2.ext hx170
          refine ops_ex (σ := (Nat → Prop) × World) (I := fun x_ => Ext w0 F168 W169 x_.1 x_.2 ∧ RdS R_api_Item x_.1 x_.2 A83 c84 x72) (M' := fun x_ => Mem w0 (.blk b158 [vI x141, vI x142] 29 :: ow A147 x144 c148 3 1 y149 :: .blk b112 [sl A113 x97 c114, sl A147 x144 c148, .map (some b118)] 96 :: .obj b118 (.map es150 ck151) :: .blk b93 [vI x73, vI x74] 29 :: .blk b92 [sl A77 x70 c78, sl A80 x71 c81, sl A83 x72 c84] 26 :: .blk b1 [sl A_w_0 w_0 c_w_0, sl A_w_1 w_1 c_w_1, sl A_w_2 w_2 c_w_2] 26 :: Fz x_.1 x_.2 :: cs)) (fun w_ hM => ?_) ?_
          · obtain ⟨F_, h1_, h2_, h3_⟩ := (hM.pick 9 [6, 8, 0, 1, 2, 3, 4, 5, 7] (by kernel_rfl) (by decide) rfl : Mem w0 (ow A83 x72 c84 61 3 y85 :: Fz F168 W169 :: .blk b158 [vI x141, vI x142] 29 :: ow A147 x144 c148 3 1 y149 :: .blk b112 [sl A113 x97 c114, sl A147 x144 c148, .map (some b118)] 96 :: .obj b118 (.map es150 ck151) :: .blk b93 [vI x73, vI x74] 29 :: .blk b92 [sl A77 x70 c78, sl A80 x71 c81, sl A83 x72 c84] 26 :: .blk b1 [sl A_w_0 w_0 c_w_0, sl A_w_1 w_1 c_w_1, sl A_w_2 w_2 c_w_2] 26 :: cs) w_).freeze (z := 3) h90 rfl rfl
            exact ⟨(F_, w_), ⟨h1_, h2_⟩, h3_.pick 8 [1, 2, 3, 4, 5, 6, 7, 0] (by kernel_rfl) (by decide) rfl⟩
          rintro ⟨F172, W173⟩ ⟨hx174, h175⟩
          have hx174 : Ext w0 F168 W169 F172 W173 := hx174
          have h175 : RdS R_api_Item F172 W173 A83 c84 x72 := h175
          have h167 := h167.ext hx174
          have h171 := h171.ext hx174
          have h155 := h155.ext hx174
          have h154 := h154.ext hx174
          have h156 := h156.ext hx174
          have h_w_0 := h_w_0.ext hx174
          have h_w_1 := h_w_1.ext hx174
          have h_w_2 := h_w_2.ext hx174
          obtain ⟨x176, hv177, hp⟩ := obind hp
          refine ops_callI (σ := (List Value) × (Array MapEntry) × Nat × (Nat → Prop) × World) (d := some 151) (f := 14) (args := #[.agg #[sl A77 x70 c78, sl A80 x71 c81, sl A83 x72 c84], vP b112 0, vI x143]) (v := (fun x_ => match x_ with | (y178, es179, ck180, F181, W182) => .bool x176)) (I := (fun x_ => match x_ with | (y178, es179, ck180, F181, W182) => (RdS R_api_Kind F181 W182 A113 c114 x97) ∧ (RepL (Rep.int .i64) F181 W182 x144 y178) ∧ (MapOK (fun x_ : Int => Value.int .i64 x_) (Rep.map (fun x_ : Int => Value.int .i64 x_) (Rep.sl (Rep.int .i64)) false) false F181 W182 x145 es179 ck180) ∧ (Ext w0 F172 W173 F181 W182))) (M' := (fun x_ => match x_ with | (y178, es179, ck180, F181, W182) => Mem w0 (.blk b158 [vI x141, vI x142] 29 :: ow A147 x144 c148 3 1 y178 :: .blk b112 [sl A113 x97 c114, sl A147 x144 c148, .map (some b118)] 96 :: .obj b118 (.map es179 ck180) :: .blk b93 [vI x73, vI x74] 29 :: .blk b92 [sl A77 x70 c78, sl A80 x71 c81, sl A83 x72 c84] 26 :: .blk b1 [sl A_w_0 w_0 c_w_0, sl A_w_1 w_1 c_w_1, sl A_w_2 w_2 c_w_2] 26 :: Fz F181 W182 :: cs))) ⟨by kernel_rfl⟩ (fun w_ hM hS => (tourlaw3_same_v2_ok w0 w_ (.blk b158 [vI x141, vI x142] 29 :: .blk b93 [vI x73, vI x74] 29 :: .blk b92 [sl A77 x70 c78, sl A80 x71 c81, sl A83 x72 c84] 26 :: .blk b1 [sl A_w_0 w_0 c_w_0, sl A_w_1 w_1 c_w_1, sl A_w_2 w_2 c_w_2] 26 :: cs) F172 W173 A77 c78 x70 A80 c81 x71 A83 c84 x72 b112 A113 c114 x97 A147 c148 x144 y149 b118 es150 ck151 x145 x143 (hM.pick 8 [2, 1, 3, 7, 0, 4, 5, 6] (by kernel_rfl) (by decide) rfl) h167 h171 h175 h154 h155 h156 x176 hv177).mono (by rintro e w' ⟨y178, es179, ck180, F181, W182, ⟨h183, h184, h185, h186⟩, rfl, h'⟩; have h' : Mem w0 (.blk b158 [vI x141, vI x142] 29 :: ow A147 x144 c148 3 1 y178 :: .blk b112 [sl A113 x97 c114, sl A147 x144 c148, .map (some b118)] 96 :: .obj b118 (.map es179 ck180) :: .blk b93 [vI x73, vI x74] 29 :: .blk b92 [sl A77 x70 c78, sl A80 x71 c81, sl A83 x72 c84] 26 :: .blk b1 [sl A_w_0 w_0 c_w_0, sl A_w_1 w_1 c_w_1, sl A_w_2 w_2 c_w_2] 26 :: Fz F181 W182 :: cs) w' := (h'.pick 8 [4, 1, 0, 2, 5, 6, 7, 3] (by kernel_rfl) (by decide) rfl); exact ⟨(y178, es179, ck180, F181, W182), ⟨h183, h184, h185, h186⟩, rfl, h', trivial⟩)) ?_
          rintro ⟨y178, es179, ck180, F181, W182⟩ ⟨h183, h184, h185, h186⟩
          have h167 := h167.ext h186
          have h171 := h171.ext h186
          have h175 := h175.ext h186
          have h_w_0 := h_w_0.ext h186
          have h_w_1 := h_w_1.ext h186
          have h_w_2 := h_w_2.ext h186
          refine oQ [oF 13, oF 14] [(4, .bool x176)] (by kernel_rfl) ?_
          refine ops_nil ?_
          exact fin_join HJ3 (x176, F181, W182) ⟨hp, (((hx166.trans hx170).trans hx174).trans h186)⟩ (look_has ⟨rfl, trivial⟩) (fun w_ hM => hM.pick 8 [7] (by kernel_rfl) (by decide) rfl)
         ·
          have hp := cnd_f hc163 hp
          refine oQ [oF 9, oF 10, oF 11, oF 12, oF 13, oF 14] [(4, .bool false)] (by kernel_rfl) ?_
          refine ops_nil ?_
          exact fin_join HJ3 (false, F152, W153) ⟨hp, (Ext.refl _ _ _)⟩ (look_has ⟨rfl, trivial⟩) (fun w_ hM => hM.pick 11 [10] (by kernel_rfl) (by decide) rfl)
        ·
         have hp := cnd_f hc162 hp
         refine oQ [oF 4, oF 5, oF 6, oF 7, oF 8, oF 9, oF 10, oF 11, oF 12, oF 13, oF 14] [(4, .bool false)] (by kernel_rfl) ?_
         refine ops_nil ?_
         exact fin_join HJ3 (false, F152, W153) ⟨hp, (Ext.refl _ _ _)⟩ (look_has ⟨rfl, trivial⟩) (fun w_ hM => hM.pick 11 [10] (by kernel_rfl) (by decide) rfl)
   ·
    intro HJ1
    refine st_seq (st_seq (st_region [oF 0, oF 1] (by rfl) ?_))
    refine oQ [oF 0, oF 1] [(48, .bool (x66 == 0)), (10, vI x66), (9, vI x57), (8, sl A59 x56 c60), (2, vP b1 0), (1, sl A_l l c_l)] (by kernel_rfl) ?_
    refine ops_nil (fin_then ?_)
    refine st_if (b := (x66 == 0)) rfl (fun hc187 => ?_) (fun hc187 => ?_)
    ·
     have hp := cnd_t hc187 hp
     refine st_seq (st_region [oF 0, oF 1, oF 2, oF 3, oF 4, oF 5, oF 6, oF 7, oF 8] (by rfl) ?_)
     refine oQ [oF 0] [(50, vP b1 0), (9, vI x57), (8, sl A59 x56 c60), (2, vP b1 0), (1, sl A_l l c_l)] (by kernel_rfl) ?_
     refine ops_mem (d := some 51) (an := [.v (sl A_w_0 w_0 c_w_0)]) (evs := [ld b1 0 (sl A_w_0 w_0 c_w_0)]) (v := sl A_w_0 w_0 c_w_0) ⟨by kernel_rfl⟩ (fun w_ hM hS => ⟨w_, ⟨hM.cell 6 rfl rfl, rfl⟩, hM, trivial⟩) ?_
     refine oQ [oF 2] [(52, sl A_l l c_l), (51, sl A_w_0 w_0 c_w_0), (9, vI x57), (8, sl A59 x56 c60), (2, vP b1 0), (1, sl A_l l c_l)] (by kernel_rfl) ?_
     obtain ⟨x188, x189, hv190, hp⟩ := obind2 hp
     refine ops_callI (σ := (Option Nat) × (Nat → Prop) × World) (d := some 53) (f := 9) (args := #[sl A_w_0 w_0 c_w_0, sl A_l l c_l]) (v := (fun x_ => match x_ with | (B191, F192, W193) => .tuple #[.map B191, vI x189])) (I := (fun x_ => match x_ with | (B191, F192, W193) => (RdM (fun x_ : Int => Value.int .i64 x_) (Rep.sl (Rep.int .i64)) false F192 W193 B191 x188) ∧ (Ext w0 F62 W63 F192 W193))) (M' := (fun x_ => match x_ with | (B191, F192, W193) => Mem w0 (ow A59 x56 c60 42 2 y61 :: .blk b53 [vI x33, vI x34] 29 :: .blk b52 [sl A37 x30 c38, sl A40 x31 c41, sl A43 x32 c44] 26 :: ow A37 x30 c38 86 2 y39 :: ow A40 x31 c41 3 1 y42 :: ow A43 x32 c44 61 3 y45 :: .blk b1 [sl A_w_0 w_0 c_w_0, sl A_w_1 w_1 c_w_1, sl A_w_2 w_2 c_w_2] 26 :: Fz F192 W193 :: cs))) ⟨by kernel_rfl⟩ (fun w_ hM hS => (tourref3_FittedAll_ok w0 w_ (ow A59 x56 c60 42 2 y61 :: .blk b53 [vI x33, vI x34] 29 :: .blk b52 [sl A37 x30 c38, sl A40 x31 c41, sl A43 x32 c44] 26 :: ow A37 x30 c38 86 2 y39 :: ow A40 x31 c41 3 1 y42 :: ow A43 x32 c44 61 3 y45 :: .blk b1 [sl A_w_0 w_0 c_w_0, sl A_w_1 w_1 c_w_1, sl A_w_2 w_2 c_w_2] 26 :: cs) F62 W63 A_w_0 c_w_0 w_0 A_l c_l l (hM.pick 8 [7, 0, 1, 2, 3, 4, 5, 6] (by kernel_rfl) (by decide) rfl) h_w_0 h_l x188 x189 hv190).mono (by rintro e w' ⟨B191, F192, W193, ⟨h194, h195⟩, rfl, h'⟩; have h' : Mem w0 (ow A59 x56 c60 42 2 y61 :: .blk b53 [vI x33, vI x34] 29 :: .blk b52 [sl A37 x30 c38, sl A40 x31 c41, sl A43 x32 c44] 26 :: ow A37 x30 c38 86 2 y39 :: ow A40 x31 c41 3 1 y42 :: ow A43 x32 c44 61 3 y45 :: .blk b1 [sl A_w_0 w_0 c_w_0, sl A_w_1 w_1 c_w_1, sl A_w_2 w_2 c_w_2] 26 :: Fz F192 W193 :: cs) w' := (h'.pick 8 [1, 2, 3, 4, 5, 6, 7, 0] (by kernel_rfl) (by decide) rfl); exact ⟨(B191, F192, W193), ⟨h194, h195⟩, rfl, h', trivial⟩)) ?_
     rintro ⟨B191, F192, W193⟩ ⟨h194, h195⟩
     have h_l := h_l.ext h195
     have h_w_0 := h_w_0.ext h195
     have h64 := h64.ext h195
     have h48 := h48.ext h195
     have h49 := h49.ext h195
     have h50 := h50.ext h195
     have h_w_1 := h_w_1.ext h195
     have h_w_2 := h_w_2.ext h195
     refine oQ [oF 4, oF 5, oF 6, oF 7, oF 8] [(12, vI x189), (11, .map B191), (9, vI x57), (8, sl A59 x56 c60), (2, vP b1 0), (1, sl A_l l c_l)] (by kernel_rfl) ?_
     refine ops_nil (fin_then (st_seq (st_region [oF 0, oF 1, oF 2, oF 3, oF 4, oF 5, oF 6, oF 7, oF 8, oF 9, oF 10, oF 11, oF 12, oF 13, oF 14, oF 15, oF 16, oF 17, oF 18, oF 19, oF 20, oF 21, oF 22] (by rfl) ?_)))
     refine oQ [oF 0, oF 1, oF 2, oF 3] [(59, .bool (!(x57 == x189))), (12, vI x189), (11, .map B191), (8, sl A59 x56 c60), (2, vP b1 0), (1, sl A_l l c_l)] (by kernel_rfl) ?_
     refine ops_bool (t := !(x57 == x189)) (l1 := [(59, .bool true), (12, vI x189), (11, .map B191), (8, sl A59 x56 c60), (2, vP b1 0), (1, sl A_l l c_l)]) (l2 := [(59, .bool false), (12, vI x189), (11, .map B191), (8, sl A59 x56 c60), (2, vP b1 0), (1, sl A_l l c_l)]) (fun h => by rw [h]) (fun h => by rw [h]) (fun hc196 => ?_) (fun hc196 => ?_)
     ·
      have hp := cnd_t hc196 hp
      refine oQ [oF 4, oF 5, oF 6, oF 7, oF 8, oF 9, oF 10, oF 11, oF 12, oF 13, oF 14, oF 15, oF 16, oF 17, oF 18, oF 19, oF 20, oF 21, oF 22] [(78, .bool true), (2, vP b1 0), (1, sl A_l l c_l)] (by kernel_rfl) ?_
      refine ops_nil (fin_then (st_true rfl (st_seq (st_region [oF 0] (by rfl) ?_))))
      refine oQ [oF 0] [(4, .bool false)] (by kernel_rfl) ?_
      refine ops_nil (fin_then (st_ret (fin_ret_then ?_)))
      have hq_ := Option.some.inj hp
      have hr0_ := hq_
      subst hr0_
      refine fin_ret [.tmp 4] [.bool false] rfl rfl (fun w_ hM => (.tmp rfl .nil)) (fun w_ hM => ?_)
      exact ⟨F192, W193, ((((((h17.trans hx20).trans hx24).trans hx28).trans h51).trans h65).trans h195), rfl, hM.pick 8 [7] (by kernel_rfl) (by decide) rfl⟩
     ·
      have hp := cnd_f hc196 hp
      refine oQ [oF 4, oF 5, oF 6] [(62, .bool (x189 == 0)), (59, .bool false), (12, vI x189), (11, .map B191), (8, sl A59 x56 c60), (2, vP b1 0), (1, sl A_l l c_l)] (by kernel_rfl) ?_
      refine ops_bool (t := (x189 == 0)) (l1 := [(62, .bool true), (59, .bool false), (12, vI x189), (11, .map B191), (8, sl A59 x56 c60), (2, vP b1 0), (1, sl A_l l c_l)]) (l2 := [(62, .bool false), (59, .bool false), (12, vI x189), (11, .map B191), (8, sl A59 x56 c60), (2, vP b1 0), (1, sl A_l l c_l)]) (fun h => by rw [h]) (fun h => by rw [h]) (fun hc197 => ?_) (fun hc197 => ?_)
      ·
       have hp := cnd_t hc197 hp
       refine oQ [oF 7, oF 8] [(64, .map B191), (63, sl A59 x56 c60), (62, .bool true), (59, .bool false), (12, vI x189), (8, sl A59 x56 c60), (2, vP b1 0), (1, sl A_l l c_l)] (by kernel_rfl) ?_
       obtain ⟨x198, hv199, hp⟩ := obind hp
       refine ops_callI (σ := (Option Addr) × Nat × (List Value) × (Nat → Prop) × World) (d := some 65) (f := 11) (args := #[.map B191]) (v := (fun x_ => match x_ with | (A200, c201, y202, F203, W204) => sl A200 x198 c201)) (I := (fun x_ => match x_ with | (A200, c201, y202, F203, W204) => (RepL R_api_Comp F203 W204 x198 y202) ∧ (Ext w0 F192 W193 F203 W204))) (M' := (fun x_ => match x_ with | (A200, c201, y202, F203, W204) => Mem w0 (ow A200 x198 c201 42 2 y202 :: ow A59 x56 c60 42 2 y61 :: .blk b53 [vI x33, vI x34] 29 :: .blk b52 [sl A37 x30 c38, sl A40 x31 c41, sl A43 x32 c44] 26 :: ow A37 x30 c38 86 2 y39 :: ow A40 x31 c41 3 1 y42 :: ow A43 x32 c44 61 3 y45 :: .blk b1 [sl A_w_0 w_0 c_w_0, sl A_w_1 w_1 c_w_1, sl A_w_2 w_2 c_w_2] 26 :: Fz F203 W204 :: cs))) ⟨by kernel_rfl⟩ (fun w_ hM hS => (tourref3_Listed_ok w0 w_ (ow A59 x56 c60 42 2 y61 :: .blk b53 [vI x33, vI x34] 29 :: .blk b52 [sl A37 x30 c38, sl A40 x31 c41, sl A43 x32 c44] 26 :: ow A37 x30 c38 86 2 y39 :: ow A40 x31 c41 3 1 y42 :: ow A43 x32 c44 61 3 y45 :: .blk b1 [sl A_w_0 w_0 c_w_0, sl A_w_1 w_1 c_w_1, sl A_w_2 w_2 c_w_2] 26 :: cs) F192 W193 B191 x188 (hM.pick 8 [7, 0, 1, 2, 3, 4, 5, 6] (by kernel_rfl) (by decide) rfl) h194 x198 hv199).mono (by rintro e w' ⟨A200, c201, y202, F203, W204, ⟨h205, h206⟩, rfl, h'⟩; have h' : Mem w0 (ow A200 x198 c201 42 2 y202 :: ow A59 x56 c60 42 2 y61 :: .blk b53 [vI x33, vI x34] 29 :: .blk b52 [sl A37 x30 c38, sl A40 x31 c41, sl A43 x32 c44] 26 :: ow A37 x30 c38 86 2 y39 :: ow A40 x31 c41 3 1 y42 :: ow A43 x32 c44 61 3 y45 :: .blk b1 [sl A_w_0 w_0 c_w_0, sl A_w_1 w_1 c_w_1, sl A_w_2 w_2 c_w_2] 26 :: Fz F203 W204 :: cs) w' := (h'.pick 9 [0, 2, 3, 4, 5, 6, 7, 8, 1] (by kernel_rfl) (by decide) rfl); exact ⟨(A200, c201, y202, F203, W204), ⟨h205, h206⟩, rfl, h', trivial⟩)) ?_
       rintro ⟨A200, c201, y202, F203, W204⟩ ⟨h205, h206⟩
       have h194 := h194.ext h206
       have h_l := h_l.ext h206
       have h64 := h64.ext h206
       have h48 := h48.ext h206
       have h49 := h49.ext h206
       have h50 := h50.ext h206
       have h_w_0 := h_w_0.ext h206
       have h_w_1 := h_w_1.ext h206
       have h_w_2 := h_w_2.ext h206
       obtain ⟨x207, hv208, hp⟩ := obind hp
       refine ops_callI (σ := Unit) (d := some 66) (f := 10) (args := #[sl A59 x56 c60, sl A200 x198 c201, .func (.func 12) #[] #[]]) (v := (fun _ => .bool x207)) (I := (fun _ => True)) (M' := (fun _ => Mem w0 (ow A200 x198 c201 42 2 y202 :: ow A59 x56 c60 42 2 y61 :: .blk b53 [vI x33, vI x34] 29 :: .blk b52 [sl A37 x30 c38, sl A40 x31 c41, sl A43 x32 c44] 26 :: ow A37 x30 c38 86 2 y39 :: ow A40 x31 c41 3 1 y42 :: ow A43 x32 c44 61 3 y45 :: .blk b1 [sl A_w_0 w_0 c_w_0, sl A_w_1 w_1 c_w_1, sl A_w_2 w_2 c_w_2] 26 :: Fz F203 W204 :: cs))) ⟨by kernel_rfl⟩ (fun w_ hM hS => (slices_EqualFunc_api_Comp_api_Comp_api_Comp_api_Comp_ok w_ w_ [] (fun b => b < w_.heap.size) w_ A59 c60 x56 A200 c201 x198 (Mem.fz0 w_) (hM.ordS 1 8 rfl rfl h64 rfl rfl) (hM.ordS 0 8 rfl rfl h205 rfl rfl) x207 hv208).mono (by rintro e w' ⟨-, rfl, h'⟩; have h' : Mem w_ [] w' := h'.pick 1 [] (by kernel_rfl) (by decide) rfl; exact ⟨(), trivial, rfl, hM.join h' rfl, trivial⟩)) ?_
       rintro _ -
       refine oQ [oF 11, oF 12, oF 13, oF 14] [(70, .bool (!x207)), (12, vI x189), (8, sl A59 x56 c60), (2, vP b1 0), (1, sl A_l l c_l)] (by kernel_rfl) ?_
       refine ops_bool (t := !x207) (l1 := [(70, .bool true), (12, vI x189), (8, sl A59 x56 c60), (2, vP b1 0), (1, sl A_l l c_l)]) (l2 := [(70, .bool false), (12, vI x189), (8, sl A59 x56 c60), (2, vP b1 0), (1, sl A_l l c_l)]) (fun h => by rw [h]) (fun h => by rw [h]) (fun hc209 => ?_) (fun hc209 => ?_)
       ·
        have hp := cnd_t hc209 hp
        refine oQ [oF 15, oF 16, oF 17, oF 18, oF 19, oF 20, oF 21, oF 22] [(78, .bool true), (2, vP b1 0), (1, sl A_l l c_l)] (by kernel_rfl) ?_
        refine ops_nil (fin_then (st_true rfl (st_seq (st_region [oF 0] (by rfl) ?_))))
        refine oQ [oF 0] [(4, .bool false)] (by kernel_rfl) ?_
        refine ops_nil (fin_then (st_ret (fin_ret_then ?_)))
        have hq_ := Option.some.inj hp
        have hr0_ := hq_
        subst hr0_
        refine fin_ret [.tmp 4] [.bool false] rfl rfl (fun w_ hM => (.tmp rfl .nil)) (fun w_ hM => ?_)
        exact ⟨F203, W204, (((((((h17.trans hx20).trans hx24).trans hx28).trans h51).trans h65).trans h195).trans h206), rfl, hM.pick 9 [8] (by kernel_rfl) (by decide) rfl⟩
       ·
        have hp := cnd_f hc209 hp
        refine oQ [oF 15, oF 16, oF 17] [(73, .bool (!(x189 == 0))), (70, .bool false), (8, sl A59 x56 c60), (2, vP b1 0), (1, sl A_l l c_l)] (by kernel_rfl) ?_
        refine ops_conv (l' := [(73, .bool false), (70, .bool false), (8, sl A59 x56 c60), (2, vP b1 0), (1, sl A_l l c_l)]) (by rw [show (!(x189 == 0)) = false from by rw [hc197]; rfl]) (fun _ h => h) ?_
        refine oQ [oF 18, oF 19, oF 20, oF 21, oF 22] [(78, .bool false), (2, vP b1 0), (1, sl A_l l c_l)] (by kernel_rfl) ?_
        refine ops_nil (fin_then (st_false rfl (st_skip ?_)))
        exact fin_join HJ1 (F203, W204) ⟨hp, (h195.trans h206)⟩ (look_has ⟨rfl, rfl, trivial⟩) (fun w_ hM => hM.pick 9 [7, 8] (by kernel_rfl) (by decide) rfl)
      ·
       have hp := cnd_f hc197 hp
       refine oQ [oF 7, oF 8, oF 9, oF 10, oF 11, oF 12, oF 13, oF 14, oF 15, oF 16, oF 17] [(73, .bool (!(x189 == 0))), (70, .bool false), (8, sl A59 x56 c60), (2, vP b1 0), (1, sl A_l l c_l)] (by kernel_rfl) ?_
       refine ops_conv (l' := [(73, .bool true), (70, .bool false), (8, sl A59 x56 c60), (2, vP b1 0), (1, sl A_l l c_l)]) (by rw [show (!(x189 == 0)) = true from by rw [hc197]; rfl]) (fun _ h => h) ?_
       refine oQ [oF 18, oF 19, oF 20, oF 21, oF 22] [(78, .bool (decide (0 < (x56.length : Int)))), (2, vP b1 0), (1, sl A_l l c_l)] (by kernel_rfl) ?_
       refine ops_nil (fin_then ?_)
       refine st_if (b := decide (0 < (x56.length : Int))) rfl (fun hc210 => ?_) (fun hc210 => ?_)
       ·
        have hp := cnd_t hc210 hp
        refine st_seq (st_region [oF 0] (by rfl) ?_)
        refine oQ [oF 0] [(4, .bool false)] (by kernel_rfl) ?_
        refine ops_nil (fin_then (st_ret (fin_ret_then ?_)))
        have hq_ := Option.some.inj hp
        have hr0_ := hq_
        subst hr0_
        refine fin_ret [.tmp 4] [.bool false] rfl rfl (fun w_ hM => (.tmp rfl .nil)) (fun w_ hM => ?_)
        exact ⟨F192, W193, ((((((h17.trans hx20).trans hx24).trans hx28).trans h51).trans h65).trans h195), rfl, hM.pick 8 [7] (by kernel_rfl) (by decide) rfl⟩
       ·
        have hp := cnd_f hc210 hp
        refine st_skip ?_
        exact fin_join HJ1 (F192, W193) ⟨hp, h195⟩ (look_has ⟨rfl, rfl, trivial⟩) (fun w_ hM => hM.pick 8 [6, 7] (by kernel_rfl) (by decide) rfl)
    ·
     have hp := cnd_f hc187 hp
     refine st_seq (st_region [oF 0, oF 1, oF 2, oF 3, oF 4, oF 5, oF 6, oF 7] (by rfl) ?_)
     refine oQ [oF 0, oF 1, oF 2, oF 3] [(82, .bool (!(x57 == x66))), (8, sl A59 x56 c60), (2, vP b1 0), (1, sl A_l l c_l)] (by kernel_rfl) ?_
     refine ops_bool (t := !(x57 == x66)) (l1 := [(82, .bool true), (8, sl A59 x56 c60), (2, vP b1 0), (1, sl A_l l c_l)]) (l2 := [(82, .bool false), (8, sl A59 x56 c60), (2, vP b1 0), (1, sl A_l l c_l)]) (fun h => by rw [h]) (fun h => by rw [h]) (fun hc211 => ?_) (fun hc211 => ?_)
     ·
      have hp := cnd_t hc211 hp
      refine oQ [oF 4, oF 5, oF 6, oF 7] [(86, .bool true), (2, vP b1 0), (1, sl A_l l c_l)] (by kernel_rfl) ?_
      refine ops_nil (fin_then (st_true rfl (st_seq (st_region [oF 0] (by rfl) ?_))))
      refine oQ [oF 0] [(4, .bool false)] (by kernel_rfl) ?_
      refine ops_nil (fin_then (st_ret (fin_ret_then ?_)))
      have hq_ := Option.some.inj hp
      have hr0_ := hq_
      subst hr0_
      refine fin_ret [.tmp 4] [.bool false] rfl rfl (fun w_ hM => (.tmp rfl .nil)) (fun w_ hM => ?_)
      exact ⟨F62, W63, (((((h17.trans hx20).trans hx24).trans hx28).trans h51).trans h65), rfl, hM.pick 8 [7] (by kernel_rfl) (by decide) rfl⟩
     ·
      have hp := cnd_f hc211 hp
      refine oQ [oF 4, oF 5, oF 6, oF 7] [(86, .bool (decide (0 < (x56.length : Int)))), (2, vP b1 0), (1, sl A_l l c_l)] (by kernel_rfl) ?_
      refine ops_nil (fin_then ?_)
      refine st_if (b := decide (0 < (x56.length : Int))) rfl (fun hc212 => ?_) (fun hc212 => ?_)
      ·
       have hp := cnd_t hc212 hp
       refine st_seq (st_region [oF 0] (by rfl) ?_)
       refine oQ [oF 0] [(4, .bool false)] (by kernel_rfl) ?_
       refine ops_nil (fin_then (st_ret (fin_ret_then ?_)))
       have hq_ := Option.some.inj hp
       have hr0_ := hq_
       subst hr0_
       refine fin_ret [.tmp 4] [.bool false] rfl rfl (fun w_ hM => (.tmp rfl .nil)) (fun w_ hM => ?_)
       exact ⟨F62, W63, (((((h17.trans hx20).trans hx24).trans hx28).trans h51).trans h65), rfl, hM.pick 8 [7] (by kernel_rfl) (by decide) rfl⟩
      ·
       have hp := cnd_f hc212 hp
       refine st_skip ?_
       exact fin_join HJ1 (F62, W63) ⟨hp, (Ext.refl _ _ _)⟩ (look_has ⟨rfl, rfl, trivial⟩) (fun w_ hM => hM.pick 8 [6, 7] (by kernel_rfl) (by decide) rfl)
end Go.Proofs.YtbfndcookgijfaaGreatDoor.W
