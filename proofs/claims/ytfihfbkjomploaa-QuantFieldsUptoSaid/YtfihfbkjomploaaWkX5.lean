/- The Go functions come to what the plain functions tell. No condition. -/
import Derived.Test.YtfihfbkjomploaaProg
import Derived.Test.YtfihfbkjomploaaFnX
import Derived.Test.YtfihfbkjomploaaWkX0
import Derived.Test.YtfihfbkjomploaaWkX2
import Derived.Test.YtfihfbkjomploaaWkX4
namespace Go.Proofs.Ytfihfbkjomploaa.X
open Go Go.RowKit Go.Proofs.Ytfihfbkjomploaa.Sx
set_option linter.unusedVariables false
set_option maxHeartbeats 4000000 in
set_option maxRecDepth 100000 in
theorem quant_Put_ok (w0 w : World) (cs : List Chunk) (F : Nat → Prop) (W : World) (b_w : Nat) (A_w_0 : Option Addr) (c_w_0 : Nat) (w_0 : List Int) (y_w_0 : List Value) (w_1 : Int) (f_0 : ByteArray) (f_1 : Int) (f_2 : Int) (v : Int) (hM0 : Mem w0 (.blk b_w [.slice A_w_0 w_0.length c_w_0, vI w_1] 45 :: orow A_w_0 w_0.length c_w_0 5 1 y_w_0 :: Fz F W :: cs) w) (h_w_0 : RepL (Rep.int .u8) F W w_0 y_w_0) (i9001 : Int) (l9004 : List Int) (i9007 : Int) (hp : quant_Put w_0 w_1 f_0 f_1 f_2 v = some (i9001, l9004, i9007)) : Calls Try.prog 36 #[vP b_w 0, .agg #[.string f_0, vI f_1, vI f_2], vI v] w fun e w' => ∃ (A9002 : Option Addr), ∃ (c9003 : Nat), ∃ (y9005 : List Value), ((RepL (Rep.int .u8) F W l9004 y9005)) ∧ e = .returned (vI i9001) ∧ Mem w0 (.blk b_w [.slice A9002 l9004.length c9003, vI i9007] 45 :: orow A9002 l9004.length c9003 5 1 y9005 :: Fz F W :: cs) w' := by
 unfold quant_Put at hp
 refine sx_calls Try.func36 rfl (n := 27) (by kernel_rfl) (l := [(0, vP b_w 0), (1, .agg #[.string f_0, vI f_1, vI f_2]), (2, vI v)]) rfl (by rfl) hM0 ?_
 refine st_seq ?_
 refine st_region [oF 0, oF 1] (by rfl) ?_
 refine ops_new (d := some 4) (o := .cells #[.string f_0, vI f_1, vI f_2] 55) (v := fun b1 => vP b1 0) (M' := fun b1 => Mem w0 (.blk b1 [.string f_0, vI f_1, vI f_2] 55 :: .blk b_w [.slice A_w_0 w_0.length c_w_0, vI w_1] 45 :: orow A_w_0 w_0.length c_w_0 5 1 y_w_0 :: Fz F W :: cs)) (fun b1 => ⟨by kernel_rfl⟩) (fun w_ hM hS => ⟨hM.blk [.string f_0, vI f_1, vI f_2] 55, trivial⟩) (fun b1 => ?_)
 refine oR [oF 1] [(4, vP b1 0), (0, vP b_w 0), (2, vI v)] [4, 0, 2] (by kernel_rfl) ?_
 refine ops_nil ?_
 refine fin_then ?_
 refine st_seq ?_
 refine st_seq ?_
 refine st_region [oF 0, oF 1, oF 2] (by rfl) ?_
 refine ops_mem (d := some 8) (an := [.v (.string f_0), .v (vI f_1), .v (vI f_2)]) (evs := [.load ⟨b1, 0, none⟩ (.string f_0), .load ⟨b1, 1, none⟩ (vI f_1), .load ⟨b1, 2, none⟩ (vI f_2)]) (v := .agg #[.string f_0, vI f_1, vI f_2]) (M' := Mem w0 (.blk b1 [.string f_0, vI f_1, vI f_2] 55 :: .blk b_w [.slice A_w_0 w_0.length c_w_0, vI w_1] 45 :: orow A_w_0 w_0.length c_w_0 5 1 y_w_0 :: Fz F W :: cs)) ⟨by kernel_rfl⟩ (fun w_ hM hS => ⟨w_, ⟨hM.cell 0 rfl rfl, hM.cell 0 rfl rfl, hM.cell 0 rfl rfl, rfl⟩, hM, trivial⟩) ?_
 obtain ⟨x2, hv3, hp⟩ := obind hp
 refine ops_callI (σ := Unit) (d := some 9) (f := 41) (args := #[.agg #[.string f_0, vI f_1, vI f_2]]) (v := (fun _ => vI x2)) (I := (fun _ => True)) (M' := (fun _ => Mem w0 (.blk b1 [.string f_0, vI f_1, vI f_2] 55 :: .blk b_w [.slice A_w_0 w_0.length c_w_0, vI w_1] 45 :: orow A_w_0 w_0.length c_w_0 5 1 y_w_0 :: Fz F W :: cs))) ⟨by kernel_rfl⟩ (fun w_ hM hS => (quant_Check_ok w0 w_ (.blk b1 [.string f_0, vI f_1, vI f_2] 55 :: .blk b_w [.slice A_w_0 w_0.length c_w_0, vI w_1] 45 :: orow A_w_0 w_0.length c_w_0 5 1 y_w_0 :: cs) F W f_0 f_1 f_2 (hM.pick 4 [3, 0, 1, 2] (by kernel_rfl) (by decide) rfl)  x2 hv3).mono (by rintro e w' ⟨-, rfl, h'⟩; have h' : Mem w0 (.blk b1 [.string f_0, vI f_1, vI f_2] 55 :: .blk b_w [.slice A_w_0 w_0.length c_w_0, vI w_1] 45 :: orow A_w_0 w_0.length c_w_0 5 1 y_w_0 :: Fz F W :: cs) w' := (h'.pick 4 [1, 2, 3, 0] (by kernel_rfl) (by decide) rfl); exact ⟨(), trivial, rfl, h', trivial⟩)) ?_
 rintro _ -
 refine ops_conv (l' := [(9, vI x2), (8, .agg #[.string f_0, vI f_1, vI f_2]), (4, vP b1 0), (0, vP b_w 0), (2, vI v)]) (M' := Mem w0 (.blk b1 [.string f_0, vI f_1, vI f_2] 55 :: .blk b_w [.slice A_w_0 w_0.length c_w_0, vI w_1] 45 :: orow A_w_0 w_0.length c_w_0 5 1 y_w_0 :: Fz F W :: cs)) rfl (fun _ h => h) ?_
 refine oR [oF 2] [(7, vI x2), (4, vP b1 0), (0, vP b_w 0), (2, vI v)] [7, 4, 0, 2] (by kernel_rfl) ?_
 refine ops_nil ?_
 refine fin_then ?_
 refine st_seq ?_
 refine st_region [oF 0, oF 1] (by rfl) ?_
 refine oR [oF 0, oF 1] [(11, .bool (!(x2 == 0))), (7, vI x2), (4, vP b1 0), (0, vP b_w 0), (2, vI v)] [11, 7, 4, 0, 2] (by kernel_rfl) ?_
 refine ops_nil ?_
 refine fin_then ?_
 refine st_if (b := !(x2 == 0)) rfl (fun hc4 => ?_) (fun hc4 => ?_)
 · --
  have hp := cnd_t hc4 hp
  refine st_seq ?_
  refine st_region [oF 0, oF 1] (by rfl) ?_
  refine oR [oF 0, oF 1] [(6, vI x2)] [6] (by kernel_rfl) ?_
  refine ops_nil ?_
  refine fin_then ?_
  refine st_ret ?_
  refine fin_ret_then ?_
  have hq_ := Option.some.inj hp
  obtain ⟨hr0_, hq_⟩ := Prod.mk.inj hq_
  obtain ⟨hr1_, hq_⟩ := Prod.mk.inj hq_
  have hr2_ := hq_
  subst hr0_
  subst hr1_
  subst hr2_
  refine fin_ret [.tmp 6] [vI x2] rfl rfl (fun w_ hM => (.tmp rfl .nil)) (fun w_ hM => ?_)
  exact ⟨A_w_0, c_w_0, y_w_0, h_w_0, rfl, hM.pick 4 [1, 2, 3] (by kernel_rfl) (by decide) rfl⟩
 · --
  have hp := cnd_f hc4 hp
  refine st_skip ?_
  refine fin_then ?_
  refine st_seq ?_
  refine st_seq ?_
  refine st_region [oF 0, oF 1, oF 2, oF 3, oF 4] (by rfl) ?_
  refine oR [] [(4, vP b1 0), (0, vP b_w 0), (2, vI v)] [4, 0, 2] (by kernel_rfl) ?_
  refine ops_mem (d := some 13) (an := [.v (.string f_0), .v (vI f_1), .v (vI f_2)]) (evs := [.load ⟨b1, 0, none⟩ (.string f_0), .load ⟨b1, 1, none⟩ (vI f_1), .load ⟨b1, 2, none⟩ (vI f_2)]) (v := .agg #[.string f_0, vI f_1, vI f_2]) (M' := Mem w0 (.blk b1 [.string f_0, vI f_1, vI f_2] 55 :: .blk b_w [.slice A_w_0 w_0.length c_w_0, vI w_1] 45 :: orow A_w_0 w_0.length c_w_0 5 1 y_w_0 :: Fz F W :: cs)) ⟨by kernel_rfl⟩ (fun w_ hM hS => ⟨w_, ⟨hM.cell 0 rfl rfl, hM.cell 0 rfl rfl, hM.cell 0 rfl rfl, rfl⟩, hM, trivial⟩) ?_
  refine oR [oF 1] [(14, vI v), (13, .agg #[.string f_0, vI f_1, vI f_2]), (4, vP b1 0), (0, vP b_w 0), (2, vI v)] [14, 13, 4, 0, 2] (by kernel_rfl) ?_
  obtain ⟨x5, hv6, hp⟩ := obind hp
  refine ops_callI (σ := Unit) (d := some 15) (f := 38) (args := #[.agg #[.string f_0, vI f_1, vI f_2], vI v]) (v := (fun _ => vI x5)) (I := (fun _ => True)) (M' := (fun _ => Mem w0 (.blk b1 [.string f_0, vI f_1, vI f_2] 55 :: .blk b_w [.slice A_w_0 w_0.length c_w_0, vI w_1] 45 :: orow A_w_0 w_0.length c_w_0 5 1 y_w_0 :: Fz F W :: cs))) ⟨by kernel_rfl⟩ (fun w_ hM hS => (quant_Fit_ok w0 w_ (.blk b1 [.string f_0, vI f_1, vI f_2] 55 :: .blk b_w [.slice A_w_0 w_0.length c_w_0, vI w_1] 45 :: orow A_w_0 w_0.length c_w_0 5 1 y_w_0 :: cs) F W f_0 f_1 f_2 v (hM.pick 4 [3, 0, 1, 2] (by kernel_rfl) (by decide) rfl)  x5 hv6).mono (by rintro e w' ⟨-, rfl, h'⟩; have h' : Mem w0 (.blk b1 [.string f_0, vI f_1, vI f_2] 55 :: .blk b_w [.slice A_w_0 w_0.length c_w_0, vI w_1] 45 :: orow A_w_0 w_0.length c_w_0 5 1 y_w_0 :: Fz F W :: cs) w' := (h'.pick 4 [1, 2, 3, 0] (by kernel_rfl) (by decide) rfl); exact ⟨(), trivial, rfl, h', trivial⟩)) ?_
  rintro _ -
  refine ops_conv (l' := [(15, vI x5), (14, vI v), (13, .agg #[.string f_0, vI f_1, vI f_2]), (4, vP b1 0), (0, vP b_w 0), (2, vI v)]) (M' := Mem w0 (.blk b1 [.string f_0, vI f_1, vI f_2] 55 :: .blk b_w [.slice A_w_0 w_0.length c_w_0, vI w_1] 45 :: orow A_w_0 w_0.length c_w_0 5 1 y_w_0 :: Fz F W :: cs)) rfl (fun _ h => h) ?_
  refine oR [oF 3, oF 4] [(17, .bool (!(x5 == v))), (4, vP b1 0), (0, vP b_w 0), (2, vI v)] [17, 4, 0, 2] (by kernel_rfl) ?_
  refine ops_nil ?_
  refine fin_then ?_
  refine st_if (b := !(x5 == v)) rfl (fun hc7 => ?_) (fun hc7 => ?_)
  · --
   have hp := cnd_t hc7 hp
   refine st_seq ?_
   refine st_region [oF 0] (by rfl) ?_
   refine oR [oF 0] [(6, vI 1)] [6] (by kernel_rfl) ?_
   refine ops_nil ?_
   refine fin_then ?_
   refine st_ret ?_
   refine fin_ret_then ?_
   have hq_ := Option.some.inj hp
   obtain ⟨hr0_, hq_⟩ := Prod.mk.inj hq_
   obtain ⟨hr1_, hq_⟩ := Prod.mk.inj hq_
   have hr2_ := hq_
   subst hr0_
   subst hr1_
   subst hr2_
   refine fin_ret [.tmp 6] [vI 1] rfl rfl (fun w_ hM => (.tmp rfl .nil)) (fun w_ hM => ?_)
   exact ⟨A_w_0, c_w_0, y_w_0, h_w_0, rfl, hM.pick 4 [1, 2, 3] (by kernel_rfl) (by decide) rfl⟩
  · --
   have hp := cnd_f hc7 hp
   refine st_skip ?_
   refine fin_then ?_
   refine st_seq ?_
   refine st_region [oF 0, oF 1, oF 2, oF 3, oF 4, oF 5, oF 6, oF 7, oF 8, oF 9] (by rfl) ?_
   refine oR [oF 0, oF 1, oF 2] [(20, vP b1 2), (19, vI v), (18, vP b_w 0), (4, vP b1 0)] [20, 19, 18, 4] (by kernel_rfl) ?_
   refine ops_mem (d := some 21) (an := [.v (vI f_2)]) (evs := [.load ⟨b1, 2, none⟩ (vI f_2)]) (v := vI f_2) (M' := Mem w0 (.blk b1 [.string f_0, vI f_1, vI f_2] 55 :: .blk b_w [.slice A_w_0 w_0.length c_w_0, vI w_1] 45 :: orow A_w_0 w_0.length c_w_0 5 1 y_w_0 :: Fz F W :: cs)) ⟨by kernel_rfl⟩ (fun w_ hM hS => ⟨w_, ⟨hM.cell 0 rfl rfl, rfl⟩, hM, trivial⟩) ?_
   refine oR [oF 4, oF 5, oF 6] [(24, vP b1 1), (23, vU (IntKind.u64.wrap (IntKind.i64.wrap (v - f_2)))), (18, vP b_w 0)] [24, 23, 18] (by kernel_rfl) ?_
   refine ops_mem (d := some 25) (an := [.v (vI f_1)]) (evs := [.load ⟨b1, 1, none⟩ (vI f_1)]) (v := vI f_1) (M' := Mem w0 (.blk b1 [.string f_0, vI f_1, vI f_2] 55 :: .blk b_w [.slice A_w_0 w_0.length c_w_0, vI w_1] 45 :: orow A_w_0 w_0.length c_w_0 5 1 y_w_0 :: Fz F W :: cs)) ⟨by kernel_rfl⟩ (fun w_ hM hS => ⟨w_, ⟨hM.cell 0 rfl rfl, rfl⟩, hM, trivial⟩) ?_
   refine oR [] [(25, vI f_1), (23, vU (IntKind.u64.wrap (IntKind.i64.wrap (v - f_2)))), (18, vP b_w 0)] [25, 23, 18] (by kernel_rfl) ?_
   obtain ⟨x8, x9, x10, hv11, hp⟩ := obind3 hp
   refine ops_callI (σ := (Option Addr) × Nat × (List Value)) (d := some 26) (f := 25) (args := #[vP b_w 0, vU (IntKind.u64.wrap (IntKind.i64.wrap (v - f_2))), vI f_1]) (v := (fun x_ => match x_ with | (A12, c13, y14) => vI x8)) (I := (fun x_ => match x_ with | (A12, c13, y14) => (RepL (Rep.int .u8) F W x9 y14))) (M' := (fun x_ => match x_ with | (A12, c13, y14) => Mem w0 (orow A12 x9.length c13 5 1 y14 :: .blk b1 [.string f_0, vI f_1, vI f_2] 55 :: .blk b_w [.slice A12 x9.length c13, vI x10] 45 :: Fz F W :: cs))) ⟨by kernel_rfl⟩ (fun w_ hM hS => (bits_Writer_Put_ok w0 w_ (.blk b1 [.string f_0, vI f_1, vI f_2] 55 :: cs) F W b_w A_w_0 c_w_0 w_0 y_w_0 w_1 (IntKind.u64.wrap (IntKind.i64.wrap (v - f_2))) f_1 (hM.pick 4 [1, 2, 3, 0] (by kernel_rfl) (by decide) rfl) h_w_0 x8 x9 x10 hv11).mono (by rintro e w' ⟨A12, c13, y14, h15, rfl, h'⟩; have h' : Mem w0 (orow A12 x9.length c13 5 1 y14 :: .blk b1 [.string f_0, vI f_1, vI f_2] 55 :: .blk b_w [.slice A12 x9.length c13, vI x10] 45 :: Fz F W :: cs) w' := (h'.pick 4 [1, 3, 0, 2] (by kernel_rfl) (by decide) rfl); exact ⟨(A12, c13, y14), h15, rfl, h', trivial⟩)) ?_
   rintro ⟨A12, c13, y14⟩ h15
   refine ops_conv (l' := [(26, vI x8), (25, vI f_1), (23, vU (IntKind.u64.wrap (IntKind.i64.wrap (v - f_2)))), (18, vP b_w 0)]) (M' := Mem w0 (orow A12 x9.length c13 5 1 y14 :: .blk b1 [.string f_0, vI f_1, vI f_2] 55 :: .blk b_w [.slice A12 x9.length c13, vI x10] 45 :: Fz F W :: cs)) rfl (fun _ h => h) ?_
   refine oR [oF 9] [(6, vI x8)] [6] (by kernel_rfl) ?_
   refine ops_nil ?_
   refine fin_then ?_
   refine st_ret ?_
   have hq_ := Option.some.inj hp
   obtain ⟨hr0_, hq_⟩ := Prod.mk.inj hq_
   obtain ⟨hr1_, hq_⟩ := Prod.mk.inj hq_
   have hr2_ := hq_
   subst hr0_
   subst hr1_
   subst hr2_
   refine fin_ret [.tmp 6] [vI x8] rfl rfl (fun w_ hM => (.tmp rfl .nil)) (fun w_ hM => ?_)
   exact ⟨A12, c13, y14, h15, rfl, hM.pick 4 [2, 0, 3] (by kernel_rfl) (by decide) rfl⟩
set_option maxHeartbeats 4000000 in
set_option maxRecDepth 100000 in
theorem quant_Get_ok (w0 w : World) (cs : List Chunk) (F : Nat → Prop) (W : World) (b_r : Nat) (A_r_0 : Option Addr) (c_r_0 : Nat) (r_0 : List Int) (y_r_0 : List Value) (r_1 : Int) (f_0 : ByteArray) (f_1 : Int) (f_2 : Int) (hM0 : Mem w0 (.blk b_r [.slice A_r_0 r_0.length c_r_0, vI r_1] 136 :: orow A_r_0 r_0.length c_r_0 5 1 y_r_0 :: Fz F W :: cs) w) (h_r_0 : RepL (Rep.int .u8) F W r_0 y_r_0) (i9001 : Int) (i9002 : Int) (i9006 : Int) (hp : quant_Get r_0 r_1 f_0 f_1 f_2 = some (i9001, i9002, i9006)) : Calls Try.prog 37 #[vP b_r 0, .agg #[.string f_0, vI f_1, vI f_2]] w fun e w' => ∃ (A9003 : Option Addr), ∃ (y9004 : List Value), ((RepL (Rep.int .u8) F W r_0 y9004)) ∧ e = .returned (.tuple #[vI i9001, vI i9002]) ∧ Mem w0 (.blk b_r [.slice A9003 r_0.length c_r_0, vI i9006] 136 :: orow A9003 r_0.length c_r_0 5 1 y9004 :: Fz F W :: cs) w' := by
 unfold quant_Get at hp
 refine sx_calls Try.func37 rfl (n := 29) (by kernel_rfl) (l := [(0, vP b_r 0), (1, .agg #[.string f_0, vI f_1, vI f_2])]) rfl (by rfl) hM0 ?_
 refine st_seq ?_
 refine st_region [oF 0, oF 1, oF 2] (by rfl) ?_
 refine ops_new (d := some 3) (o := .cells #[.string f_0, vI f_1, vI f_2] 55) (v := fun b1 => vP b1 0) (M' := fun b1 => Mem w0 (.blk b1 [.string f_0, vI f_1, vI f_2] 55 :: .blk b_r [.slice A_r_0 r_0.length c_r_0, vI r_1] 136 :: orow A_r_0 r_0.length c_r_0 5 1 y_r_0 :: Fz F W :: cs)) (fun b1 => ⟨by kernel_rfl⟩) (fun w_ hM hS => ⟨hM.blk [.string f_0, vI f_1, vI f_2] 55, trivial⟩) (fun b1 => ?_)
 refine oR [oF 1, oF 2] [(3, vP b1 0), (0, vP b_r 0)] [3, 0] (by kernel_rfl) ?_
 refine ops_nil ?_
 refine fin_then ?_
 refine st_seq ?_
 refine st_seq ?_
 refine st_region [oF 0, oF 1, oF 2] (by rfl) ?_
 refine ops_mem (d := some 9) (an := [.v (.string f_0), .v (vI f_1), .v (vI f_2)]) (evs := [.load ⟨b1, 0, none⟩ (.string f_0), .load ⟨b1, 1, none⟩ (vI f_1), .load ⟨b1, 2, none⟩ (vI f_2)]) (v := .agg #[.string f_0, vI f_1, vI f_2]) (M' := Mem w0 (.blk b1 [.string f_0, vI f_1, vI f_2] 55 :: .blk b_r [.slice A_r_0 r_0.length c_r_0, vI r_1] 136 :: orow A_r_0 r_0.length c_r_0 5 1 y_r_0 :: Fz F W :: cs)) ⟨by kernel_rfl⟩ (fun w_ hM hS => ⟨w_, ⟨hM.cell 0 rfl rfl, hM.cell 0 rfl rfl, hM.cell 0 rfl rfl, rfl⟩, hM, trivial⟩) ?_
 obtain ⟨x2, hv3, hp⟩ := obind hp
 refine ops_callI (σ := Unit) (d := some 10) (f := 41) (args := #[.agg #[.string f_0, vI f_1, vI f_2]]) (v := (fun _ => vI x2)) (I := (fun _ => True)) (M' := (fun _ => Mem w0 (.blk b1 [.string f_0, vI f_1, vI f_2] 55 :: .blk b_r [.slice A_r_0 r_0.length c_r_0, vI r_1] 136 :: orow A_r_0 r_0.length c_r_0 5 1 y_r_0 :: Fz F W :: cs))) ⟨by kernel_rfl⟩ (fun w_ hM hS => (quant_Check_ok w0 w_ (.blk b1 [.string f_0, vI f_1, vI f_2] 55 :: .blk b_r [.slice A_r_0 r_0.length c_r_0, vI r_1] 136 :: orow A_r_0 r_0.length c_r_0 5 1 y_r_0 :: cs) F W f_0 f_1 f_2 (hM.pick 4 [3, 0, 1, 2] (by kernel_rfl) (by decide) rfl)  x2 hv3).mono (by rintro e w' ⟨-, rfl, h'⟩; have h' : Mem w0 (.blk b1 [.string f_0, vI f_1, vI f_2] 55 :: .blk b_r [.slice A_r_0 r_0.length c_r_0, vI r_1] 136 :: orow A_r_0 r_0.length c_r_0 5 1 y_r_0 :: Fz F W :: cs) w' := (h'.pick 4 [1, 2, 3, 0] (by kernel_rfl) (by decide) rfl); exact ⟨(), trivial, rfl, h', trivial⟩)) ?_
 rintro _ -
 refine ops_conv (l' := [(10, vI x2), (9, .agg #[.string f_0, vI f_1, vI f_2]), (3, vP b1 0), (0, vP b_r 0)]) (M' := Mem w0 (.blk b1 [.string f_0, vI f_1, vI f_2] 55 :: .blk b_r [.slice A_r_0 r_0.length c_r_0, vI r_1] 136 :: orow A_r_0 r_0.length c_r_0 5 1 y_r_0 :: Fz F W :: cs)) rfl (fun _ h => h) ?_
 refine oR [oF 2] [(6, vI x2), (3, vP b1 0), (0, vP b_r 0)] [6, 3, 0] (by kernel_rfl) ?_
 refine ops_nil ?_
 refine fin_then ?_
 refine st_seq ?_
 refine st_region [oF 0, oF 1] (by rfl) ?_
 refine oR [oF 0, oF 1] [(12, .bool (!(x2 == 0))), (6, vI x2), (3, vP b1 0), (0, vP b_r 0)] [12, 6, 3, 0] (by kernel_rfl) ?_
 refine ops_nil ?_
 refine fin_then ?_
 refine st_if (b := !(x2 == 0)) rfl (fun hc4 => ?_) (fun hc4 => ?_)
 · --
  have hp := cnd_t hc4 hp
  refine st_seq ?_
  refine st_region [oF 0, oF 1, oF 2] (by rfl) ?_
  refine oR [oF 0, oF 1, oF 2] [(5, vI x2), (4, vI 0)] [5, 4] (by kernel_rfl) ?_
  refine ops_nil ?_
  refine fin_then ?_
  refine st_ret ?_
  refine fin_ret_then ?_
  have hq_ := Option.some.inj hp
  obtain ⟨hr0_, hq_⟩ := Prod.mk.inj hq_
  obtain ⟨hr1_, hq_⟩ := Prod.mk.inj hq_
  have hr2_ := hq_
  subst hr0_
  subst hr1_
  subst hr2_
  refine fin_ret [.tmp 4, .tmp 5] [vI 0, vI x2] rfl rfl (fun w_ hM => (.tmp rfl (.tmp rfl .nil))) (fun w_ hM => ?_)
  exact ⟨A_r_0, y_r_0, h_r_0, rfl, hM.pick 4 [1, 2, 3] (by kernel_rfl) (by decide) rfl⟩
 · --
  have hp := cnd_f hc4 hp
  refine st_skip ?_
  refine fin_then ?_
  refine st_seq ?_
  refine st_region [oF 0, oF 1, oF 2, oF 3, oF 4, oF 5, oF 6, oF 7, oF 8] (by rfl) ?_
  refine oR [oF 0, oF 1] [(16, vP b1 1), (15, vP b_r 0), (3, vP b1 0)] [16, 15, 3] (by kernel_rfl) ?_
  refine ops_mem (d := some 17) (an := [.v (vI f_1)]) (evs := [.load ⟨b1, 1, none⟩ (vI f_1)]) (v := vI f_1) (M' := Mem w0 (.blk b1 [.string f_0, vI f_1, vI f_2] 55 :: .blk b_r [.slice A_r_0 r_0.length c_r_0, vI r_1] 136 :: orow A_r_0 r_0.length c_r_0 5 1 y_r_0 :: Fz F W :: cs)) ⟨by kernel_rfl⟩ (fun w_ hM hS => ⟨w_, ⟨hM.cell 0 rfl rfl, rfl⟩, hM, trivial⟩) ?_
  refine oR [] [(17, vI f_1), (15, vP b_r 0), (3, vP b1 0)] [17, 15, 3] (by kernel_rfl) ?_
  obtain ⟨x5, x6, x7, hv8, hp⟩ := obind3 hp
  refine ops_callI (σ := (Option Addr) × (List Value)) (d := some 18) (f := 16) (args := #[vP b_r 0, vI f_1]) (v := (fun x_ => match x_ with | (A9, y10) => .tuple #[vU x5, vI x6])) (I := (fun x_ => match x_ with | (A9, y10) => (RepL (Rep.int .u8) F W r_0 y10))) (M' := (fun x_ => match x_ with | (A9, y10) => Mem w0 (orow A9 r_0.length c_r_0 5 1 y10 :: .blk b1 [.string f_0, vI f_1, vI f_2] 55 :: .blk b_r [.slice A9 r_0.length c_r_0, vI x7] 136 :: Fz F W :: cs))) ⟨by kernel_rfl⟩ (fun w_ hM hS => (bits_Reader_Get_ok w0 w_ (.blk b1 [.string f_0, vI f_1, vI f_2] 55 :: cs) F W b_r A_r_0 c_r_0 r_0 y_r_0 r_1 f_1 (hM.pick 4 [1, 2, 3, 0] (by kernel_rfl) (by decide) rfl) h_r_0 x5 x6 x7 hv8).mono (by rintro e w' ⟨A9, y10, h11, rfl, h'⟩; have h' : Mem w0 (orow A9 r_0.length c_r_0 5 1 y10 :: .blk b1 [.string f_0, vI f_1, vI f_2] 55 :: .blk b_r [.slice A9 r_0.length c_r_0, vI x7] 136 :: Fz F W :: cs) w' := (h'.pick 4 [1, 3, 0, 2] (by kernel_rfl) (by decide) rfl); exact ⟨(A9, y10), h11, rfl, h', trivial⟩)) ?_
  rintro ⟨A9, y10⟩ h11
  refine ops_conv (l' := [(18, .tuple #[vU x5, vI x6]), (17, vI f_1), (15, vP b_r 0), (3, vP b1 0)]) (M' := Mem w0 (orow A9 r_0.length c_r_0 5 1 y10 :: .blk b1 [.string f_0, vI f_1, vI f_2] 55 :: .blk b_r [.slice A9 r_0.length c_r_0, vI x7] 136 :: Fz F W :: cs)) rfl (fun _ h => h) ?_
  refine oR [oF 4, oF 5, oF 6, oF 7, oF 8] [(8, vI x6), (7, vU x5), (3, vP b1 0)] [8, 7, 3] (by kernel_rfl) ?_
  refine ops_nil ?_
  refine fin_then ?_
  refine st_seq ?_
  refine st_seq ?_
  refine st_region [oF 0, oF 1] (by rfl) ?_
  refine oR [oF 0, oF 1] [(22, .bool (!(x6 == 0))), (8, vI x6), (7, vU x5), (3, vP b1 0)] [22, 8, 7, 3] (by kernel_rfl) ?_
  refine ops_nil ?_
  refine fin_then ?_
  refine st_if (b := !(x6 == 0)) rfl (fun hc12 => ?_) (fun hc12 => ?_)
  · --
   have hp := cnd_t hc12 hp
   refine st_seq ?_
   refine st_region [oF 0, oF 1, oF 2] (by rfl) ?_
   refine oR [oF 0, oF 1, oF 2] [(5, vI x6), (4, vI 0)] [5, 4] (by kernel_rfl) ?_
   refine ops_nil ?_
   refine fin_then ?_
   refine st_ret ?_
   refine fin_ret_then ?_
   have hq_ := Option.some.inj hp
   obtain ⟨hr0_, hq_⟩ := Prod.mk.inj hq_
   obtain ⟨hr1_, hq_⟩ := Prod.mk.inj hq_
   have hr2_ := hq_
   subst hr0_
   subst hr1_
   subst hr2_
   refine fin_ret [.tmp 4, .tmp 5] [vI 0, vI x6] rfl rfl (fun w_ hM => (.tmp rfl (.tmp rfl .nil))) (fun w_ hM => ?_)
   exact ⟨A9, y10, h11, rfl, hM.pick 4 [2, 0, 3] (by kernel_rfl) (by decide) rfl⟩
  · --
   have hp := cnd_f hc12 hp
   refine st_skip ?_
   refine fin_then ?_
   refine st_seq ?_
   refine st_region [oF 0, oF 1, oF 2, oF 3, oF 4, oF 5, oF 6] (by rfl) ?_
   refine oR [oF 0] [(24, vP b1 2), (7, vU x5)] [24, 7] (by kernel_rfl) ?_
   refine ops_mem (d := some 25) (an := [.v (vI f_2)]) (evs := [.load ⟨b1, 2, none⟩ (vI f_2)]) (v := vI f_2) (M' := Mem w0 (orow A9 r_0.length c_r_0 5 1 y10 :: .blk b1 [.string f_0, vI f_1, vI f_2] 55 :: .blk b_r [.slice A9 r_0.length c_r_0, vI x7] 136 :: Fz F W :: cs)) ⟨by kernel_rfl⟩ (fun w_ hM hS => ⟨w_, ⟨hM.cell 1 rfl rfl, rfl⟩, hM, trivial⟩) ?_
   refine oR [oF 2, oF 3, oF 4, oF 5, oF 6] [(5, vI 0), (4, vI (IntKind.i64.wrap (f_2 + IntKind.i64.wrap x5)))] [5, 4] (by kernel_rfl) ?_
   refine ops_nil ?_
   refine fin_then ?_
   refine st_ret ?_
   have hq_ := Option.some.inj hp
   obtain ⟨hr0_, hq_⟩ := Prod.mk.inj hq_
   obtain ⟨hr1_, hq_⟩ := Prod.mk.inj hq_
   have hr2_ := hq_
   subst hr0_
   subst hr1_
   subst hr2_
   refine fin_ret [.tmp 4, .tmp 5] [vI (IntKind.i64.wrap (f_2 + IntKind.i64.wrap x5)), vI 0] rfl rfl (fun w_ hM => (.tmp rfl (.tmp rfl .nil))) (fun w_ hM => ?_)
   exact ⟨A9, y10, h11, rfl, hM.pick 4 [2, 0, 3] (by kernel_rfl) (by decide) rfl⟩
set_option maxHeartbeats 4000000 in
set_option maxRecDepth 100000 in
theorem tourref1_Limit_ok (w0 w : World) (cs : List Chunk) (F : Nat → Prop) (W : World) (a : Int) (hM0 : Mem w0 (Fz F W :: cs) w) (i9001 : Int) (hp : tourref1_Limit a = some i9001) : Calls Try.prog 66 #[vI a] w fun e w' => (True) ∧ e = .returned (vI i9001) ∧ Mem w0 (Fz F W :: cs) w' := by
 unfold tourref1_Limit at hp
 refine sx_calls Try.func66 rfl (n := 10) (by kernel_rfl) (l := [(0, vI a)]) rfl (by rfl) hM0 ?_
 refine st_seq ?_
 refine st_region [oF 0] (by rfl) ?_
 refine oR [oF 0] [(0, vI a)] [0] (by kernel_rfl) ?_
 refine ops_nil ?_
 refine fin_then ?_
 refine st_seq ?_
 refine st_block ?_
 refine st_seq ?_
 refine st_region [oF 0, oF 1, oF 2] (by rfl) ?_
 refine oR [oF 0, oF 1, oF 2] [(3, .bool (decide (1099511627776 < a))), (0, vI a)] [3, 0] (by kernel_rfl) ?_
 refine ops_nil ?_
 refine fin_then ?_
 refine st_if (b := decide (1099511627776 < a)) rfl (fun hc1 => ?_) (fun hc1 => ?_)
 · --
  have hp := cnd_t hc1 hp
  refine st_seq ?_
  refine st_region [oF 0] (by rfl) ?_
  refine oR [oF 0] [(2, vI 1099511627776)] [2] (by kernel_rfl) ?_
  refine ops_nil ?_
  refine fin_then ?_
  refine st_ret ?_
  refine fin_ret_block ?_
  refine fin_ret_then ?_
  have hq_ := Option.some.inj hp
  have hr0_ := hq_
  subst hr0_
  refine fin_ret [.tmp 2] [vI 1099511627776] rfl rfl (fun w_ hM => (.tmp rfl .nil)) (fun w_ hM => ?_)
  exact ⟨trivial, rfl, hM⟩
 · --
  have hp := cnd_f hc1 hp
  refine st_seq ?_
  refine st_region [oF 0, oF 1, oF 2] (by rfl) ?_
  refine oR [oF 0, oF 1, oF 2] [(6, .bool (decide (a < (-1099511627776)))), (0, vI a)] [6, 0] (by kernel_rfl) ?_
  refine ops_nil ?_
  refine fin_then ?_
  refine st_if (b := decide (a < (-1099511627776))) rfl (fun hc2 => ?_) (fun hc2 => ?_)
  · --
   have hp := cnd_t hc2 hp
   refine st_seq ?_
   refine st_region [oF 0] (by rfl) ?_
   refine oR [oF 0] [(2, vI (-1099511627776))] [2] (by kernel_rfl) ?_
   refine ops_nil ?_
   refine fin_then ?_
   refine st_ret ?_
   refine fin_ret_block ?_
   refine fin_ret_then ?_
   have hq_ := Option.some.inj hp
   have hr0_ := hq_
   subst hr0_
   refine fin_ret [.tmp 2] [vI (-1099511627776)] rfl rfl (fun w_ hM => (.tmp rfl .nil)) (fun w_ hM => ?_)
   exact ⟨trivial, rfl, hM⟩
  · --
   have hp := cnd_f hc2 hp
   refine st_skip ?_
   refine fin_block ?_
   refine fin_then ?_
   refine st_seq ?_
   refine st_region [oF 0, oF 1] (by rfl) ?_
   refine oR [oF 0, oF 1] [(2, vI a)] [2] (by kernel_rfl) ?_
   refine ops_nil ?_
   refine fin_then ?_
   refine st_ret ?_
   have hq_ := Option.some.inj hp
   have hr0_ := hq_
   subst hr0_
   refine fin_ret [.tmp 2] [vI a] rfl rfl (fun w_ hM => (.tmp rfl .nil)) (fun w_ hM => ?_)
   exact ⟨trivial, rfl, hM⟩
set_option maxHeartbeats 4000000 in
set_option maxRecDepth 100000 in
theorem tourref1_Fitted_ok (w0 w : World) (cs : List Chunk) (F : Nat → Prop) (W : World) (f_0 : ByteArray) (f_1 : Int) (f_2 : Int) (v : Int) (hM0 : Mem w0 (Fz F W :: cs) w) (i9001 : Int) (hp : tourref1_Fitted f_0 f_1 f_2 v = some i9001) : Calls Try.prog 39 #[.agg #[.string f_0, vI f_1, vI f_2], vI v] w fun e w' => (True) ∧ e = .returned (vI i9001) ∧ Mem w0 (Fz F W :: cs) w' := by
 unfold tourref1_Fitted at hp
 refine sx_calls Try.func39 rfl (n := 37) (by kernel_rfl) (l := [(0, .agg #[.string f_0, vI f_1, vI f_2]), (1, vI v)]) rfl (by rfl) hM0 ?_
 refine st_seq ?_
 refine st_region [oF 0, oF 1] (by rfl) ?_
 refine ops_new (d := some 2) (o := .cells #[.string f_0, vI f_1, vI f_2] 55) (v := fun b1 => vP b1 0) (M' := fun b1 => Mem w0 (.blk b1 [.string f_0, vI f_1, vI f_2] 55 :: Fz F W :: cs)) (fun b1 => ⟨by kernel_rfl⟩) (fun w_ hM hS => ⟨hM.blk [.string f_0, vI f_1, vI f_2] 55, trivial⟩) (fun b1 => ?_)
 refine oR [oF 1] [(2, vP b1 0), (1, vI v)] [2, 1] (by kernel_rfl) ?_
 refine ops_nil ?_
 refine fin_then ?_
 refine st_seq ?_
 refine st_region [oF 0, oF 1, oF 2, oF 3] (by rfl) ?_
 refine oR [oF 0] [(8, vP b1 2), (2, vP b1 0), (1, vI v)] [8, 2, 1] (by kernel_rfl) ?_
 refine ops_mem (d := some 9) (an := [.v (vI f_2)]) (evs := [.load ⟨b1, 2, none⟩ (vI f_2)]) (v := vI f_2) (M' := Mem w0 (.blk b1 [.string f_0, vI f_1, vI f_2] 55 :: Fz F W :: cs)) ⟨by kernel_rfl⟩ (fun w_ hM hS => ⟨w_, ⟨hM.cell 0 rfl rfl, rfl⟩, hM, trivial⟩) ?_
 refine oR [] [(9, vI f_2), (2, vP b1 0), (1, vI v)] [9, 2, 1] (by kernel_rfl) ?_
 obtain ⟨x2, hv3, hp⟩ := obind hp
 refine ops_callI (σ := Unit) (d := some 10) (f := 66) (args := #[vI f_2]) (v := (fun _ => vI x2)) (I := (fun _ => True)) (M' := (fun _ => Mem w0 (.blk b1 [.string f_0, vI f_1, vI f_2] 55 :: Fz F W :: cs))) ⟨by kernel_rfl⟩ (fun w_ hM hS => (tourref1_Limit_ok w0 w_ (.blk b1 [.string f_0, vI f_1, vI f_2] 55 :: cs) F W f_2 (hM.pick 2 [1, 0] (by kernel_rfl) (by decide) rfl)  x2 hv3).mono (by rintro e w' ⟨-, rfl, h'⟩; have h' : Mem w0 (.blk b1 [.string f_0, vI f_1, vI f_2] 55 :: Fz F W :: cs) w' := (h'.pick 2 [1, 0] (by kernel_rfl) (by decide) rfl); exact ⟨(), trivial, rfl, h', trivial⟩)) ?_
 rintro _ -
 refine ops_conv (l' := [(10, vI x2), (9, vI f_2), (2, vP b1 0), (1, vI v)]) (M' := Mem w0 (.blk b1 [.string f_0, vI f_1, vI f_2] 55 :: Fz F W :: cs)) rfl (fun _ h => h) ?_
 refine oR [oF 3] [(5, vI x2), (2, vP b1 0), (1, vI v)] [5, 2, 1] (by kernel_rfl) ?_
 refine ops_nil ?_
 refine fin_then ?_
 refine st_seq ?_
 refine st_region [oF 0, oF 1] (by rfl) ?_
 refine oR [oF 0, oF 1] [(6, vI x2), (5, vI x2), (2, vP b1 0), (1, vI v)] [6, 5, 2, 1] (by kernel_rfl) ?_
 refine ops_nil ?_
 refine fin_then ?_
 refine st_join1 (σ := Int) (L := fun x_ => match x_ with | i4 => [(1, vI v), (5, vI x2), (6, vI i4)]) (N := fun x_ => match x_ with | i4 => Mem w0 (Fz F W :: cs)) (I := fun x_ => match x_ with | i4 => ((tourref1_Fitted_j1 v x2) i4 = some i9001)) ?_ ?_
 · --
  rintro i4 hp
  refine st_conv (l' := [(1, vI v), (5, vI x2), (6, vI i4)]) (M' := Mem w0 (Fz F W :: cs)) rfl (fun _ h => h) ?_
  unfold tourref1_Fitted_j1 at hp
  refine st_seq ?_
  refine st_block ?_
  refine st_seq ?_
  refine st_region [oF 0, oF 1, oF 2, oF 3] (by rfl) ?_
  refine oR [oF 0, oF 1, oF 2, oF 3] [(26, .bool (decide (v < x2))), (1, vI v), (5, vI x2), (6, vI i4)] [26, 1, 5, 6] (by kernel_rfl) ?_
  refine ops_nil ?_
  refine fin_then ?_
  refine st_if (b := decide (v < x2)) rfl (fun hc5 => ?_) (fun hc5 => ?_)
  · --
   have hp := cnd_t hc5 hp
   refine st_seq ?_
   refine st_region [oF 0, oF 1] (by rfl) ?_
   refine oR [oF 0, oF 1] [(4, vI x2)] [4] (by kernel_rfl) ?_
   refine ops_nil ?_
   refine fin_then ?_
   refine st_ret ?_
   refine fin_ret_block ?_
   refine fin_ret_then ?_
   have hq_ := Option.some.inj hp
   have hr0_ := hq_
   subst hr0_
   refine fin_ret [.tmp 4] [vI x2] rfl rfl (fun w_ hM => (.tmp rfl .nil)) (fun w_ hM => ?_)
   exact ⟨trivial, rfl, hM⟩
  · --
   have hp := cnd_f hc5 hp
   refine st_seq ?_
   refine st_region [oF 0, oF 1, oF 2, oF 3] (by rfl) ?_
   refine oR [oF 0, oF 1, oF 2, oF 3] [(31, .bool (decide (i4 < v))), (1, vI v), (6, vI i4)] [31, 1, 6] (by kernel_rfl) ?_
   refine ops_nil ?_
   refine fin_then ?_
   refine st_if (b := decide (i4 < v)) rfl (fun hc6 => ?_) (fun hc6 => ?_)
   · --
    have hp := cnd_t hc6 hp
    refine st_seq ?_
    refine st_region [oF 0, oF 1] (by rfl) ?_
    refine oR [oF 0, oF 1] [(4, vI i4)] [4] (by kernel_rfl) ?_
    refine ops_nil ?_
    refine fin_then ?_
    refine st_ret ?_
    refine fin_ret_block ?_
    refine fin_ret_then ?_
    have hq_ := Option.some.inj hp
    have hr0_ := hq_
    subst hr0_
    refine fin_ret [.tmp 4] [vI i4] rfl rfl (fun w_ hM => (.tmp rfl .nil)) (fun w_ hM => ?_)
    exact ⟨trivial, rfl, hM⟩
   · --
    have hp := cnd_f hc6 hp
    refine st_skip ?_
    refine fin_block ?_
    refine fin_then ?_
    refine st_seq ?_
    refine st_region [oF 0, oF 1] (by rfl) ?_
    refine oR [oF 0, oF 1] [(4, vI v)] [4] (by kernel_rfl) ?_
    refine ops_nil ?_
    refine fin_then ?_
    refine st_ret ?_
    have hq_ := Option.some.inj hp
    have hr0_ := hq_
    subst hr0_
    refine fin_ret [.tmp 4] [vI v] rfl rfl (fun w_ hM => (.tmp rfl .nil)) (fun w_ hM => ?_)
    exact ⟨trivial, rfl, hM⟩
 · --
  intro HJ1
  refine st_seq ?_
  refine st_seq ?_
  refine st_region [oF 0] (by rfl) ?_
  refine oR [oF 0] [(7, vI 0), (6, vI x2), (5, vI x2), (2, vP b1 0), (1, vI v)] [7, 6, 5, 2, 1] (by kernel_rfl) ?_
  refine ops_nil ?_
  refine fin_then ?_
  refine st_block ?_
  obtain ⟨r2, hl2, hk2⟩ := obind hp
  refine st_loopP (σ := Int × Int) (ρ := Int) (γ := Unit) hl2 () (fun s_ g_ => match s_, g_ with | (i7, i8), _ => [(1, vI v), (2, vP b1 0), (5, vI x2), (6, vI i7), (7, vI i8)]) (fun s_ g_ => match s_, g_ with | (i7, i8), _ => Mem w0 (.blk b1 [.string f_0, vI f_1, vI f_2] 55 :: Fz F W :: cs)) (fun s_ g_ => match s_, g_ with | (i7, i8), _ => True) trivial (look_has ⟨rfl, rfl, rfl, rfl, rfl, trivial⟩) (fun w_ hM => hM) ?_
  rintro ⟨i7, i8⟩ _ o2 - hs_ hd2
  have hp : (tourref1_Fitted_l2 f_1) i7 i8 = some o2 := hs_
  clear hs_
  unfold tourref1_Fitted_l2 at hp
  refine st_conv (l' := [(1, vI v), (2, vP b1 0), (5, vI x2), (6, vI i7), (7, vI i8)]) (M' := Mem w0 (.blk b1 [.string f_0, vI f_1, vI f_2] 55 :: Fz F W :: cs)) rfl (fun _ h => h) ?_
  refine st_seq ?_
  refine st_seq ?_
  refine st_region [oF 0, oF 1, oF 2, oF 3, oF 4, oF 5, oF 6, oF 7] (by rfl) ?_
  refine oR [oF 0, oF 1] [(13, vP b1 1), (12, vI i8), (1, vI v), (2, vP b1 0), (5, vI x2), (6, vI i7), (7, vI i8)] [13, 12, 1, 2, 5, 6, 7] (by kernel_rfl) ?_
  refine ops_mem (d := some 14) (an := [.v (vI f_1)]) (evs := [.load ⟨b1, 1, none⟩ (vI f_1)]) (v := vI f_1) (M' := Mem w0 (.blk b1 [.string f_0, vI f_1, vI f_2] 55 :: Fz F W :: cs)) ⟨by kernel_rfl⟩ (fun w_ hM hS => ⟨w_, ⟨hM.cell 0 rfl rfl, rfl⟩, hM, trivial⟩) ?_
  refine oR [oF 3, oF 4] [(16, .bool (decide (i8 < f_1))), (1, vI v), (2, vP b1 0), (5, vI x2), (6, vI i7), (7, vI i8)] [16, 1, 2, 5, 6, 7] (by kernel_rfl) ?_
  refine ops_bool (t := decide (i8 < f_1)) (l1 := [(16, .bool true), (1, vI v), (2, vP b1 0), (5, vI x2), (6, vI i7), (7, vI i8)]) (l2 := [(16, .bool false), (1, vI v), (2, vP b1 0), (5, vI x2), (6, vI i7), (7, vI i8)]) (fun h => by rw [h]) (fun h => by rw [h]) (fun hc9 => ?_) (fun hc9 => ?_)
  · --
   have hp := cnd_t hc9 hp
   refine oR [oF 5, oF 6, oF 7] [(19, .bool (decide (i8 < 32))), (1, vI v), (2, vP b1 0), (5, vI x2), (6, vI i7), (7, vI i8)] [19, 1, 2, 5, 6, 7] (by kernel_rfl) ?_
   refine ops_nil ?_
   refine fin_then ?_
   refine st_if (b := decide (i8 < 32)) rfl (fun hc10 => ?_) (fun hc10 => ?_)
   · --
    have hp := cnd_t hc10 hp
    refine st_skip ?_
    refine fin_then ?_
    refine st_seq ?_
    refine st_block ?_
    refine st_region [oF 0, oF 1, oF 2, oF 3, oF 4] (by rfl) ?_
    refine oR [oF 0, oF 1] [(23, vI i8), (22, vI i7), (1, vI v), (2, vP b1 0), (5, vI x2), (6, vI i7), (7, vI i8)] [23, 22, 1, 2, 5, 6, 7] (by kernel_rfl) ?_
    obtain ⟨x11, hv12, hp⟩ := obind hp
    obtain ⟨hb13, he14⟩ := shl_some hv12
    refine ops_val (op := (Go.Op.binOp Go.BinOp.shl 3 (Go.Operand.const (Go.Value.int Go.IntKind.i64 1)) (Go.Operand.tmp 23) 3)) (d := some 24) (v := vI x11) ⟨by kernel_rfl⟩ (by rw [he14]; exact run_shl rfl rfl hb13) ?_
    refine oR [oF 3, oF 4] [(6, vI (IntKind.i64.wrap (i7 + x11))), (1, vI v), (2, vP b1 0), (5, vI x2), (7, vI i8)] [6, 1, 2, 5, 7] (by kernel_rfl) ?_
    refine ops_nil ?_
    refine fin_block ?_
    refine fin_then ?_
    refine st_region [oF 0, oF 1, oF 2] (by rfl) ?_
    refine oR [oF 0, oF 1, oF 2] [(7, vI (IntKind.i64.wrap (i8 + 1))), (6, vI (IntKind.i64.wrap (i7 + x11))), (1, vI v), (2, vP b1 0), (5, vI x2)] [7, 6, 1, 2, 5] (by kernel_rfl) ?_
    refine ops_nil ?_
    exact fin_again (IntKind.i64.wrap (i7 + x11), IntKind.i64.wrap (i8 + 1)) () (Option.some.inj hp).symm trivial (look_has ⟨rfl, rfl, rfl, rfl, rfl, trivial⟩) (fun w_ hM => hM)
   · --
    have hp := cnd_f hc10 hp
    refine st_exit ?_
    refine fin_exit_then ?_
    refine fin_exit_then ?_
    refine fin_exit ?_
    obtain hq_ := Option.some.inj hp
    subst hq_
    obtain hq_ := hd2 _ rfl
    subst hq_
    have hp : (tourref1_Fitted_j1 v x2) i7 = some i9001 := hk2
    exact fin_join HJ1 i7 hp (look_has ⟨rfl, rfl, rfl, trivial⟩) (fun w_ hM => hM.pick 2 [1] (by kernel_rfl) (by decide) rfl)
  · --
   have hp := cnd_f hc9 hp
   refine oR [oF 5, oF 6, oF 7] [(19, .bool false), (1, vI v), (2, vP b1 0), (5, vI x2), (6, vI i7), (7, vI i8)] [19, 1, 2, 5, 6, 7] (by kernel_rfl) ?_
   refine ops_nil ?_
   refine fin_then ?_
   refine st_false rfl ?_
   refine st_exit ?_
   refine fin_exit_then ?_
   refine fin_exit_then ?_
   refine fin_exit ?_
   obtain hq_ := Option.some.inj hp
   subst hq_
   obtain hq_ := hd2 _ rfl
   subst hq_
   have hp : (tourref1_Fitted_j1 v x2) i7 = some i9001 := hk2
   exact fin_join HJ1 i7 hp (look_has ⟨rfl, rfl, rfl, trivial⟩) (fun w_ hM => hM.pick 2 [1] (by kernel_rfl) (by decide) rfl)
def tourref1_FieldIs__t0 : List Row := [⟨0, 8, 2⟩, ⟨1, 16, 8⟩, ⟨2, 32, 16⟩, ⟨4, 64, 32⟩, ⟨8, 128, 66⟩, ⟨24, 256, 192⟩, ⟨40, 512, 320⟩, ⟨72, 1024, 576⟩, ⟨136, 2048, 1024⟩, ⟨256, 4096, 2050⟩, ⟨768, 8192, 6144⟩, ⟨256, 16384, 2050⟩, ⟨2304, 32768, 18432⟩, ⟨4352, 65536, 34816⟩, ⟨9472, 131072, 75776⟩, ⟨16640, 262144, 133120⟩, ⟨65535, 4, 262144⟩]
set_option maxHeartbeats 4000000 in
set_option maxRecDepth 100000 in
theorem tourref1_FieldIs_ok (w0 w : World) (cs : List Chunk) (F : Nat → Prop) (W : World) (f_0 : ByteArray) (f_1 : Int) (f_2 : Int) (hM0 : Mem w0 (Fz F W :: cs) w) (t9001 : Bool) (hp : tourref1_FieldIs f_0 f_1 f_2 = some t9001) : Calls Try.prog 40 #[.agg #[.string f_0, vI f_1, vI f_2]] w fun e w' => (True) ∧ e = .returned (.bool t9001) ∧ Mem w0 (Fz F W :: cs) w' := by
 unfold tourref1_FieldIs at hp
 refine sx_calls Try.func40 rfl (n := 19) (by kernel_rfl) (l := [(0, .agg #[.string f_0, vI f_1, vI f_2])]) rfl (by rfl) hM0 ?_
 refine st_seq ?_
 refine st_region [oF 0, oF 1] (by rfl) ?_
 refine ops_new (d := some 1) (o := .cells #[.string f_0, vI f_1, vI f_2] 55) (v := fun b1 => vP b1 0) (M' := fun b1 => Mem w0 (.blk b1 [.string f_0, vI f_1, vI f_2] 55 :: Fz F W :: cs)) (fun b1 => ⟨by kernel_rfl⟩) (fun w_ hM hS => ⟨hM.blk [.string f_0, vI f_1, vI f_2] 55, trivial⟩) (fun b1 => ?_)
 refine oR [oF 1] [(1, vP b1 0)] [1] (by kernel_rfl) ?_
 refine ops_nil ?_
 refine fin_then ?_
 refine st_join1 (σ := Bool) (L := fun x_ => match x_ with | t2 => [(2, .bool t2)]) (N := fun x_ => match x_ with | t2 => Mem w0 (Fz F W :: cs)) (I := fun x_ => match x_ with | t2 => (tourref1_FieldIs_j1 t2 = some t9001)) ?_ ?_
 · --
  rintro t2 hp
  refine st_conv (l' := [(2, .bool t2)]) (M' := Mem w0 (Fz F W :: cs)) rfl (fun _ h => h) ?_
  unfold tourref1_FieldIs_j1 at hp
  refine st_ret ?_
  have hq_ := Option.some.inj hp
  have hr0_ := hq_
  subst hr0_
  refine fin_ret [.tmp 2] [.bool t2] rfl rfl (fun w_ hM => (.tmp rfl .nil)) (fun w_ hM => ?_)
  exact ⟨trivial, rfl, hM⟩
 · --
  intro HJ1
  refine st_seq ?_
  refine st_region_fast tourref1_FieldIs__t0 [oT 0, oT 1, oT 2, oT 3, oT 4, oT 5, oT 6, oT 7, oT 8, oT 9, oT 10, oT 11, oT 12, oF 13, oT 14, oT 15, oT 16] (Mem w0 (.blk b1 [.string f_0, vI f_1, vI f_2] 55 :: Fz F W :: cs)) (by kernel_rfl) (by kernel_rfl) (by kernel_rfl) (by kernel_rfl) (by kernel_rfl) (fun _ d _ _ _ h => by cases d <;> exact h) (M' := Mem w0 (.blk b1 [.string f_0, vI f_1, vI f_2] 55 :: Fz F W :: cs)) (fun w_ hM => ⟨hM.drew, hM.drew.sub (.cons_cons _ (.cons_cons _ (.refl _)))⟩) ?_
  refine oR [oT 0] [(3, vP b1 1), (1, vP b1 0)] [3, 1] (by kernel_rfl) ?_
  refine ops_load (d := some 4) (an := [.v (vI f_1)]) (evs := [.load ⟨b1, 1, none⟩ (vI f_1)]) (v := vI f_1) ⟨by kernel_rfl⟩ (fun w_ hM => ⟨hM.cell 0 rfl rfl, rfl⟩) ?_
  refine oR [oT 2, oT 3] [(6, .bool (decide (0 ≤ f_1))), (1, vP b1 0)] [6, 1] (by kernel_rfl) ?_
  refine ops_bool (t := decide (0 ≤ f_1)) (l1 := [(6, .bool true), (1, vP b1 0)]) (l2 := [(6, .bool false), (1, vP b1 0)]) (fun h => by rw [h]) (fun h => by rw [h]) (fun hc3 => ?_) (fun hc3 => ?_)
  · --
   have hp := cnd_t hc3 hp
   refine oR [oT 4] [(7, vP b1 1), (6, .bool true), (1, vP b1 0)] [7, 6, 1] (by kernel_rfl) ?_
   refine ops_load (d := some 8) (an := [.v (vI f_1)]) (evs := [.load ⟨b1, 1, none⟩ (vI f_1)]) (v := vI f_1) ⟨by kernel_rfl⟩ (fun w_ hM => ⟨hM.cell 0 rfl rfl, rfl⟩) ?_
   refine oR [oT 6, oT 7, oT 8] [(11, .bool (decide (f_1 ≤ 32))), (1, vP b1 0)] [11, 1] (by kernel_rfl) ?_
   refine ops_bool (t := decide (f_1 ≤ 32)) (l1 := [(11, .bool true), (1, vP b1 0)]) (l2 := [(11, .bool false), (1, vP b1 0)]) (fun h => by rw [h]) (fun h => by rw [h]) (fun hc4 => ?_) (fun hc4 => ?_)
   · --
    have hp := cnd_t hc4 hp
    refine oR [oT 9] [(12, vP b1 2), (11, .bool true), (1, vP b1 0)] [12, 11, 1] (by kernel_rfl) ?_
    refine ops_load (d := some 13) (an := [.v (vI f_2)]) (evs := [.load ⟨b1, 2, none⟩ (vI f_2)]) (v := vI f_2) ⟨by kernel_rfl⟩ (fun w_ hM => ⟨hM.cell 0 rfl rfl, rfl⟩) ?_
    refine oR [oT 11] [(14, vP b1 2), (13, vI f_2), (11, .bool true)] [14, 13, 11] (by kernel_rfl) ?_
    refine ops_load (d := some 15) (an := [.v (vI f_2)]) (evs := [.load ⟨b1, 2, none⟩ (vI f_2)]) (v := vI f_2) ⟨by kernel_rfl⟩ (fun w_ hM => ⟨hM.cell 0 rfl rfl, rfl⟩) ?_
    refine oR [] [(15, vI f_2), (13, vI f_2), (11, .bool true)] [15, 13, 11] (by kernel_rfl) ?_
    obtain ⟨x5, hv6, hp⟩ := obind hp
    refine ops_callI (σ := Unit) (d := some 16) (f := 66) (args := #[vI f_2]) (v := (fun _ => vI x5)) (I := (fun _ => True)) (M' := (fun _ => Mem w0 (.blk b1 [.string f_0, vI f_1, vI f_2] 55 :: Fz F W :: cs))) ⟨by kernel_rfl⟩ (fun w_ hM hS => (tourref1_Limit_ok w0 w_ (.blk b1 [.string f_0, vI f_1, vI f_2] 55 :: cs) F W f_2 (hM.pick 2 [1, 0] (by kernel_rfl) (by decide) rfl)  x5 hv6).mono (by rintro e w' ⟨-, rfl, h'⟩; have h' : Mem w0 (.blk b1 [.string f_0, vI f_1, vI f_2] 55 :: Fz F W :: cs) w' := (h'.pick 2 [1, 0] (by kernel_rfl) (by decide) rfl); exact ⟨(), trivial, rfl, h', (by exact h'.sub (.cons_cons _ (.cons_cons _ (.refl _))))⟩)) ?_
    rintro _ -
    refine ops_conv (l' := [(16, vI x5), (15, vI f_2), (13, vI f_2), (11, .bool true)]) (M' := Mem w0 (.blk b1 [.string f_0, vI f_1, vI f_2] 55 :: Fz F W :: cs)) rfl (fun _ h => h) ?_
    refine oR [oT 14, oT 15, oT 16] [(2, .bool (f_2 == x5))] [2] (by kernel_rfl) ?_
    refine ops_nil ?_
    exact fin_join HJ1 (f_2 == x5) hp (look_has ⟨rfl, trivial⟩) (fun w_ hM => hM.pick 2 [1] (by kernel_rfl) (by decide) rfl)
   · --
    have hp := cnd_f hc4 hp
    refine oR [oT 9, oT 10, oT 11, oT 12, oF 13, oT 14, oT 15, oT 16] [(2, .bool false)] [2] (by kernel_rfl) ?_
    refine ops_nil ?_
    exact fin_join HJ1 false hp (look_has ⟨rfl, trivial⟩) (fun w_ hM => hM.pick 2 [1] (by kernel_rfl) (by decide) rfl)
  · --
   have hp := cnd_f hc3 hp
   refine oR [oT 4, oT 5, oT 6, oT 7, oT 8, oT 9, oT 10, oT 11, oT 12, oF 13, oT 14, oT 15, oT 16] [(2, .bool false)] [2] (by kernel_rfl) ?_
   refine ops_nil ?_
   exact fin_join HJ1 false hp (look_has ⟨rfl, trivial⟩) (fun w_ hM => hM.pick 2 [1] (by kernel_rfl) (by decide) rfl)
end Go.Proofs.Ytfihfbkjomploaa.X
