/- The Go functions come to what the plain functions tell. No condition. -/
import Derived.Test.YthcbepikeinglaaDoorProg
import Derived.Test.YthcbepikeinglaaDoorFnL
import Derived.Test.YthcbepikeinglaaDoorWkL1
import Derived.Test.YthcbepikeinglaaDoorWkL2
namespace Go.Proofs.YthcbepikeinglaaDoor.L
open Go Go.RowKit Go.Proofs.YthcbepikeinglaaDoor.Sx
set_option linter.unusedVariables false
set_option maxHeartbeats 4000000 in
set_option maxRecDepth 100000 in
theorem tourref3_Nearest_ok (w0 w : World) (cs : List Chunk) (F : Nat → Prop) (W : World) (f_0 : ByteArray) (f_1 : Int) (f_2 : Int) (v : Int) (hM0 : Mem w0 (Fz F W :: cs) w) (i9001 : Int) (hp : tourref3_Nearest f_0 f_1 f_2 v = some i9001) : Calls Tryd.prog 13 #[.agg #[.string f_0, vI f_1, vI f_2], vI v] w fun e w' => (True) ∧ e = .returned (vI i9001) ∧ Mem w0 (Fz F W :: cs) w' := by
 unfold tourref3_Nearest at hp
 refine sx_calls Tryd.func13 rfl (n := 24) (by kernel_rfl) (l := [(0, .agg #[.string f_0, vI f_1, vI f_2]), (1, vI v)]) rfl (by rfl) hM0 ?_
 refine st_seq ?_
 refine st_region [oF 0, oF 1] (by rfl) ?_
 refine ops_new (d := some 2) (o := .cells #[.string f_0, vI f_1, vI f_2] 23) (v := fun b1 => vP b1 0) (M' := fun b1 => Mem w0 (.blk b1 [.string f_0, vI f_1, vI f_2] 23 :: Fz F W :: cs)) (fun b1 => ⟨by kernel_rfl⟩) (fun w_ hM hS => ⟨hM.blk [.string f_0, vI f_1, vI f_2] 23, trivial⟩) (fun b1 => ?_)
 refine oR [oF 1] [(2, vP b1 0), (1, vI v)] [2, 1] (by kernel_rfl) ?_
 refine ops_nil ?_
 refine fin_then ?_
 refine st_seq ?_
 refine st_block ?_
 refine st_seq ?_
 refine st_region [oF 0, oF 1, oF 2, oF 3] (by rfl) ?_
 refine ops_mem (d := some 6) (an := [.v (.string f_0), .v (vI f_1), .v (vI f_2)]) (evs := [.load ⟨b1, 0, none⟩ (.string f_0), .load ⟨b1, 1, none⟩ (vI f_1), .load ⟨b1, 2, none⟩ (vI f_2)]) (v := .agg #[.string f_0, vI f_1, vI f_2]) (M' := Mem w0 (.blk b1 [.string f_0, vI f_1, vI f_2] 23 :: Fz F W :: cs)) ⟨by kernel_rfl⟩ (fun w_ hM hS => ⟨w_, ⟨hM.cell 0 rfl rfl, hM.cell 0 rfl rfl, hM.cell 0 rfl rfl, rfl⟩, hM, trivial⟩) ?_
 obtain ⟨x2, hv3, hp⟩ := obind hp
 refine ops_callI (σ := Unit) (d := some 7) (f := 10) (args := #[.agg #[.string f_0, vI f_1, vI f_2]]) (v := (fun _ => .bool x2)) (I := (fun _ => True)) (M' := (fun _ => Mem w0 (.blk b1 [.string f_0, vI f_1, vI f_2] 23 :: Fz F W :: cs))) ⟨by kernel_rfl⟩ (fun w_ hM hS => (tourref3_FieldOK_ok w0 w_ (.blk b1 [.string f_0, vI f_1, vI f_2] 23 :: cs) F W f_0 f_1 f_2 (hM.pick 2 [1, 0] (by kernel_rfl) (by decide) rfl)  x2 hv3).mono (by rintro e w' ⟨-, rfl, h'⟩; have h' : Mem w0 (.blk b1 [.string f_0, vI f_1, vI f_2] 23 :: Fz F W :: cs) w' := (h'.pick 2 [1, 0] (by kernel_rfl) (by decide) rfl); exact ⟨(), trivial, rfl, h', trivial⟩)) ?_
 rintro _ -
 refine ops_conv (l' := [(7, .bool x2), (6, .agg #[.string f_0, vI f_1, vI f_2]), (2, vP b1 0), (1, vI v)]) (M' := Mem w0 (.blk b1 [.string f_0, vI f_1, vI f_2] 23 :: Fz F W :: cs)) rfl (fun _ h => h) ?_
 refine oR [oF 2, oF 3] [(5, .bool (!x2)), (2, vP b1 0), (1, vI v)] [5, 2, 1] (by kernel_rfl) ?_
 refine ops_nil ?_
 refine fin_then ?_
 refine st_if (b := !x2) rfl (fun hc4 => ?_) (fun hc4 => ?_)
 · --
  have hp := cnd_t hc4 hp
  refine st_seq ?_
  refine st_region [oF 0] (by rfl) ?_
  refine oR [oF 0] [(4, vI 0)] [4] (by kernel_rfl) ?_
  refine ops_nil ?_
  refine fin_then ?_
  refine st_ret ?_
  refine fin_ret_block ?_
  refine fin_ret_then ?_
  have hq_ := Option.some.inj hp
  have hr0_ := hq_
  subst hr0_
  refine fin_ret [.tmp 4] [vI 0] rfl rfl (fun w_ hM => (.tmp rfl .nil)) (fun w_ hM => ?_)
  exact ⟨trivial, rfl, hM.pick 2 [1] (by kernel_rfl) (by decide) rfl⟩
 · --
  have hp := cnd_f hc4 hp
  refine st_seq ?_
  refine st_region [oF 0, oF 1, oF 2, oF 3, oF 4] (by rfl) ?_
  refine oR [oF 0, oF 1] [(11, vP b1 2), (10, vI v), (2, vP b1 0), (1, vI v)] [11, 10, 2, 1] (by kernel_rfl) ?_
  refine ops_mem (d := some 12) (an := [.v (vI f_2)]) (evs := [.load ⟨b1, 2, none⟩ (vI f_2)]) (v := vI f_2) (M' := Mem w0 (.blk b1 [.string f_0, vI f_1, vI f_2] 23 :: Fz F W :: cs)) ⟨by kernel_rfl⟩ (fun w_ hM hS => ⟨w_, ⟨hM.cell 0 rfl rfl, rfl⟩, hM, trivial⟩) ?_
  refine oR [oF 3, oF 4] [(9, .bool (decide (v < f_2))), (2, vP b1 0), (1, vI v)] [9, 2, 1] (by kernel_rfl) ?_
  refine ops_nil ?_
  refine fin_then ?_
  refine st_if (b := decide (v < f_2)) rfl (fun hc5 => ?_) (fun hc5 => ?_)
  · --
   have hp := cnd_t hc5 hp
   refine st_seq ?_
   refine st_region [oF 0, oF 1, oF 2] (by rfl) ?_
   refine oR [oF 0] [(14, vP b1 2)] [14] (by kernel_rfl) ?_
   refine ops_mem (d := some 15) (an := [.v (vI f_2)]) (evs := [.load ⟨b1, 2, none⟩ (vI f_2)]) (v := vI f_2) (M' := Mem w0 (.blk b1 [.string f_0, vI f_1, vI f_2] 23 :: Fz F W :: cs)) ⟨by kernel_rfl⟩ (fun w_ hM hS => ⟨w_, ⟨hM.cell 0 rfl rfl, rfl⟩, hM, trivial⟩) ?_
   refine oR [oF 2] [(4, vI f_2)] [4] (by kernel_rfl) ?_
   refine ops_nil ?_
   refine fin_then ?_
   refine st_ret ?_
   refine fin_ret_block ?_
   refine fin_ret_then ?_
   have hq_ := Option.some.inj hp
   have hr0_ := hq_
   subst hr0_
   refine fin_ret [.tmp 4] [vI f_2] rfl rfl (fun w_ hM => (.tmp rfl .nil)) (fun w_ hM => ?_)
   exact ⟨trivial, rfl, hM.pick 2 [1] (by kernel_rfl) (by decide) rfl⟩
  · --
   have hp := cnd_f hc5 hp
   refine st_seq ?_
   refine st_region [oF 0, oF 1, oF 2, oF 3, oF 4] (by rfl) ?_
   refine oR [oF 0] [(17, vI v), (2, vP b1 0), (1, vI v)] [17, 2, 1] (by kernel_rfl) ?_
   refine ops_mem (d := some 18) (an := [.v (.string f_0), .v (vI f_1), .v (vI f_2)]) (evs := [.load ⟨b1, 0, none⟩ (.string f_0), .load ⟨b1, 1, none⟩ (vI f_1), .load ⟨b1, 2, none⟩ (vI f_2)]) (v := .agg #[.string f_0, vI f_1, vI f_2]) (M' := Mem w0 (.blk b1 [.string f_0, vI f_1, vI f_2] 23 :: Fz F W :: cs)) ⟨by kernel_rfl⟩ (fun w_ hM hS => ⟨w_, ⟨hM.cell 0 rfl rfl, hM.cell 0 rfl rfl, hM.cell 0 rfl rfl, rfl⟩, hM, trivial⟩) ?_
   obtain ⟨x6, hv7, hp⟩ := obind hp
   refine ops_callI (σ := Unit) (d := some 19) (f := 11) (args := #[.agg #[.string f_0, vI f_1, vI f_2]]) (v := (fun _ => vI x6)) (I := (fun _ => True)) (M' := (fun _ => Mem w0 (.blk b1 [.string f_0, vI f_1, vI f_2] 23 :: Fz F W :: cs))) ⟨by kernel_rfl⟩ (fun w_ hM hS => (tourref3_Top_ok w0 w_ (.blk b1 [.string f_0, vI f_1, vI f_2] 23 :: cs) F W f_0 f_1 f_2 (hM.pick 2 [1, 0] (by kernel_rfl) (by decide) rfl)  x6 hv7).mono (by rintro e w' ⟨-, rfl, h'⟩; have h' : Mem w0 (.blk b1 [.string f_0, vI f_1, vI f_2] 23 :: Fz F W :: cs) w' := (h'.pick 2 [1, 0] (by kernel_rfl) (by decide) rfl); exact ⟨(), trivial, rfl, h', trivial⟩)) ?_
   rintro _ -
   refine ops_conv (l' := [(19, vI x6), (18, .agg #[.string f_0, vI f_1, vI f_2]), (17, vI v), (2, vP b1 0), (1, vI v)]) (M' := Mem w0 (.blk b1 [.string f_0, vI f_1, vI f_2] 23 :: Fz F W :: cs)) rfl (fun _ h => h) ?_
   refine oR [oF 3, oF 4] [(16, .bool (decide (x6 < v))), (2, vP b1 0), (1, vI v)] [16, 2, 1] (by kernel_rfl) ?_
   refine ops_nil ?_
   refine fin_then ?_
   refine st_if (b := decide (x6 < v)) rfl (fun hc8 => ?_) (fun hc8 => ?_)
   · --
    have hp := cnd_t hc8 hp
    refine st_seq ?_
    refine st_region [oF 0, oF 1, oF 2] (by rfl) ?_
    refine oR [] [(2, vP b1 0)] [2] (by kernel_rfl) ?_
    refine ops_mem (d := some 21) (an := [.v (.string f_0), .v (vI f_1), .v (vI f_2)]) (evs := [.load ⟨b1, 0, none⟩ (.string f_0), .load ⟨b1, 1, none⟩ (vI f_1), .load ⟨b1, 2, none⟩ (vI f_2)]) (v := .agg #[.string f_0, vI f_1, vI f_2]) (M' := Mem w0 (.blk b1 [.string f_0, vI f_1, vI f_2] 23 :: Fz F W :: cs)) ⟨by kernel_rfl⟩ (fun w_ hM hS => ⟨w_, ⟨hM.cell 0 rfl rfl, hM.cell 0 rfl rfl, hM.cell 0 rfl rfl, rfl⟩, hM, trivial⟩) ?_
    refine oR [] [(21, .agg #[.string f_0, vI f_1, vI f_2])] [21] (by kernel_rfl) ?_
    obtain ⟨x9, hv10, hp⟩ := obind hp
    refine ops_callI (σ := Unit) (d := some 22) (f := 11) (args := #[.agg #[.string f_0, vI f_1, vI f_2]]) (v := (fun _ => vI x9)) (I := (fun _ => True)) (M' := (fun _ => Mem w0 (.blk b1 [.string f_0, vI f_1, vI f_2] 23 :: Fz F W :: cs))) ⟨by kernel_rfl⟩ (fun w_ hM hS => (tourref3_Top_ok w0 w_ (.blk b1 [.string f_0, vI f_1, vI f_2] 23 :: cs) F W f_0 f_1 f_2 (hM.pick 2 [1, 0] (by kernel_rfl) (by decide) rfl)  x9 hv10).mono (by rintro e w' ⟨-, rfl, h'⟩; have h' : Mem w0 (.blk b1 [.string f_0, vI f_1, vI f_2] 23 :: Fz F W :: cs) w' := (h'.pick 2 [1, 0] (by kernel_rfl) (by decide) rfl); exact ⟨(), trivial, rfl, h', trivial⟩)) ?_
    rintro _ -
    refine ops_conv (l' := [(22, vI x9), (21, .agg #[.string f_0, vI f_1, vI f_2])]) (M' := Mem w0 (.blk b1 [.string f_0, vI f_1, vI f_2] 23 :: Fz F W :: cs)) rfl (fun _ h => h) ?_
    refine oR [oF 2] [(4, vI x9)] [4] (by kernel_rfl) ?_
    refine ops_nil ?_
    refine fin_then ?_
    refine st_ret ?_
    refine fin_ret_block ?_
    refine fin_ret_then ?_
    have hq_ := Option.some.inj hp
    have hr0_ := hq_
    subst hr0_
    refine fin_ret [.tmp 4] [vI x9] rfl rfl (fun w_ hM => (.tmp rfl .nil)) (fun w_ hM => ?_)
    exact ⟨trivial, rfl, hM.pick 2 [1] (by kernel_rfl) (by decide) rfl⟩
   · --
    have hp := cnd_f hc8 hp
    refine st_skip ?_
    refine fin_block ?_
    refine fin_then ?_
    refine st_seq ?_
    refine st_region [oF 0, oF 1] (by rfl) ?_
    refine oR [oF 0, oF 1] [(4, vI v)] [4] (by kernel_rfl) ?_
    refine ops_nil ?_
    refine fin_then ?_
    refine st_ret ?_
    have hq_ := Option.some.inj hp
    have hr0_ := hq_
    subst hr0_
    refine fin_ret [.tmp 4] [vI v] rfl rfl (fun w_ hM => (.tmp rfl .nil)) (fun w_ hM => ?_)
    exact ⟨trivial, rfl, hM.pick 2 [1] (by kernel_rfl) (by decide) rfl⟩
def tourref3_Fitted__t0 : List Row := [⟨0, 33554432, 128⟩, ⟨0, 67108864, 4⟩, ⟨2, 134217728, 67108864⟩, ⟨0, 268435456, 256⟩, ⟨12, 536870912, 402653184⟩, ⟨16, 1073741824, 536870912⟩, ⟨0, 2147483648, 2⟩, ⟨0, 4294967296, 256⟩, ⟨192, 8589934592, 6442450944⟩, ⟨256, 17179869184, 8589934592⟩, ⟨544, 34359738368, 18253611008⟩, ⟨1024, 68719476736, 34359738368⟩, ⟨3073, 137438953472, 68753031168⟩, ⟨8191, 128, 137438953472⟩]
set_option maxHeartbeats 4000000 in
set_option maxRecDepth 100000 in
theorem tourref3_Fitted_ok (w0 w : World) (cs : List Chunk) (F : Nat → Prop) (W : World) (k_0 : ByteArray) (A_k_1 : Option Addr) (c_k_1 : Nat) (k_1 : List api_Field) (A_vals : Option Addr) (c_vals : Nat) (vals : List Int) (hM0 : Mem w0 (Fz F W :: cs) w) (h_k_1 : RdS R_api_Field F W A_k_1 c_k_1 k_1) (h_vals : RdS (Rep.int .i64) F W A_vals c_vals vals) (l9003 : List Int) (i9006 : Int) (hp : tourref3_Fitted k_0 k_1 vals = some (l9003, i9006)) : Calls Tryd.prog 16 #[.agg #[.string k_0, .slice A_k_1 k_1.length c_k_1], .slice A_vals vals.length c_vals] w fun e w' => ∃ (A9001 : Option Addr), ∃ (c9002 : Nat), ∃ (y9004 : List Value), ((RepL (Rep.int .i64) F W l9003 y9004)) ∧ e = .returned (.tuple #[.slice A9001 l9003.length c9002, vI i9006]) ∧ Mem w0 (orow A9001 l9003.length c9002 3 1 y9004 :: Fz F W :: cs) w' := by
 unfold tourref3_Fitted at hp
 refine sx_calls Tryd.func16 rfl (n := 40) (by kernel_rfl) (l := [(0, .agg #[.string k_0, .slice A_k_1 k_1.length c_k_1]), (1, .slice A_vals vals.length c_vals)]) rfl (by rfl) hM0 ?_
 refine st_seq ?_
 refine st_region [oF 0, oF 1, oF 2] (by rfl) ?_
 refine ops_new (d := some 2) (o := .cells #[.string k_0, .slice A_k_1 k_1.length c_k_1] 27) (v := fun b1 => vP b1 0) (M' := fun b1 => Mem w0 (.blk b1 [.string k_0, .slice A_k_1 k_1.length c_k_1] 27 :: Fz F W :: cs)) (fun b1 => ⟨by kernel_rfl⟩) (fun w_ hM hS => ⟨hM.blk [.string k_0, .slice A_k_1 k_1.length c_k_1] 27, trivial⟩) (fun b1 => ?_)
 refine oR [oF 1, oF 2] [(2, vP b1 0), (1, .slice A_vals vals.length c_vals)] [2, 1] (by kernel_rfl) ?_
 refine ops_nil ?_
 refine fin_then ?_
 refine st_seq ?_
 refine st_seq ?_
 refine st_region [oF 0, oF 1, oF 2] (by rfl) ?_
 refine ops_mem (d := some 9) (an := [.v (.string k_0), .v (.slice A_k_1 k_1.length c_k_1)]) (evs := [.load ⟨b1, 0, none⟩ (.string k_0), .load ⟨b1, 1, none⟩ (.slice A_k_1 k_1.length c_k_1)]) (v := .agg #[.string k_0, .slice A_k_1 k_1.length c_k_1]) (M' := Mem w0 (.blk b1 [.string k_0, .slice A_k_1 k_1.length c_k_1] 27 :: Fz F W :: cs)) ⟨by kernel_rfl⟩ (fun w_ hM hS => ⟨w_, ⟨hM.cell 0 rfl rfl, hM.cell 0 rfl rfl, rfl⟩, hM, trivial⟩) ?_
 obtain ⟨x2, hv3, hp⟩ := obind hp
 refine ops_callI (σ := Unit) (d := some 10) (f := 21) (args := #[.agg #[.string k_0, .slice A_k_1 k_1.length c_k_1]]) (v := (fun _ => vI x2)) (I := (fun _ => True)) (M' := (fun _ => Mem w0 (.blk b1 [.string k_0, .slice A_k_1 k_1.length c_k_1] 27 :: Fz F W :: cs))) ⟨by kernel_rfl⟩ (fun w_ hM hS => (tourref3_KindError_ok w0 w_ (.blk b1 [.string k_0, .slice A_k_1 k_1.length c_k_1] 27 :: cs) F W k_0 A_k_1 c_k_1 k_1 (hM.pick 2 [1, 0] (by kernel_rfl) (by decide) rfl) h_k_1 x2 hv3).mono (by rintro e w' ⟨-, rfl, h'⟩; have h' : Mem w0 (.blk b1 [.string k_0, .slice A_k_1 k_1.length c_k_1] 27 :: Fz F W :: cs) w' := (h'.pick 2 [1, 0] (by kernel_rfl) (by decide) rfl); exact ⟨(), trivial, rfl, h', trivial⟩)) ?_
 rintro _ -
 refine ops_conv (l' := [(10, vI x2), (9, .agg #[.string k_0, .slice A_k_1 k_1.length c_k_1]), (2, vP b1 0), (1, .slice A_vals vals.length c_vals)]) (M' := Mem w0 (.blk b1 [.string k_0, .slice A_k_1 k_1.length c_k_1] 27 :: Fz F W :: cs)) rfl (fun _ h => h) ?_
 refine oR [oF 2] [(6, vI x2), (2, vP b1 0), (1, .slice A_vals vals.length c_vals)] [6, 2, 1] (by kernel_rfl) ?_
 refine ops_nil ?_
 refine fin_then ?_
 refine st_seq ?_
 refine st_region [oF 0, oF 1] (by rfl) ?_
 refine oR [oF 0, oF 1] [(12, .bool (!(x2 == 0))), (6, vI x2), (2, vP b1 0), (1, .slice A_vals vals.length c_vals)] [12, 6, 2, 1] (by kernel_rfl) ?_
 refine ops_nil ?_
 refine fin_then ?_
 refine st_if (b := !(x2 == 0)) rfl (fun hc4 => ?_) (fun hc4 => ?_)
 · --
  have hp := cnd_t hc4 hp
  refine st_seq ?_
  refine st_region [oF 0, oF 1, oF 2] (by rfl) ?_
  refine oR [oF 0, oF 1, oF 2] [(5, vI x2), (4, .slice none 0 0)] [5, 4] (by kernel_rfl) ?_
  refine ops_nil ?_
  refine fin_then ?_
  refine st_ret ?_
  refine fin_ret_then ?_
  refine fin_conv (l' := [(5, vI x2), (4, .slice none 0 0)]) (M' := Mem w0 (orow none ([] : List Int).length 0 3 1 [] :: .blk b1 [.string k_0, .slice A_k_1 k_1.length c_k_1] 27 :: Fz F W :: cs)) rfl (fun w_ h => h.onil none 3 1) ?_
  refine fin_conv (l' := [(5, vI x2), (4, .slice none ([] : List Int).length 0)]) (M' := Mem w0 (orow none ([] : List Int).length 0 3 1 [] :: .blk b1 [.string k_0, .slice A_k_1 k_1.length c_k_1] 27 :: Fz F W :: cs)) rfl (fun _ h => h) ?_
  have hq_ := Option.some.inj hp
  obtain ⟨hr0_, hq_⟩ := Prod.mk.inj hq_
  have hr1_ := hq_
  subst hr0_
  subst hr1_
  refine fin_ret [.tmp 4, .tmp 5] [.slice none ([] : List Int).length 0, vI x2] rfl rfl (fun w_ hM => (.tmp rfl (.tmp rfl .nil))) (fun w_ hM => ?_)
  exact ⟨none, 0, [], (RepL.nil (R := (Rep.int .i64))), rfl, hM.pick 3 [0, 2] (by kernel_rfl) (by decide) rfl⟩
 · --
  have hp := cnd_f hc4 hp
  refine st_skip ?_
  refine fin_then ?_
  refine st_seq ?_
  refine st_seq ?_
  refine st_region [oF 0, oF 1, oF 2, oF 3, oF 4, oF 5] (by rfl) ?_
  refine oR [oF 0, oF 1, oF 2] [(16, vP b1 1), (15, vI (vals.length : Int)), (2, vP b1 0), (1, .slice A_vals vals.length c_vals)] [16, 15, 2, 1] (by kernel_rfl) ?_
  refine ops_mem (d := some 17) (an := [.v (.slice A_k_1 k_1.length c_k_1)]) (evs := [.load ⟨b1, 1, none⟩ (.slice A_k_1 k_1.length c_k_1)]) (v := .slice A_k_1 k_1.length c_k_1) (M' := Mem w0 (.blk b1 [.string k_0, .slice A_k_1 k_1.length c_k_1] 27 :: Fz F W :: cs)) ⟨by kernel_rfl⟩ (fun w_ hM hS => ⟨w_, ⟨hM.cell 0 rfl rfl, rfl⟩, hM, trivial⟩) ?_
  refine oR [oF 4, oF 5] [(19, .bool (!((vals.length : Int) == (k_1.length : Int)))), (2, vP b1 0), (1, .slice A_vals vals.length c_vals)] [19, 2, 1] (by kernel_rfl) ?_
  refine ops_nil ?_
  refine fin_then ?_
  refine st_if (b := !((vals.length : Int) == (k_1.length : Int))) rfl (fun hc5 => ?_) (fun hc5 => ?_)
  · --
   have hp := cnd_t hc5 hp
   refine st_seq ?_
   refine st_region [oF 0, oF 1] (by rfl) ?_
   refine oR [oF 0, oF 1] [(5, vI 1), (4, .slice none 0 0)] [5, 4] (by kernel_rfl) ?_
   refine ops_nil ?_
   refine fin_then ?_
   refine st_ret ?_
   refine fin_ret_then ?_
   refine fin_conv (l' := [(5, vI 1), (4, .slice none 0 0)]) (M' := Mem w0 (orow none ([] : List Int).length 0 3 1 [] :: .blk b1 [.string k_0, .slice A_k_1 k_1.length c_k_1] 27 :: Fz F W :: cs)) rfl (fun w_ h => h.onil none 3 1) ?_
   refine fin_conv (l' := [(5, vI 1), (4, .slice none ([] : List Int).length 0)]) (M' := Mem w0 (orow none ([] : List Int).length 0 3 1 [] :: .blk b1 [.string k_0, .slice A_k_1 k_1.length c_k_1] 27 :: Fz F W :: cs)) rfl (fun _ h => h) ?_
   have hq_ := Option.some.inj hp
   obtain ⟨hr0_, hq_⟩ := Prod.mk.inj hq_
   have hr1_ := hq_
   subst hr0_
   subst hr1_
   refine fin_ret [.tmp 4, .tmp 5] [.slice none ([] : List Int).length 0, vI 1] rfl rfl (fun w_ hM => (.tmp rfl (.tmp rfl .nil))) (fun w_ hM => ?_)
   exact ⟨none, 0, [], (RepL.nil (R := (Rep.int .i64))), rfl, hM.pick 3 [0, 2] (by kernel_rfl) (by decide) rfl⟩
  · --
   have hp := cnd_f hc5 hp
   refine st_skip ?_
   refine fin_then ?_
   refine st_seq ?_
   refine st_region [oF 0] (by rfl) ?_
   refine oR [oF 0] [(7, .slice none 0 0), (2, vP b1 0), (1, .slice A_vals vals.length c_vals)] [7, 2, 1] (by kernel_rfl) ?_
   refine ops_nil ?_
   refine fin_then ?_
   refine st_join1 (σ := (Option Addr) × Nat × (List Int) × (List Value)) (L := fun x_ => match x_ with | (A6, c7, l8, y9) => [(7, .slice A6 l8.length c7)]) (N := fun x_ => match x_ with | (A6, c7, l8, y9) => Mem w0 (orow A6 l8.length c7 3 1 y9 :: Fz F W :: cs)) (I := fun x_ => match x_ with | (A6, c7, l8, y9) => (tourref3_Fitted_j1 l8 = some (l9003, i9006)) ∧ (RepL (Rep.int .i64) F W l8 y9)) ?_ ?_
   · --
    rintro ⟨A6, c7, l8, y9⟩ ⟨hp, h10⟩
    refine st_conv (l' := [(7, .slice A6 l8.length c7)]) (M' := Mem w0 (orow A6 l8.length c7 3 1 y9 :: Fz F W :: cs)) rfl (fun _ h => h) ?_
    unfold tourref3_Fitted_j1 at hp
    refine st_seq ?_
    refine st_region [oF 0, oF 1, oF 2] (by rfl) ?_
    refine oR [oF 0, oF 1, oF 2] [(5, vI 0), (4, .slice A6 l8.length c7)] [5, 4] (by kernel_rfl) ?_
    refine ops_nil ?_
    refine fin_then ?_
    refine st_ret ?_
    have hq_ := Option.some.inj hp
    obtain ⟨hr0_, hq_⟩ := Prod.mk.inj hq_
    have hr1_ := hq_
    subst hr0_
    subst hr1_
    refine fin_ret [.tmp 4, .tmp 5] [.slice A6 l8.length c7, vI 0] rfl rfl (fun w_ hM => (.tmp rfl (.tmp rfl .nil))) (fun w_ hM => ?_)
    exact ⟨A6, c7, y9, h10, rfl, hM⟩
   · --
    intro HJ1
    refine st_seq ?_
    refine st_seq ?_
    refine st_region [oF 0, oF 1, oF 2] (by rfl) ?_
    refine oR [oF 0, oF 1, oF 2] [(22, vI 0), (21, vI (vals.length : Int)), (7, .slice none 0 0), (2, vP b1 0), (1, .slice A_vals vals.length c_vals)] [22, 21, 7, 2, 1] (by kernel_rfl) ?_
    refine ops_nil ?_
    refine fin_then ?_
    refine st_block ?_
    refine st_conv (l' := [(22, vI 0), (21, vI (vals.length : Int)), (7, .slice none 0 0), (2, vP b1 0), (1, .slice A_vals vals.length c_vals)]) (M' := Mem w0 (orow none ([] : List Int).length 0 3 1 [] :: .blk b1 [.string k_0, .slice A_k_1 k_1.length c_k_1] 27 :: Fz F W :: cs)) rfl (fun w_ h => h.onil none 3 1) ?_
    refine st_conv (l' := [(22, vI 0), (21, vI (vals.length : Int)), (7, .slice none ([] : List Int).length 0), (2, vP b1 0), (1, .slice A_vals vals.length c_vals)]) (M' := Mem w0 (orow none ([] : List Int).length 0 3 1 [] :: .blk b1 [.string k_0, .slice A_k_1 k_1.length c_k_1] 27 :: Fz F W :: cs)) rfl (fun _ h => h) ?_
    obtain ⟨r2, hl2, hk2⟩ := obind hp
    refine st_loopP (σ := (List Int) × Int) (ρ := (List Int)) (γ := (Option Addr) × Nat × (List Value)) hl2 (none, 0, []) (fun s_ g_ => match s_, g_ with | (l13, i16), (A11, c12, y14) => [(1, .slice A_vals vals.length c_vals), (2, vP b1 0), (7, .slice A11 l13.length c12), (21, vI (vals.length : Int)), (22, vI i16)]) (fun s_ g_ => match s_, g_ with | (l13, i16), (A11, c12, y14) => Mem w0 (.blk b1 [.string k_0, .slice A_k_1 k_1.length c_k_1] 27 :: orow A11 l13.length c12 3 1 y14 :: Fz F W :: cs)) (fun s_ g_ => match s_, g_ with | (l13, i16), (A11, c12, y14) => (RepL (Rep.int .i64) F W l13 y14)) (RepL.nil (R := (Rep.int .i64))) (look_has ⟨rfl, rfl, rfl, rfl, rfl, trivial⟩) (fun w_ hM => hM.pick 3 [1, 0, 2] (by kernel_rfl) (by decide) rfl) ?_
    rintro ⟨l13, i16⟩ ⟨A11, c12, y14⟩ o2 h15 hs_ hd2
    have hp : (tourref3_Fitted_l2 vals k_1) l13 i16 = some o2 := hs_
    clear hs_
    unfold tourref3_Fitted_l2 at hp
    refine st_conv (l' := [(1, .slice A_vals vals.length c_vals), (2, vP b1 0), (7, .slice A11 l13.length c12), (21, vI (vals.length : Int)), (22, vI i16)]) (M' := Mem w0 (.blk b1 [.string k_0, .slice A_k_1 k_1.length c_k_1] 27 :: orow A11 l13.length c12 3 1 y14 :: Fz F W :: cs)) rfl (fun _ h => h) ?_
    refine st_seq ?_
    refine st_region [oF 0] (by rfl) ?_
    refine oR [oF 0] [(23, .bool (decide (i16 < (vals.length : Int)))), (1, .slice A_vals vals.length c_vals), (2, vP b1 0), (7, .slice A11 l13.length c12), (21, vI (vals.length : Int)), (22, vI i16)] [23, 1, 2, 7, 21, 22] (by kernel_rfl) ?_
    refine ops_nil ?_
    refine fin_then ?_
    refine st_seq ?_
    refine st_if (b := decide (i16 < (vals.length : Int))) rfl (fun hc17 => ?_) (fun hc17 => ?_)
    · --
     have hp := cnd_t hc17 hp
     refine st_skip ?_
     refine fin_then ?_
     refine st_seq ?_
     refine st_block ?_
     refine st_seq ?_
     refine st_region [oF 0, oF 1] (by rfl) ?_
     refine oR [oF 0, oF 1] [(8, vI i16), (1, .slice A_vals vals.length c_vals), (2, vP b1 0), (7, .slice A11 l13.length c12), (21, vI (vals.length : Int)), (22, vI i16)] [8, 1, 2, 7, 21, 22] (by kernel_rfl) ?_
     refine ops_nil ?_
     refine fin_then ?_
     refine st_region_fast tourref3_Fitted__t0 [oT 0, oT 1, oT 2, oT 3, oT 4, oT 5, oT 6, oT 7, oT 8, oT 9, oF 10, oF 11, oF 12, oT 13] (Mem w0 (.blk b1 [.string k_0, .slice A_k_1 k_1.length c_k_1] 27 :: Fz F W :: cs)) (by kernel_rfl) (by kernel_rfl) (by kernel_rfl) (by kernel_rfl) (by kernel_rfl) (fun _ d _ _ _ h => by cases d <;> exact h) (M' := Mem w0 (.blk b1 [.string k_0, .slice A_k_1 k_1.length c_k_1] 27 :: orow A11 l13.length c12 3 1 y14 :: Fz F W :: cs)) (fun w_ hM => ⟨hM.drew, hM.drew.sub (.cons_cons _ (.cons _ (.cons_cons _ (.refl _))))⟩) ?_
     refine oR [oT 0, oT 1] [(26, vP b1 1), (25, .slice A11 l13.length c12), (8, vI i16), (1, .slice A_vals vals.length c_vals), (2, vP b1 0), (7, .slice A11 l13.length c12), (21, vI (vals.length : Int)), (22, vI i16)] [26, 25, 8, 1, 2, 7, 21, 22] (by kernel_rfl) ?_
     refine ops_load (d := some 27) (an := [.v (.slice A_k_1 k_1.length c_k_1)]) (evs := [.load ⟨b1, 1, none⟩ (.slice A_k_1 k_1.length c_k_1)]) (v := .slice A_k_1 k_1.length c_k_1) ⟨by kernel_rfl⟩ (fun w_ hM => ⟨hM.cell 0 rfl rfl, rfl⟩) ?_
     refine oR [oT 3] [(28, vI i16), (27, .slice A_k_1 k_1.length c_k_1), (25, .slice A11 l13.length c12), (8, vI i16), (1, .slice A_vals vals.length c_vals), (2, vP b1 0), (7, .slice A11 l13.length c12), (21, vI (vals.length : Int)), (22, vI i16)] [28, 27, 25, 8, 1, 2, 7, 21, 22] (by kernel_rfl) ?_
     obtain ⟨x18, hv19, hp⟩ := obind hp
     obtain ⟨m20, hm21, hx22⟩ := idx_some hv19
     have hl25 := (List.getElem?_eq_some_iff.1 hx22).1
     obtain ⟨ad26, vs23, hA27, hr24, hq28⟩ := RdS.el h_k_1 hx22
     obtain rfl := dec_api_Field hr24
     refine ops_val (op := (Go.Op.indexAddr 25 (Go.Operand.tmp 27) (Go.Operand.tmp 28))) (d := some 29) (v := .pointer (some (ad26.add (m20 * 3)))) ⟨by kernel_rfl⟩ (run_indexA hA27 Tryd.underlying25 (z := 3) (by kernel_rfl) rfl rfl hm21 hl25) ?_
     refine oR [] [(29, .pointer (some (ad26.add (m20 * 3)))), (25, .slice A11 l13.length c12), (8, vI i16), (1, .slice A_vals vals.length c_vals), (2, vP b1 0), (7, .slice A11 l13.length c12), (21, vI (vals.length : Int)), (22, vI i16)] [29, 25, 8, 1, 2, 7, 21, 22] (by kernel_rfl) ?_
     refine ops_load (d := some 30) (an := [.v (.string x18.Name), .v (vI x18.Bits), .v (vI x18.Low)]) (evs := [.load (ad26.add (m20 * 3)) (.string x18.Name), .load ((ad26.add (m20 * 3)).add 1) (vI x18.Bits), .load ((ad26.add (m20 * 3)).add 2) (vI x18.Low)]) (v := .agg #[.string x18.Name, vI x18.Bits, vI x18.Low]) ⟨by kernel_rfl⟩ (fun w_ hM => ⟨hM.elcell 1 rfl hq28 0 rfl, hM.elcell 1 rfl hq28 1 rfl, hM.elcell 1 rfl hq28 2 rfl, rfl⟩) ?_
     refine oR [oT 6, oT 7] [(32, vI i16), (31, .slice A_vals vals.length c_vals), (30, .agg #[.string x18.Name, vI x18.Bits, vI x18.Low]), (25, .slice A11 l13.length c12), (1, .slice A_vals vals.length c_vals), (2, vP b1 0), (7, .slice A11 l13.length c12), (21, vI (vals.length : Int)), (22, vI i16)] [32, 31, 30, 25, 1, 2, 7, 21, 22] (by kernel_rfl) ?_
     obtain ⟨x29, hv30, hp⟩ := obind hp
     obtain ⟨m31, hm32, hx33⟩ := idx_some hv30
     have hl36 := (List.getElem?_eq_some_iff.1 hx33).1
     obtain ⟨ad37, vs34, hA38, hr35, hq39⟩ := RdS.el h_vals hx33
     obtain rfl := hr35
     refine ops_val (op := (Go.Op.indexAddr 33 (Go.Operand.tmp 31) (Go.Operand.tmp 32))) (d := some 33) (v := .pointer (some (ad37.add (m31 * 1)))) ⟨by kernel_rfl⟩ (run_indexA hA38 Tryd.underlying33 (z := 1) (by kernel_rfl) rfl rfl hm32 hl36) ?_
     refine oR [] [(33, .pointer (some (ad37.add (m31 * 1)))), (30, .agg #[.string x18.Name, vI x18.Bits, vI x18.Low]), (25, .slice A11 l13.length c12), (1, .slice A_vals vals.length c_vals), (2, vP b1 0), (7, .slice A11 l13.length c12), (21, vI (vals.length : Int)), (22, vI i16)] [33, 30, 25, 1, 2, 7, 21, 22] (by kernel_rfl) ?_
     refine ops_load (d := some 34) (an := [.v (vI x29)]) (evs := [.load (ad37.add (m31 * 1)) (vI x29)]) (v := vI x29) ⟨by kernel_rfl⟩ (fun w_ hM => ⟨hM.elcell 1 rfl hq39 0 rfl, rfl⟩) ?_
     refine oR [] [(34, vI x29), (30, .agg #[.string x18.Name, vI x18.Bits, vI x18.Low]), (25, .slice A11 l13.length c12), (1, .slice A_vals vals.length c_vals), (2, vP b1 0), (7, .slice A11 l13.length c12), (21, vI (vals.length : Int)), (22, vI i16)] [34, 30, 25, 1, 2, 7, 21, 22] (by kernel_rfl) ?_
     obtain ⟨x40, hv41, hp⟩ := obind hp
     refine ops_callI (σ := Unit) (d := some 35) (f := 13) (args := #[.agg #[.string x18.Name, vI x18.Bits, vI x18.Low], vI x29]) (v := (fun _ => vI x40)) (I := (fun _ => True)) (M' := (fun _ => Mem w0 (.blk b1 [.string k_0, .slice A_k_1 k_1.length c_k_1] 27 :: orow A11 l13.length c12 3 1 y14 :: Fz F W :: cs))) ⟨by kernel_rfl⟩ (fun w_ hM hS => (tourref3_Nearest_ok w0 w_ (.blk b1 [.string k_0, .slice A_k_1 k_1.length c_k_1] 27 :: orow A11 l13.length c12 3 1 y14 :: cs) F W x18.Name x18.Bits x18.Low x29 (hM.pick 3 [2, 0, 1] (by kernel_rfl) (by decide) rfl)  x40 hv41).mono (by rintro e w' ⟨-, rfl, h'⟩; have h' : Mem w0 (.blk b1 [.string k_0, .slice A_k_1 k_1.length c_k_1] 27 :: orow A11 l13.length c12 3 1 y14 :: Fz F W :: cs) w' := (h'.pick 3 [1, 2, 0] (by kernel_rfl) (by decide) rfl); exact ⟨(), trivial, rfl, h', (by exact h'.sub (.cons_cons _ (.cons _ (.cons_cons _ (.refl _)))))⟩)) ?_
     rintro _ -
     refine ops_conv (l' := [(35, vI x40), (34, vI x29), (30, .agg #[.string x18.Name, vI x18.Bits, vI x18.Low]), (25, .slice A11 l13.length c12), (1, .slice A_vals vals.length c_vals), (2, vP b1 0), (7, .slice A11 l13.length c12), (21, vI (vals.length : Int)), (22, vI i16)]) (M' := Mem w0 (.blk b1 [.string k_0, .slice A_k_1 k_1.length c_k_1] 27 :: orow A11 l13.length c12 3 1 y14 :: Fz F W :: cs)) rfl (fun _ h => h) ?_
     refine oR [] [(35, vI x40), (25, .slice A11 l13.length c12), (1, .slice A_vals vals.length c_vals), (2, vP b1 0), (7, .slice A11 l13.length c12), (21, vI (vals.length : Int)), (22, vI i16)] [35, 25, 1, 2, 7, 21, 22] (by kernel_rfl) ?_
     have h42 : RepL (Rep.int .i64) F W ([x40] : List Int) ([vI x40]) := (RepL.cons (R := (Rep.int .i64)) (F := F) (w := W) (vs := [vI x40]) (ys := []) rfl RepL.nil)
     refine ops_new (d := some 36) (o := .cells ([vI x40]).toArray 3) (v := fun g43 => .slice (some ⟨g43, 0, none⟩) ([x40] : List Int).length 1) (M' := fun g43 => Mem w0 (orow (some ⟨g43, 0, none⟩) ([x40] : List Int).length 1 3 1 ([vI x40]) :: .blk b1 [.string k_0, .slice A_k_1 k_1.length c_k_1] 27 :: orow A11 l13.length c12 3 1 y14 :: Fz F W :: cs)) (fun g43 => ⟨by kernel_rfl⟩) (fun w_ hM hS => ⟨hM.onew [vI x40] 3 1 1 rfl (by decide), hS.alloc _⟩) (fun g43 => ?_)
     refine oR [] [(36, .slice (some ⟨g43, 0, none⟩) ([x40] : List Int).length 1), (25, .slice A11 l13.length c12), (1, .slice A_vals vals.length c_vals), (2, vP b1 0), (7, .slice A11 l13.length c12), (21, vI (vals.length : Int)), (22, vI i16)] [36, 25, 1, 2, 7, 21, 22] (by kernel_rfl) ?_
     obtain ⟨l44, hv45, hp⟩ := obind hp
     obtain ⟨he46, hb47⟩ := app_some hv45
     obtain ⟨y48, hy49⟩ : ∃ y_, y14 ++ ([vI x40]) = y_ := ⟨_, rfl⟩
     have h50 : RepL (Rep.int .i64) F W l44 y48 := by rw [he46, ← hy49]; exact RepL.app h15 h42
     refine ops_appendO (x := (Go.Operand.tmp 25)) (y := (Go.Operand.tmp 36)) (t := 33) (e := 3) (d := some 37) (n' := l44.length) (z := 1) (m := ([x40] : List Int).length) (bytes := 8) (xs' := y48) (news := ([vI x40])) (zv := vI 0) 2 ⟨by kernel_rfl⟩ rfl rfl Tryd.underlying33 (by kernel_rfl) (by rfl) rfl (fun w_ hM => hM.srcO 0 rfl) h42.len h42.one hb47 (by have z_ := congrArg List.length he46; rw [List.length_append] at z_; exact z_.symm) hy49 (fun _ _ _ _ hS h' => (by exact h'.sub (.cons _ (.cons_cons _ (.cons _ (.cons_cons _ (.refl _))))))) ?_
     rintro ⟨A51, c52⟩
     refine ops_conv (l' := [(37, .slice A51 l44.length c52), (36, .slice (some ⟨g43, 0, none⟩) ([x40] : List Int).length 1), (25, .slice A11 l13.length c12), (1, .slice A_vals vals.length c_vals), (2, vP b1 0), (7, .slice A11 l13.length c12), (21, vI (vals.length : Int)), (22, vI i16)]) (M' := Mem w0 (orow (some ⟨g43, 0, none⟩) ([x40] : List Int).length 1 3 1 ([vI x40]) :: .blk b1 [.string k_0, .slice A_k_1 k_1.length c_k_1] 27 :: orow A51 l44.length c52 3 1 y48 :: Fz F W :: cs)) rfl (fun _ h => h) ?_
     refine oR [oT 13] [(7, .slice A51 l44.length c52), (1, .slice A_vals vals.length c_vals), (2, vP b1 0), (21, vI (vals.length : Int)), (22, vI i16)] [7, 1, 2, 21, 22] (by kernel_rfl) ?_
     refine ops_nil ?_
     refine fin_block ?_
     refine fin_then ?_
     refine st_region [oF 0, oF 1] (by rfl) ?_
     refine oR [oF 0, oF 1] [(22, vI (IntKind.i64.wrap (i16 + 1))), (7, .slice A51 l44.length c52), (1, .slice A_vals vals.length c_vals), (2, vP b1 0), (21, vI (vals.length : Int))] [22, 7, 1, 2, 21] (by kernel_rfl) ?_
     refine ops_nil ?_
     exact fin_again (l44, IntKind.i64.wrap (i16 + 1)) (A51, c52, y48) (Option.some.inj hp).symm h50 (look_has ⟨rfl, rfl, rfl, rfl, rfl, trivial⟩) (fun w_ hM => hM.pick 4 [1, 2, 3] (by kernel_rfl) (by decide) rfl)
    · --
     have hp := cnd_f hc17 hp
     refine st_exit ?_
     refine fin_exit_then ?_
     refine fin_exit_then ?_
     refine fin_exit ?_
     obtain hq_ := Option.some.inj hp
     subst hq_
     obtain hq_ := hd2 _ rfl
     subst hq_
     have hp : tourref3_Fitted_j1 l13 = some (l9003, i9006) := hk2
     exact fin_join HJ1 (A11, c12, l13, y14) ⟨hp, h15⟩ (look_has ⟨rfl, trivial⟩) (fun w_ hM => hM.pick 3 [1, 2] (by kernel_rfl) (by decide) rfl)
set_option maxHeartbeats 4000000 in
set_option maxRecDepth 100000 in
theorem kind_Holds_ok (w0 w : World) (cs : List Chunk) (F : Nat → Prop) (W : World) (k_0 : ByteArray) (A_k_1 : Option Addr) (c_k_1 : Nat) (k_1 : List api_Field) (A_vals : Option Addr) (c_vals : Nat) (vals : List Int) (hM0 : Mem w0 (Fz F W :: cs) w) (h_k_1 : RdS R_api_Field F W A_k_1 c_k_1 k_1) (h_vals : RdS (Rep.int .i64) F W A_vals c_vals vals) (t9001 : Bool) (hp : kind_Holds k_0 k_1 vals = some t9001) : Calls Tryd.prog 17 #[.agg #[.string k_0, .slice A_k_1 k_1.length c_k_1], .slice A_vals vals.length c_vals] w fun e w' => (True) ∧ e = .returned (.bool t9001) ∧ Mem w0 (Fz F W :: cs) w' := by
 unfold kind_Holds at hp
 refine sx_calls Tryd.func17 rfl (n := 31) (by kernel_rfl) (l := [(0, .agg #[.string k_0, .slice A_k_1 k_1.length c_k_1]), (1, .slice A_vals vals.length c_vals)]) rfl (by rfl) hM0 ?_
 refine st_seq ?_
 refine st_region [oF 0, oF 1] (by rfl) ?_
 refine ops_new (d := some 2) (o := .cells #[.string k_0, .slice A_k_1 k_1.length c_k_1] 27) (v := fun b1 => vP b1 0) (M' := fun b1 => Mem w0 (.blk b1 [.string k_0, .slice A_k_1 k_1.length c_k_1] 27 :: Fz F W :: cs)) (fun b1 => ⟨by kernel_rfl⟩) (fun w_ hM hS => ⟨hM.blk [.string k_0, .slice A_k_1 k_1.length c_k_1] 27, trivial⟩) (fun b1 => ?_)
 refine oR [oF 1] [(2, vP b1 0), (1, .slice A_vals vals.length c_vals)] [2, 1] (by kernel_rfl) ?_
 refine ops_nil ?_
 refine fin_then ?_
 refine st_seq ?_
 refine st_region [oF 0, oF 1, oF 2, oF 3, oF 4, oF 5, oF 6, oF 7] (by rfl) ?_
 refine ops_mem (d := some 9) (an := [.v (.string k_0), .v (.slice A_k_1 k_1.length c_k_1)]) (evs := [.load ⟨b1, 0, none⟩ (.string k_0), .load ⟨b1, 1, none⟩ (.slice A_k_1 k_1.length c_k_1)]) (v := .agg #[.string k_0, .slice A_k_1 k_1.length c_k_1]) (M' := Mem w0 (.blk b1 [.string k_0, .slice A_k_1 k_1.length c_k_1] 27 :: Fz F W :: cs)) ⟨by kernel_rfl⟩ (fun w_ hM hS => ⟨w_, ⟨hM.cell 0 rfl rfl, hM.cell 0 rfl rfl, rfl⟩, hM, trivial⟩) ?_
 refine oR [oF 1] [(10, .slice A_vals vals.length c_vals), (9, .agg #[.string k_0, .slice A_k_1 k_1.length c_k_1]), (1, .slice A_vals vals.length c_vals)] [10, 9, 1] (by kernel_rfl) ?_
 obtain ⟨x2, x3, hv4, hp⟩ := obind2 hp
 refine ops_callI (σ := (Option Addr) × Nat × (List Value)) (d := some 11) (f := 14) (args := #[.agg #[.string k_0, .slice A_k_1 k_1.length c_k_1], .slice A_vals vals.length c_vals]) (v := (fun x_ => match x_ with | (A5, c6, y7) => .tuple #[.slice A5 x2.length c6, vI x3])) (I := (fun x_ => match x_ with | (A5, c6, y7) => (RepL (Rep.int .i64) F W x2 y7))) (M' := (fun x_ => match x_ with | (A5, c6, y7) => Mem w0 (orow A5 x2.length c6 3 1 y7 :: .blk b1 [.string k_0, .slice A_k_1 k_1.length c_k_1] 27 :: Fz F W :: cs))) ⟨by kernel_rfl⟩ (fun w_ hM hS => (kind_Fit_ok w0 w_ (.blk b1 [.string k_0, .slice A_k_1 k_1.length c_k_1] 27 :: cs) F W k_0 A_k_1 c_k_1 k_1 A_vals c_vals vals (hM.pick 2 [1, 0] (by kernel_rfl) (by decide) rfl) h_k_1 h_vals x2 x3 hv4).mono (by rintro e w' ⟨A5, c6, y7, h8, rfl, h'⟩; have h' : Mem w0 (orow A5 x2.length c6 3 1 y7 :: .blk b1 [.string k_0, .slice A_k_1 k_1.length c_k_1] 27 :: Fz F W :: cs) w' := (h'.pick 3 [0, 2, 1] (by kernel_rfl) (by decide) rfl); exact ⟨(A5, c6, y7), h8, rfl, h', trivial⟩)) ?_
 rintro ⟨A5, c6, y7⟩ h8
 refine ops_conv (l' := [(11, .tuple #[.slice A5 x2.length c6, vI x3]), (10, .slice A_vals vals.length c_vals), (9, .agg #[.string k_0, .slice A_k_1 k_1.length c_k_1]), (1, .slice A_vals vals.length c_vals)]) (M' := Mem w0 (orow A5 x2.length c6 3 1 y7 :: .blk b1 [.string k_0, .slice A_k_1 k_1.length c_k_1] 27 :: Fz F W :: cs)) rfl (fun _ h => h) ?_
 refine oR [oF 3, oF 4, oF 5, oF 6, oF 7] [(6, vI x3), (5, .slice A5 x2.length c6), (1, .slice A_vals vals.length c_vals)] [6, 5, 1] (by kernel_rfl) ?_
 refine ops_nil ?_
 refine fin_then ?_
 refine st_seq ?_
 refine st_seq ?_
 refine st_region [oF 0, oF 1] (by rfl) ?_
 refine oR [oF 0, oF 1] [(15, .bool (!(x3 == 0))), (5, .slice A5 x2.length c6), (1, .slice A_vals vals.length c_vals)] [15, 5, 1] (by kernel_rfl) ?_
 refine ops_nil ?_
 refine fin_then ?_
 refine st_if (b := !(x3 == 0)) rfl (fun hc9 => ?_) (fun hc9 => ?_)
 · --
  have hp := cnd_t hc9 hp
  refine st_seq ?_
  refine st_region [oF 0] (by rfl) ?_
  refine oR [oF 0] [(4, .bool false)] [4] (by kernel_rfl) ?_
  refine ops_nil ?_
  refine fin_then ?_
  refine st_ret ?_
  refine fin_ret_then ?_
  have hq_ := Option.some.inj hp
  have hr0_ := hq_
  subst hr0_
  refine fin_ret [.tmp 4] [.bool false] rfl rfl (fun w_ hM => (.tmp rfl .nil)) (fun w_ hM => ?_)
  exact ⟨trivial, rfl, hM.pick 3 [2] (by kernel_rfl) (by decide) rfl⟩
 · --
  have hp := cnd_f hc9 hp
  refine st_skip ?_
  refine fin_then ?_
  refine st_join1 (σ := Unit) (L := fun _ => []) (N := fun _ => Mem w0 (Fz F W :: cs)) (I := fun _ => (kind_Holds_j1 = some t9001)) ?_ ?_
  · --
   rintro _ hp
   refine st_conv (l' := []) (M' := Mem w0 (Fz F W :: cs)) rfl (fun _ h => h) ?_
   unfold kind_Holds_j1 at hp
   refine st_seq ?_
   refine st_region [oF 0] (by rfl) ?_
   refine oR [oF 0] [(4, .bool true)] [4] (by kernel_rfl) ?_
   refine ops_nil ?_
   refine fin_then ?_
   refine st_ret ?_
   have hq_ := Option.some.inj hp
   have hr0_ := hq_
   subst hr0_
   refine fin_ret [.tmp 4] [.bool true] rfl rfl (fun w_ hM => (.tmp rfl .nil)) (fun w_ hM => ?_)
   exact ⟨trivial, rfl, hM⟩
  · --
   intro HJ1
   refine st_seq ?_
   refine st_seq ?_
   refine st_region [oF 0, oF 1, oF 2] (by rfl) ?_
   refine oR [oF 0, oF 1, oF 2] [(18, vI 0), (17, vI (x2.length : Int)), (5, .slice A5 x2.length c6), (1, .slice A_vals vals.length c_vals)] [18, 17, 5, 1] (by kernel_rfl) ?_
   refine ops_nil ?_
   refine fin_then ?_
   refine st_block ?_
   obtain ⟨r2, hl2, hk2⟩ := obind hp
   refine st_loopP (σ := Int) (ρ := (Bool ⊕ Unit)) (γ := Unit) hl2 () (fun s_ g_ => match s_, g_ with | i10, _ => [(1, .slice A_vals vals.length c_vals), (5, .slice A5 x2.length c6), (17, vI (x2.length : Int)), (18, vI i10)]) (fun s_ g_ => match s_, g_ with | i10, _ => Mem w0 (orow A5 x2.length c6 3 1 y7 :: Fz F W :: cs)) (fun s_ g_ => match s_, g_ with | i10, _ => True) trivial (look_has ⟨rfl, rfl, rfl, rfl, trivial⟩) (fun w_ hM => hM.pick 3 [0, 2] (by kernel_rfl) (by decide) rfl) ?_
   rintro i10 _ o2 - hs_ hd2
   have hp : (kind_Holds_l2 x2 vals) i10 = some o2 := hs_
   clear hs_
   unfold kind_Holds_l2 at hp
   refine st_conv (l' := [(1, .slice A_vals vals.length c_vals), (5, .slice A5 x2.length c6), (17, vI (x2.length : Int)), (18, vI i10)]) (M' := Mem w0 (orow A5 x2.length c6 3 1 y7 :: Fz F W :: cs)) rfl (fun _ h => h) ?_
   refine st_seq ?_
   refine st_region [oF 0] (by rfl) ?_
   refine oR [oF 0] [(19, .bool (decide (i10 < (x2.length : Int)))), (1, .slice A_vals vals.length c_vals), (5, .slice A5 x2.length c6), (17, vI (x2.length : Int)), (18, vI i10)] [19, 1, 5, 17, 18] (by kernel_rfl) ?_
   refine ops_nil ?_
   refine fin_then ?_
   refine st_seq ?_
   refine st_if (b := decide (i10 < (x2.length : Int))) rfl (fun hc11 => ?_) (fun hc11 => ?_)
   · --
    have hp := cnd_t hc11 hp
    refine st_skip ?_
    refine fin_then ?_
    refine st_seq ?_
    refine st_block ?_
    refine st_seq ?_
    refine st_region [oF 0, oF 1] (by rfl) ?_
    refine oR [oF 0, oF 1] [(7, vI i10), (1, .slice A_vals vals.length c_vals), (5, .slice A5 x2.length c6), (17, vI (x2.length : Int)), (18, vI i10)] [7, 1, 5, 17, 18] (by kernel_rfl) ?_
    refine ops_nil ?_
    refine fin_then ?_
    refine st_seq ?_
    refine st_region_draw [oT 0, oT 1, oT 2, oT 3, oT 4, oT 5, oT 6, oT 7, oT 8] (Mem w0 (orow A5 x2.length c6 3 1 y7 :: Fz F W :: cs)) (by kernel_rfl) (by kernel_rfl) (by kernel_rfl) (fun _ d _ _ _ h => by cases d <;> exact h) (M' := Mem w0 (orow A5 x2.length c6 3 1 y7 :: Fz F W :: cs)) (fun w_ hM => ⟨hM.drew, hM.drew.sub (.cons_cons _ (.cons_cons _ (.refl _)))⟩) ?_
    refine oR [oT 0, oT 1] [(22, vI i10), (21, .slice A5 x2.length c6), (7, vI i10), (1, .slice A_vals vals.length c_vals), (5, .slice A5 x2.length c6), (17, vI (x2.length : Int)), (18, vI i10)] [22, 21, 7, 1, 5, 17, 18] (by kernel_rfl) ?_
    obtain ⟨x12, hv13, hp⟩ := obind hp
    obtain ⟨m14, hm15, hx16⟩ := idx_some hv13
    have hl19 := (List.getElem?_eq_some_iff.1 hx16).1
    refine ops_fact (fun w_ hM => hM.orowSome 0 rfl (Nat.lt_of_le_of_lt (Nat.zero_le _) hl19)) ?_
    rintro ⟨g20, rfl, -⟩
    obtain ⟨vs17, hr18, hq21⟩ := h8.at_ m14 x12 hx16
    obtain rfl := hr18
    refine ops_val (op := (Go.Op.indexAddr 33 (Go.Operand.tmp 21) (Go.Operand.tmp 22))) (d := some 23) (v := vP g20 (m14 * 1)) ⟨by kernel_rfl⟩ (run_indexRow Tryd.underlying33 (z := 1) (by kernel_rfl) rfl rfl hm15 hl19 rfl) ?_
    refine oR [] [(23, vP g20 (m14 * 1)), (7, vI i10), (1, .slice A_vals vals.length c_vals), (5, .slice (some ⟨g20, 0, none⟩) x2.length c6), (17, vI (x2.length : Int)), (18, vI i10)] [23, 7, 1, 5, 17, 18] (by kernel_rfl) ?_
    refine ops_load (d := some 24) (an := [.v (vI x12)]) (evs := [.load ⟨g20, m14 * 1, none⟩ (vI x12)]) (v := vI x12) ⟨by kernel_rfl⟩ (fun w_ hM => ⟨hM.ocell 0 rfl (hq21 0 _ rfl), rfl⟩) ?_
    refine oR [oT 4, oT 5] [(26, vI i10), (25, .slice A_vals vals.length c_vals), (24, vI x12), (1, .slice A_vals vals.length c_vals), (5, .slice (some ⟨g20, 0, none⟩) x2.length c6), (17, vI (x2.length : Int)), (18, vI i10)] [26, 25, 24, 1, 5, 17, 18] (by kernel_rfl) ?_
    obtain ⟨x22, hv23, hp⟩ := obind hp
    obtain ⟨m24, hm25, hx26⟩ := idx_some hv23
    have hl29 := (List.getElem?_eq_some_iff.1 hx26).1
    obtain ⟨ad30, vs27, hA31, hr28, hq32⟩ := RdS.el h_vals hx26
    obtain rfl := hr28
    refine ops_val (op := (Go.Op.indexAddr 33 (Go.Operand.tmp 25) (Go.Operand.tmp 26))) (d := some 27) (v := .pointer (some (ad30.add (m24 * 1)))) ⟨by kernel_rfl⟩ (run_indexA hA31 Tryd.underlying33 (z := 1) (by kernel_rfl) rfl rfl hm25 hl29) ?_
    refine oR [] [(27, .pointer (some (ad30.add (m24 * 1)))), (24, vI x12), (1, .slice A_vals vals.length c_vals), (5, .slice (some ⟨g20, 0, none⟩) x2.length c6), (17, vI (x2.length : Int)), (18, vI i10)] [27, 24, 1, 5, 17, 18] (by kernel_rfl) ?_
    refine ops_load (d := some 28) (an := [.v (vI x22)]) (evs := [.load (ad30.add (m24 * 1)) (vI x22)]) (v := vI x22) ⟨by kernel_rfl⟩ (fun w_ hM => ⟨hM.elcell 1 rfl hq32 0 rfl, rfl⟩) ?_
    refine oR [oT 8] [(29, .bool (!(x12 == x22))), (1, .slice A_vals vals.length c_vals), (5, .slice (some ⟨g20, 0, none⟩) x2.length c6), (17, vI (x2.length : Int)), (18, vI i10)] [29, 1, 5, 17, 18] (by kernel_rfl) ?_
    refine ops_nil ?_
    refine fin_then ?_
    refine st_if (b := !(x12 == x22)) rfl (fun hc33 => ?_) (fun hc33 => ?_)
    · --
     have hp := cnd_t hc33 hp
     refine st_seq ?_
     refine st_region [oF 0] (by rfl) ?_
     refine oR [oF 0] [(4, .bool false)] [4] (by kernel_rfl) ?_
     refine ops_nil ?_
     refine fin_then ?_
     refine st_ret ?_
     refine fin_ret_block ?_
     refine fin_ret_then ?_
     refine fin_ret_then ?_
     refine fin_ret_block ?_
     refine fin_ret_then ?_
     obtain hq_ := Option.some.inj hp
     subst hq_
     obtain hq_ := hd2 _ rfl
     subst hq_
     have hp : some false = some t9001 := hk2
     have hq_ := Option.some.inj hp
     have hr0_ := hq_
     subst hr0_
     refine fin_ret [.tmp 4] [.bool false] rfl rfl (fun w_ hM => (.tmp rfl .nil)) (fun w_ hM => ?_)
     exact ⟨trivial, rfl, hM.pick 2 [1] (by kernel_rfl) (by decide) rfl⟩
    · --
     have hp := cnd_f hc33 hp
     refine st_skip ?_
     refine fin_block ?_
     refine fin_then ?_
     refine st_region [oF 0, oF 1] (by rfl) ?_
     refine oR [oF 0, oF 1] [(18, vI (IntKind.i64.wrap (i10 + 1))), (1, .slice A_vals vals.length c_vals), (5, .slice (some ⟨g20, 0, none⟩) x2.length c6), (17, vI (x2.length : Int))] [18, 1, 5, 17] (by kernel_rfl) ?_
     refine ops_nil ?_
     exact fin_again (IntKind.i64.wrap (i10 + 1)) () (Option.some.inj hp).symm trivial (look_has ⟨rfl, rfl, rfl, rfl, trivial⟩) (fun w_ hM => hM)
   · --
    have hp := cnd_f hc11 hp
    refine st_exit ?_
    refine fin_exit_then ?_
    refine fin_exit_then ?_
    refine fin_exit ?_
    obtain hq_ := Option.some.inj hp
    subst hq_
    obtain hq_ := hd2 _ rfl
    subst hq_
    have hp : kind_Holds_j1 = some t9001 := hk2
    exact fin_join HJ1 () hp (look_has trivial) (fun w_ hM => hM.pick 2 [1] (by kernel_rfl) (by decide) rfl)
set_option maxHeartbeats 4000000 in
set_option maxRecDepth 100000 in
theorem kind_Find_ok (w0 w : World) (cs : List Chunk) (F : Nat → Prop) (W : World) (A_l : Option Addr) (c_l : Nat) (l : List api_Kind) (name : ByteArray) (hM0 : Mem w0 (Fz F W :: cs) w) (h_l : RdS R_api_Kind F W A_l c_l l) (i9001 : Int) (hp : kind_Find l name = some i9001) : Calls Tryd.prog 29 #[.slice A_l l.length c_l, .string name] w fun e w' => (True) ∧ e = .returned (vI i9001) ∧ Mem w0 (Fz F W :: cs) w' := by
 unfold kind_Find at hp
 refine sx_calls Tryd.func29 rfl (n := 20) (by kernel_rfl) (l := [(0, .slice A_l l.length c_l), (1, .string name)]) rfl (by rfl) hM0 ?_
 refine st_seq ?_
 refine st_region [oF 0] (by rfl) ?_
 refine oR [oF 0] [(0, .slice A_l l.length c_l), (1, .string name)] [0, 1] (by kernel_rfl) ?_
 refine ops_nil ?_
 refine fin_then ?_
 refine st_join1 (σ := Unit) (L := fun _ => []) (N := fun _ => Mem w0 (Fz F W :: cs)) (I := fun _ => (kind_Find_j1 = some i9001)) ?_ ?_
 · --
  rintro _ hp
  refine st_conv (l' := []) (M' := Mem w0 (Fz F W :: cs)) rfl (fun _ h => h) ?_
  unfold kind_Find_j1 at hp
  refine st_seq ?_
  refine st_region [oF 0] (by rfl) ?_
  refine oR [oF 0] [(4, vI (-1))] [4] (by kernel_rfl) ?_
  refine ops_nil ?_
  refine fin_then ?_
  refine st_ret ?_
  have hq_ := Option.some.inj hp
  have hr0_ := hq_
  subst hr0_
  refine fin_ret [.tmp 4] [vI (-1)] rfl rfl (fun w_ hM => (.tmp rfl .nil)) (fun w_ hM => ?_)
  exact ⟨trivial, rfl, hM⟩
 · --
  intro HJ1
  refine st_seq ?_
  refine st_seq ?_
  refine st_region [oF 0, oF 1, oF 2] (by rfl) ?_
  refine oR [oF 0, oF 1, oF 2] [(9, vI 0), (8, vI (l.length : Int)), (7, .slice A_l l.length c_l), (1, .string name)] [9, 8, 7, 1] (by kernel_rfl) ?_
  refine ops_nil ?_
  refine fin_then ?_
  refine st_block ?_
  obtain ⟨r2, hl2, hk2⟩ := obind hp
  refine st_loopP (σ := Int) (ρ := (Int ⊕ Unit)) (γ := Unit) hl2 () (fun s_ g_ => match s_, g_ with | i1, _ => [(1, .string name), (7, .slice A_l l.length c_l), (8, vI (l.length : Int)), (9, vI i1)]) (fun s_ g_ => match s_, g_ with | i1, _ => Mem w0 (Fz F W :: cs)) (fun s_ g_ => match s_, g_ with | i1, _ => True) trivial (look_has ⟨rfl, rfl, rfl, rfl, trivial⟩) (fun w_ hM => hM) ?_
  rintro i1 _ o2 - hs_ hd2
  have hp : (kind_Find_l2 l name) i1 = some o2 := hs_
  clear hs_
  unfold kind_Find_l2 at hp
  refine st_conv (l' := [(1, .string name), (7, .slice A_l l.length c_l), (8, vI (l.length : Int)), (9, vI i1)]) (M' := Mem w0 (Fz F W :: cs)) rfl (fun _ h => h) ?_
  refine st_seq ?_
  refine st_region [oF 0] (by rfl) ?_
  refine oR [oF 0] [(10, .bool (decide (i1 < (l.length : Int)))), (1, .string name), (7, .slice A_l l.length c_l), (8, vI (l.length : Int)), (9, vI i1)] [10, 1, 7, 8, 9] (by kernel_rfl) ?_
  refine ops_nil ?_
  refine fin_then ?_
  refine st_seq ?_
  refine st_if (b := decide (i1 < (l.length : Int))) rfl (fun hc2 => ?_) (fun hc2 => ?_)
  · --
   have hp := cnd_t hc2 hp
   refine st_skip ?_
   refine fin_then ?_
   refine st_seq ?_
   refine st_block ?_
   refine st_seq ?_
   refine st_region [oF 0, oF 1, oF 2, oF 3, oF 4, oF 5] (by rfl) ?_
   refine oR [oF 0] [(11, vI i1), (1, .string name), (7, .slice A_l l.length c_l), (8, vI (l.length : Int)), (9, vI i1)] [11, 1, 7, 8, 9] (by kernel_rfl) ?_
   obtain ⟨x3, hv4, hp⟩ := obind hp
   obtain ⟨m5, hm6, hx7⟩ := idx_some hv4
   have hl10 := (List.getElem?_eq_some_iff.1 hx7).1
   obtain ⟨ad11, vs8, hA12, hr9, hq13⟩ := RdS.el h_l hx7
   obtain ⟨A14, c15, rfl, h16⟩ := dec_api_Kind hr9
   refine ops_val (op := (Go.Op.indexAddr 28 (Go.Operand.tmp 7) (Go.Operand.tmp 9))) (d := some 12) (v := .pointer (some (ad11.add (m5 * 2)))) ⟨by kernel_rfl⟩ (run_indexA hA12 Tryd.underlying28 (z := 2) (by kernel_rfl) rfl rfl hm6 hl10) ?_
   refine ops_mem (d := some 13) (an := [.v (.string x3.Name), .v (.slice A14 x3.Fields.length c15)]) (evs := [.load (ad11.add (m5 * 2)) (.string x3.Name), .load ((ad11.add (m5 * 2)).add 1) (.slice A14 x3.Fields.length c15)]) (v := .agg #[.string x3.Name, .slice A14 x3.Fields.length c15]) (M' := Mem w0 (Fz F W :: cs)) ⟨by kernel_rfl⟩ (fun w_ hM hS => ⟨w_, ⟨hM.elcell 0 rfl hq13 0 rfl, hM.elcell 0 rfl hq13 1 rfl, rfl⟩, hM, trivial⟩) ?_
   refine oR [] [(13, .agg #[.string x3.Name, .slice A14 x3.Fields.length c15]), (11, vI i1), (1, .string name), (7, .slice A_l l.length c_l), (8, vI (l.length : Int)), (9, vI i1)] [13, 11, 1, 7, 8, 9] (by kernel_rfl) ?_
   refine ops_new (d := some 6) (o := .cells #[.string ByteArray.empty, .slice none 0 0] 27) (v := fun b17 => vP b17 0) (M' := fun b17 => Mem w0 (.blk b17 [.string ByteArray.empty, .slice none 0 0] 27 :: Fz F W :: cs)) (fun b17 => ⟨by kernel_rfl⟩) (fun w_ hM hS => ⟨hM.blk [.string ByteArray.empty, .slice none 0 0] 27, trivial⟩) (fun b17 => ?_)
   refine oR [oF 4] [(5, vI i1), (6, vP b17 0), (13, .agg #[.string x3.Name, .slice A14 x3.Fields.length c15]), (1, .string name), (7, .slice A_l l.length c_l), (8, vI (l.length : Int)), (9, vI i1)] [5, 6, 13, 1, 7, 8, 9] (by kernel_rfl) ?_
   refine ops_store (an := []) (evs := [.store ⟨b17, 0, none⟩ (.string x3.Name), .store ⟨b17, 1, none⟩ (.slice A14 x3.Fields.length c15)]) (M' := Mem w0 (.blk b17 [.string x3.Name, .slice A14 x3.Fields.length c15] 27 :: Fz F W :: cs)) ⟨by kernel_rfl⟩ (fun w_ hM hS => let ⟨w', he, h'⟩ := hM.evs_stores [.string x3.Name, .slice A14 x3.Fields.length c15] 0 rfl 0 (Nat.le_of_ble_eq_true rfl); ⟨w', he, h', trivial⟩) ?_
   refine oR [] [(5, vI i1), (6, vP b17 0), (1, .string name), (7, .slice A_l l.length c_l), (8, vI (l.length : Int)), (9, vI i1)] [5, 6, 1, 7, 8, 9] (by kernel_rfl) ?_
   refine ops_nil ?_
   refine fin_then ?_
   refine st_seq ?_
   refine st_region [oF 0, oF 1, oF 2, oF 3] (by rfl) ?_
   refine oR [oF 0] [(14, vP b17 0), (5, vI i1), (1, .string name), (7, .slice A_l l.length c_l), (8, vI (l.length : Int)), (9, vI i1)] [14, 5, 1, 7, 8, 9] (by kernel_rfl) ?_
   refine ops_mem (d := some 15) (an := [.v (.string x3.Name)]) (evs := [.load ⟨b17, 0, none⟩ (.string x3.Name)]) (v := .string x3.Name) (M' := Mem w0 (.blk b17 [.string x3.Name, .slice A14 x3.Fields.length c15] 27 :: Fz F W :: cs)) ⟨by kernel_rfl⟩ (fun w_ hM hS => ⟨w_, ⟨hM.cell 0 rfl rfl, rfl⟩, hM, trivial⟩) ?_
   refine oR [oF 2, oF 3] [(17, .bool (x3.Name.toList == name.toList)), (5, vI i1), (1, .string name), (7, .slice A_l l.length c_l), (8, vI (l.length : Int)), (9, vI i1)] [17, 5, 1, 7, 8, 9] (by kernel_rfl) ?_
   refine ops_nil ?_
   refine fin_then ?_
   refine st_if (b := (x3.Name.toList == name.toList)) rfl (fun hc18 => ?_) (fun hc18 => ?_)
   · --
    have hp := cnd_t hc18 hp
    refine st_seq ?_
    refine st_region [oF 0, oF 1] (by rfl) ?_
    refine oR [oF 0, oF 1] [(4, vI i1)] [4] (by kernel_rfl) ?_
    refine ops_nil ?_
    refine fin_then ?_
    refine st_ret ?_
    refine fin_ret_block ?_
    refine fin_ret_then ?_
    refine fin_ret_then ?_
    refine fin_ret_block ?_
    refine fin_ret_then ?_
    obtain hq_ := Option.some.inj hp
    subst hq_
    obtain hq_ := hd2 _ rfl
    subst hq_
    have hp : some i1 = some i9001 := hk2
    have hq_ := Option.some.inj hp
    have hr0_ := hq_
    subst hr0_
    refine fin_ret [.tmp 4] [vI i1] rfl rfl (fun w_ hM => (.tmp rfl .nil)) (fun w_ hM => ?_)
    exact ⟨trivial, rfl, hM.pick 2 [1] (by kernel_rfl) (by decide) rfl⟩
   · --
    have hp := cnd_f hc18 hp
    refine st_skip ?_
    refine fin_block ?_
    refine fin_then ?_
    refine st_region [oF 0, oF 1] (by rfl) ?_
    refine oR [oF 0, oF 1] [(9, vI (IntKind.i64.wrap (i1 + 1))), (1, .string name), (7, .slice A_l l.length c_l), (8, vI (l.length : Int))] [9, 1, 7, 8] (by kernel_rfl) ?_
    refine ops_nil ?_
    exact fin_again (IntKind.i64.wrap (i1 + 1)) () (Option.some.inj hp).symm trivial (look_has ⟨rfl, rfl, rfl, rfl, trivial⟩) (fun w_ hM => hM.pick 2 [1] (by kernel_rfl) (by decide) rfl)
  · --
   have hp := cnd_f hc2 hp
   refine st_exit ?_
   refine fin_exit_then ?_
   refine fin_exit_then ?_
   refine fin_exit ?_
   obtain hq_ := Option.some.inj hp
   subst hq_
   obtain hq_ := hd2 _ rfl
   subst hq_
   have hp : kind_Find_j1 = some i9001 := hk2
   exact fin_join HJ1 () hp (look_has trivial) (fun w_ hM => hM)
set_option maxHeartbeats 4000000 in
set_option maxRecDepth 100000 in
theorem kind_Check_ok (w0 w : World) (cs : List Chunk) (F : Nat → Prop) (W : World) (A_l : Option Addr) (c_l : Nat) (l : List api_Kind) (hM0 : Mem w0 (Fz F W :: cs) w) (h_l : RdS R_api_Kind F W A_l c_l l) (i9001 : Int) (hp : kind_Check l = some i9001) : Calls Tryd.prog 22 #[.slice A_l l.length c_l] w fun e w' => (True) ∧ e = .returned (vI i9001) ∧ Mem w0 (Fz F W :: cs) w' := by
 unfold kind_Check at hp
 refine sx_calls Tryd.func22 rfl (n := 29) (by kernel_rfl) (l := [(0, .slice A_l l.length c_l)]) rfl (by rfl) hM0 ?_
 refine st_seq ?_
 refine st_region [oF 0] (by rfl) ?_
 refine oR [oF 0] [(0, .slice A_l l.length c_l)] [0] (by kernel_rfl) ?_
 refine ops_nil ?_
 refine fin_then ?_
 refine st_seq ?_
 refine st_seq ?_
 refine st_region [oF 0, oF 1, oF 2] (by rfl) ?_
 refine oR [oF 0, oF 1, oF 2] [(8, .bool (decide (16 < (l.length : Int)))), (0, .slice A_l l.length c_l)] [8, 0] (by kernel_rfl) ?_
 refine ops_nil ?_
 refine fin_then ?_
 refine st_if (b := decide (16 < (l.length : Int))) rfl (fun hc1 => ?_) (fun hc1 => ?_)
 · --
  have hp := cnd_t hc1 hp
  refine st_seq ?_
  refine st_region [oF 0] (by rfl) ?_
  refine oR [oF 0] [(2, vI 2)] [2] (by kernel_rfl) ?_
  refine ops_nil ?_
  refine fin_then ?_
  refine st_ret ?_
  refine fin_ret_then ?_
  have hq_ := Option.some.inj hp
  have hr0_ := hq_
  subst hr0_
  refine fin_ret [.tmp 2] [vI 2] rfl rfl (fun w_ hM => (.tmp rfl .nil)) (fun w_ hM => ?_)
  exact ⟨trivial, rfl, hM⟩
 · --
  have hp := cnd_f hc1 hp
  refine st_skip ?_
  refine fin_then ?_
  refine st_join1 (σ := Unit) (L := fun _ => []) (N := fun _ => Mem w0 (Fz F W :: cs)) (I := fun _ => (kind_Check_j1 = some i9001)) ?_ ?_
  · --
   rintro _ hp
   refine st_conv (l' := []) (M' := Mem w0 (Fz F W :: cs)) rfl (fun _ h => h) ?_
   unfold kind_Check_j1 at hp
   refine st_seq ?_
   refine st_region [oF 0] (by rfl) ?_
   refine oR [oF 0] [(2, vI 0)] [2] (by kernel_rfl) ?_
   refine ops_nil ?_
   refine fin_then ?_
   refine st_ret ?_
   have hq_ := Option.some.inj hp
   have hr0_ := hq_
   subst hr0_
   refine fin_ret [.tmp 2] [vI 0] rfl rfl (fun w_ hM => (.tmp rfl .nil)) (fun w_ hM => ?_)
   exact ⟨trivial, rfl, hM⟩
  · --
   intro HJ1
   refine st_seq ?_
   refine st_seq ?_
   refine st_region [oF 0, oF 1, oF 2] (by rfl) ?_
   refine oR [oF 0, oF 1, oF 2] [(11, vI 0), (10, vI (l.length : Int)), (9, .slice A_l l.length c_l), (0, .slice A_l l.length c_l)] [11, 10, 9, 0] (by kernel_rfl) ?_
   refine ops_nil ?_
   refine fin_then ?_
   refine st_block ?_
   obtain ⟨r2, hl2, hk2⟩ := obind hp
   refine st_loopP (σ := Int) (ρ := (Int ⊕ Unit)) (γ := Unit) hl2 () (fun s_ g_ => match s_, g_ with | i2, _ => [(0, .slice A_l l.length c_l), (9, .slice A_l l.length c_l), (10, vI (l.length : Int)), (11, vI i2)]) (fun s_ g_ => match s_, g_ with | i2, _ => Mem w0 (Fz F W :: cs)) (fun s_ g_ => match s_, g_ with | i2, _ => True) trivial (look_has ⟨rfl, rfl, rfl, rfl, trivial⟩) (fun w_ hM => hM) ?_
   rintro i2 _ o2 - hs_ hd2
   have hp : (kind_Check_l2 l) i2 = some o2 := hs_
   clear hs_
   unfold kind_Check_l2 at hp
   refine st_conv (l' := [(0, .slice A_l l.length c_l), (9, .slice A_l l.length c_l), (10, vI (l.length : Int)), (11, vI i2)]) (M' := Mem w0 (Fz F W :: cs)) rfl (fun _ h => h) ?_
   refine st_seq ?_
   refine st_region [oF 0] (by rfl) ?_
   refine oR [oF 0] [(12, .bool (decide (i2 < (l.length : Int)))), (0, .slice A_l l.length c_l), (9, .slice A_l l.length c_l), (10, vI (l.length : Int)), (11, vI i2)] [12, 0, 9, 10, 11] (by kernel_rfl) ?_
   refine ops_nil ?_
   refine fin_then ?_
   refine st_seq ?_
   refine st_if (b := decide (i2 < (l.length : Int))) rfl (fun hc3 => ?_) (fun hc3 => ?_)
   · --
    have hp := cnd_t hc3 hp
    refine st_skip ?_
    refine fin_then ?_
    refine st_seq ?_
    refine st_block ?_
    refine st_seq ?_
    refine st_region [oF 0, oF 1, oF 2, oF 3, oF 4, oF 5] (by rfl) ?_
    refine oR [oF 0] [(13, vI i2), (0, .slice A_l l.length c_l), (9, .slice A_l l.length c_l), (10, vI (l.length : Int)), (11, vI i2)] [13, 0, 9, 10, 11] (by kernel_rfl) ?_
    obtain ⟨x4, hv5, hp⟩ := obind hp
    obtain ⟨m6, hm7, hx8⟩ := idx_some hv5
    have hl11 := (List.getElem?_eq_some_iff.1 hx8).1
    obtain ⟨ad12, vs9, hA13, hr10, hq14⟩ := RdS.el h_l hx8
    obtain ⟨A15, c16, rfl, h17⟩ := dec_api_Kind hr10
    refine ops_val (op := (Go.Op.indexAddr 28 (Go.Operand.tmp 9) (Go.Operand.tmp 11))) (d := some 14) (v := .pointer (some (ad12.add (m6 * 2)))) ⟨by kernel_rfl⟩ (run_indexA hA13 Tryd.underlying28 (z := 2) (by kernel_rfl) rfl rfl hm7 hl11) ?_
    refine ops_mem (d := some 15) (an := [.v (.string x4.Name), .v (.slice A15 x4.Fields.length c16)]) (evs := [.load (ad12.add (m6 * 2)) (.string x4.Name), .load ((ad12.add (m6 * 2)).add 1) (.slice A15 x4.Fields.length c16)]) (v := .agg #[.string x4.Name, .slice A15 x4.Fields.length c16]) (M' := Mem w0 (Fz F W :: cs)) ⟨by kernel_rfl⟩ (fun w_ hM hS => ⟨w_, ⟨hM.elcell 0 rfl hq14 0 rfl, hM.elcell 0 rfl hq14 1 rfl, rfl⟩, hM, trivial⟩) ?_
    refine oR [] [(15, .agg #[.string x4.Name, .slice A15 x4.Fields.length c16]), (13, vI i2), (0, .slice A_l l.length c_l), (9, .slice A_l l.length c_l), (10, vI (l.length : Int)), (11, vI i2)] [15, 13, 0, 9, 10, 11] (by kernel_rfl) ?_
    refine ops_new (d := some 4) (o := .cells #[.string ByteArray.empty, .slice none 0 0] 27) (v := fun b18 => vP b18 0) (M' := fun b18 => Mem w0 (.blk b18 [.string ByteArray.empty, .slice none 0 0] 27 :: Fz F W :: cs)) (fun b18 => ⟨by kernel_rfl⟩) (fun w_ hM hS => ⟨hM.blk [.string ByteArray.empty, .slice none 0 0] 27, trivial⟩) (fun b18 => ?_)
    refine oR [oF 4] [(3, vI i2), (4, vP b18 0), (15, .agg #[.string x4.Name, .slice A15 x4.Fields.length c16]), (0, .slice A_l l.length c_l), (9, .slice A_l l.length c_l), (10, vI (l.length : Int)), (11, vI i2)] [3, 4, 15, 0, 9, 10, 11] (by kernel_rfl) ?_
    refine ops_store (an := []) (evs := [.store ⟨b18, 0, none⟩ (.string x4.Name), .store ⟨b18, 1, none⟩ (.slice A15 x4.Fields.length c16)]) (M' := Mem w0 (.blk b18 [.string x4.Name, .slice A15 x4.Fields.length c16] 27 :: Fz F W :: cs)) ⟨by kernel_rfl⟩ (fun w_ hM hS => let ⟨w', he, h'⟩ := hM.evs_stores [.string x4.Name, .slice A15 x4.Fields.length c16] 0 rfl 0 (Nat.le_of_ble_eq_true rfl); ⟨w', he, h', trivial⟩) ?_
    refine oR [] [(3, vI i2), (4, vP b18 0), (0, .slice A_l l.length c_l), (9, .slice A_l l.length c_l), (10, vI (l.length : Int)), (11, vI i2)] [3, 4, 0, 9, 10, 11] (by kernel_rfl) ?_
    refine ops_nil ?_
    refine fin_then ?_
    refine st_seq ?_
    refine st_seq ?_
    refine st_region [oF 0, oF 1, oF 2] (by rfl) ?_
    refine ops_mem (d := some 16) (an := [.v (.string x4.Name), .v (.slice A15 x4.Fields.length c16)]) (evs := [.load ⟨b18, 0, none⟩ (.string x4.Name), .load ⟨b18, 1, none⟩ (.slice A15 x4.Fields.length c16)]) (v := .agg #[.string x4.Name, .slice A15 x4.Fields.length c16]) (M' := Mem w0 (.blk b18 [.string x4.Name, .slice A15 x4.Fields.length c16] 27 :: Fz F W :: cs)) ⟨by kernel_rfl⟩ (fun w_ hM hS => ⟨w_, ⟨hM.cell 0 rfl rfl, hM.cell 0 rfl rfl, rfl⟩, hM, trivial⟩) ?_
    obtain ⟨x19, hv20, hp⟩ := obind hp
    refine ops_callI (σ := Unit) (d := some 17) (f := 20) (args := #[.agg #[.string x4.Name, .slice A15 x4.Fields.length c16]]) (v := (fun _ => vI x19)) (I := (fun _ => True)) (M' := (fun _ => Mem w0 (.blk b18 [.string x4.Name, .slice A15 x4.Fields.length c16] 27 :: Fz F W :: cs))) ⟨by kernel_rfl⟩ (fun w_ hM hS => (kind_One_ok w0 w_ (.blk b18 [.string x4.Name, .slice A15 x4.Fields.length c16] 27 :: cs) F W x4.Name A15 c16 x4.Fields (hM.pick 2 [1, 0] (by kernel_rfl) (by decide) rfl) h17 x19 hv20).mono (by rintro e w' ⟨-, rfl, h'⟩; have h' : Mem w0 (.blk b18 [.string x4.Name, .slice A15 x4.Fields.length c16] 27 :: Fz F W :: cs) w' := (h'.pick 2 [1, 0] (by kernel_rfl) (by decide) rfl); exact ⟨(), trivial, rfl, h', trivial⟩)) ?_
    rintro _ -
    refine ops_conv (l' := [(17, vI x19), (16, .agg #[.string x4.Name, .slice A15 x4.Fields.length c16]), (3, vI i2), (4, vP b18 0), (0, .slice A_l l.length c_l), (9, .slice A_l l.length c_l), (10, vI (l.length : Int)), (11, vI i2)]) (M' := Mem w0 (.blk b18 [.string x4.Name, .slice A15 x4.Fields.length c16] 27 :: Fz F W :: cs)) rfl (fun _ h => h) ?_
    refine oR [oF 2] [(5, vI x19), (3, vI i2), (4, vP b18 0), (0, .slice A_l l.length c_l), (9, .slice A_l l.length c_l), (10, vI (l.length : Int)), (11, vI i2)] [5, 3, 4, 0, 9, 10, 11] (by kernel_rfl) ?_
    refine ops_nil ?_
    refine fin_then ?_
    refine st_seq ?_
    refine st_region [oF 0, oF 1] (by rfl) ?_
    refine oR [oF 0, oF 1] [(19, .bool (!(x19 == 0))), (5, vI x19), (3, vI i2), (4, vP b18 0), (0, .slice A_l l.length c_l), (9, .slice A_l l.length c_l), (10, vI (l.length : Int)), (11, vI i2)] [19, 5, 3, 4, 0, 9, 10, 11] (by kernel_rfl) ?_
    refine ops_nil ?_
    refine fin_then ?_
    refine st_if (b := !(x19 == 0)) rfl (fun hc21 => ?_) (fun hc21 => ?_)
    · --
     have hp := cnd_t hc21 hp
     refine st_seq ?_
     refine st_region [oF 0, oF 1] (by rfl) ?_
     refine oR [oF 0, oF 1] [(2, vI x19)] [2] (by kernel_rfl) ?_
     refine ops_nil ?_
     refine fin_then ?_
     refine st_ret ?_
     refine fin_ret_then ?_
     refine fin_ret_block ?_
     refine fin_ret_then ?_
     refine fin_ret_then ?_
     refine fin_ret_block ?_
     refine fin_ret_then ?_
     obtain hq_ := Option.some.inj hp
     subst hq_
     obtain hq_ := hd2 _ rfl
     subst hq_
     have hp : some x19 = some i9001 := hk2
     have hq_ := Option.some.inj hp
     have hr0_ := hq_
     subst hr0_
     refine fin_ret [.tmp 2] [vI x19] rfl rfl (fun w_ hM => (.tmp rfl .nil)) (fun w_ hM => ?_)
     exact ⟨trivial, rfl, hM.pick 2 [1] (by kernel_rfl) (by decide) rfl⟩
    · --
     have hp := cnd_f hc21 hp
     refine st_skip ?_
     refine fin_then ?_
     refine st_seq ?_
     refine st_region_draw [oT 0, oT 1, oT 3, oT 4, oF 2, oF 5, oT 6] (Mem w0 (.blk b18 [.string x4.Name, .slice A15 x4.Fields.length c16] 27 :: Fz F W :: cs)) (by kernel_rfl) (by kernel_rfl) (by kernel_rfl) (fun _ d _ _ _ h => by cases d <;> exact h) (M' := Mem w0 (.blk b18 [.string x4.Name, .slice A15 x4.Fields.length c16] 27 :: Fz F W :: cs)) (fun w_ hM => ⟨hM.drew, hM.drew.sub (.cons_cons _ (.cons_cons _ (.refl _)))⟩) ?_
     refine oR [oT 0, oT 1, oT 3] [(24, vP b18 0), (22, vI i2), (21, .slice A_l l.length c_l), (0, .slice A_l l.length c_l), (9, .slice A_l l.length c_l), (10, vI (l.length : Int)), (11, vI i2)] [24, 22, 21, 0, 9, 10, 11] (by kernel_rfl) ?_
     refine ops_load (d := some 25) (an := [.v (.string x4.Name)]) (evs := [.load ⟨b18, 0, none⟩ (.string x4.Name)]) (v := .string x4.Name) ⟨by kernel_rfl⟩ (fun w_ hM => ⟨hM.cell 0 rfl rfl, rfl⟩) ?_
     refine oR [] [(25, .string x4.Name), (22, vI i2), (21, .slice A_l l.length c_l), (0, .slice A_l l.length c_l), (9, .slice A_l l.length c_l), (10, vI (l.length : Int)), (11, vI i2)] [25, 22, 21, 0, 9, 10, 11] (by kernel_rfl) ?_
     obtain ⟨l22, hv23, hp⟩ := obind hp
     obtain ⟨m24, n25, hm26, hn27, h28, h29, he30⟩ := cut_some hv23
     have hl31 := cut_len he30 h28 h29
     have h32 : RdS R_api_Kind F W A_l c_l l22 := by have h_ := h_l.cut h28 h29; rw [← he30] at h_; rw [show m24 = 0 by omega, cutA_zero, Nat.sub_zero] at h_; exact h_
     refine ops_val (op := (Go.Op.slice 28 (Go.Operand.tmp 21) none (some (Go.Operand.tmp 22)) none)) (d := some 23) (v := .slice A_l l22.length c_l) ⟨by kernel_rfl⟩ (run_cutH0 (by kernel_rfl) (z := 2) (by kernel_rfl) rfl rfl hn27 (Nat.le_trans h29 h_l.cap) (by omega)) ?_
     refine oR [] [(23, .slice A_l l22.length c_l), (25, .string x4.Name), (0, .slice A_l l.length c_l), (9, .slice A_l l.length c_l), (10, vI (l.length : Int)), (11, vI i2)] [23, 25, 0, 9, 10, 11] (by kernel_rfl) ?_
     obtain ⟨x33, hv34, hp⟩ := obind hp
     refine ops_callI (σ := Unit) (d := some 26) (f := 29) (args := #[.slice A_l l22.length c_l, .string x4.Name]) (v := (fun _ => vI x33)) (I := (fun _ => True)) (M' := (fun _ => Mem w0 (.blk b18 [.string x4.Name, .slice A15 x4.Fields.length c16] 27 :: Fz F W :: cs))) ⟨by kernel_rfl⟩ (fun w_ hM hS => (kind_Find_ok w0 w_ (.blk b18 [.string x4.Name, .slice A15 x4.Fields.length c16] 27 :: cs) F W A_l c_l l22 x4.Name (hM.pick 2 [1, 0] (by kernel_rfl) (by decide) rfl) h32 x33 hv34).mono (by rintro e w' ⟨-, rfl, h'⟩; have h' : Mem w0 (.blk b18 [.string x4.Name, .slice A15 x4.Fields.length c16] 27 :: Fz F W :: cs) w' := (h'.pick 2 [1, 0] (by kernel_rfl) (by decide) rfl); exact ⟨(), trivial, rfl, h', (by exact h'.sub (.cons_cons _ (.cons_cons _ (.refl _))))⟩)) ?_
     rintro _ -
     refine ops_conv (l' := [(26, vI x33), (23, .slice A_l l22.length c_l), (25, .string x4.Name), (0, .slice A_l l.length c_l), (9, .slice A_l l.length c_l), (10, vI (l.length : Int)), (11, vI i2)]) (M' := Mem w0 (.blk b18 [.string x4.Name, .slice A15 x4.Fields.length c16] 27 :: Fz F W :: cs)) rfl (fun _ h => h) ?_
     refine oR [oT 6] [(27, .bool (decide (0 ≤ x33))), (0, .slice A_l l.length c_l), (9, .slice A_l l.length c_l), (10, vI (l.length : Int)), (11, vI i2)] [27, 0, 9, 10, 11] (by kernel_rfl) ?_
     refine ops_nil ?_
     refine fin_then ?_
     refine st_if (b := decide (0 ≤ x33)) rfl (fun hc35 => ?_) (fun hc35 => ?_)
     · --
      have hp := cnd_t hc35 hp
      refine st_seq ?_
      refine st_region [oF 0] (by rfl) ?_
      refine oR [oF 0] [(2, vI 5)] [2] (by kernel_rfl) ?_
      refine ops_nil ?_
      refine fin_then ?_
      refine st_ret ?_
      refine fin_ret_block ?_
      refine fin_ret_then ?_
      refine fin_ret_then ?_
      refine fin_ret_block ?_
      refine fin_ret_then ?_
      obtain hq_ := Option.some.inj hp
      subst hq_
      obtain hq_ := hd2 _ rfl
      subst hq_
      have hp : some 5 = some i9001 := hk2
      have hq_ := Option.some.inj hp
      have hr0_ := hq_
      subst hr0_
      refine fin_ret [.tmp 2] [vI 5] rfl rfl (fun w_ hM => (.tmp rfl .nil)) (fun w_ hM => ?_)
      exact ⟨trivial, rfl, hM.pick 2 [1] (by kernel_rfl) (by decide) rfl⟩
     · --
      have hp := cnd_f hc35 hp
      refine st_skip ?_
      refine fin_block ?_
      refine fin_then ?_
      refine st_region [oF 0, oF 1] (by rfl) ?_
      refine oR [oF 0, oF 1] [(11, vI (IntKind.i64.wrap (i2 + 1))), (0, .slice A_l l.length c_l), (9, .slice A_l l.length c_l), (10, vI (l.length : Int))] [11, 0, 9, 10] (by kernel_rfl) ?_
      refine ops_nil ?_
      exact fin_again (IntKind.i64.wrap (i2 + 1)) () (Option.some.inj hp).symm trivial (look_has ⟨rfl, rfl, rfl, rfl, trivial⟩) (fun w_ hM => hM.pick 2 [1] (by kernel_rfl) (by decide) rfl)
   · --
    have hp := cnd_f hc3 hp
    refine st_exit ?_
    refine fin_exit_then ?_
    refine fin_exit_then ?_
    refine fin_exit ?_
    obtain hq_ := Option.some.inj hp
    subst hq_
    obtain hq_ := hd2 _ rfl
    subst hq_
    have hp : kind_Check_j1 = some i9001 := hk2
    exact fin_join HJ1 () hp (look_has trivial) (fun w_ hM => hM)
set_option maxHeartbeats 4000000 in
set_option maxRecDepth 100000 in
theorem tourref3_KindsError_ok (w0 w : World) (cs : List Chunk) (F : Nat → Prop) (W : World) (A_l : Option Addr) (c_l : Nat) (l : List api_Kind) (hM0 : Mem w0 (Fz F W :: cs) w) (h_l : RdS R_api_Kind F W A_l c_l l) (i9001 : Int) (hp : tourref3_KindsError l = some i9001) : Calls Tryd.prog 23 #[.slice A_l l.length c_l] w fun e w' => (True) ∧ e = .returned (vI i9001) ∧ Mem w0 (Fz F W :: cs) w' := by
 unfold tourref3_KindsError at hp
 refine sx_calls Tryd.func23 rfl (n := 31) (by kernel_rfl) (l := [(0, .slice A_l l.length c_l)]) rfl (by rfl) hM0 ?_
 refine st_seq ?_
 refine st_region [oF 0] (by rfl) ?_
 refine oR [oF 0] [(0, .slice A_l l.length c_l)] [0] (by kernel_rfl) ?_
 refine ops_nil ?_
 refine fin_then ?_
 refine st_seq ?_
 refine st_seq ?_
 refine st_region [oF 0, oF 1, oF 2] (by rfl) ?_
 refine oR [oF 0, oF 1, oF 2] [(9, .bool (decide (16 < (l.length : Int)))), (0, .slice A_l l.length c_l)] [9, 0] (by kernel_rfl) ?_
 refine ops_nil ?_
 refine fin_then ?_
 refine st_if (b := decide (16 < (l.length : Int))) rfl (fun hc1 => ?_) (fun hc1 => ?_)
 · --
  have hp := cnd_t hc1 hp
  refine st_seq ?_
  refine st_region [oF 0] (by rfl) ?_
  refine oR [oF 0] [(2, vI 2)] [2] (by kernel_rfl) ?_
  refine ops_nil ?_
  refine fin_then ?_
  refine st_ret ?_
  refine fin_ret_then ?_
  have hq_ := Option.some.inj hp
  have hr0_ := hq_
  subst hr0_
  refine fin_ret [.tmp 2] [vI 2] rfl rfl (fun w_ hM => (.tmp rfl .nil)) (fun w_ hM => ?_)
  exact ⟨trivial, rfl, hM⟩
 · --
  have hp := cnd_f hc1 hp
  refine st_skip ?_
  refine fin_then ?_
  refine st_seq ?_
  refine st_region [oF 0] (by rfl) ?_
  refine oR [oF 0] [(3, .slice none 0 0), (0, .slice A_l l.length c_l)] [3, 0] (by kernel_rfl) ?_
  refine ops_nil ?_
  refine fin_then ?_
  refine st_join1 (σ := Unit) (L := fun _ => []) (N := fun _ => Mem w0 (Fz F W :: cs)) (I := fun _ => (tourref3_KindsError_j1 = some i9001)) ?_ ?_
  · --
   rintro _ hp
   refine st_conv (l' := []) (M' := Mem w0 (Fz F W :: cs)) rfl (fun _ h => h) ?_
   unfold tourref3_KindsError_j1 at hp
   refine st_seq ?_
   refine st_region [oF 0] (by rfl) ?_
   refine oR [oF 0] [(2, vI 0)] [2] (by kernel_rfl) ?_
   refine ops_nil ?_
   refine fin_then ?_
   refine st_ret ?_
   have hq_ := Option.some.inj hp
   have hr0_ := hq_
   subst hr0_
   refine fin_ret [.tmp 2] [vI 0] rfl rfl (fun w_ hM => (.tmp rfl .nil)) (fun w_ hM => ?_)
   exact ⟨trivial, rfl, hM⟩
  · --
   intro HJ1
   refine st_seq ?_
   refine st_seq ?_
   refine st_region [oF 0, oF 1, oF 2] (by rfl) ?_
   refine oR [oF 0, oF 1, oF 2] [(12, vI 0), (11, vI (l.length : Int)), (10, .slice A_l l.length c_l), (3, .slice none 0 0)] [12, 11, 10, 3] (by kernel_rfl) ?_
   refine ops_nil ?_
   refine fin_then ?_
   refine st_block ?_
   refine st_conv (l' := [(12, vI 0), (11, vI (l.length : Int)), (10, .slice A_l l.length c_l), (3, .slice none 0 0)]) (M' := Mem w0 (orow none ([] : List ByteArray).length 0 9 1 [] :: Fz F W :: cs)) rfl (fun w_ h => h.onil none 9 1) ?_
   refine st_conv (l' := [(12, vI 0), (11, vI (l.length : Int)), (10, .slice A_l l.length c_l), (3, .slice none ([] : List ByteArray).length 0)]) (M' := Mem w0 (orow none ([] : List ByteArray).length 0 9 1 [] :: Fz F W :: cs)) rfl (fun _ h => h) ?_
   obtain ⟨r2, hl2, hk2⟩ := obind hp
   refine st_loopP (σ := (List ByteArray) × Int) (ρ := (Int ⊕ Unit)) (γ := (Option Addr) × Nat × (List Value)) hl2 (none, 0, []) (fun s_ g_ => match s_, g_ with | (l4, i7), (A2, c3, y5) => [(3, .slice A2 l4.length c3), (10, .slice A_l l.length c_l), (11, vI (l.length : Int)), (12, vI i7)]) (fun s_ g_ => match s_, g_ with | (l4, i7), (A2, c3, y5) => Mem w0 (orow A2 l4.length c3 9 1 y5 :: Fz F W :: cs)) (fun s_ g_ => match s_, g_ with | (l4, i7), (A2, c3, y5) => (RepL Rep.str F W l4 y5)) (RepL.nil (R := Rep.str)) (look_has ⟨rfl, rfl, rfl, rfl, trivial⟩) (fun w_ hM => hM) ?_
   rintro ⟨l4, i7⟩ ⟨A2, c3, y5⟩ o2 h6 hs_ hd2
   have hp : (tourref3_KindsError_l2 l) l4 i7 = some o2 := hs_
   clear hs_
   unfold tourref3_KindsError_l2 at hp
   refine st_conv (l' := [(3, .slice A2 l4.length c3), (10, .slice A_l l.length c_l), (11, vI (l.length : Int)), (12, vI i7)]) (M' := Mem w0 (orow A2 l4.length c3 9 1 y5 :: Fz F W :: cs)) rfl (fun _ h => h) ?_
   refine st_seq ?_
   refine st_region [oF 0] (by rfl) ?_
   refine oR [oF 0] [(13, .bool (decide (i7 < (l.length : Int)))), (3, .slice A2 l4.length c3), (10, .slice A_l l.length c_l), (11, vI (l.length : Int)), (12, vI i7)] [13, 3, 10, 11, 12] (by kernel_rfl) ?_
   refine ops_nil ?_
   refine fin_then ?_
   refine st_seq ?_
   refine st_if (b := decide (i7 < (l.length : Int))) rfl (fun hc8 => ?_) (fun hc8 => ?_)
   · --
    have hp := cnd_t hc8 hp
    refine st_skip ?_
    refine fin_then ?_
    refine st_seq ?_
    refine st_block ?_
    refine st_seq ?_
    refine st_region [oF 0, oF 1, oF 2, oF 3] (by rfl) ?_
    refine oR [] [(3, .slice A2 l4.length c3), (10, .slice A_l l.length c_l), (11, vI (l.length : Int)), (12, vI i7)] [3, 10, 11, 12] (by kernel_rfl) ?_
    obtain ⟨x9, hv10, hp⟩ := obind hp
    obtain ⟨m11, hm12, hx13⟩ := idx_some hv10
    have hl16 := (List.getElem?_eq_some_iff.1 hx13).1
    obtain ⟨ad17, vs14, hA18, hr15, hq19⟩ := RdS.el h_l hx13
    obtain ⟨A20, c21, rfl, h22⟩ := dec_api_Kind hr15
    refine ops_val (op := (Go.Op.indexAddr 28 (Go.Operand.tmp 10) (Go.Operand.tmp 12))) (d := some 14) (v := .pointer (some (ad17.add (m11 * 2)))) ⟨by kernel_rfl⟩ (run_indexA hA18 Tryd.underlying28 (z := 2) (by kernel_rfl) rfl rfl hm12 hl16) ?_
    refine ops_mem (d := some 15) (an := [.v (.string x9.Name), .v (.slice A20 x9.Fields.length c21)]) (evs := [.load (ad17.add (m11 * 2)) (.string x9.Name), .load ((ad17.add (m11 * 2)).add 1) (.slice A20 x9.Fields.length c21)]) (v := .agg #[.string x9.Name, .slice A20 x9.Fields.length c21]) (M' := Mem w0 (orow A2 l4.length c3 9 1 y5 :: Fz F W :: cs)) ⟨by kernel_rfl⟩ (fun w_ hM hS => ⟨w_, ⟨hM.elcell 1 rfl hq19 0 rfl, hM.elcell 1 rfl hq19 1 rfl, rfl⟩, hM, trivial⟩) ?_
    refine oR [] [(15, .agg #[.string x9.Name, .slice A20 x9.Fields.length c21]), (3, .slice A2 l4.length c3), (10, .slice A_l l.length c_l), (11, vI (l.length : Int)), (12, vI i7)] [15, 3, 10, 11, 12] (by kernel_rfl) ?_
    refine ops_new (d := some 5) (o := .cells #[.string ByteArray.empty, .slice none 0 0] 27) (v := fun b23 => vP b23 0) (M' := fun b23 => Mem w0 (.blk b23 [.string ByteArray.empty, .slice none 0 0] 27 :: orow A2 l4.length c3 9 1 y5 :: Fz F W :: cs)) (fun b23 => ⟨by kernel_rfl⟩) (fun w_ hM hS => ⟨hM.blk [.string ByteArray.empty, .slice none 0 0] 27, trivial⟩) (fun b23 => ?_)
    refine ops_store (an := []) (evs := [.store ⟨b23, 0, none⟩ (.string x9.Name), .store ⟨b23, 1, none⟩ (.slice A20 x9.Fields.length c21)]) (M' := Mem w0 (.blk b23 [.string x9.Name, .slice A20 x9.Fields.length c21] 27 :: orow A2 l4.length c3 9 1 y5 :: Fz F W :: cs)) ⟨by kernel_rfl⟩ (fun w_ hM hS => let ⟨w', he, h'⟩ := hM.evs_stores [.string x9.Name, .slice A20 x9.Fields.length c21] 0 rfl 0 (Nat.le_of_ble_eq_true rfl); ⟨w', he, h', trivial⟩) ?_
    refine oR [] [(5, vP b23 0), (3, .slice A2 l4.length c3), (10, .slice A_l l.length c_l), (11, vI (l.length : Int)), (12, vI i7)] [5, 3, 10, 11, 12] (by kernel_rfl) ?_
    refine ops_nil ?_
    refine fin_then ?_
    refine st_seq ?_
    refine st_seq ?_
    refine st_region [oF 0, oF 1, oF 2] (by rfl) ?_
    refine ops_mem (d := some 16) (an := [.v (.string x9.Name), .v (.slice A20 x9.Fields.length c21)]) (evs := [.load ⟨b23, 0, none⟩ (.string x9.Name), .load ⟨b23, 1, none⟩ (.slice A20 x9.Fields.length c21)]) (v := .agg #[.string x9.Name, .slice A20 x9.Fields.length c21]) (M' := Mem w0 (.blk b23 [.string x9.Name, .slice A20 x9.Fields.length c21] 27 :: orow A2 l4.length c3 9 1 y5 :: Fz F W :: cs)) ⟨by kernel_rfl⟩ (fun w_ hM hS => ⟨w_, ⟨hM.cell 0 rfl rfl, hM.cell 0 rfl rfl, rfl⟩, hM, trivial⟩) ?_
    obtain ⟨x24, hv25, hp⟩ := obind hp
    refine ops_callI (σ := Unit) (d := some 17) (f := 21) (args := #[.agg #[.string x9.Name, .slice A20 x9.Fields.length c21]]) (v := (fun _ => vI x24)) (I := (fun _ => True)) (M' := (fun _ => Mem w0 (.blk b23 [.string x9.Name, .slice A20 x9.Fields.length c21] 27 :: orow A2 l4.length c3 9 1 y5 :: Fz F W :: cs))) ⟨by kernel_rfl⟩ (fun w_ hM hS => (tourref3_KindError_ok w0 w_ (.blk b23 [.string x9.Name, .slice A20 x9.Fields.length c21] 27 :: orow A2 l4.length c3 9 1 y5 :: cs) F W x9.Name A20 c21 x9.Fields (hM.pick 3 [2, 0, 1] (by kernel_rfl) (by decide) rfl) h22 x24 hv25).mono (by rintro e w' ⟨-, rfl, h'⟩; have h' : Mem w0 (.blk b23 [.string x9.Name, .slice A20 x9.Fields.length c21] 27 :: orow A2 l4.length c3 9 1 y5 :: Fz F W :: cs) w' := (h'.pick 3 [1, 2, 0] (by kernel_rfl) (by decide) rfl); exact ⟨(), trivial, rfl, h', trivial⟩)) ?_
    rintro _ -
    refine ops_conv (l' := [(17, vI x24), (16, .agg #[.string x9.Name, .slice A20 x9.Fields.length c21]), (5, vP b23 0), (3, .slice A2 l4.length c3), (10, .slice A_l l.length c_l), (11, vI (l.length : Int)), (12, vI i7)]) (M' := Mem w0 (.blk b23 [.string x9.Name, .slice A20 x9.Fields.length c21] 27 :: orow A2 l4.length c3 9 1 y5 :: Fz F W :: cs)) rfl (fun _ h => h) ?_
    refine oR [oF 2] [(6, vI x24), (5, vP b23 0), (3, .slice A2 l4.length c3), (10, .slice A_l l.length c_l), (11, vI (l.length : Int)), (12, vI i7)] [6, 5, 3, 10, 11, 12] (by kernel_rfl) ?_
    refine ops_nil ?_
    refine fin_then ?_
    refine st_seq ?_
    refine st_region [oF 0, oF 1] (by rfl) ?_
    refine oR [oF 0, oF 1] [(19, .bool (!(x24 == 0))), (6, vI x24), (5, vP b23 0), (3, .slice A2 l4.length c3), (10, .slice A_l l.length c_l), (11, vI (l.length : Int)), (12, vI i7)] [19, 6, 5, 3, 10, 11, 12] (by kernel_rfl) ?_
    refine ops_nil ?_
    refine fin_then ?_
    refine st_if (b := !(x24 == 0)) rfl (fun hc26 => ?_) (fun hc26 => ?_)
    · --
     have hp := cnd_t hc26 hp
     refine st_seq ?_
     refine st_region [oF 0, oF 1] (by rfl) ?_
     refine oR [oF 0, oF 1] [(2, vI x24)] [2] (by kernel_rfl) ?_
     refine ops_nil ?_
     refine fin_then ?_
     refine st_ret ?_
     refine fin_ret_then ?_
     refine fin_ret_block ?_
     refine fin_ret_then ?_
     refine fin_ret_then ?_
     refine fin_ret_block ?_
     refine fin_ret_then ?_
     obtain hq_ := Option.some.inj hp
     subst hq_
     obtain hq_ := hd2 _ rfl
     subst hq_
     have hp : some x24 = some i9001 := hk2
     have hq_ := Option.some.inj hp
     have hr0_ := hq_
     subst hr0_
     refine fin_ret [.tmp 2] [vI x24] rfl rfl (fun w_ hM => (.tmp rfl .nil)) (fun w_ hM => ?_)
     exact ⟨trivial, rfl, hM.pick 3 [2] (by kernel_rfl) (by decide) rfl⟩
    · --
     have hp := cnd_f hc26 hp
     refine st_skip ?_
     refine fin_then ?_
     refine st_seq ?_
     refine st_seq ?_
     refine st_region [oF 0, oF 1, oF 2, oF 3] (by rfl) ?_
     refine oR [oF 0, oF 1] [(22, vP b23 0), (21, .slice A2 l4.length c3), (5, vP b23 0), (3, .slice A2 l4.length c3), (10, .slice A_l l.length c_l), (11, vI (l.length : Int)), (12, vI i7)] [22, 21, 5, 3, 10, 11, 12] (by kernel_rfl) ?_
     refine ops_mem (d := some 23) (an := [.v (.string x9.Name)]) (evs := [.load ⟨b23, 0, none⟩ (.string x9.Name)]) (v := .string x9.Name) (M' := Mem w0 (.blk b23 [.string x9.Name, .slice A20 x9.Fields.length c21] 27 :: orow A2 l4.length c3 9 1 y5 :: Fz F W :: cs)) ⟨by kernel_rfl⟩ (fun w_ hM hS => ⟨w_, ⟨hM.cell 0 rfl rfl, rfl⟩, hM, trivial⟩) ?_
     refine oR [] [(23, .string x9.Name), (21, .slice A2 l4.length c3), (5, vP b23 0), (3, .slice A2 l4.length c3), (10, .slice A_l l.length c_l), (11, vI (l.length : Int)), (12, vI i7)] [23, 21, 5, 3, 10, 11, 12] (by kernel_rfl) ?_
     obtain ⟨x27, hv28, hp⟩ := obind hp
     refine ops_callI (σ := Unit) (d := some 24) (f := 65) (args := #[.slice A2 l4.length c3, .string x9.Name]) (v := (fun _ => .bool x27)) (I := (fun _ => True)) (M' := (fun _ => Mem w0 (.blk b23 [.string x9.Name, .slice A20 x9.Fields.length c21] 27 :: orow A2 l4.length c3 9 1 y5 :: Fz F W :: cs))) ⟨by kernel_rfl⟩ (fun w_ hM hS => (tourref3_twice_ok w_ w_ [] (fun b => b < w_.heap.size) w_ A2 c3 l4 x9.Name (Mem.fz0 w_) (hM.ordS 1 2 rfl rfl h6 rfl rfl) x27 hv28).mono (by rintro e w' ⟨-, rfl, h'⟩; have h' : Mem w_ [] w' := h'.pick 1 [] (by kernel_rfl) (by decide) rfl; exact ⟨(), trivial, rfl, hM.join h' rfl, trivial⟩)) ?_
     rintro _ -
     refine ops_conv (l' := [(24, .bool x27), (23, .string x9.Name), (21, .slice A2 l4.length c3), (5, vP b23 0), (3, .slice A2 l4.length c3), (10, .slice A_l l.length c_l), (11, vI (l.length : Int)), (12, vI i7)]) (M' := Mem w0 (.blk b23 [.string x9.Name, .slice A20 x9.Fields.length c21] 27 :: orow A2 l4.length c3 9 1 y5 :: Fz F W :: cs)) rfl (fun _ h => h) ?_
     refine oR [] [(24, .bool x27), (5, vP b23 0), (3, .slice A2 l4.length c3), (10, .slice A_l l.length c_l), (11, vI (l.length : Int)), (12, vI i7)] [24, 5, 3, 10, 11, 12] (by kernel_rfl) ?_
     refine ops_nil ?_
     refine fin_then ?_
     refine st_if (b := x27) rfl (fun hc29 => ?_) (fun hc29 => ?_)
     · --
      have hp := cnd_t hc29 hp
      refine st_seq ?_
      refine st_region [oF 0] (by rfl) ?_
      refine oR [oF 0] [(2, vI 5)] [2] (by kernel_rfl) ?_
      refine ops_nil ?_
      refine fin_then ?_
      refine st_ret ?_
      refine fin_ret_then ?_
      refine fin_ret_block ?_
      refine fin_ret_then ?_
      refine fin_ret_then ?_
      refine fin_ret_block ?_
      refine fin_ret_then ?_
      obtain hq_ := Option.some.inj hp
      subst hq_
      obtain hq_ := hd2 _ rfl
      subst hq_
      have hp : some 5 = some i9001 := hk2
      have hq_ := Option.some.inj hp
      have hr0_ := hq_
      subst hr0_
      refine fin_ret [.tmp 2] [vI 5] rfl rfl (fun w_ hM => (.tmp rfl .nil)) (fun w_ hM => ?_)
      exact ⟨trivial, rfl, hM.pick 3 [2] (by kernel_rfl) (by decide) rfl⟩
     · --
      have hp := cnd_f hc29 hp
      refine st_skip ?_
      refine fin_then ?_
      refine st_region [oF 0, oF 1, oF 2, oF 3, oF 4, oF 5] (by rfl) ?_
      refine oR [oF 0, oF 1] [(26, vP b23 0), (25, .slice A2 l4.length c3), (3, .slice A2 l4.length c3), (10, .slice A_l l.length c_l), (11, vI (l.length : Int)), (12, vI i7)] [26, 25, 3, 10, 11, 12] (by kernel_rfl) ?_
      refine ops_mem (d := some 27) (an := [.v (.string x9.Name)]) (evs := [.load ⟨b23, 0, none⟩ (.string x9.Name)]) (v := .string x9.Name) (M' := Mem w0 (.blk b23 [.string x9.Name, .slice A20 x9.Fields.length c21] 27 :: orow A2 l4.length c3 9 1 y5 :: Fz F W :: cs)) ⟨by kernel_rfl⟩ (fun w_ hM hS => ⟨w_, ⟨hM.cell 0 rfl rfl, rfl⟩, hM, trivial⟩) ?_
      refine oR [] [(27, .string x9.Name), (25, .slice A2 l4.length c3), (3, .slice A2 l4.length c3), (10, .slice A_l l.length c_l), (11, vI (l.length : Int)), (12, vI i7)] [27, 25, 3, 10, 11, 12] (by kernel_rfl) ?_
      have h30 : RepL Rep.str F W ([x9.Name] : List ByteArray) ([.string x9.Name]) := (RepL.cons (R := Rep.str) (F := F) (w := W) (vs := [.string x9.Name]) (ys := []) rfl RepL.nil)
      refine ops_new (d := some 28) (o := .cells ([.string x9.Name]).toArray 9) (v := fun g31 => .slice (some ⟨g31, 0, none⟩) ([x9.Name] : List ByteArray).length 1) (M' := fun g31 => Mem w0 (orow (some ⟨g31, 0, none⟩) ([x9.Name] : List ByteArray).length 1 9 1 ([.string x9.Name]) :: .blk b23 [.string x9.Name, .slice A20 x9.Fields.length c21] 27 :: orow A2 l4.length c3 9 1 y5 :: Fz F W :: cs)) (fun g31 => ⟨by kernel_rfl⟩) (fun w_ hM hS => ⟨hM.onew [.string x9.Name] 9 1 1 rfl (by decide), trivial⟩) (fun g31 => ?_)
      refine oR [] [(28, .slice (some ⟨g31, 0, none⟩) ([x9.Name] : List ByteArray).length 1), (25, .slice A2 l4.length c3), (3, .slice A2 l4.length c3), (10, .slice A_l l.length c_l), (11, vI (l.length : Int)), (12, vI i7)] [28, 25, 3, 10, 11, 12] (by kernel_rfl) ?_
      obtain ⟨l32, hv33, hp⟩ := obind hp
      obtain ⟨he34, hb35⟩ := app_some hv33
      obtain ⟨y36, hy37⟩ : ∃ y_, y5 ++ ([.string x9.Name]) = y_ := ⟨_, rfl⟩
      have h38 : RepL Rep.str F W l32 y36 := by rw [he34, ← hy37]; exact RepL.app h6 h30
      refine ops_appendO (x := (Go.Operand.tmp 25)) (y := (Go.Operand.tmp 28)) (t := 104) (e := 9) (d := some 29) (n' := l32.length) (z := 1) (m := ([x9.Name] : List ByteArray).length) (bytes := 16) (xs' := y36) (news := ([.string x9.Name])) (zv := .string ByteArray.empty) 2 ⟨by kernel_rfl⟩ rfl rfl Tryd.underlying104 (by kernel_rfl) (by rfl) rfl (fun w_ hM => hM.srcO 0 rfl) h30.len h30.one hb35 (by have z_ := congrArg List.length he34; rw [List.length_append] at z_; exact z_.symm) hy37 (fun _ _ _ _ hS h' => trivial) ?_
      rintro ⟨A39, c40⟩
      refine ops_conv (l' := [(29, .slice A39 l32.length c40), (28, .slice (some ⟨g31, 0, none⟩) ([x9.Name] : List ByteArray).length 1), (25, .slice A2 l4.length c3), (3, .slice A2 l4.length c3), (10, .slice A_l l.length c_l), (11, vI (l.length : Int)), (12, vI i7)]) (M' := Mem w0 (orow (some ⟨g31, 0, none⟩) ([x9.Name] : List ByteArray).length 1 9 1 ([.string x9.Name]) :: .blk b23 [.string x9.Name, .slice A20 x9.Fields.length c21] 27 :: orow A39 l32.length c40 9 1 y36 :: Fz F W :: cs)) rfl (fun _ h => h) ?_
      refine oR [oF 5] [(3, .slice A39 l32.length c40), (10, .slice A_l l.length c_l), (11, vI (l.length : Int)), (12, vI i7)] [3, 10, 11, 12] (by kernel_rfl) ?_
      refine ops_nil ?_
      refine fin_block ?_
      refine fin_then ?_
      refine st_region [oF 0, oF 1] (by rfl) ?_
      refine oR [oF 0, oF 1] [(12, vI (IntKind.i64.wrap (i7 + 1))), (3, .slice A39 l32.length c40), (10, .slice A_l l.length c_l), (11, vI (l.length : Int))] [12, 3, 10, 11] (by kernel_rfl) ?_
      refine ops_nil ?_
      exact fin_again (l32, IntKind.i64.wrap (i7 + 1)) (A39, c40, y36) (Option.some.inj hp).symm h38 (look_has ⟨rfl, rfl, rfl, rfl, trivial⟩) (fun w_ hM => hM.pick 4 [2, 3] (by kernel_rfl) (by decide) rfl)
   · --
    have hp := cnd_f hc8 hp
    refine st_exit ?_
    refine fin_exit_then ?_
    refine fin_exit_then ?_
    refine fin_exit ?_
    obtain hq_ := Option.some.inj hp
    subst hq_
    obtain hq_ := hd2 _ rfl
    subst hq_
    have hp : tourref3_KindsError_j1 = some i9001 := hk2
    exact fin_join HJ1 () hp (look_has trivial) (fun w_ hM => hM.pick 2 [1] (by kernel_rfl) (by decide) rfl)
end Go.Proofs.YthcbepikeinglaaDoor.L
