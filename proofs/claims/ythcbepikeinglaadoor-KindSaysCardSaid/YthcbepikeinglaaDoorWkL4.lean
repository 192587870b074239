/- The Go functions come to what the plain functions tell. No condition. -/
import Derived.Test.YthcbepikeinglaaDoorProg
import Derived.Test.YthcbepikeinglaaDoorFnL
import Derived.Test.YthcbepikeinglaaDoorWkL1
import Derived.Test.YthcbepikeinglaaDoorWkL2
import Derived.Test.YthcbepikeinglaaDoorEqL
namespace Go.Proofs.YthcbepikeinglaaDoor.L
open Go Go.RowKit Go.Proofs.YthcbepikeinglaaDoor.Sx
set_option linter.unusedVariables false
set_option maxHeartbeats 4000000 in
set_option maxRecDepth 100000 in
theorem kind_Width_ok (w0 w : World) (cs : List Chunk) (F : Nat → Prop) (W : World) (k_0 : ByteArray) (A_k_1 : Option Addr) (c_k_1 : Nat) (k_1 : List api_Field) (hM0 : Mem w0 (Fz F W :: cs) w) (h_k_1 : RdS R_api_Field F W A_k_1 c_k_1 k_1) (i9001 : Int) (i9002 : Int) (hp : kind_Width k_0 k_1 = some (i9001, i9002)) : Calls Tryd.prog 24 #[.agg #[.string k_0, .slice A_k_1 k_1.length c_k_1]] w fun e w' => (True) ∧ e = .returned (.tuple #[vI i9001, vI i9002]) ∧ Mem w0 (Fz F W :: cs) w' := by
 unfold kind_Width at hp
 refine sx_calls Tryd.func24 rfl (n := 26) (by kernel_rfl) (l := [(0, .agg #[.string k_0, .slice A_k_1 k_1.length c_k_1])]) rfl (by rfl) hM0 ?_
 refine st_seq ?_
 refine st_region [oF 0, oF 1, oF 2] (by rfl) ?_
 refine ops_new (d := some 1) (o := .cells #[.string k_0, .slice A_k_1 k_1.length c_k_1] 27) (v := fun b1 => vP b1 0) (M' := fun b1 => Mem w0 (.blk b1 [.string k_0, .slice A_k_1 k_1.length c_k_1] 27 :: Fz F W :: cs)) (fun b1 => ⟨by kernel_rfl⟩) (fun w_ hM hS => ⟨hM.blk [.string k_0, .slice A_k_1 k_1.length c_k_1] 27, trivial⟩) (fun b1 => ?_)
 refine oR [oF 1, oF 2] [(1, vP b1 0)] [1] (by kernel_rfl) ?_
 refine ops_nil ?_
 refine fin_then ?_
 refine st_seq ?_
 refine st_seq ?_
 refine st_region [oF 0, oF 1, oF 2] (by rfl) ?_
 refine ops_mem (d := some 8) (an := [.v (.string k_0), .v (.slice A_k_1 k_1.length c_k_1)]) (evs := [.load ⟨b1, 0, none⟩ (.string k_0), .load ⟨b1, 1, none⟩ (.slice A_k_1 k_1.length c_k_1)]) (v := .agg #[.string k_0, .slice A_k_1 k_1.length c_k_1]) (M' := Mem w0 (.blk b1 [.string k_0, .slice A_k_1 k_1.length c_k_1] 27 :: Fz F W :: cs)) ⟨by kernel_rfl⟩ (fun w_ hM hS => ⟨w_, ⟨hM.cell 0 rfl rfl, hM.cell 0 rfl rfl, rfl⟩, hM, trivial⟩) ?_
 obtain ⟨x2, hv3, hp⟩ := obind hp
 refine ops_callI (σ := Unit) (d := some 9) (f := 20) (args := #[.agg #[.string k_0, .slice A_k_1 k_1.length c_k_1]]) (v := (fun _ => vI x2)) (I := (fun _ => True)) (M' := (fun _ => Mem w0 (.blk b1 [.string k_0, .slice A_k_1 k_1.length c_k_1] 27 :: Fz F W :: cs))) ⟨by kernel_rfl⟩ (fun w_ hM hS => (kind_One_ok w0 w_ (.blk b1 [.string k_0, .slice A_k_1 k_1.length c_k_1] 27 :: cs) F W k_0 A_k_1 c_k_1 k_1 (hM.pick 2 [1, 0] (by kernel_rfl) (by decide) rfl) h_k_1 x2 hv3).mono (by rintro e w' ⟨-, rfl, h'⟩; have h' : Mem w0 (.blk b1 [.string k_0, .slice A_k_1 k_1.length c_k_1] 27 :: Fz F W :: cs) w' := (h'.pick 2 [1, 0] (by kernel_rfl) (by decide) rfl); exact ⟨(), trivial, rfl, h', trivial⟩)) ?_
 rintro _ -
 refine ops_conv (l' := [(9, vI x2), (8, .agg #[.string k_0, .slice A_k_1 k_1.length c_k_1]), (1, vP b1 0)]) (M' := Mem w0 (.blk b1 [.string k_0, .slice A_k_1 k_1.length c_k_1] 27 :: Fz F W :: cs)) rfl (fun _ h => h) ?_
 refine oR [oF 2] [(4, vI x2), (1, vP b1 0)] [4, 1] (by kernel_rfl) ?_
 refine ops_nil ?_
 refine fin_then ?_
 refine st_seq ?_
 refine st_region [oF 0, oF 1] (by rfl) ?_
 refine oR [oF 0, oF 1] [(11, .bool (!(x2 == 0))), (4, vI x2), (1, vP b1 0)] [11, 4, 1] (by kernel_rfl) ?_
 refine ops_nil ?_
 refine fin_then ?_
 refine st_if (b := !(x2 == 0)) rfl (fun hc4 => ?_) (fun hc4 => ?_)
 · --
  have hp := cnd_t hc4 hp
  refine st_seq ?_
  refine st_region [oF 0, oF 1, oF 2] (by rfl) ?_
  refine oR [oF 0, oF 1, oF 2] [(3, vI x2), (2, vI 0)] [3, 2] (by kernel_rfl) ?_
  refine ops_nil ?_
  refine fin_then ?_
  refine st_ret ?_
  refine fin_ret_then ?_
  have hq_ := Option.some.inj hp
  obtain ⟨hr0_, hq_⟩ := Prod.mk.inj hq_
  have hr1_ := hq_
  subst hr0_
  subst hr1_
  refine fin_ret [.tmp 2, .tmp 3] [vI 0, vI x2] rfl rfl (fun w_ hM => (.tmp rfl (.tmp rfl .nil))) (fun w_ hM => ?_)
  exact ⟨trivial, rfl, hM.pick 2 [1] (by kernel_rfl) (by decide) rfl⟩
 · --
  have hp := cnd_f hc4 hp
  refine st_skip ?_
  refine fin_then ?_
  refine st_seq ?_
  refine st_region [oF 0] (by rfl) ?_
  refine oR [oF 0] [(5, vI 0), (1, vP b1 0)] [5, 1] (by kernel_rfl) ?_
  refine ops_nil ?_
  refine fin_then ?_
  refine st_join1 (σ := Int) (L := fun x_ => match x_ with | i5 => [(5, vI i5)]) (N := fun x_ => match x_ with | i5 => Mem w0 (Fz F W :: cs)) (I := fun x_ => match x_ with | i5 => (kind_Width_j1 i5 = some (i9001, i9002))) ?_ ?_
  · --
   rintro i5 hp
   refine st_conv (l' := [(5, vI i5)]) (M' := Mem w0 (Fz F W :: cs)) rfl (fun _ h => h) ?_
   unfold kind_Width_j1 at hp
   refine st_seq ?_
   refine st_region [oF 0, oF 1, oF 2] (by rfl) ?_
   refine oR [oF 0, oF 1, oF 2] [(3, vI 0), (2, vI i5)] [3, 2] (by kernel_rfl) ?_
   refine ops_nil ?_
   refine fin_then ?_
   refine st_ret ?_
   have hq_ := Option.some.inj hp
   obtain ⟨hr0_, hq_⟩ := Prod.mk.inj hq_
   have hr1_ := hq_
   subst hr0_
   subst hr1_
   refine fin_ret [.tmp 2, .tmp 3] [vI i5, vI 0] rfl rfl (fun w_ hM => (.tmp rfl (.tmp rfl .nil))) (fun w_ hM => ?_)
   exact ⟨trivial, rfl, hM⟩
  · --
   intro HJ1
   refine st_seq ?_
   refine st_seq ?_
   refine st_region [oF 0, oF 1, oF 2, oF 3] (by rfl) ?_
   refine oR [oF 0] [(13, vP b1 1), (5, vI 0)] [13, 5] (by kernel_rfl) ?_
   refine ops_mem (d := some 14) (an := [.v (.slice A_k_1 k_1.length c_k_1)]) (evs := [.load ⟨b1, 1, none⟩ (.slice A_k_1 k_1.length c_k_1)]) (v := .slice A_k_1 k_1.length c_k_1) (M' := Mem w0 (.blk b1 [.string k_0, .slice A_k_1 k_1.length c_k_1] 27 :: Fz F W :: cs)) ⟨by kernel_rfl⟩ (fun w_ hM hS => ⟨w_, ⟨hM.cell 0 rfl rfl, rfl⟩, hM, trivial⟩) ?_
   refine oR [oF 2, oF 3] [(16, vI 0), (15, vI (k_1.length : Int)), (14, .slice A_k_1 k_1.length c_k_1), (5, vI 0)] [16, 15, 14, 5] (by kernel_rfl) ?_
   refine ops_nil ?_
   refine fin_then ?_
   refine st_block ?_
   obtain ⟨r2, hl2, hk2⟩ := obind hp
   refine st_loopP (σ := Int × Int) (ρ := Int) (γ := Unit) hl2 () (fun s_ g_ => match s_, g_ with | (i6, i7), _ => [(5, vI i6), (14, .slice A_k_1 k_1.length c_k_1), (15, vI (k_1.length : Int)), (16, vI i7)]) (fun s_ g_ => match s_, g_ with | (i6, i7), _ => Mem w0 (Fz F W :: cs)) (fun s_ g_ => match s_, g_ with | (i6, i7), _ => True) trivial (look_has ⟨rfl, rfl, rfl, rfl, trivial⟩) (fun w_ hM => hM.pick 2 [1] (by kernel_rfl) (by decide) rfl) ?_
   rintro ⟨i6, i7⟩ _ o2 - hs_ hd2
   have hp : (kind_Width_l2 k_1) i6 i7 = some o2 := hs_
   clear hs_
   unfold kind_Width_l2 at hp
   refine st_conv (l' := [(5, vI i6), (14, .slice A_k_1 k_1.length c_k_1), (15, vI (k_1.length : Int)), (16, vI i7)]) (M' := Mem w0 (Fz F W :: cs)) rfl (fun _ h => h) ?_
   refine st_seq ?_
   refine st_region [oF 0] (by rfl) ?_
   refine oR [oF 0] [(17, .bool (decide (i7 < (k_1.length : Int)))), (5, vI i6), (14, .slice A_k_1 k_1.length c_k_1), (15, vI (k_1.length : Int)), (16, vI i7)] [17, 5, 14, 15, 16] (by kernel_rfl) ?_
   refine ops_nil ?_
   refine fin_then ?_
   refine st_seq ?_
   refine st_if (b := decide (i7 < (k_1.length : Int))) rfl (fun hc8 => ?_) (fun hc8 => ?_)
   · --
    have hp := cnd_t hc8 hp
    refine st_skip ?_
    refine fin_then ?_
    refine st_seq ?_
    refine st_block ?_
    refine st_seq ?_
    refine st_region [oF 0, oF 1, oF 2, oF 3] (by rfl) ?_
    refine oR [] [(5, vI i6), (14, .slice A_k_1 k_1.length c_k_1), (15, vI (k_1.length : Int)), (16, vI i7)] [5, 14, 15, 16] (by kernel_rfl) ?_
    obtain ⟨x9, hv10, hp⟩ := obind hp
    obtain ⟨m11, hm12, hx13⟩ := idx_some hv10
    have hl16 := (List.getElem?_eq_some_iff.1 hx13).1
    obtain ⟨ad17, vs14, hA18, hr15, hq19⟩ := RdS.el h_k_1 hx13
    obtain rfl := dec_api_Field hr15
    refine ops_val (op := (Go.Op.indexAddr 25 (Go.Operand.tmp 14) (Go.Operand.tmp 16))) (d := some 18) (v := .pointer (some (ad17.add (m11 * 3)))) ⟨by kernel_rfl⟩ (run_indexA hA18 Tryd.underlying25 (z := 3) (by kernel_rfl) rfl rfl hm12 hl16) ?_
    refine ops_mem (d := some 19) (an := [.v (.string x9.Name), .v (vI x9.Bits), .v (vI x9.Low)]) (evs := [.load (ad17.add (m11 * 3)) (.string x9.Name), .load ((ad17.add (m11 * 3)).add 1) (vI x9.Bits), .load ((ad17.add (m11 * 3)).add 2) (vI x9.Low)]) (v := .agg #[.string x9.Name, vI x9.Bits, vI x9.Low]) (M' := Mem w0 (Fz F W :: cs)) ⟨by kernel_rfl⟩ (fun w_ hM hS => ⟨w_, ⟨hM.elcell 0 rfl hq19 0 rfl, hM.elcell 0 rfl hq19 1 rfl, hM.elcell 0 rfl hq19 2 rfl, rfl⟩, hM, trivial⟩) ?_
    refine oR [] [(19, .agg #[.string x9.Name, vI x9.Bits, vI x9.Low]), (5, vI i6), (14, .slice A_k_1 k_1.length c_k_1), (15, vI (k_1.length : Int)), (16, vI i7)] [19, 5, 14, 15, 16] (by kernel_rfl) ?_
    refine ops_new (d := some 7) (o := .cells #[.string ByteArray.empty, vI 0, vI 0] 23) (v := fun b20 => vP b20 0) (M' := fun b20 => Mem w0 (.blk b20 [.string ByteArray.empty, vI 0, vI 0] 23 :: Fz F W :: cs)) (fun b20 => ⟨by kernel_rfl⟩) (fun w_ hM hS => ⟨hM.blk [.string ByteArray.empty, vI 0, vI 0] 23, trivial⟩) (fun b20 => ?_)
    refine ops_store (an := []) (evs := [.store ⟨b20, 0, none⟩ (.string x9.Name), .store ⟨b20, 1, none⟩ (vI x9.Bits), .store ⟨b20, 2, none⟩ (vI x9.Low)]) (M' := Mem w0 (.blk b20 [.string x9.Name, vI x9.Bits, vI x9.Low] 23 :: Fz F W :: cs)) ⟨by kernel_rfl⟩ (fun w_ hM hS => let ⟨w', he, h'⟩ := hM.evs_stores [.string x9.Name, vI x9.Bits, vI x9.Low] 0 rfl 0 (Nat.le_of_ble_eq_true rfl); ⟨w', he, h', trivial⟩) ?_
    refine oR [] [(7, vP b20 0), (5, vI i6), (14, .slice A_k_1 k_1.length c_k_1), (15, vI (k_1.length : Int)), (16, vI i7)] [7, 5, 14, 15, 16] (by kernel_rfl) ?_
    refine ops_nil ?_
    refine fin_then ?_
    refine st_region [oF 0, oF 1, oF 2, oF 3, oF 4] (by rfl) ?_
    refine oR [oF 0, oF 1] [(21, vP b20 1), (20, vI i6), (5, vI i6), (14, .slice A_k_1 k_1.length c_k_1), (15, vI (k_1.length : Int)), (16, vI i7)] [21, 20, 5, 14, 15, 16] (by kernel_rfl) ?_
    refine ops_mem (d := some 22) (an := [.v (vI x9.Bits)]) (evs := [.load ⟨b20, 1, none⟩ (vI x9.Bits)]) (v := vI x9.Bits) (M' := Mem w0 (.blk b20 [.string x9.Name, vI x9.Bits, vI x9.Low] 23 :: Fz F W :: cs)) ⟨by kernel_rfl⟩ (fun w_ hM hS => ⟨w_, ⟨hM.cell 0 rfl rfl, rfl⟩, hM, trivial⟩) ?_
    refine oR [oF 3, oF 4] [(5, vI (IntKind.i64.wrap (i6 + x9.Bits))), (14, .slice A_k_1 k_1.length c_k_1), (15, vI (k_1.length : Int)), (16, vI i7)] [5, 14, 15, 16] (by kernel_rfl) ?_
    refine ops_nil ?_
    refine fin_block ?_
    refine fin_then ?_
    refine st_region [oF 0, oF 1] (by rfl) ?_
    refine oR [oF 0, oF 1] [(16, vI (IntKind.i64.wrap (i7 + 1))), (5, vI (IntKind.i64.wrap (i6 + x9.Bits))), (14, .slice A_k_1 k_1.length c_k_1), (15, vI (k_1.length : Int))] [16, 5, 14, 15] (by kernel_rfl) ?_
    refine ops_nil ?_
    exact fin_again (IntKind.i64.wrap (i6 + x9.Bits), IntKind.i64.wrap (i7 + 1)) () (Option.some.inj hp).symm trivial (look_has ⟨rfl, rfl, rfl, rfl, trivial⟩) (fun w_ hM => hM.pick 2 [1] (by kernel_rfl) (by decide) rfl)
   · --
    have hp := cnd_f hc8 hp
    refine st_exit ?_
    refine fin_exit_then ?_
    refine fin_exit_then ?_
    refine fin_exit ?_
    obtain hq_ := Option.some.inj hp
    subst hq_
    obtain hq_ := hd2 _ rfl
    subst hq_
    have hp : kind_Width_j1 i6 = some (i9001, i9002) := hk2
    exact fin_join HJ1 i6 hp (look_has ⟨rfl, trivial⟩) (fun w_ hM => hM)
set_option maxHeartbeats 4000000 in
set_option maxRecDepth 100000 in
theorem kind_Default_ok (w0 w : World) (cs : List Chunk) (F : Nat → Prop) (W : World) (k_0 : ByteArray) (A_k_1 : Option Addr) (c_k_1 : Nat) (k_1 : List api_Field) (hM0 : Mem w0 (Fz F W :: cs) w) (h_k_1 : RdS R_api_Field F W A_k_1 c_k_1 k_1) (l9003 : List Int) (hp : kind_Default k_0 k_1 = some l9003) : Calls Tryd.prog 25 #[.agg #[.string k_0, .slice A_k_1 k_1.length c_k_1]] w fun e w' => ∃ (A9001 : Option Addr), ∃ (c9002 : Nat), ∃ (y9004 : List Value), ((RepL (Rep.int .i64) F W l9003 y9004)) ∧ e = .returned (.slice A9001 l9003.length c9002) ∧ Mem w0 (orow A9001 l9003.length c9002 3 1 y9004 :: Fz F W :: cs) w' := by
 unfold kind_Default at hp
 refine sx_calls Tryd.func25 rfl (n := 15) (by kernel_rfl) (l := [(0, .agg #[.string k_0, .slice A_k_1 k_1.length c_k_1])]) rfl (by rfl) hM0 ?_
 refine st_seq ?_
 refine st_region [oF 0, oF 1] (by rfl) ?_
 refine ops_new (d := some 1) (o := .cells #[.string k_0, .slice A_k_1 k_1.length c_k_1] 27) (v := fun b1 => vP b1 0) (M' := fun b1 => Mem w0 (.blk b1 [.string k_0, .slice A_k_1 k_1.length c_k_1] 27 :: Fz F W :: cs)) (fun b1 => ⟨by kernel_rfl⟩) (fun w_ hM hS => ⟨hM.blk [.string k_0, .slice A_k_1 k_1.length c_k_1] 27, trivial⟩) (fun b1 => ?_)
 refine oR [oF 1] [(1, vP b1 0)] [1] (by kernel_rfl) ?_
 refine ops_nil ?_
 refine fin_then ?_
 refine st_seq ?_
 refine st_region_draw [oT 0, oT 1, oT 2, oT 3, oF 4, oF 5, oT 6, oT 7, oT 8, oT 9, oT 10] (Mem w0 (.blk b1 [.string k_0, .slice A_k_1 k_1.length c_k_1] 27 :: Fz F W :: cs)) (by kernel_rfl) (by kernel_rfl) (by kernel_rfl) (fun _ d _ _ _ h => by cases d <;> exact h) (M' := Mem w0 (.blk b1 [.string k_0, .slice A_k_1 k_1.length c_k_1] 27 :: Fz F W :: cs)) (fun w_ hM => ⟨hM.drew, hM.drew.sub (.cons_cons _ (.cons_cons _ (.refl _)))⟩) ?_
 refine ops_load (d := some 6) (an := [.v (.string k_0), .v (.slice A_k_1 k_1.length c_k_1)]) (evs := [.load ⟨b1, 0, none⟩ (.string k_0), .load ⟨b1, 1, none⟩ (.slice A_k_1 k_1.length c_k_1)]) (v := .agg #[.string k_0, .slice A_k_1 k_1.length c_k_1]) ⟨by kernel_rfl⟩ (fun w_ hM => ⟨hM.cell 0 rfl rfl, hM.cell 0 rfl rfl, rfl⟩) ?_
 refine oR [oT 1] [(7, vP b1 1), (6, .agg #[.string k_0, .slice A_k_1 k_1.length c_k_1])] [7, 6] (by kernel_rfl) ?_
 refine ops_load (d := some 8) (an := [.v (.slice A_k_1 k_1.length c_k_1)]) (evs := [.load ⟨b1, 1, none⟩ (.slice A_k_1 k_1.length c_k_1)]) (v := .slice A_k_1 k_1.length c_k_1) ⟨by kernel_rfl⟩ (fun w_ hM => ⟨hM.cell 0 rfl rfl, rfl⟩) ?_
 refine oR [oT 3] [(9, vI (k_1.length : Int)), (6, .agg #[.string k_0, .slice A_k_1 k_1.length c_k_1])] [9, 6] (by kernel_rfl) ?_
 obtain ⟨l2, hv3, hp⟩ := obind hp
 obtain ⟨m4, hm5, he6, hb7⟩ := mk_some hv3
 have hl8 : l2.length = m4 := by rw [he6, List.length_replicate]
 obtain ⟨y9, hy10⟩ : ∃ y_, (Sx.madeOf [vI 0] (l2.length * 1)).toList = y_ := ⟨_, rfl⟩
 have h11 : RepL (Rep.int .i64) F W l2 y9 := by rw [← hy10, hl8, he6]; exact RepL.made rfl (by decide) _
 refine ops_makeO (t := 33) (x := (Go.Operand.tmp 9)) (y := (Go.Operand.tmp 9)) (d := some 10) (nn := l2.length) (z := 1) (bytes := 8) (xs := y9) (zv := vI 0) ⟨by kernel_rfl⟩ rfl rfl (by rw [hl8]; exact hm5) (by rw [hl8]; exact hm5) Tryd.underlying33 (by kernel_rfl) (by rw [hl8]; exact hb7) (by rfl) hy10 (fun _ _ _ hS h' => (by exact h'.sub (.cons _ (.cons_cons _ (.cons_cons _ (.refl _)))))) (fun g12 => ?_)
 refine oR [] [(10, .slice (some ⟨g12, 0, none⟩) l2.length l2.length), (6, .agg #[.string k_0, .slice A_k_1 k_1.length c_k_1])] [10, 6] (by kernel_rfl) ?_
 obtain ⟨x13, x14, hv15, hp⟩ := obind2 hp
 refine ops_callI (σ := (Option Addr) × Nat × (List Value)) (d := some 11) (f := 14) (args := #[.agg #[.string k_0, .slice A_k_1 k_1.length c_k_1], .slice (some ⟨g12, 0, none⟩) l2.length l2.length]) (v := (fun x_ => match x_ with | (A16, c17, y18) => .tuple #[.slice A16 x13.length c17, vI x14])) (I := (fun x_ => match x_ with | (A16, c17, y18) => (RepL (Rep.int .i64) F W x13 y18))) (M' := (fun x_ => match x_ with | (A16, c17, y18) => Mem w0 (orow A16 x13.length c17 3 1 y18 :: orow (some ⟨g12, 0, none⟩) l2.length l2.length 3 1 y9 :: .blk b1 [.string k_0, .slice A_k_1 k_1.length c_k_1] 27 :: Fz F W :: cs))) ⟨by kernel_rfl⟩ (fun w_ hM hS => (kind_Fit_ok w_ w_ [] (fun b => b < w_.heap.size) w_ k_0 A_k_1 c_k_1 k_1 (some ⟨g12, 0, none⟩) l2.length l2 (Mem.fz0 w_) (hM.now 2 rfl h_k_1) (hM.ordS 0 2 rfl rfl h11 rfl rfl) x13 x14 hv15).mono (by rintro e w' ⟨A16, c17, y18, h19, rfl, h'⟩; have h' : Mem w_ [orow A16 x13.length c17 3 1 y18] w' := h'.pick 2 [0] (by kernel_rfl) (by decide) rfl; exact ⟨(A16, c17, y18), (RepL.move' (fun h => h) h19), rfl, hM.join h' rfl, (hS.step h'.below)⟩)) ?_
 rintro ⟨A16, c17, y18⟩ h19
 refine ops_conv (l' := [(11, .tuple #[.slice A16 x13.length c17, vI x14]), (10, .slice (some ⟨g12, 0, none⟩) l2.length l2.length), (6, .agg #[.string k_0, .slice A_k_1 k_1.length c_k_1])]) (M' := Mem w0 (orow A16 x13.length c17 3 1 y18 :: orow (some ⟨g12, 0, none⟩) l2.length l2.length 3 1 y9 :: .blk b1 [.string k_0, .slice A_k_1 k_1.length c_k_1] 27 :: Fz F W :: cs)) rfl (fun _ h => h) ?_
 refine oR [oT 6, oT 7, oT 8, oT 9, oT 10] [(3, .slice A16 x13.length c17)] [3] (by kernel_rfl) ?_
 refine ops_nil ?_
 refine fin_then ?_
 refine st_seq ?_
 refine st_region [oF 0, oF 1] (by rfl) ?_
 refine oR [oF 0, oF 1] [(2, .slice A16 x13.length c17)] [2] (by kernel_rfl) ?_
 refine ops_nil ?_
 refine fin_then ?_
 refine st_ret ?_
 have hq_ := Option.some.inj hp
 have hr0_ := hq_
 subst hr0_
 refine fin_ret [.tmp 2] [.slice A16 x13.length c17] rfl rfl (fun w_ hM => (.tmp rfl .nil)) (fun w_ hM => ?_)
 exact ⟨A16, c17, y18, h19, rfl, hM.pick 4 [0, 3] (by kernel_rfl) (by decide) rfl⟩
set_option maxHeartbeats 4000000 in
set_option maxRecDepth 100000 in
theorem tourlaw3_KindSays_2_ok (w0 w : World) (cs : List Chunk) (F : Nat → Prop) (W : World) (x_0 : ByteArray) (x_1 : Int) (x_2 : Int) (b_p1 : Nat) (p1_0 : ByteArray) (hM0 : Mem w0 (.blk b_p1 [.string p1_0] 9 :: Fz F W :: cs) w) (t9001 : Bool) (hp : tourlaw3_KindSays_2 x_0 x_1 x_2 p1_0 = some t9001) : Calls Tryd.prog 28 #[.agg #[.string x_0, vI x_1, vI x_2], vP b_p1 0] w fun e w' => (True) ∧ e = .returned (.bool t9001) ∧ Mem w0 (.blk b_p1 [.string p1_0] 9 :: Fz F W :: cs) w' := by
 unfold tourlaw3_KindSays_2 at hp
 refine sx_calls Tryd.func28 rfl (n := 8) (by kernel_rfl) (l := [(0, .agg #[.string x_0, vI x_1, vI x_2]), (1, vP b_p1 0)]) rfl (by rfl) hM0 ?_
 refine st_seq ?_
 refine st_region [oF 0, oF 1] (by rfl) ?_
 refine ops_new (d := some 2) (o := .cells #[.string x_0, vI x_1, vI x_2] 23) (v := fun b1 => vP b1 0) (M' := fun b1 => Mem w0 (.blk b1 [.string x_0, vI x_1, vI x_2] 23 :: .blk b_p1 [.string p1_0] 9 :: Fz F W :: cs)) (fun b1 => ⟨by kernel_rfl⟩) (fun w_ hM hS => ⟨hM.blk [.string x_0, vI x_1, vI x_2] 23, trivial⟩) (fun b1 => ?_)
 refine oR [oF 1] [(2, vP b1 0), (1, vP b_p1 0)] [2, 1] (by kernel_rfl) ?_
 refine ops_nil ?_
 refine fin_then ?_
 refine st_seq ?_
 refine st_region [oF 0, oF 1, oF 2, oF 3, oF 4] (by rfl) ?_
 refine oR [oF 0] [(4, vP b1 0), (1, vP b_p1 0)] [4, 1] (by kernel_rfl) ?_
 refine ops_mem (d := some 5) (an := [.v (.string x_0)]) (evs := [.load ⟨b1, 0, none⟩ (.string x_0)]) (v := .string x_0) (M' := Mem w0 (.blk b1 [.string x_0, vI x_1, vI x_2] 23 :: .blk b_p1 [.string p1_0] 9 :: Fz F W :: cs)) ⟨by kernel_rfl⟩ (fun w_ hM hS => ⟨w_, ⟨hM.cell 0 rfl rfl, rfl⟩, hM, trivial⟩) ?_
 refine oR [] [(5, .string x_0), (1, vP b_p1 0)] [5, 1] (by kernel_rfl) ?_
 refine ops_mem (d := some 6) (an := [.v (.string p1_0)]) (evs := [.load ⟨b_p1, 0, none⟩ (.string p1_0)]) (v := .string p1_0) (M' := Mem w0 (.blk b1 [.string x_0, vI x_1, vI x_2] 23 :: .blk b_p1 [.string p1_0] 9 :: Fz F W :: cs)) ⟨by kernel_rfl⟩ (fun w_ hM hS => ⟨w_, ⟨hM.cell 1 rfl rfl, rfl⟩, hM, trivial⟩) ?_
 refine oR [oF 3, oF 4] [(3, .bool (x_0.toList == p1_0.toList))] [3] (by kernel_rfl) ?_
 refine ops_nil ?_
 refine fin_then ?_
 refine st_ret ?_
 have hq_ := Option.some.inj hp
 have hr0_ := hq_
 subst hr0_
 refine fin_ret [.tmp 3] [.bool (x_0.toList == p1_0.toList)] rfl rfl (fun w_ hM => (.tmp rfl .nil)) (fun w_ hM => ?_)
 exact ⟨trivial, rfl, hM.pick 3 [1, 2] (by kernel_rfl) (by decide) rfl⟩
set_option maxHeartbeats 4000000 in
set_option maxRecDepth 100000 in
theorem slices_IndexFunc_api_Field_api_Field_ok (w0 w : World) (cs : List Chunk) (F : Nat → Prop) (W : World) (A_s : Option Addr) (c_s : Nat) (s : List api_Field) (b_f_c0 : Nat) (f_c0_0 : ByteArray) (hM0 : Mem w0 (.blk b_f_c0 [.string f_c0_0] 9 :: Fz F W :: cs) w) (h_s : RdS R_api_Field F W A_s c_s s) (i9001 : Int) (hp : slices_IndexFunc_api_Field_api_Field s f_c0_0 = some i9001) : Calls Tryd.prog 27 #[.slice A_s s.length c_s, .func (.func 28) #[] #[vP b_f_c0 0]] w fun e w' => (True) ∧ e = .returned (vI i9001) ∧ Mem w0 (.blk b_f_c0 [.string f_c0_0] 9 :: Fz F W :: cs) w' := by
 unfold slices_IndexFunc_api_Field_api_Field at hp
 refine sx_calls Tryd.func27 rfl (n := 19) (by kernel_rfl) (l := [(0, .slice A_s s.length c_s), (1, .func (.func 28) #[] #[vP b_f_c0 0])]) rfl (by rfl) hM0 ?_
 refine st_seq ?_
 refine st_region [oF 0] (by rfl) ?_
 refine oR [oF 0] [(0, .slice A_s s.length c_s), (1, .func (.func 28) #[] #[vP b_f_c0 0])] [0, 1] (by kernel_rfl) ?_
 refine ops_nil ?_
 refine fin_then ?_
 refine st_join1 (σ := Unit) (L := fun _ => []) (N := fun _ => Mem w0 (.blk b_f_c0 [.string f_c0_0] 9 :: Fz F W :: cs)) (I := fun _ => (slices_IndexFunc_api_Field_api_Field_j1 = some i9001)) ?_ ?_
 · --
  rintro _ hp
  refine st_conv (l' := []) (M' := Mem w0 (.blk b_f_c0 [.string f_c0_0] 9 :: Fz F W :: cs)) rfl (fun _ h => h) ?_
  unfold slices_IndexFunc_api_Field_api_Field_j1 at hp
  refine st_seq ?_
  refine st_region [oF 0] (by rfl) ?_
  refine oR [oF 0] [(4, vI (-1))] [4] (by kernel_rfl) ?_
  refine ops_nil ?_
  refine fin_then ?_
  refine st_ret ?_
  have hq_ := Option.some.inj hp
  have hr0_ := hq_
  subst hr0_
  refine fin_ret [.tmp 4] [vI (-1)] rfl rfl (fun w_ hM => (.tmp rfl .nil)) (fun w_ hM => ?_)
  exact ⟨trivial, rfl, hM⟩
 · --
  intro HJ1
  refine st_seq ?_
  refine st_seq ?_
  refine st_region [oF 0, oF 1, oF 2] (by rfl) ?_
  refine oR [oF 0, oF 1, oF 2] [(8, vI 0), (7, vI (s.length : Int)), (0, .slice A_s s.length c_s), (1, .func (.func 28) #[] #[vP b_f_c0 0])] [8, 7, 0, 1] (by kernel_rfl) ?_
  refine ops_nil ?_
  refine fin_then ?_
  refine st_block ?_
  obtain ⟨r2, hl2, hk2⟩ := obind hp
  refine st_loopP (σ := Int) (ρ := (Int ⊕ Unit)) (γ := Unit) hl2 () (fun s_ g_ => match s_, g_ with | i1, _ => [(0, .slice A_s s.length c_s), (1, .func (.func 28) #[] #[vP b_f_c0 0]), (7, vI (s.length : Int)), (8, vI i1)]) (fun s_ g_ => match s_, g_ with | i1, _ => Mem w0 (.blk b_f_c0 [.string f_c0_0] 9 :: Fz F W :: cs)) (fun s_ g_ => match s_, g_ with | i1, _ => True) trivial (look_has ⟨rfl, rfl, rfl, rfl, trivial⟩) (fun w_ hM => hM) ?_
  rintro i1 _ o2 - hs_ hd2
  have hp : (slices_IndexFunc_api_Field_api_Field_l2 s f_c0_0) i1 = some o2 := hs_
  clear hs_
  unfold slices_IndexFunc_api_Field_api_Field_l2 at hp
  refine st_conv (l' := [(0, .slice A_s s.length c_s), (1, .func (.func 28) #[] #[vP b_f_c0 0]), (7, vI (s.length : Int)), (8, vI i1)]) (M' := Mem w0 (.blk b_f_c0 [.string f_c0_0] 9 :: Fz F W :: cs)) rfl (fun _ h => h) ?_
  refine st_seq ?_
  refine st_region [oF 0] (by rfl) ?_
  refine oR [oF 0] [(9, .bool (decide (i1 < (s.length : Int)))), (0, .slice A_s s.length c_s), (1, .func (.func 28) #[] #[vP b_f_c0 0]), (7, vI (s.length : Int)), (8, vI i1)] [9, 0, 1, 7, 8] (by kernel_rfl) ?_
  refine ops_nil ?_
  refine fin_then ?_
  refine st_seq ?_
  refine st_if (b := decide (i1 < (s.length : Int))) rfl (fun hc2 => ?_) (fun hc2 => ?_)
  · --
   have hp := cnd_t hc2 hp
   refine st_skip ?_
   refine fin_then ?_
   refine st_seq ?_
   refine st_block ?_
   refine st_seq ?_
   refine st_region [oF 0, oF 1] (by rfl) ?_
   refine oR [oF 0, oF 1] [(5, vI i1), (0, .slice A_s s.length c_s), (1, .func (.func 28) #[] #[vP b_f_c0 0]), (7, vI (s.length : Int)), (8, vI i1)] [5, 0, 1, 7, 8] (by kernel_rfl) ?_
   refine ops_nil ?_
   refine fin_then ?_
   refine st_seq ?_
   refine st_region [oF 0, oF 1, oF 2, oF 3, oF 4, oF 5] (by rfl) ?_
   refine oR [oF 0, oF 1, oF 2] [(13, vI i1), (12, .slice A_s s.length c_s), (11, .func (.func 28) #[] #[vP b_f_c0 0]), (5, vI i1), (0, .slice A_s s.length c_s), (1, .func (.func 28) #[] #[vP b_f_c0 0]), (7, vI (s.length : Int)), (8, vI i1)] [13, 12, 11, 5, 0, 1, 7, 8] (by kernel_rfl) ?_
   obtain ⟨x3, hv4, hp⟩ := obind hp
   obtain ⟨m5, hm6, hx7⟩ := idx_some hv4
   have hl10 := (List.getElem?_eq_some_iff.1 hx7).1
   obtain ⟨ad11, vs8, hA12, hr9, hq13⟩ := RdS.el h_s hx7
   obtain rfl := dec_api_Field hr9
   refine ops_val (op := (Go.Op.indexAddr 25 (Go.Operand.tmp 12) (Go.Operand.tmp 13))) (d := some 14) (v := .pointer (some (ad11.add (m5 * 3)))) ⟨by kernel_rfl⟩ (run_indexA hA12 Tryd.underlying25 (z := 3) (by kernel_rfl) rfl rfl hm6 hl10) ?_
   refine oR [] [(14, .pointer (some (ad11.add (m5 * 3)))), (11, .func (.func 28) #[] #[vP b_f_c0 0]), (5, vI i1), (0, .slice A_s s.length c_s), (1, .func (.func 28) #[] #[vP b_f_c0 0]), (7, vI (s.length : Int)), (8, vI i1)] [14, 11, 5, 0, 1, 7, 8] (by kernel_rfl) ?_
   refine ops_mem (d := some 15) (an := [.v (.string x3.Name), .v (vI x3.Bits), .v (vI x3.Low)]) (evs := [.load (ad11.add (m5 * 3)) (.string x3.Name), .load ((ad11.add (m5 * 3)).add 1) (vI x3.Bits), .load ((ad11.add (m5 * 3)).add 2) (vI x3.Low)]) (v := .agg #[.string x3.Name, vI x3.Bits, vI x3.Low]) (M' := Mem w0 (.blk b_f_c0 [.string f_c0_0] 9 :: Fz F W :: cs)) ⟨by kernel_rfl⟩ (fun w_ hM hS => ⟨w_, ⟨hM.elcell 1 rfl hq13 0 rfl, hM.elcell 1 rfl hq13 1 rfl, hM.elcell 1 rfl hq13 2 rfl, rfl⟩, hM, trivial⟩) ?_
   refine oR [] [(15, .agg #[.string x3.Name, vI x3.Bits, vI x3.Low]), (11, .func (.func 28) #[] #[vP b_f_c0 0]), (5, vI i1), (0, .slice A_s s.length c_s), (1, .func (.func 28) #[] #[vP b_f_c0 0]), (7, vI (s.length : Int)), (8, vI i1)] [15, 11, 5, 0, 1, 7, 8] (by kernel_rfl) ?_
   obtain ⟨x14, hv15, hp⟩ := obind hp
   refine ops_callI (σ := Unit) (d := some 16) (f := 28) (args := #[.agg #[.string x3.Name, vI x3.Bits, vI x3.Low], vP b_f_c0 0]) (v := (fun _ => .bool x14)) (I := (fun _ => True)) (M' := (fun _ => Mem w0 (.blk b_f_c0 [.string f_c0_0] 9 :: Fz F W :: cs))) ⟨by kernel_rfl⟩ (fun w_ hM hS => (tourlaw3_KindSays_2_ok w0 w_ (cs) F W x3.Name x3.Bits x3.Low b_f_c0 f_c0_0 hM  x14 hv15).mono (by rintro e w' ⟨-, rfl, h'⟩; have h' : Mem w0 (.blk b_f_c0 [.string f_c0_0] 9 :: Fz F W :: cs) w' := h'; exact ⟨(), trivial, rfl, h', trivial⟩)) ?_
   rintro _ -
   refine ops_conv (l' := [(16, .bool x14), (15, .agg #[.string x3.Name, vI x3.Bits, vI x3.Low]), (11, .func (.func 28) #[] #[vP b_f_c0 0]), (5, vI i1), (0, .slice A_s s.length c_s), (1, .func (.func 28) #[] #[vP b_f_c0 0]), (7, vI (s.length : Int)), (8, vI i1)]) (M' := Mem w0 (.blk b_f_c0 [.string f_c0_0] 9 :: Fz F W :: cs)) rfl (fun _ h => h) ?_
   refine oR [] [(16, .bool x14), (5, vI i1), (0, .slice A_s s.length c_s), (1, .func (.func 28) #[] #[vP b_f_c0 0]), (7, vI (s.length : Int)), (8, vI i1)] [16, 5, 0, 1, 7, 8] (by kernel_rfl) ?_
   refine ops_nil ?_
   refine fin_then ?_
   refine st_if (b := x14) rfl (fun hc16 => ?_) (fun hc16 => ?_)
   · --
    have hp := cnd_t hc16 hp
    refine st_seq ?_
    refine st_region [oF 0, oF 1] (by rfl) ?_
    refine oR [oF 0, oF 1] [(4, vI i1)] [4] (by kernel_rfl) ?_
    refine ops_nil ?_
    refine fin_then ?_
    refine st_ret ?_
    refine fin_ret_block ?_
    refine fin_ret_then ?_
    refine fin_ret_then ?_
    refine fin_ret_block ?_
    refine fin_ret_then ?_
    obtain hq_ := Option.some.inj hp
    subst hq_
    obtain hq_ := hd2 _ rfl
    subst hq_
    have hp : some i1 = some i9001 := hk2
    have hq_ := Option.some.inj hp
    have hr0_ := hq_
    subst hr0_
    refine fin_ret [.tmp 4] [vI i1] rfl rfl (fun w_ hM => (.tmp rfl .nil)) (fun w_ hM => ?_)
    exact ⟨trivial, rfl, hM⟩
   · --
    have hp := cnd_f hc16 hp
    refine st_skip ?_
    refine fin_block ?_
    refine fin_then ?_
    refine st_region [oF 0, oF 1] (by rfl) ?_
    refine oR [oF 0, oF 1] [(8, vI (IntKind.i64.wrap (i1 + 1))), (0, .slice A_s s.length c_s), (1, .func (.func 28) #[] #[vP b_f_c0 0]), (7, vI (s.length : Int))] [8, 0, 1, 7] (by kernel_rfl) ?_
    refine ops_nil ?_
    exact fin_again (IntKind.i64.wrap (i1 + 1)) () (Option.some.inj hp).symm trivial (look_has ⟨rfl, rfl, rfl, rfl, trivial⟩) (fun w_ hM => hM)
  · --
   have hp := cnd_f hc2 hp
   refine st_exit ?_
   refine fin_exit_then ?_
   refine fin_exit_then ?_
   refine fin_exit ?_
   obtain hq_ := Option.some.inj hp
   subst hq_
   obtain hq_ := hd2 _ rfl
   subst hq_
   have hp : slices_IndexFunc_api_Field_api_Field_j1 = some i9001 := hk2
   exact fin_join HJ1 () hp (look_has trivial) (fun w_ hM => hM)
set_option maxHeartbeats 4000000 in
set_option maxRecDepth 100000 in
theorem tourlaw3_KindSays_1_ok (w0 w : World) (cs : List Chunk) (F : Nat → Prop) (W : World) (x_0 : ByteArray) (A_x_1 : Option Addr) (c_x_1 : Nat) (x_1 : List api_Field) (b_p1 : Nat) (p1_0 : ByteArray) (hM0 : Mem w0 (.blk b_p1 [.string p1_0] 9 :: Fz F W :: cs) w) (h_x_1 : RdS R_api_Field F W A_x_1 c_x_1 x_1) (t9001 : Bool) (hp : tourlaw3_KindSays_1 x_0 x_1 p1_0 = some t9001) : Calls Tryd.prog 26 #[.agg #[.string x_0, .slice A_x_1 x_1.length c_x_1], vP b_p1 0] w fun e w' => (True) ∧ e = .returned (.bool t9001) ∧ Mem w0 (.blk b_p1 [.string p1_0] 9 :: Fz F W :: cs) w' := by
 unfold tourlaw3_KindSays_1 at hp
 refine sx_calls Tryd.func26 rfl (n := 8) (by kernel_rfl) (l := [(0, .agg #[.string x_0, .slice A_x_1 x_1.length c_x_1]), (1, vP b_p1 0)]) rfl (by rfl) hM0 ?_
 refine st_seq ?_
 refine st_region [oF 0, oF 1] (by rfl) ?_
 refine ops_new (d := some 2) (o := .cells #[.string x_0, .slice A_x_1 x_1.length c_x_1] 27) (v := fun b1 => vP b1 0) (M' := fun b1 => Mem w0 (.blk b1 [.string x_0, .slice A_x_1 x_1.length c_x_1] 27 :: .blk b_p1 [.string p1_0] 9 :: Fz F W :: cs)) (fun b1 => ⟨by kernel_rfl⟩) (fun w_ hM hS => ⟨hM.blk [.string x_0, .slice A_x_1 x_1.length c_x_1] 27, trivial⟩) (fun b1 => ?_)
 refine oR [oF 1] [(2, vP b1 0), (1, vP b_p1 0)] [2, 1] (by kernel_rfl) ?_
 refine ops_nil ?_
 refine fin_then ?_
 refine st_seq ?_
 refine st_region [oF 0, oF 1, oF 2, oF 3, oF 4] (by rfl) ?_
 refine oR [oF 0] [(4, vP b1 0), (1, vP b_p1 0)] [4, 1] (by kernel_rfl) ?_
 refine ops_mem (d := some 5) (an := [.v (.string x_0)]) (evs := [.load ⟨b1, 0, none⟩ (.string x_0)]) (v := .string x_0) (M' := Mem w0 (.blk b1 [.string x_0, .slice A_x_1 x_1.length c_x_1] 27 :: .blk b_p1 [.string p1_0] 9 :: Fz F W :: cs)) ⟨by kernel_rfl⟩ (fun w_ hM hS => ⟨w_, ⟨hM.cell 0 rfl rfl, rfl⟩, hM, trivial⟩) ?_
 refine oR [] [(5, .string x_0), (1, vP b_p1 0)] [5, 1] (by kernel_rfl) ?_
 refine ops_mem (d := some 6) (an := [.v (.string p1_0)]) (evs := [.load ⟨b_p1, 0, none⟩ (.string p1_0)]) (v := .string p1_0) (M' := Mem w0 (.blk b1 [.string x_0, .slice A_x_1 x_1.length c_x_1] 27 :: .blk b_p1 [.string p1_0] 9 :: Fz F W :: cs)) ⟨by kernel_rfl⟩ (fun w_ hM hS => ⟨w_, ⟨hM.cell 1 rfl rfl, rfl⟩, hM, trivial⟩) ?_
 refine oR [oF 3, oF 4] [(3, .bool (x_0.toList == p1_0.toList))] [3] (by kernel_rfl) ?_
 refine ops_nil ?_
 refine fin_then ?_
 refine st_ret ?_
 have hq_ := Option.some.inj hp
 have hr0_ := hq_
 subst hr0_
 refine fin_ret [.tmp 3] [.bool (x_0.toList == p1_0.toList)] rfl rfl (fun w_ hM => (.tmp rfl .nil)) (fun w_ hM => ?_)
 exact ⟨trivial, rfl, hM.pick 3 [1, 2] (by kernel_rfl) (by decide) rfl⟩
set_option maxHeartbeats 4000000 in
set_option maxRecDepth 100000 in
theorem slices_IndexFunc_api_Kind_api_Kind_ok (w0 w : World) (cs : List Chunk) (F : Nat → Prop) (W : World) (A_s : Option Addr) (c_s : Nat) (s : List api_Kind) (b_f_c0 : Nat) (f_c0_0 : ByteArray) (hM0 : Mem w0 (.blk b_f_c0 [.string f_c0_0] 9 :: Fz F W :: cs) w) (h_s : RdS R_api_Kind F W A_s c_s s) (i9001 : Int) (hp : slices_IndexFunc_api_Kind_api_Kind s f_c0_0 = some i9001) : Calls Tryd.prog 30 #[.slice A_s s.length c_s, .func (.func 26) #[] #[vP b_f_c0 0]] w fun e w' => (True) ∧ e = .returned (vI i9001) ∧ Mem w0 (.blk b_f_c0 [.string f_c0_0] 9 :: Fz F W :: cs) w' := by
 unfold slices_IndexFunc_api_Kind_api_Kind at hp
 refine sx_calls Tryd.func30 rfl (n := 19) (by kernel_rfl) (l := [(0, .slice A_s s.length c_s), (1, .func (.func 26) #[] #[vP b_f_c0 0])]) rfl (by rfl) hM0 ?_
 refine st_seq ?_
 refine st_region [oF 0] (by rfl) ?_
 refine oR [oF 0] [(0, .slice A_s s.length c_s), (1, .func (.func 26) #[] #[vP b_f_c0 0])] [0, 1] (by kernel_rfl) ?_
 refine ops_nil ?_
 refine fin_then ?_
 refine st_join1 (σ := Unit) (L := fun _ => []) (N := fun _ => Mem w0 (.blk b_f_c0 [.string f_c0_0] 9 :: Fz F W :: cs)) (I := fun _ => (slices_IndexFunc_api_Kind_api_Kind_j1 = some i9001)) ?_ ?_
 · --
  rintro _ hp
  refine st_conv (l' := []) (M' := Mem w0 (.blk b_f_c0 [.string f_c0_0] 9 :: Fz F W :: cs)) rfl (fun _ h => h) ?_
  unfold slices_IndexFunc_api_Kind_api_Kind_j1 at hp
  refine st_seq ?_
  refine st_region [oF 0] (by rfl) ?_
  refine oR [oF 0] [(4, vI (-1))] [4] (by kernel_rfl) ?_
  refine ops_nil ?_
  refine fin_then ?_
  refine st_ret ?_
  have hq_ := Option.some.inj hp
  have hr0_ := hq_
  subst hr0_
  refine fin_ret [.tmp 4] [vI (-1)] rfl rfl (fun w_ hM => (.tmp rfl .nil)) (fun w_ hM => ?_)
  exact ⟨trivial, rfl, hM⟩
 · --
  intro HJ1
  refine st_seq ?_
  refine st_seq ?_
  refine st_region [oF 0, oF 1, oF 2] (by rfl) ?_
  refine oR [oF 0, oF 1, oF 2] [(8, vI 0), (7, vI (s.length : Int)), (0, .slice A_s s.length c_s), (1, .func (.func 26) #[] #[vP b_f_c0 0])] [8, 7, 0, 1] (by kernel_rfl) ?_
  refine ops_nil ?_
  refine fin_then ?_
  refine st_block ?_
  obtain ⟨r2, hl2, hk2⟩ := obind hp
  refine st_loopP (σ := Int) (ρ := (Int ⊕ Unit)) (γ := Unit) hl2 () (fun s_ g_ => match s_, g_ with | i1, _ => [(0, .slice A_s s.length c_s), (1, .func (.func 26) #[] #[vP b_f_c0 0]), (7, vI (s.length : Int)), (8, vI i1)]) (fun s_ g_ => match s_, g_ with | i1, _ => Mem w0 (.blk b_f_c0 [.string f_c0_0] 9 :: Fz F W :: cs)) (fun s_ g_ => match s_, g_ with | i1, _ => True) trivial (look_has ⟨rfl, rfl, rfl, rfl, trivial⟩) (fun w_ hM => hM) ?_
  rintro i1 _ o2 - hs_ hd2
  have hp : (slices_IndexFunc_api_Kind_api_Kind_l2 s f_c0_0) i1 = some o2 := hs_
  clear hs_
  unfold slices_IndexFunc_api_Kind_api_Kind_l2 at hp
  refine st_conv (l' := [(0, .slice A_s s.length c_s), (1, .func (.func 26) #[] #[vP b_f_c0 0]), (7, vI (s.length : Int)), (8, vI i1)]) (M' := Mem w0 (.blk b_f_c0 [.string f_c0_0] 9 :: Fz F W :: cs)) rfl (fun _ h => h) ?_
  refine st_seq ?_
  refine st_region [oF 0] (by rfl) ?_
  refine oR [oF 0] [(9, .bool (decide (i1 < (s.length : Int)))), (0, .slice A_s s.length c_s), (1, .func (.func 26) #[] #[vP b_f_c0 0]), (7, vI (s.length : Int)), (8, vI i1)] [9, 0, 1, 7, 8] (by kernel_rfl) ?_
  refine ops_nil ?_
  refine fin_then ?_
  refine st_seq ?_
  refine st_if (b := decide (i1 < (s.length : Int))) rfl (fun hc2 => ?_) (fun hc2 => ?_)
  · --
   have hp := cnd_t hc2 hp
   refine st_skip ?_
   refine fin_then ?_
   refine st_seq ?_
   refine st_block ?_
   refine st_seq ?_
   refine st_region [oF 0, oF 1] (by rfl) ?_
   refine oR [oF 0, oF 1] [(5, vI i1), (0, .slice A_s s.length c_s), (1, .func (.func 26) #[] #[vP b_f_c0 0]), (7, vI (s.length : Int)), (8, vI i1)] [5, 0, 1, 7, 8] (by kernel_rfl) ?_
   refine ops_nil ?_
   refine fin_then ?_
   refine st_seq ?_
   refine st_region [oF 0, oF 1, oF 2, oF 3, oF 4, oF 5] (by rfl) ?_
   refine oR [oF 0, oF 1, oF 2] [(13, vI i1), (12, .slice A_s s.length c_s), (11, .func (.func 26) #[] #[vP b_f_c0 0]), (5, vI i1), (0, .slice A_s s.length c_s), (1, .func (.func 26) #[] #[vP b_f_c0 0]), (7, vI (s.length : Int)), (8, vI i1)] [13, 12, 11, 5, 0, 1, 7, 8] (by kernel_rfl) ?_
   obtain ⟨x3, hv4, hp⟩ := obind hp
   obtain ⟨m5, hm6, hx7⟩ := idx_some hv4
   have hl10 := (List.getElem?_eq_some_iff.1 hx7).1
   obtain ⟨ad11, vs8, hA12, hr9, hq13⟩ := RdS.el h_s hx7
   obtain ⟨A14, c15, rfl, h16⟩ := dec_api_Kind hr9
   refine ops_val (op := (Go.Op.indexAddr 28 (Go.Operand.tmp 12) (Go.Operand.tmp 13))) (d := some 14) (v := .pointer (some (ad11.add (m5 * 2)))) ⟨by kernel_rfl⟩ (run_indexA hA12 Tryd.underlying28 (z := 2) (by kernel_rfl) rfl rfl hm6 hl10) ?_
   refine oR [] [(14, .pointer (some (ad11.add (m5 * 2)))), (11, .func (.func 26) #[] #[vP b_f_c0 0]), (5, vI i1), (0, .slice A_s s.length c_s), (1, .func (.func 26) #[] #[vP b_f_c0 0]), (7, vI (s.length : Int)), (8, vI i1)] [14, 11, 5, 0, 1, 7, 8] (by kernel_rfl) ?_
   refine ops_mem (d := some 15) (an := [.v (.string x3.Name), .v (.slice A14 x3.Fields.length c15)]) (evs := [.load (ad11.add (m5 * 2)) (.string x3.Name), .load ((ad11.add (m5 * 2)).add 1) (.slice A14 x3.Fields.length c15)]) (v := .agg #[.string x3.Name, .slice A14 x3.Fields.length c15]) (M' := Mem w0 (.blk b_f_c0 [.string f_c0_0] 9 :: Fz F W :: cs)) ⟨by kernel_rfl⟩ (fun w_ hM hS => ⟨w_, ⟨hM.elcell 1 rfl hq13 0 rfl, hM.elcell 1 rfl hq13 1 rfl, rfl⟩, hM, trivial⟩) ?_
   refine oR [] [(15, .agg #[.string x3.Name, .slice A14 x3.Fields.length c15]), (11, .func (.func 26) #[] #[vP b_f_c0 0]), (5, vI i1), (0, .slice A_s s.length c_s), (1, .func (.func 26) #[] #[vP b_f_c0 0]), (7, vI (s.length : Int)), (8, vI i1)] [15, 11, 5, 0, 1, 7, 8] (by kernel_rfl) ?_
   obtain ⟨x17, hv18, hp⟩ := obind hp
   refine ops_callI (σ := Unit) (d := some 16) (f := 26) (args := #[.agg #[.string x3.Name, .slice A14 x3.Fields.length c15], vP b_f_c0 0]) (v := (fun _ => .bool x17)) (I := (fun _ => True)) (M' := (fun _ => Mem w0 (.blk b_f_c0 [.string f_c0_0] 9 :: Fz F W :: cs))) ⟨by kernel_rfl⟩ (fun w_ hM hS => (tourlaw3_KindSays_1_ok w0 w_ (cs) F W x3.Name A14 c15 x3.Fields b_f_c0 f_c0_0 hM h16 x17 hv18).mono (by rintro e w' ⟨-, rfl, h'⟩; have h' : Mem w0 (.blk b_f_c0 [.string f_c0_0] 9 :: Fz F W :: cs) w' := h'; exact ⟨(), trivial, rfl, h', trivial⟩)) ?_
   rintro _ -
   refine ops_conv (l' := [(16, .bool x17), (15, .agg #[.string x3.Name, .slice A14 x3.Fields.length c15]), (11, .func (.func 26) #[] #[vP b_f_c0 0]), (5, vI i1), (0, .slice A_s s.length c_s), (1, .func (.func 26) #[] #[vP b_f_c0 0]), (7, vI (s.length : Int)), (8, vI i1)]) (M' := Mem w0 (.blk b_f_c0 [.string f_c0_0] 9 :: Fz F W :: cs)) rfl (fun _ h => h) ?_
   refine oR [] [(16, .bool x17), (5, vI i1), (0, .slice A_s s.length c_s), (1, .func (.func 26) #[] #[vP b_f_c0 0]), (7, vI (s.length : Int)), (8, vI i1)] [16, 5, 0, 1, 7, 8] (by kernel_rfl) ?_
   refine ops_nil ?_
   refine fin_then ?_
   refine st_if (b := x17) rfl (fun hc19 => ?_) (fun hc19 => ?_)
   · --
    have hp := cnd_t hc19 hp
    refine st_seq ?_
    refine st_region [oF 0, oF 1] (by rfl) ?_
    refine oR [oF 0, oF 1] [(4, vI i1)] [4] (by kernel_rfl) ?_
    refine ops_nil ?_
    refine fin_then ?_
    refine st_ret ?_
    refine fin_ret_block ?_
    refine fin_ret_then ?_
    refine fin_ret_then ?_
    refine fin_ret_block ?_
    refine fin_ret_then ?_
    obtain hq_ := Option.some.inj hp
    subst hq_
    obtain hq_ := hd2 _ rfl
    subst hq_
    have hp : some i1 = some i9001 := hk2
    have hq_ := Option.some.inj hp
    have hr0_ := hq_
    subst hr0_
    refine fin_ret [.tmp 4] [vI i1] rfl rfl (fun w_ hM => (.tmp rfl .nil)) (fun w_ hM => ?_)
    exact ⟨trivial, rfl, hM⟩
   · --
    have hp := cnd_f hc19 hp
    refine st_skip ?_
    refine fin_block ?_
    refine fin_then ?_
    refine st_region [oF 0, oF 1] (by rfl) ?_
    refine oR [oF 0, oF 1] [(8, vI (IntKind.i64.wrap (i1 + 1))), (0, .slice A_s s.length c_s), (1, .func (.func 26) #[] #[vP b_f_c0 0]), (7, vI (s.length : Int))] [8, 0, 1, 7] (by kernel_rfl) ?_
    refine ops_nil ?_
    exact fin_again (IntKind.i64.wrap (i1 + 1)) () (Option.some.inj hp).symm trivial (look_has ⟨rfl, rfl, rfl, rfl, trivial⟩) (fun w_ hM => hM)
  · --
   have hp := cnd_f hc2 hp
   refine st_exit ?_
   refine fin_exit_then ?_
   refine fin_exit_then ?_
   refine fin_exit ?_
   obtain hq_ := Option.some.inj hp
   subst hq_
   obtain hq_ := hd2 _ rfl
   subst hq_
   have hp : slices_IndexFunc_api_Kind_api_Kind_j1 = some i9001 := hk2
   exact fin_join HJ1 () hp (look_has trivial) (fun w_ hM => hM)
set_option maxHeartbeats 4000000 in
set_option maxRecDepth 100000 in
theorem kind_Field_ok (w0 w : World) (cs : List Chunk) (F : Nat → Prop) (W : World) (k_0 : ByteArray) (A_k_1 : Option Addr) (c_k_1 : Nat) (k_1 : List api_Field) (name : ByteArray) (hM0 : Mem w0 (Fz F W :: cs) w) (h_k_1 : RdS R_api_Field F W A_k_1 c_k_1 k_1) (i9001 : Int) (hp : kind_Field k_0 k_1 name = some i9001) : Calls Tryd.prog 31 #[.agg #[.string k_0, .slice A_k_1 k_1.length c_k_1], .string name] w fun e w' => (True) ∧ e = .returned (vI i9001) ∧ Mem w0 (Fz F W :: cs) w' := by
 unfold kind_Field at hp
 refine sx_calls Tryd.func31 rfl (n := 21) (by kernel_rfl) (l := [(0, .agg #[.string k_0, .slice A_k_1 k_1.length c_k_1]), (1, .string name)]) rfl (by rfl) hM0 ?_
 refine st_seq ?_
 refine st_region [oF 0, oF 1] (by rfl) ?_
 refine ops_new (d := some 2) (o := .cells #[.string k_0, .slice A_k_1 k_1.length c_k_1] 27) (v := fun b1 => vP b1 0) (M' := fun b1 => Mem w0 (.blk b1 [.string k_0, .slice A_k_1 k_1.length c_k_1] 27 :: Fz F W :: cs)) (fun b1 => ⟨by kernel_rfl⟩) (fun w_ hM hS => ⟨hM.blk [.string k_0, .slice A_k_1 k_1.length c_k_1] 27, trivial⟩) (fun b1 => ?_)
 refine oR [oF 1] [(2, vP b1 0), (1, .string name)] [2, 1] (by kernel_rfl) ?_
 refine ops_nil ?_
 refine fin_then ?_
 refine st_join1 (σ := Unit) (L := fun _ => []) (N := fun _ => Mem w0 (Fz F W :: cs)) (I := fun _ => (kind_Field_j1 = some i9001)) ?_ ?_
 · --
  rintro _ hp
  refine st_conv (l' := []) (M' := Mem w0 (Fz F W :: cs)) rfl (fun _ h => h) ?_
  unfold kind_Field_j1 at hp
  refine st_seq ?_
  refine st_region [oF 0] (by rfl) ?_
  refine oR [oF 0] [(4, vI (-1))] [4] (by kernel_rfl) ?_
  refine ops_nil ?_
  refine fin_then ?_
  refine st_ret ?_
  have hq_ := Option.some.inj hp
  have hr0_ := hq_
  subst hr0_
  refine fin_ret [.tmp 4] [vI (-1)] rfl rfl (fun w_ hM => (.tmp rfl .nil)) (fun w_ hM => ?_)
  exact ⟨trivial, rfl, hM⟩
 · --
  intro HJ1
  refine st_seq ?_
  refine st_seq ?_
  refine st_region [oF 0, oF 1, oF 2, oF 3] (by rfl) ?_
  refine oR [oF 0] [(7, vP b1 1), (1, .string name)] [7, 1] (by kernel_rfl) ?_
  refine ops_mem (d := some 8) (an := [.v (.slice A_k_1 k_1.length c_k_1)]) (evs := [.load ⟨b1, 1, none⟩ (.slice A_k_1 k_1.length c_k_1)]) (v := .slice A_k_1 k_1.length c_k_1) (M' := Mem w0 (.blk b1 [.string k_0, .slice A_k_1 k_1.length c_k_1] 27 :: Fz F W :: cs)) ⟨by kernel_rfl⟩ (fun w_ hM hS => ⟨w_, ⟨hM.cell 0 rfl rfl, rfl⟩, hM, trivial⟩) ?_
  refine oR [oF 2, oF 3] [(10, vI 0), (9, vI (k_1.length : Int)), (8, .slice A_k_1 k_1.length c_k_1), (1, .string name)] [10, 9, 8, 1] (by kernel_rfl) ?_
  refine ops_nil ?_
  refine fin_then ?_
  refine st_block ?_
  obtain ⟨r2, hl2, hk2⟩ := obind hp
  refine st_loopP (σ := Int) (ρ := (Int ⊕ Unit)) (γ := Unit) hl2 () (fun s_ g_ => match s_, g_ with | i2, _ => [(1, .string name), (8, .slice A_k_1 k_1.length c_k_1), (9, vI (k_1.length : Int)), (10, vI i2)]) (fun s_ g_ => match s_, g_ with | i2, _ => Mem w0 (Fz F W :: cs)) (fun s_ g_ => match s_, g_ with | i2, _ => True) trivial (look_has ⟨rfl, rfl, rfl, rfl, trivial⟩) (fun w_ hM => hM.pick 2 [1] (by kernel_rfl) (by decide) rfl) ?_
  rintro i2 _ o2 - hs_ hd2
  have hp : (kind_Field_l2 k_1 name) i2 = some o2 := hs_
  clear hs_
  unfold kind_Field_l2 at hp
  refine st_conv (l' := [(1, .string name), (8, .slice A_k_1 k_1.length c_k_1), (9, vI (k_1.length : Int)), (10, vI i2)]) (M' := Mem w0 (Fz F W :: cs)) rfl (fun _ h => h) ?_
  refine st_seq ?_
  refine st_region [oF 0] (by rfl) ?_
  refine oR [oF 0] [(11, .bool (decide (i2 < (k_1.length : Int)))), (1, .string name), (8, .slice A_k_1 k_1.length c_k_1), (9, vI (k_1.length : Int)), (10, vI i2)] [11, 1, 8, 9, 10] (by kernel_rfl) ?_
  refine ops_nil ?_
  refine fin_then ?_
  refine st_seq ?_
  refine st_if (b := decide (i2 < (k_1.length : Int))) rfl (fun hc3 => ?_) (fun hc3 => ?_)
  · --
   have hp := cnd_t hc3 hp
   refine st_skip ?_
   refine fin_then ?_
   refine st_seq ?_
   refine st_block ?_
   refine st_seq ?_
   refine st_region [oF 0, oF 1, oF 2, oF 3, oF 4, oF 5] (by rfl) ?_
   refine oR [oF 0] [(12, vI i2), (1, .string name), (8, .slice A_k_1 k_1.length c_k_1), (9, vI (k_1.length : Int)), (10, vI i2)] [12, 1, 8, 9, 10] (by kernel_rfl) ?_
   obtain ⟨x4, hv5, hp⟩ := obind hp
   obtain ⟨m6, hm7, hx8⟩ := idx_some hv5
   have hl11 := (List.getElem?_eq_some_iff.1 hx8).1
   obtain ⟨ad12, vs9, hA13, hr10, hq14⟩ := RdS.el h_k_1 hx8
   obtain rfl := dec_api_Field hr10
   refine ops_val (op := (Go.Op.indexAddr 25 (Go.Operand.tmp 8) (Go.Operand.tmp 10))) (d := some 13) (v := .pointer (some (ad12.add (m6 * 3)))) ⟨by kernel_rfl⟩ (run_indexA hA13 Tryd.underlying25 (z := 3) (by kernel_rfl) rfl rfl hm7 hl11) ?_
   refine ops_mem (d := some 14) (an := [.v (.string x4.Name), .v (vI x4.Bits), .v (vI x4.Low)]) (evs := [.load (ad12.add (m6 * 3)) (.string x4.Name), .load ((ad12.add (m6 * 3)).add 1) (vI x4.Bits), .load ((ad12.add (m6 * 3)).add 2) (vI x4.Low)]) (v := .agg #[.string x4.Name, vI x4.Bits, vI x4.Low]) (M' := Mem w0 (Fz F W :: cs)) ⟨by kernel_rfl⟩ (fun w_ hM hS => ⟨w_, ⟨hM.elcell 0 rfl hq14 0 rfl, hM.elcell 0 rfl hq14 1 rfl, hM.elcell 0 rfl hq14 2 rfl, rfl⟩, hM, trivial⟩) ?_
   refine oR [] [(14, .agg #[.string x4.Name, vI x4.Bits, vI x4.Low]), (12, vI i2), (1, .string name), (8, .slice A_k_1 k_1.length c_k_1), (9, vI (k_1.length : Int)), (10, vI i2)] [14, 12, 1, 8, 9, 10] (by kernel_rfl) ?_
   refine ops_new (d := some 6) (o := .cells #[.string ByteArray.empty, vI 0, vI 0] 23) (v := fun b15 => vP b15 0) (M' := fun b15 => Mem w0 (.blk b15 [.string ByteArray.empty, vI 0, vI 0] 23 :: Fz F W :: cs)) (fun b15 => ⟨by kernel_rfl⟩) (fun w_ hM hS => ⟨hM.blk [.string ByteArray.empty, vI 0, vI 0] 23, trivial⟩) (fun b15 => ?_)
   refine oR [oF 4] [(5, vI i2), (6, vP b15 0), (14, .agg #[.string x4.Name, vI x4.Bits, vI x4.Low]), (1, .string name), (8, .slice A_k_1 k_1.length c_k_1), (9, vI (k_1.length : Int)), (10, vI i2)] [5, 6, 14, 1, 8, 9, 10] (by kernel_rfl) ?_
   refine ops_store (an := []) (evs := [.store ⟨b15, 0, none⟩ (.string x4.Name), .store ⟨b15, 1, none⟩ (vI x4.Bits), .store ⟨b15, 2, none⟩ (vI x4.Low)]) (M' := Mem w0 (.blk b15 [.string x4.Name, vI x4.Bits, vI x4.Low] 23 :: Fz F W :: cs)) ⟨by kernel_rfl⟩ (fun w_ hM hS => let ⟨w', he, h'⟩ := hM.evs_stores [.string x4.Name, vI x4.Bits, vI x4.Low] 0 rfl 0 (Nat.le_of_ble_eq_true rfl); ⟨w', he, h', trivial⟩) ?_
   refine oR [] [(5, vI i2), (6, vP b15 0), (1, .string name), (8, .slice A_k_1 k_1.length c_k_1), (9, vI (k_1.length : Int)), (10, vI i2)] [5, 6, 1, 8, 9, 10] (by kernel_rfl) ?_
   refine ops_nil ?_
   refine fin_then ?_
   refine st_seq ?_
   refine st_region [oF 0, oF 1, oF 2, oF 3] (by rfl) ?_
   refine oR [oF 0] [(15, vP b15 0), (5, vI i2), (1, .string name), (8, .slice A_k_1 k_1.length c_k_1), (9, vI (k_1.length : Int)), (10, vI i2)] [15, 5, 1, 8, 9, 10] (by kernel_rfl) ?_
   refine ops_mem (d := some 16) (an := [.v (.string x4.Name)]) (evs := [.load ⟨b15, 0, none⟩ (.string x4.Name)]) (v := .string x4.Name) (M' := Mem w0 (.blk b15 [.string x4.Name, vI x4.Bits, vI x4.Low] 23 :: Fz F W :: cs)) ⟨by kernel_rfl⟩ (fun w_ hM hS => ⟨w_, ⟨hM.cell 0 rfl rfl, rfl⟩, hM, trivial⟩) ?_
   refine oR [oF 2, oF 3] [(18, .bool (x4.Name.toList == name.toList)), (5, vI i2), (1, .string name), (8, .slice A_k_1 k_1.length c_k_1), (9, vI (k_1.length : Int)), (10, vI i2)] [18, 5, 1, 8, 9, 10] (by kernel_rfl) ?_
   refine ops_nil ?_
   refine fin_then ?_
   refine st_if (b := (x4.Name.toList == name.toList)) rfl (fun hc16 => ?_) (fun hc16 => ?_)
   · --
    have hp := cnd_t hc16 hp
    refine st_seq ?_
    refine st_region [oF 0, oF 1] (by rfl) ?_
    refine oR [oF 0, oF 1] [(4, vI i2)] [4] (by kernel_rfl) ?_
    refine ops_nil ?_
    refine fin_then ?_
    refine st_ret ?_
    refine fin_ret_block ?_
    refine fin_ret_then ?_
    refine fin_ret_then ?_
    refine fin_ret_block ?_
    refine fin_ret_then ?_
    obtain hq_ := Option.some.inj hp
    subst hq_
    obtain hq_ := hd2 _ rfl
    subst hq_
    have hp : some i2 = some i9001 := hk2
    have hq_ := Option.some.inj hp
    have hr0_ := hq_
    subst hr0_
    refine fin_ret [.tmp 4] [vI i2] rfl rfl (fun w_ hM => (.tmp rfl .nil)) (fun w_ hM => ?_)
    exact ⟨trivial, rfl, hM.pick 2 [1] (by kernel_rfl) (by decide) rfl⟩
   · --
    have hp := cnd_f hc16 hp
    refine st_skip ?_
    refine fin_block ?_
    refine fin_then ?_
    refine st_region [oF 0, oF 1] (by rfl) ?_
    refine oR [oF 0, oF 1] [(10, vI (IntKind.i64.wrap (i2 + 1))), (1, .string name), (8, .slice A_k_1 k_1.length c_k_1), (9, vI (k_1.length : Int))] [10, 1, 8, 9] (by kernel_rfl) ?_
    refine ops_nil ?_
    exact fin_again (IntKind.i64.wrap (i2 + 1)) () (Option.some.inj hp).symm trivial (look_has ⟨rfl, rfl, rfl, rfl, trivial⟩) (fun w_ hM => hM.pick 2 [1] (by kernel_rfl) (by decide) rfl)
  · --
   have hp := cnd_f hc3 hp
   refine st_exit ?_
   refine fin_exit_then ?_
   refine fin_exit_then ?_
   refine fin_exit ?_
   obtain hq_ := Option.some.inj hp
   subst hq_
   obtain hq_ := hd2 _ rfl
   subst hq_
   have hp : kind_Field_j1 = some i9001 := hk2
   exact fin_join HJ1 () hp (look_has trivial) (fun w_ hM => hM)
set_option maxHeartbeats 4000000 in
set_option maxRecDepth 100000 in
theorem kind_Copy_ok (w0 w : World) (cs : List Chunk) (F : Nat → Prop) (W : World) (A_l : Option Addr) (c_l : Nat) (l : List api_Kind) (hM0 : Mem w0 (Fz F W :: cs) w) (h_l : RdS R_api_Kind F W A_l c_l l) (l9003 : List api_Kind) (hp : kind_Copy l = some l9003) : Calls Tryd.prog 33 #[.slice A_l l.length c_l] w fun e w' => ∃ (A9001 : Option Addr), ∃ (c9002 : Nat), ∃ (y9004 : List Value), ∃ (F9006 : Nat → Prop), ∃ (W9007 : World), ((RepL R_api_Kind F9006 W9007 l9003 y9004) ∧ (Ext w0 F W F9006 W9007)) ∧ e = .returned (.slice A9001 l9003.length c9002) ∧ Mem w0 (orow A9001 l9003.length c9002 27 2 y9004 :: Fz F9006 W9007 :: cs) w' := by
 unfold kind_Copy at hp
 refine sx_calls Tryd.func33 rfl (n := 27) (by kernel_rfl) (l := [(0, .slice A_l l.length c_l)]) rfl (by rfl) hM0 ?_
 refine st_seq ?_
 refine st_region [oF 0] (by rfl) ?_
 refine oR [oF 0] [(0, .slice A_l l.length c_l)] [0] (by kernel_rfl) ?_
 refine ops_nil ?_
 refine fin_then ?_
 refine st_seq ?_
 refine st_region [oF 0, oF 1, oF 2, oF 3] (by rfl) ?_
 refine oR [oF 0, oF 1] [(7, vI (l.length : Int)), (0, .slice A_l l.length c_l)] [7, 0] (by kernel_rfl) ?_
 obtain ⟨l1, hv2, hp⟩ := obind hp
 obtain ⟨m3, hm4, he5, hb6⟩ := mk_some hv2
 have hl7 : l1.length = m3 := by rw [he5, List.length_replicate]
 obtain ⟨y8, hy9⟩ : ∃ y_, (Sx.madeOf [.string ByteArray.empty, .slice none 0 0] (l1.length * 2)).toList = y_ := ⟨_, rfl⟩
 have h10 : RepL R_api_Kind F W l1 y8 := by rw [← hy9, hl7, he5]; exact RepL.made (enc_api_Kind (RdS.empty _)) (by decide) _
 refine ops_makeO (t := 28) (x := (Go.Operand.tmp 7)) (y := (Go.Operand.tmp 7)) (d := some 8) (nn := l1.length) (z := 2) (bytes := 40) (xs := y8) (zv := .agg #[.string ByteArray.empty, .slice none 0 0]) ⟨by kernel_rfl⟩ rfl rfl (by rw [hl7]; exact hm4) (by rw [hl7]; exact hm4) Tryd.underlying28 (by kernel_rfl) (by rw [hl7]; exact hb6) (by rfl) hy9 (fun _ _ _ hS h' => trivial) (fun g11 => ?_)
 refine oR [oF 3] [(3, .slice (some ⟨g11, 0, none⟩) l1.length l1.length), (0, .slice A_l l.length c_l)] [3, 0] (by kernel_rfl) ?_
 refine ops_nil ?_
 refine fin_then ?_
 refine st_join1 (σ := (List api_Kind) × (List Value) × (Nat → Prop) × World) (L := fun x_ => match x_ with | (l12, y13, F15, W16) => [(3, .slice (some ⟨g11, 0, none⟩) l12.length l1.length)]) (N := fun x_ => match x_ with | (l12, y13, F15, W16) => Mem w0 (orow (some ⟨g11, 0, none⟩) l12.length l1.length 27 2 y13 :: Fz F15 W16 :: cs)) (I := fun x_ => match x_ with | (l12, y13, F15, W16) => (kind_Copy_j1 l12 = some l9003) ∧ (RepL R_api_Kind F15 W16 l12 y13) ∧ (Ext w0 F W F15 W16)) ?_ ?_
 · --
  rintro ⟨l12, y13, F15, W16⟩ ⟨hp, h14, hx1⟩
  refine st_conv (l' := [(3, .slice (some ⟨g11, 0, none⟩) l12.length l1.length)]) (M' := Mem w0 (orow (some ⟨g11, 0, none⟩) l12.length l1.length 27 2 y13 :: Fz F15 W16 :: cs)) rfl (fun _ h => h) ?_
  unfold kind_Copy_j1 at hp
  refine st_seq ?_
  refine st_region [oF 0, oF 1] (by rfl) ?_
  refine oR [oF 0, oF 1] [(2, .slice (some ⟨g11, 0, none⟩) l12.length l1.length)] [2] (by kernel_rfl) ?_
  refine ops_nil ?_
  refine fin_then ?_
  refine st_ret ?_
  have hq_ := Option.some.inj hp
  have hr0_ := hq_
  subst hr0_
  refine fin_ret [.tmp 2] [.slice (some ⟨g11, 0, none⟩) l12.length l1.length] rfl rfl (fun w_ hM => (.tmp rfl .nil)) (fun w_ hM => ?_)
  exact ⟨(some ⟨g11, 0, none⟩), l1.length, y13, F15, W16, ⟨h14, hx1⟩, rfl, hM⟩
 · --
  intro HJ1
  refine st_seq ?_
  refine st_seq ?_
  refine st_region [oF 0, oF 1, oF 2] (by rfl) ?_
  refine oR [oF 0, oF 1, oF 2] [(11, vI 0), (10, vI (l.length : Int)), (9, .slice A_l l.length c_l), (3, .slice (some ⟨g11, 0, none⟩) l1.length l1.length)] [11, 10, 9, 3] (by kernel_rfl) ?_
  refine ops_nil ?_
  refine fin_then ?_
  refine st_block ?_
  obtain ⟨r2, hl2, hk2⟩ := obind hp
  refine st_loopP (σ := (List api_Kind) × Int) (ρ := (List api_Kind)) (γ := (List Value) × (Nat → Prop) × World) hl2 (y8, F, W) (fun s_ g_ => match s_, g_ with | (l17, i20), (y18, F21, W22) => [(3, .slice (some ⟨g11, 0, none⟩) l17.length l1.length), (9, .slice A_l l.length c_l), (10, vI (l.length : Int)), (11, vI i20)]) (fun s_ g_ => match s_, g_ with | (l17, i20), (y18, F21, W22) => Mem w0 (orow (some ⟨g11, 0, none⟩) l17.length l1.length 27 2 y18 :: Fz F21 W22 :: cs)) (fun s_ g_ => match s_, g_ with | (l17, i20), (y18, F21, W22) => (RepL R_api_Kind F21 W22 l17 y18) ∧ (Ext w0 F W F21 W22)) ⟨h10, (Ext.refl _ _ _)⟩ (look_has ⟨rfl, rfl, rfl, rfl, trivial⟩) (fun w_ hM => hM) ?_
  rintro ⟨l17, i20⟩ ⟨y18, F21, W22⟩ o2 ⟨h19, hx2⟩ hs_ hd2
  have hp : (kind_Copy_l2 l) l17 i20 = some o2 := hs_
  clear hs_
  unfold kind_Copy_l2 at hp
  refine st_conv (l' := [(3, .slice (some ⟨g11, 0, none⟩) l17.length l1.length), (9, .slice A_l l.length c_l), (10, vI (l.length : Int)), (11, vI i20)]) (M' := Mem w0 (orow (some ⟨g11, 0, none⟩) l17.length l1.length 27 2 y18 :: Fz F21 W22 :: cs)) rfl (fun _ h => h) ?_
  have h_l := h_l.ext hx2
  refine st_seq ?_
  refine st_region [oF 0] (by rfl) ?_
  refine oR [oF 0] [(12, .bool (decide (i20 < (l.length : Int)))), (3, .slice (some ⟨g11, 0, none⟩) l17.length l1.length), (9, .slice A_l l.length c_l), (10, vI (l.length : Int)), (11, vI i20)] [12, 3, 9, 10, 11] (by kernel_rfl) ?_
  refine ops_nil ?_
  refine fin_then ?_
  refine st_seq ?_
  refine st_if (b := decide (i20 < (l.length : Int))) rfl (fun hc23 => ?_) (fun hc23 => ?_)
  · --
   have hp := cnd_t hc23 hp
   refine st_skip ?_
   refine fin_then ?_
   refine st_seq ?_
   refine st_block ?_
   refine st_seq ?_
   refine st_region [oF 0, oF 1, oF 2, oF 3, oF 4, oF 5] (by rfl) ?_
   refine oR [oF 0] [(13, vI i20), (3, .slice (some ⟨g11, 0, none⟩) l17.length l1.length), (9, .slice A_l l.length c_l), (10, vI (l.length : Int)), (11, vI i20)] [13, 3, 9, 10, 11] (by kernel_rfl) ?_
   obtain ⟨x24, hv25, hp⟩ := obind hp
   obtain ⟨m26, hm27, hx28⟩ := idx_some hv25
   have hl31 := (List.getElem?_eq_some_iff.1 hx28).1
   obtain ⟨ad32, vs29, hA33, hr30, hq34⟩ := RdS.el h_l hx28
   obtain ⟨A35, c36, rfl, h37⟩ := dec_api_Kind hr30
   refine ops_val (op := (Go.Op.indexAddr 28 (Go.Operand.tmp 9) (Go.Operand.tmp 11))) (d := some 14) (v := .pointer (some (ad32.add (m26 * 2)))) ⟨by kernel_rfl⟩ (run_indexA hA33 Tryd.underlying28 (z := 2) (by kernel_rfl) rfl rfl hm27 hl31) ?_
   refine ops_mem (d := some 15) (an := [.v (.string x24.Name), .v (.slice A35 x24.Fields.length c36)]) (evs := [.load (ad32.add (m26 * 2)) (.string x24.Name), .load ((ad32.add (m26 * 2)).add 1) (.slice A35 x24.Fields.length c36)]) (v := .agg #[.string x24.Name, .slice A35 x24.Fields.length c36]) (M' := Mem w0 (orow (some ⟨g11, 0, none⟩) l17.length l1.length 27 2 y18 :: Fz F21 W22 :: cs)) ⟨by kernel_rfl⟩ (fun w_ hM hS => ⟨w_, ⟨hM.elcell 1 rfl hq34 0 rfl, hM.elcell 1 rfl hq34 1 rfl, rfl⟩, hM, trivial⟩) ?_
   refine oR [] [(15, .agg #[.string x24.Name, .slice A35 x24.Fields.length c36]), (13, vI i20), (3, .slice (some ⟨g11, 0, none⟩) l17.length l1.length), (9, .slice A_l l.length c_l), (10, vI (l.length : Int)), (11, vI i20)] [15, 13, 3, 9, 10, 11] (by kernel_rfl) ?_
   refine ops_new (d := some 5) (o := .cells #[.string ByteArray.empty, .slice none 0 0] 27) (v := fun b38 => vP b38 0) (M' := fun b38 => Mem w0 (.blk b38 [.string ByteArray.empty, .slice none 0 0] 27 :: orow (some ⟨g11, 0, none⟩) l17.length l1.length 27 2 y18 :: Fz F21 W22 :: cs)) (fun b38 => ⟨by kernel_rfl⟩) (fun w_ hM hS => ⟨hM.blk [.string ByteArray.empty, .slice none 0 0] 27, trivial⟩) (fun b38 => ?_)
   refine oR [oF 4] [(4, vI i20), (5, vP b38 0), (15, .agg #[.string x24.Name, .slice A35 x24.Fields.length c36]), (3, .slice (some ⟨g11, 0, none⟩) l17.length l1.length), (9, .slice A_l l.length c_l), (10, vI (l.length : Int)), (11, vI i20)] [4, 5, 15, 3, 9, 10, 11] (by kernel_rfl) ?_
   refine ops_store (an := []) (evs := [.store ⟨b38, 0, none⟩ (.string x24.Name), .store ⟨b38, 1, none⟩ (.slice A35 x24.Fields.length c36)]) (M' := Mem w0 (.blk b38 [.string x24.Name, .slice A35 x24.Fields.length c36] 27 :: orow (some ⟨g11, 0, none⟩) l17.length l1.length 27 2 y18 :: Fz F21 W22 :: cs)) ⟨by kernel_rfl⟩ (fun w_ hM hS => let ⟨w', he, h'⟩ := hM.evs_stores [.string x24.Name, .slice A35 x24.Fields.length c36] 0 rfl 0 (Nat.le_of_ble_eq_true rfl); ⟨w', he, h', trivial⟩) ?_
   refine oR [] [(4, vI i20), (5, vP b38 0), (3, .slice (some ⟨g11, 0, none⟩) l17.length l1.length), (9, .slice A_l l.length c_l), (10, vI (l.length : Int)), (11, vI i20)] [4, 5, 3, 9, 10, 11] (by kernel_rfl) ?_
   refine ops_nil ?_
   refine fin_then ?_
   refine st_region_draw [oT 0, oT 1, oT 2, oT 3, oT 4, oT 5, oF 6, oT 7, oT 8, oF 9] (Mem w0 (.blk b38 [.string x24.Name, .slice A35 x24.Fields.length c36] 27 :: Fz F21 W22 :: cs)) (by kernel_rfl) (by kernel_rfl) (by kernel_rfl) (fun _ d _ _ _ h => by cases d <;> exact h) (M' := Mem w0 (.blk b38 [.string x24.Name, .slice A35 x24.Fields.length c36] 27 :: orow (some ⟨g11, 0, none⟩) l17.length l1.length 27 2 y18 :: Fz F21 W22 :: cs)) (fun w_ hM => ⟨hM.drew, hM.drew.sub (.cons_cons _ (.cons _ (.cons_cons _ (.refl _))))⟩) ?_
   refine oR [oT 0, oT 1, oT 2] [(18, vP b38 0), (17, vI i20), (16, .slice (some ⟨g11, 0, none⟩) l17.length l1.length), (5, vP b38 0), (3, .slice (some ⟨g11, 0, none⟩) l17.length l1.length), (9, .slice A_l l.length c_l), (10, vI (l.length : Int)), (11, vI i20)] [18, 17, 16, 5, 3, 9, 10, 11] (by kernel_rfl) ?_
   refine ops_load (d := some 19) (an := [.v (.string x24.Name)]) (evs := [.load ⟨b38, 0, none⟩ (.string x24.Name)]) (v := .string x24.Name) ⟨by kernel_rfl⟩ (fun w_ hM => ⟨hM.cell 0 rfl rfl, rfl⟩) ?_
   refine oR [oT 4] [(20, vP b38 1), (19, .string x24.Name), (17, vI i20), (16, .slice (some ⟨g11, 0, none⟩) l17.length l1.length), (3, .slice (some ⟨g11, 0, none⟩) l17.length l1.length), (9, .slice A_l l.length c_l), (10, vI (l.length : Int)), (11, vI i20)] [20, 19, 17, 16, 3, 9, 10, 11] (by kernel_rfl) ?_
   refine ops_load (d := some 21) (an := [.v (.slice A35 x24.Fields.length c36)]) (evs := [.load ⟨b38, 1, none⟩ (.slice A35 x24.Fields.length c36)]) (v := .slice A35 x24.Fields.length c36) ⟨by kernel_rfl⟩ (fun w_ hM => ⟨hM.cell 0 rfl rfl, rfl⟩) ?_
   refine oR [] [(21, .slice A35 x24.Fields.length c36), (19, .string x24.Name), (17, vI i20), (16, .slice (some ⟨g11, 0, none⟩) l17.length l1.length), (3, .slice (some ⟨g11, 0, none⟩) l17.length l1.length), (9, .slice A_l l.length c_l), (10, vI (l.length : Int)), (11, vI i20)] [21, 19, 17, 16, 3, 9, 10, 11] (by kernel_rfl) ?_
   refine ops_conv (l' := [(21, .slice A35 x24.Fields.length c36), (19, .string x24.Name), (17, vI i20), (16, .slice (some ⟨g11, 0, none⟩) l17.length l1.length), (3, .slice (some ⟨g11, 0, none⟩) l17.length l1.length), (9, .slice A_l l.length c_l), (10, vI (l.length : Int)), (11, vI i20)]) (M' := Mem w0 (orow none ([] : List api_Field).length 0 23 3 [] :: .blk b38 [.string x24.Name, .slice A35 x24.Fields.length c36] 27 :: orow (some ⟨g11, 0, none⟩) l17.length l1.length 27 2 y18 :: Fz F21 W22 :: cs)) rfl (fun w_ h => h.onil none 23 3) ?_
   obtain ⟨l39, hv40, hp⟩ := obind hp
   obtain ⟨he41, hb42⟩ := app_some hv40
   obtain ⟨y46, h47, hs48⟩ := RdS.src h37
   obtain ⟨y43, hy44⟩ : ∃ y_, [] ++ y46 = y_ := ⟨_, rfl⟩
   have h45 : RepL R_api_Field F21 W22 l39 y43 := by rw [he41, ← hy44]; exact RepL.app (RepL.nil (R := R_api_Field)) h47
   refine ops_appendO (x := (Go.Operand.const (Go.Value.slice none 0 0))) (y := (Go.Operand.tmp 21)) (t := 25) (e := 23) (d := some 22) (n' := l39.length) (z := 3) (m := x24.Fields.length) (bytes := 32) (xs' := y43) (news := y46) (zv := .agg #[.string ByteArray.empty, vI 0, vI 0]) 0 ⟨by kernel_rfl⟩ rfl rfl Tryd.underlying25 (by kernel_rfl) (by rfl) rfl (fun w_ hM => hM.srcS 3 rfl h47 hs48) h47.len h47.one hb42 (by have z_ := congrArg List.length he41; rw [List.length_append] at z_; exact z_.symm) hy44 (fun _ _ _ _ hS h' => (by exact h'.sub (.cons _ (.cons_cons _ (.cons _ (.cons_cons _ (.refl _))))))) ?_
   rintro ⟨A49, c50⟩
   refine ops_conv (l' := [(22, .slice A49 l39.length c50), (21, .slice A35 x24.Fields.length c36), (19, .string x24.Name), (17, vI i20), (16, .slice (some ⟨g11, 0, none⟩) l17.length l1.length), (3, .slice (some ⟨g11, 0, none⟩) l17.length l1.length), (9, .slice A_l l.length c_l), (10, vI (l.length : Int)), (11, vI i20)]) (M' := Mem w0 (orow A49 l39.length c50 23 3 y43 :: .blk b38 [.string x24.Name, .slice A35 x24.Fields.length c36] 27 :: orow (some ⟨g11, 0, none⟩) l17.length l1.length 27 2 y18 :: Fz F21 W22 :: cs)) rfl (fun _ h => h) ?_
   refine oR [oT 7] [(23, .agg #[.string x24.Name, .slice A49 l39.length c50]), (17, vI i20), (16, .slice (some ⟨g11, 0, none⟩) l17.length l1.length), (3, .slice (some ⟨g11, 0, none⟩) l17.length l1.length), (9, .slice A_l l.length c_l), (10, vI (l.length : Int)), (11, vI i20)] [23, 17, 16, 3, 9, 10, 11] (by kernel_rfl) ?_
   obtain ⟨x51, hv52, hp⟩ := obind hp
   obtain ⟨m53, hm54, hx55⟩ := idx_some hv52
   have hl58 := (List.getElem?_eq_some_iff.1 hx55).1
   obtain ⟨vs56, hr57, hq59⟩ := h19.at_ m53 x51 hx55
   obtain ⟨A60, c61, rfl, h62⟩ := dec_api_Kind hr57
   refine ops_val (op := (Go.Op.indexAddr 28 (Go.Operand.tmp 16) (Go.Operand.tmp 17))) (d := some 24) (v := vP g11 (m53 * 2)) ⟨by kernel_rfl⟩ (run_indexRow Tryd.underlying28 (z := 2) (by kernel_rfl) rfl rfl hm54 hl58 rfl) ?_
   refine oR [] [(24, vP g11 (m53 * 2)), (23, .agg #[.string x24.Name, .slice A49 l39.length c50]), (3, .slice (some ⟨g11, 0, none⟩) l17.length l1.length), (9, .slice A_l l.length c_l), (10, vI (l.length : Int)), (11, vI i20)] [24, 23, 3, 9, 10, 11] (by kernel_rfl) ?_
   refine ops_ex (σ := (Nat → Prop) × World) (I := fun x_ => Ext w0 F21 W22 x_.1 x_.2 ∧ RdS R_api_Field x_.1 x_.2 A49 c50 l39) (M' := fun x_ => Mem w0 (.blk b38 [.string x24.Name, .slice A35 x24.Fields.length c36] 27 :: orow (some ⟨g11, 0, none⟩) l17.length l1.length 27 2 y18 :: Fz x_.1 x_.2 :: cs)) (fun w_ hM => ?_) ?_
   · obtain ⟨F_, h1_, h2_, h3_⟩ := (hM.pick 4 [0, 3, 1, 2] (by kernel_rfl) (by decide) rfl : Mem w0 (orow A49 l39.length c50 23 3 y43 :: Fz F21 W22 :: .blk b38 [.string x24.Name, .slice A35 x24.Fields.length c36] 27 :: orow (some ⟨g11, 0, none⟩) l17.length l1.length 27 2 y18 :: cs) w_).freeze (z := 3) h45 rfl rfl
     exact ⟨(F_, w_), ⟨h1_, h2_⟩, h3_.pick 3 [1, 2, 0] (by kernel_rfl) (by decide) rfl⟩
   rintro ⟨F63, W64⟩ ⟨hx65, h66⟩
   have hx65 : Ext w0 F21 W22 F63 W64 := hx65
   have h66 : RdS R_api_Field F63 W64 A49 c50 l39 := h66
   have h_l := h_l.ext hx65
   have h37 := h37.ext hx65
   have h19 := h19.ext hx65
   refine ops_conv (l' := [(24, vP g11 (m53 * 2)), (23, .agg #[.string x24.Name, .slice A49 l39.length c50]), (3, .slice (some ⟨g11, 0, none⟩) l17.length l1.length), (9, .slice A_l l.length c_l), (10, vI (l.length : Int)), (11, vI i20)]) (M' := Mem w0 (.blk b38 [.string x24.Name, .slice A35 x24.Fields.length c36] 27 :: orow (some ⟨g11, 0, none⟩) l17.length l1.length 27 2 y18 :: Fz F63 W64 :: cs)) rfl (fun _ h => h) ?_
   obtain ⟨l67, hv68, hp⟩ := obind hp
   obtain ⟨m69, hm70, hl71, he72⟩ := upd_some hv68
   obtain rfl : m53 = m69 := by have := hm54; omega
   have hl73 : l17.length = l67.length := by rw [he72, List.length_set]
   obtain ⟨y74, hy75⟩ : ∃ y_, setAll y18 (m53 * 2 + 0) [.string x24.Name, .slice A49 l39.length c50] = y_ := ⟨_, rfl⟩
   have h76 : RepL R_api_Kind F63 W64 l67 y74 := by rw [he72, ← hy75]; exact RepL.set h19 (List.getElem?_eq_getElem hl71) (fun vs_ hr_ _ => by obtain ⟨A78, c79, rfl, h80⟩ := dec_api_Kind hr_; exact ⟨(enc_api_Kind h66), Nat.le_of_ble_eq_true rfl⟩)
   refine ops_store (an := []) (evs := [.store ⟨g11, m53 * 2, none⟩ (.string x24.Name), .store ⟨g11, m53 * 2 + 1, none⟩ (.slice A49 l39.length c50)]) (M' := Mem w0 (.blk b38 [.string x24.Name, .slice A35 x24.Fields.length c36] 27 :: orow (some ⟨g11, 0, none⟩) l67.length l1.length 27 2 y74 :: Fz F63 W64 :: cs)) ⟨by kernel_rfl⟩ (fun w_ hM hS => let ⟨w', he, h'⟩ := hM.ostore' 1 rfl (m53 * 2 + 0) [.string x24.Name, .slice A49 l39.length c50] (by have z_ : y18.length = l17.length * 2 := h19.len; have y_ : (m53 + 1) * 2 ≤ l17.length * 2 := Nat.mul_le_mul_right _ hl71; rw [Nat.add_mul] at y_; simp only [List.length_cons, List.length_nil]; omega) hl73 hy75; ⟨w', he, h', (by first | exact (Mem.fzback h' 2 rfl hx65).sub (.cons_cons _ (.cons _ (.cons_cons _ (.refl _)))) | exact (Mem.fzback h' 2 rfl (hx2.trans hx65)).sub (.cons_cons _ (.cons _ (.cons_cons _ (.refl _)))))⟩) ?_
   refine ops_conv (l' := [(24, vP g11 (m53 * 2)), (23, .agg #[.string x24.Name, .slice A49 l39.length c50]), (3, .slice (some ⟨g11, 0, none⟩) l67.length l1.length), (9, .slice A_l l.length c_l), (10, vI (l.length : Int)), (11, vI i20)]) (M' := Mem w0 (.blk b38 [.string x24.Name, .slice A35 x24.Fields.length c36] 27 :: orow (some ⟨g11, 0, none⟩) l67.length l1.length 27 2 y74 :: Fz F63 W64 :: cs)) (by first | rfl | rw [hl73]) (fun w_ hM => by first | exact hM | (rw [hl73] at hM; exact hM)) ?_
   refine oR [] [(3, .slice (some ⟨g11, 0, none⟩) l67.length l1.length), (9, .slice A_l l.length c_l), (10, vI (l.length : Int)), (11, vI i20)] [3, 9, 10, 11] (by kernel_rfl) ?_
   refine ops_nil ?_
   refine fin_block ?_
   refine fin_then ?_
   refine st_region [oF 0, oF 1] (by rfl) ?_
   refine oR [oF 0, oF 1] [(11, vI (IntKind.i64.wrap (i20 + 1))), (3, .slice (some ⟨g11, 0, none⟩) l67.length l1.length), (9, .slice A_l l.length c_l), (10, vI (l.length : Int))] [11, 3, 9, 10] (by kernel_rfl) ?_
   refine ops_nil ?_
   exact fin_again (l67, IntKind.i64.wrap (i20 + 1)) (y74, F63, W64) (Option.some.inj hp).symm ⟨h76, (hx2.trans hx65)⟩ (look_has ⟨rfl, rfl, rfl, rfl, trivial⟩) (fun w_ hM => hM.pick 3 [1, 2] (by kernel_rfl) (by decide) rfl)
  · --
   have hp := cnd_f hc23 hp
   refine st_exit ?_
   refine fin_exit_then ?_
   refine fin_exit_then ?_
   refine fin_exit ?_
   obtain hq_ := Option.some.inj hp
   subst hq_
   obtain hq_ := hd2 _ rfl
   subst hq_
   have hp : kind_Copy_j1 l17 = some l9003 := hk2
   exact fin_join HJ1 (l17, y18, F21, W22) ⟨hp, h19, hx2⟩ (look_has ⟨rfl, trivial⟩) (fun w_ hM => hM)
set_option maxHeartbeats 4000000 in
set_option maxRecDepth 100000 in
theorem slices_Equal_api_Field_api_Field_ok (w0 w : World) (cs : List Chunk) (F : Nat → Prop) (W : World) (A_s1 : Option Addr) (c_s1 : Nat) (s1_1 : List api_Field) (A_s2 : Option Addr) (c_s2 : Nat) (s2_1 : List api_Field) (hM0 : Mem w0 (Fz F W :: cs) w) (h_s1 : RdS R_api_Field F W A_s1 c_s1 s1_1) (h_s2 : RdS R_api_Field F W A_s2 c_s2 s2_1) (t9001 : Bool) (hp : slices_Equal_api_Field_api_Field s1_1 s2_1 = some t9001) : Calls Tryd.prog 66 #[.slice A_s1 s1_1.length c_s1, .slice A_s2 s2_1.length c_s2] w fun e w' => (True) ∧ e = .returned (.bool t9001) ∧ Mem w0 (Fz F W :: cs) w' := by
 unfold slices_Equal_api_Field_api_Field at hp
 refine sx_calls Tryd.func66 rfl (n := 26) (by kernel_rfl) (l := [(0, .slice A_s1 s1_1.length c_s1), (1, .slice A_s2 s2_1.length c_s2)]) rfl (by rfl) hM0 ?_
 refine st_seq ?_
 refine st_region [oF 0] (by rfl) ?_
 refine oR [oF 0] [(0, .slice A_s1 s1_1.length c_s1), (1, .slice A_s2 s2_1.length c_s2)] [0, 1] (by kernel_rfl) ?_
 refine ops_nil ?_
 refine fin_then ?_
 refine st_seq ?_
 refine st_seq ?_
 refine st_region [oF 0, oF 1, oF 2, oF 3, oF 4] (by rfl) ?_
 refine oR [oF 0, oF 1, oF 2, oF 3, oF 4] [(10, .bool (!((s1_1.length : Int) == (s2_1.length : Int)))), (0, .slice A_s1 s1_1.length c_s1), (1, .slice A_s2 s2_1.length c_s2)] [10, 0, 1] (by kernel_rfl) ?_
 refine ops_nil ?_
 refine fin_then ?_
 refine st_if (b := !((s1_1.length : Int) == (s2_1.length : Int))) rfl (fun hc1 => ?_) (fun hc1 => ?_)
 · --
  have hp := cnd_t hc1 hp
  refine st_seq ?_
  refine st_region [oF 0] (by rfl) ?_
  refine oR [oF 0] [(4, .bool false)] [4] (by kernel_rfl) ?_
  refine ops_nil ?_
  refine fin_then ?_
  refine st_ret ?_
  refine fin_ret_then ?_
  have hq_ := Option.some.inj hp
  have hr0_ := hq_
  subst hr0_
  refine fin_ret [.tmp 4] [.bool false] rfl rfl (fun w_ hM => (.tmp rfl .nil)) (fun w_ hM => ?_)
  exact ⟨trivial, rfl, hM⟩
 · --
  have hp := cnd_f hc1 hp
  refine st_skip ?_
  refine fin_then ?_
  refine st_join1 (σ := Unit) (L := fun _ => []) (N := fun _ => Mem w0 (Fz F W :: cs)) (I := fun _ => (slices_Equal_api_Field_api_Field_j1 = some t9001)) ?_ ?_
  · --
   rintro _ hp
   refine st_conv (l' := []) (M' := Mem w0 (Fz F W :: cs)) rfl (fun _ h => h) ?_
   unfold slices_Equal_api_Field_api_Field_j1 at hp
   refine st_seq ?_
   refine st_region [oF 0] (by rfl) ?_
   refine oR [oF 0] [(4, .bool true)] [4] (by kernel_rfl) ?_
   refine ops_nil ?_
   refine fin_then ?_
   refine st_ret ?_
   have hq_ := Option.some.inj hp
   have hr0_ := hq_
   subst hr0_
   refine fin_ret [.tmp 4] [.bool true] rfl rfl (fun w_ hM => (.tmp rfl .nil)) (fun w_ hM => ?_)
   exact ⟨trivial, rfl, hM⟩
  · --
   intro HJ1
   refine st_seq ?_
   refine st_seq ?_
   refine st_region [oF 0, oF 1, oF 2] (by rfl) ?_
   refine oR [oF 0, oF 1, oF 2] [(13, vI 0), (12, vI (s1_1.length : Int)), (0, .slice A_s1 s1_1.length c_s1), (1, .slice A_s2 s2_1.length c_s2)] [13, 12, 0, 1] (by kernel_rfl) ?_
   refine ops_nil ?_
   refine fin_then ?_
   refine st_block ?_
   obtain ⟨r2, hl2, hk2⟩ := obind hp
   refine st_loopP (σ := Int) (ρ := (Bool ⊕ Unit)) (γ := Unit) hl2 () (fun s_ g_ => match s_, g_ with | i2, _ => [(0, .slice A_s1 s1_1.length c_s1), (1, .slice A_s2 s2_1.length c_s2), (12, vI (s1_1.length : Int)), (13, vI i2)]) (fun s_ g_ => match s_, g_ with | i2, _ => Mem w0 (Fz F W :: cs)) (fun s_ g_ => match s_, g_ with | i2, _ => True) trivial (look_has ⟨rfl, rfl, rfl, rfl, trivial⟩) (fun w_ hM => hM) ?_
   rintro i2 _ o2 - hs_ hd2
   have hp : (slices_Equal_api_Field_api_Field_l2 s1_1 s2_1) i2 = some o2 := hs_
   clear hs_
   unfold slices_Equal_api_Field_api_Field_l2 at hp
   refine st_conv (l' := [(0, .slice A_s1 s1_1.length c_s1), (1, .slice A_s2 s2_1.length c_s2), (12, vI (s1_1.length : Int)), (13, vI i2)]) (M' := Mem w0 (Fz F W :: cs)) rfl (fun _ h => h) ?_
   refine st_seq ?_
   refine st_region [oF 0] (by rfl) ?_
   refine oR [oF 0] [(14, .bool (decide (i2 < (s1_1.length : Int)))), (0, .slice A_s1 s1_1.length c_s1), (1, .slice A_s2 s2_1.length c_s2), (12, vI (s1_1.length : Int)), (13, vI i2)] [14, 0, 1, 12, 13] (by kernel_rfl) ?_
   refine ops_nil ?_
   refine fin_then ?_
   refine st_seq ?_
   refine st_if (b := decide (i2 < (s1_1.length : Int))) rfl (fun hc3 => ?_) (fun hc3 => ?_)
   · --
    have hp := cnd_t hc3 hp
    refine st_skip ?_
    refine fin_then ?_
    refine st_seq ?_
    refine st_block ?_
    refine st_seq ?_
    refine st_region [oF 0, oF 1] (by rfl) ?_
    refine oR [oF 0, oF 1] [(5, vI i2), (0, .slice A_s1 s1_1.length c_s1), (1, .slice A_s2 s2_1.length c_s2), (12, vI (s1_1.length : Int)), (13, vI i2)] [5, 0, 1, 12, 13] (by kernel_rfl) ?_
    refine ops_nil ?_
    refine fin_then ?_
    refine st_seq ?_
    refine st_region_draw [oT 0, oT 1, oT 2, oT 3, oT 4, oT 5, oT 6, oT 7, oT 8] (Mem w0 (Fz F W :: cs)) (by kernel_rfl) (by kernel_rfl) (by kernel_rfl) (fun _ d _ _ _ h => by cases d <;> exact h) (M' := Mem w0 (Fz F W :: cs)) (fun w_ hM => ⟨hM.drew, hM.drew.sub (.cons_cons _ (.refl _))⟩) ?_
    refine oR [oT 0, oT 1] [(17, vI i2), (16, .slice A_s1 s1_1.length c_s1), (5, vI i2), (0, .slice A_s1 s1_1.length c_s1), (1, .slice A_s2 s2_1.length c_s2), (12, vI (s1_1.length : Int)), (13, vI i2)] [17, 16, 5, 0, 1, 12, 13] (by kernel_rfl) ?_
    obtain ⟨x4, hv5, hp⟩ := obind hp
    obtain ⟨m6, hm7, hx8⟩ := idx_some hv5
    have hl11 := (List.getElem?_eq_some_iff.1 hx8).1
    obtain ⟨ad12, vs9, hA13, hr10, hq14⟩ := RdS.el h_s1 hx8
    obtain rfl := dec_api_Field hr10
    refine ops_val (op := (Go.Op.indexAddr 25 (Go.Operand.tmp 16) (Go.Operand.tmp 17))) (d := some 18) (v := .pointer (some (ad12.add (m6 * 3)))) ⟨by kernel_rfl⟩ (run_indexA hA13 Tryd.underlying25 (z := 3) (by kernel_rfl) rfl rfl hm7 hl11) ?_
    refine oR [] [(18, .pointer (some (ad12.add (m6 * 3)))), (5, vI i2), (0, .slice A_s1 s1_1.length c_s1), (1, .slice A_s2 s2_1.length c_s2), (12, vI (s1_1.length : Int)), (13, vI i2)] [18, 5, 0, 1, 12, 13] (by kernel_rfl) ?_
    refine ops_load (d := some 19) (an := [.v (.string x4.Name), .v (vI x4.Bits), .v (vI x4.Low)]) (evs := [.load (ad12.add (m6 * 3)) (.string x4.Name), .load ((ad12.add (m6 * 3)).add 1) (vI x4.Bits), .load ((ad12.add (m6 * 3)).add 2) (vI x4.Low)]) (v := .agg #[.string x4.Name, vI x4.Bits, vI x4.Low]) ⟨by kernel_rfl⟩ (fun w_ hM => ⟨hM.elcell 0 rfl hq14 0 rfl, hM.elcell 0 rfl hq14 1 rfl, hM.elcell 0 rfl hq14 2 rfl, rfl⟩) ?_
    refine oR [oT 4, oT 5] [(21, vI i2), (20, .slice A_s2 s2_1.length c_s2), (19, .agg #[.string x4.Name, vI x4.Bits, vI x4.Low]), (0, .slice A_s1 s1_1.length c_s1), (1, .slice A_s2 s2_1.length c_s2), (12, vI (s1_1.length : Int)), (13, vI i2)] [21, 20, 19, 0, 1, 12, 13] (by kernel_rfl) ?_
    obtain ⟨x15, hv16, hp⟩ := obind hp
    obtain ⟨m17, hm18, hx19⟩ := idx_some hv16
    have hl22 := (List.getElem?_eq_some_iff.1 hx19).1
    obtain ⟨ad23, vs20, hA24, hr21, hq25⟩ := RdS.el h_s2 hx19
    obtain rfl := dec_api_Field hr21
    refine ops_val (op := (Go.Op.indexAddr 25 (Go.Operand.tmp 20) (Go.Operand.tmp 21))) (d := some 22) (v := .pointer (some (ad23.add (m17 * 3)))) ⟨by kernel_rfl⟩ (run_indexA hA24 Tryd.underlying25 (z := 3) (by kernel_rfl) rfl rfl hm18 hl22) ?_
    refine oR [] [(22, .pointer (some (ad23.add (m17 * 3)))), (19, .agg #[.string x4.Name, vI x4.Bits, vI x4.Low]), (0, .slice A_s1 s1_1.length c_s1), (1, .slice A_s2 s2_1.length c_s2), (12, vI (s1_1.length : Int)), (13, vI i2)] [22, 19, 0, 1, 12, 13] (by kernel_rfl) ?_
    refine ops_load (d := some 23) (an := [.v (.string x15.Name), .v (vI x15.Bits), .v (vI x15.Low)]) (evs := [.load (ad23.add (m17 * 3)) (.string x15.Name), .load ((ad23.add (m17 * 3)).add 1) (vI x15.Bits), .load ((ad23.add (m17 * 3)).add 2) (vI x15.Low)]) (v := .agg #[.string x15.Name, vI x15.Bits, vI x15.Low]) ⟨by kernel_rfl⟩ (fun w_ hM => ⟨hM.elcell 0 rfl hq25 0 rfl, hM.elcell 0 rfl hq25 1 rfl, hM.elcell 0 rfl hq25 2 rfl, rfl⟩) ?_
    refine oR [] [(23, .agg #[.string x15.Name, vI x15.Bits, vI x15.Low]), (19, .agg #[.string x4.Name, vI x4.Bits, vI x4.Low]), (0, .slice A_s1 s1_1.length c_s1), (1, .slice A_s2 s2_1.length c_s2), (12, vI (s1_1.length : Int)), (13, vI i2)] [23, 19, 0, 1, 12, 13] (by kernel_rfl) ?_
    refine ops_val (op := (Go.Op.binOp Go.BinOp.neq 23 (Go.Operand.tmp 19) (Go.Operand.tmp 23) 23)) (d := some 24) (v := .bool (!(x4.Name.toList == x15.Name.toList && (x4.Bits == x15.Bits && (x4.Low == x15.Low))))) ⟨by kernel_rfl⟩ (run_neq_agg (r := x4.Name.toList == x15.Name.toList && (x4.Bits == x15.Bits && (x4.Low == x15.Low))) rfl rfl (by kernel_rfl) (fun w => eqA23 9998 w x4.Name x15.Name x4.Bits x15.Bits x4.Low x15.Low)) ?_
    refine oR [] [(24, .bool (!(x4.Name.toList == x15.Name.toList && (x4.Bits == x15.Bits && (x4.Low == x15.Low))))), (0, .slice A_s1 s1_1.length c_s1), (1, .slice A_s2 s2_1.length c_s2), (12, vI (s1_1.length : Int)), (13, vI i2)] [24, 0, 1, 12, 13] (by kernel_rfl) ?_
    refine ops_nil ?_
    refine fin_then ?_
    refine st_if (b := !(x4.Name.toList == x15.Name.toList && (x4.Bits == x15.Bits && (x4.Low == x15.Low)))) rfl (fun hc26 => ?_) (fun hc26 => ?_)
    · --
     have hp := cnd_t hc26 hp
     refine st_seq ?_
     refine st_region [oF 0] (by rfl) ?_
     refine oR [oF 0] [(4, .bool false)] [4] (by kernel_rfl) ?_
     refine ops_nil ?_
     refine fin_then ?_
     refine st_ret ?_
     refine fin_ret_block ?_
     refine fin_ret_then ?_
     refine fin_ret_then ?_
     refine fin_ret_block ?_
     refine fin_ret_then ?_
     obtain hq_ := Option.some.inj hp
     subst hq_
     obtain hq_ := hd2 _ rfl
     subst hq_
     have hp : some false = some t9001 := hk2
     have hq_ := Option.some.inj hp
     have hr0_ := hq_
     subst hr0_
     refine fin_ret [.tmp 4] [.bool false] rfl rfl (fun w_ hM => (.tmp rfl .nil)) (fun w_ hM => ?_)
     exact ⟨trivial, rfl, hM⟩
    · --
     have hp := cnd_f hc26 hp
     refine st_skip ?_
     refine fin_block ?_
     refine fin_then ?_
     refine st_region [oF 0, oF 1] (by rfl) ?_
     refine oR [oF 0, oF 1] [(13, vI (IntKind.i64.wrap (i2 + 1))), (0, .slice A_s1 s1_1.length c_s1), (1, .slice A_s2 s2_1.length c_s2), (12, vI (s1_1.length : Int))] [13, 0, 1, 12] (by kernel_rfl) ?_
     refine ops_nil ?_
     exact fin_again (IntKind.i64.wrap (i2 + 1)) () (Option.some.inj hp).symm trivial (look_has ⟨rfl, rfl, rfl, rfl, trivial⟩) (fun w_ hM => hM)
   · --
    have hp := cnd_f hc3 hp
    refine st_exit ?_
    refine fin_exit_then ?_
    refine fin_exit_then ?_
    refine fin_exit ?_
    obtain hq_ := Option.some.inj hp
    subst hq_
    obtain hq_ := hd2 _ rfl
    subst hq_
    have hp : slices_Equal_api_Field_api_Field_j1 = some t9001 := hk2
    exact fin_join HJ1 () hp (look_has trivial) (fun w_ hM => hM)
set_option maxHeartbeats 4000000 in
set_option maxRecDepth 100000 in
theorem tourref3_SameKind_ok (w0 w : World) (cs : List Chunk) (F : Nat → Prop) (W : World) (a_0 : ByteArray) (A_a_1 : Option Addr) (c_a_1 : Nat) (a_1 : List api_Field) (b_0 : ByteArray) (A_b_1 : Option Addr) (c_b_1 : Nat) (b_1 : List api_Field) (hM0 : Mem w0 (Fz F W :: cs) w) (h_a_1 : RdS R_api_Field F W A_a_1 c_a_1 a_1) (h_b_1 : RdS R_api_Field F W A_b_1 c_b_1 b_1) (t9001 : Bool) (hp : tourref3_SameKind a_0 a_1 b_0 b_1 = some t9001) : Calls Tryd.prog 34 #[.agg #[.string a_0, .slice A_a_1 a_1.length c_a_1], .agg #[.string b_0, .slice A_b_1 b_1.length c_b_1]] w fun e w' => (True) ∧ e = .returned (.bool t9001) ∧ Mem w0 (Fz F W :: cs) w' := by
 unfold tourref3_SameKind at hp
 refine sx_calls Tryd.func34 rfl (n := 17) (by kernel_rfl) (l := [(0, .agg #[.string a_0, .slice A_a_1 a_1.length c_a_1]), (1, .agg #[.string b_0, .slice A_b_1 b_1.length c_b_1])]) rfl (by rfl) hM0 ?_
 refine st_seq ?_
 refine st_region [oF 0, oF 1, oF 2] (by rfl) ?_
 refine ops_new (d := some 2) (o := .cells #[.string a_0, .slice A_a_1 a_1.length c_a_1] 27) (v := fun b1 => vP b1 0) (M' := fun b1 => Mem w0 (.blk b1 [.string a_0, .slice A_a_1 a_1.length c_a_1] 27 :: Fz F W :: cs)) (fun b1 => ⟨by kernel_rfl⟩) (fun w_ hM hS => ⟨hM.blk [.string a_0, .slice A_a_1 a_1.length c_a_1] 27, trivial⟩) (fun b1 => ?_)
 refine oR [] [(2, vP b1 0), (1, .agg #[.string b_0, .slice A_b_1 b_1.length c_b_1])] [2, 1] (by kernel_rfl) ?_
 refine ops_new (d := some 3) (o := .cells #[.string b_0, .slice A_b_1 b_1.length c_b_1] 27) (v := fun b2 => vP b2 0) (M' := fun b2 => Mem w0 (.blk b2 [.string b_0, .slice A_b_1 b_1.length c_b_1] 27 :: .blk b1 [.string a_0, .slice A_a_1 a_1.length c_a_1] 27 :: Fz F W :: cs)) (fun b2 => ⟨by kernel_rfl⟩) (fun w_ hM hS => ⟨hM.blk [.string b_0, .slice A_b_1 b_1.length c_b_1] 27, trivial⟩) (fun b2 => ?_)
 refine oR [oF 2] [(3, vP b2 0), (2, vP b1 0)] [3, 2] (by kernel_rfl) ?_
 refine ops_nil ?_
 refine fin_then ?_
 refine st_join1 (σ := Bool) (L := fun x_ => match x_ with | t3 => [(4, .bool t3)]) (N := fun x_ => match x_ with | t3 => Mem w0 (Fz F W :: cs)) (I := fun x_ => match x_ with | t3 => (tourref3_SameKind_j1 t3 = some t9001)) ?_ ?_
 · --
  rintro t3 hp
  refine st_conv (l' := [(4, .bool t3)]) (M' := Mem w0 (Fz F W :: cs)) rfl (fun _ h => h) ?_
  unfold tourref3_SameKind_j1 at hp
  refine st_ret ?_
  have hq_ := Option.some.inj hp
  have hr0_ := hq_
  subst hr0_
  refine fin_ret [.tmp 4] [.bool t3] rfl rfl (fun w_ hM => (.tmp rfl .nil)) (fun w_ hM => ?_)
  exact ⟨trivial, rfl, hM⟩
 · --
  intro HJ1
  refine st_seq ?_
  refine st_region [oF 0, oF 1, oF 2, oF 3, oF 4, oF 5, oF 6, oF 7, oF 8, oF 9, oF 10, oF 11, oF 12] (by rfl) ?_
  refine oR [oF 0] [(5, vP b1 0), (3, vP b2 0), (2, vP b1 0)] [5, 3, 2] (by kernel_rfl) ?_
  refine ops_mem (d := some 6) (an := [.v (.string a_0)]) (evs := [.load ⟨b1, 0, none⟩ (.string a_0)]) (v := .string a_0) (M' := Mem w0 (.blk b2 [.string b_0, .slice A_b_1 b_1.length c_b_1] 27 :: .blk b1 [.string a_0, .slice A_a_1 a_1.length c_a_1] 27 :: Fz F W :: cs)) ⟨by kernel_rfl⟩ (fun w_ hM hS => ⟨w_, ⟨hM.cell 1 rfl rfl, rfl⟩, hM, trivial⟩) ?_
  refine oR [oF 2] [(7, vP b2 0), (6, .string a_0), (3, vP b2 0), (2, vP b1 0)] [7, 6, 3, 2] (by kernel_rfl) ?_
  refine ops_mem (d := some 8) (an := [.v (.string b_0)]) (evs := [.load ⟨b2, 0, none⟩ (.string b_0)]) (v := .string b_0) (M' := Mem w0 (.blk b2 [.string b_0, .slice A_b_1 b_1.length c_b_1] 27 :: .blk b1 [.string a_0, .slice A_a_1 a_1.length c_a_1] 27 :: Fz F W :: cs)) ⟨by kernel_rfl⟩ (fun w_ hM hS => ⟨w_, ⟨hM.cell 0 rfl rfl, rfl⟩, hM, trivial⟩) ?_
  refine oR [oF 4, oF 5] [(10, .bool (a_0.toList == b_0.toList)), (3, vP b2 0), (2, vP b1 0)] [10, 3, 2] (by kernel_rfl) ?_
  refine ops_bool (t := (a_0.toList == b_0.toList)) (l1 := [(10, .bool true), (3, vP b2 0), (2, vP b1 0)]) (l2 := [(10, .bool false), (3, vP b2 0), (2, vP b1 0)]) (fun h => by rw [h]) (fun h => by rw [h]) (fun hc4 => ?_) (fun hc4 => ?_)
  · --
   have hp := cnd_t hc4 hp
   refine oR [oF 6] [(11, vP b1 1), (10, .bool true), (3, vP b2 0)] [11, 10, 3] (by kernel_rfl) ?_
   refine ops_mem (d := some 12) (an := [.v (.slice A_a_1 a_1.length c_a_1)]) (evs := [.load ⟨b1, 1, none⟩ (.slice A_a_1 a_1.length c_a_1)]) (v := .slice A_a_1 a_1.length c_a_1) (M' := Mem w0 (.blk b2 [.string b_0, .slice A_b_1 b_1.length c_b_1] 27 :: .blk b1 [.string a_0, .slice A_a_1 a_1.length c_a_1] 27 :: Fz F W :: cs)) ⟨by kernel_rfl⟩ (fun w_ hM hS => ⟨w_, ⟨hM.cell 1 rfl rfl, rfl⟩, hM, trivial⟩) ?_
   refine oR [oF 8] [(13, vP b2 1), (12, .slice A_a_1 a_1.length c_a_1), (10, .bool true)] [13, 12, 10] (by kernel_rfl) ?_
   refine ops_mem (d := some 14) (an := [.v (.slice A_b_1 b_1.length c_b_1)]) (evs := [.load ⟨b2, 1, none⟩ (.slice A_b_1 b_1.length c_b_1)]) (v := .slice A_b_1 b_1.length c_b_1) (M' := Mem w0 (.blk b2 [.string b_0, .slice A_b_1 b_1.length c_b_1] 27 :: .blk b1 [.string a_0, .slice A_a_1 a_1.length c_a_1] 27 :: Fz F W :: cs)) ⟨by kernel_rfl⟩ (fun w_ hM hS => ⟨w_, ⟨hM.cell 0 rfl rfl, rfl⟩, hM, trivial⟩) ?_
   refine oR [] [(14, .slice A_b_1 b_1.length c_b_1), (12, .slice A_a_1 a_1.length c_a_1), (10, .bool true)] [14, 12, 10] (by kernel_rfl) ?_
   obtain ⟨x5, hv6, hp⟩ := obind hp
   refine ops_callI (σ := Unit) (d := some 15) (f := 66) (args := #[.slice A_a_1 a_1.length c_a_1, .slice A_b_1 b_1.length c_b_1]) (v := (fun _ => .bool x5)) (I := (fun _ => True)) (M' := (fun _ => Mem w0 (.blk b2 [.string b_0, .slice A_b_1 b_1.length c_b_1] 27 :: .blk b1 [.string a_0, .slice A_a_1 a_1.length c_a_1] 27 :: Fz F W :: cs))) ⟨by kernel_rfl⟩ (fun w_ hM hS => (slices_Equal_api_Field_api_Field_ok w0 w_ (.blk b2 [.string b_0, .slice A_b_1 b_1.length c_b_1] 27 :: .blk b1 [.string a_0, .slice A_a_1 a_1.length c_a_1] 27 :: cs) F W A_a_1 c_a_1 a_1 A_b_1 c_b_1 b_1 (hM.pick 3 [2, 0, 1] (by kernel_rfl) (by decide) rfl) h_a_1 h_b_1 x5 hv6).mono (by rintro e w' ⟨-, rfl, h'⟩; have h' : Mem w0 (.blk b2 [.string b_0, .slice A_b_1 b_1.length c_b_1] 27 :: .blk b1 [.string a_0, .slice A_a_1 a_1.length c_a_1] 27 :: Fz F W :: cs) w' := (h'.pick 3 [1, 2, 0] (by kernel_rfl) (by decide) rfl); exact ⟨(), trivial, rfl, h', trivial⟩)) ?_
   rintro _ -
   refine ops_conv (l' := [(15, .bool x5), (14, .slice A_b_1 b_1.length c_b_1), (12, .slice A_a_1 a_1.length c_a_1), (10, .bool true)]) (M' := Mem w0 (.blk b2 [.string b_0, .slice A_b_1 b_1.length c_b_1] 27 :: .blk b1 [.string a_0, .slice A_a_1 a_1.length c_a_1] 27 :: Fz F W :: cs)) rfl (fun _ h => h) ?_
   refine oR [oF 11, oF 12] [(4, .bool x5)] [4] (by kernel_rfl) ?_
   refine ops_nil ?_
   exact fin_join HJ1 x5 hp (look_has ⟨rfl, trivial⟩) (fun w_ hM => hM.pick 3 [2] (by kernel_rfl) (by decide) rfl)
  · --
   have hp := cnd_f hc4 hp
   refine oR [oF 6, oF 7, oF 8, oF 9, oF 10, oF 11, oF 12] [(4, .bool false)] [4] (by kernel_rfl) ?_
   refine ops_nil ?_
   exact fin_join HJ1 false hp (look_has ⟨rfl, trivial⟩) (fun w_ hM => hM.pick 3 [2] (by kernel_rfl) (by decide) rfl)
end Go.Proofs.YthcbepikeinglaaDoor.L
