/- The Go functions come to what the plain functions tell. No condition. -/
import Derived.Test.YthcbepikeinglaaProg
import Derived.Test.YthcbepikeinglaaFnM
namespace Go.Proofs.Ythcbepikeinglaa.M
open Go Go.RowKit Go.Proofs.Ythcbepikeinglaa.Sx
set_option linter.unusedVariables false
set_option maxHeartbeats 4000000 in
set_option maxRecDepth 100000 in
theorem slices_Clone_int_int_ok (w0 w : World) (cs : List Chunk) (F : Nat → Prop) (W : World) (A_s : Option Addr) (c_s : Nat) (s : List Int) (hM0 : Mem w0 (Fz F W :: cs) w) (h_s : RdS (Rep.int .i64) F W A_s c_s s) (l9003 : List Int) (hp : slices_Clone_int_int s = some l9003) : Calls Try.prog 85 #[.slice A_s s.length c_s] w fun e w' => ∃ (A9001 : Option Addr), ∃ (c9002 : Nat), ∃ (y9004 : List Value), ((RepL (Rep.int .i64) F W l9003 y9004)) ∧ e = .returned (.slice A9001 l9003.length c9002) ∧ Mem w0 (orow A9001 l9003.length c9002 3 1 y9004 :: Fz F W :: cs) w' := by
 unfold slices_Clone_int_int at hp
 refine sx_calls Try.func85 rfl (n := 8) (by kernel_rfl) (l := [(0, .slice A_s s.length c_s)]) rfl (by rfl) hM0 ?_
 refine st_seq ?_
 refine st_region [oF 0] (by rfl) ?_
 refine oR [oF 0] [(0, .slice A_s s.length c_s)] [0] (by kernel_rfl) ?_
 refine ops_nil ?_
 refine fin_then ?_
 refine st_seq ?_
 refine st_seq ?_
 refine st_region [oF 0, oF 1] (by rfl) ?_
 refine oR [oF 0] [(3, .slice A_s s.length c_s), (0, .slice A_s s.length c_s)] [3, 0] (by kernel_rfl) ?_
 have hz2 := fun e_ => RdS.len0 h_s e_
 rcases A_s with _ | ad1
 · --
  have hp : some ([] : List Int) = some l9003 := by rw [← hp, hz2 rfl]; simp [app]
  refine oR [oF 1] [(4, .bool true), (3, .slice none s.length c_s), (0, .slice none s.length c_s)] [4, 3, 0] (by kernel_rfl) ?_
  refine oR [] [(4, .bool true), (0, .slice none s.length c_s)] [4, 0] (by kernel_rfl) ?_
  refine ops_nil ?_
  refine fin_then ?_
  refine st_true rfl ?_
  refine st_seq ?_
  refine st_region [oF 0] (by rfl) ?_
  refine oR [oF 0] [(2, .slice none 0 0)] [2] (by kernel_rfl) ?_
  refine ops_nil ?_
  refine fin_then ?_
  refine st_ret ?_
  refine fin_ret_then ?_
  refine fin_conv (l' := [(2, .slice none 0 0)]) (M' := Mem w0 (orow none ([] : List Int).length 0 3 1 [] :: Fz F W :: cs)) rfl (fun w_ h => h.onil none 3 1) ?_
  refine fin_conv (l' := [(2, .slice none ([] : List Int).length 0)]) (M' := Mem w0 (orow none ([] : List Int).length 0 3 1 [] :: Fz F W :: cs)) rfl (fun _ h => h) ?_
  have hq_ := Option.some.inj hp
  have hr0_ := hq_
  subst hr0_
  refine fin_ret [.tmp 2] [.slice none ([] : List Int).length 0] rfl rfl (fun w_ hM => (.tmp rfl .nil)) (fun w_ hM => ?_)
  exact ⟨none, 0, [], (RepL.nil (R := (Rep.int .i64))), rfl, hM⟩
 · --
  clear hz2
  refine oR [oF 1] [(4, .bool false), (3, .slice (some ad1) s.length c_s), (0, .slice (some ad1) s.length c_s)] [4, 3, 0] (by kernel_rfl) ?_
  refine oR [] [(4, .bool false), (0, .slice (some ad1) s.length c_s)] [4, 0] (by kernel_rfl) ?_
  refine ops_nil ?_
  refine fin_then ?_
  refine st_false rfl ?_
  refine st_skip ?_
  refine fin_then ?_
  refine st_seq ?_
  refine st_region [oF 0, oF 1, oF 2, oF 3] (by rfl) ?_
  refine oR [] [(0, .slice (some ad1) s.length c_s)] [0] (by kernel_rfl) ?_
  have h3 : RepL (Rep.int .i64) F W ([] : List Int) ([]) := RepL.nil
  refine ops_new (d := some 5) (o := .cells ([]).toArray 3) (v := fun g4 => .slice (some ⟨g4, 0, none⟩) ([] : List Int).length 0) (M' := fun g4 => Mem w0 (orow (some ⟨g4, 0, none⟩) ([] : List Int).length 0 3 1 [] :: Fz F W :: cs)) (fun g4 => ⟨by kernel_rfl⟩) (fun w_ hM hS => ⟨hM.onew [] 3 0 1 rfl (by decide), trivial⟩) (fun g4 => ?_)
  refine oR [oF 1] [(6, .slice (some ad1) s.length c_s), (5, .slice (some ⟨g4, 0, none⟩) ([] : List Int).length 0)] [6, 5] (by kernel_rfl) ?_
  obtain ⟨l5, hv6, hp⟩ := obind hp
  obtain ⟨he7, hb8⟩ := app_some hv6
  obtain ⟨y12, h13, hs14⟩ := RdS.src h_s
  obtain ⟨y9, hy10⟩ : ∃ y_, [] ++ y12 = y_ := ⟨_, rfl⟩
  have h11 : RepL (Rep.int .i64) F W l5 y9 := by rw [he7, ← hy10]; exact RepL.app h3 h13
  refine ops_appendO (x := (Go.Operand.tmp 5)) (y := (Go.Operand.tmp 6)) (t := 39) (e := 3) (d := some 7) (n' := l5.length) (z := 1) (m := s.length) (bytes := 8) (xs' := y9) (news := y12) (zv := vI 0) 0 ⟨by kernel_rfl⟩ rfl rfl Try.underlying39 (by kernel_rfl) (by rfl) rfl (fun w_ hM => hM.srcS 1 rfl h13 hs14) h13.len h13.one hb8 (by have z_ := congrArg List.length he7; rw [List.length_append] at z_; exact z_.symm) hy10 (fun _ _ _ _ hS h' => trivial) ?_
  rintro ⟨A15, c16⟩
  refine ops_conv (l' := [(7, .slice A15 l5.length c16), (6, .slice (some ad1) s.length c_s), (5, .slice (some ⟨g4, 0, none⟩) ([] : List Int).length 0)]) (M' := Mem w0 (orow A15 l5.length c16 3 1 y9 :: Fz F W :: cs)) rfl (fun _ h => h) ?_
  refine oR [oF 3] [(2, .slice A15 l5.length c16)] [2] (by kernel_rfl) ?_
  refine ops_nil ?_
  refine fin_then ?_
  refine st_ret ?_
  have hq_ := Option.some.inj hp
  have hr0_ := hq_
  subst hr0_
  refine fin_ret [.tmp 2] [.slice A15 l5.length c16] rfl rfl (fun w_ hM => (.tmp rfl .nil)) (fun w_ hM => ?_)
  exact ⟨A15, c16, y9, h11, rfl, hM⟩
set_option maxHeartbeats 4000000 in
set_option maxRecDepth 100000 in
theorem world_CopyComps_ok (w0 w : World) (cs : List Chunk) (F : Nat → Prop) (W : World) (A_l : Option Addr) (c_l : Nat) (l : List api_Comp) (hM0 : Mem w0 (Fz F W :: cs) w) (h_l : RdS R_api_Comp F W A_l c_l l) (l9003 : List api_Comp) (hp : world_CopyComps l = some l9003) : Calls Try.prog 62 #[.slice A_l l.length c_l] w fun e w' => ∃ (A9001 : Option Addr), ∃ (c9002 : Nat), ∃ (y9004 : List Value), ∃ (F9006 : Nat → Prop), ∃ (W9007 : World), ((RepL R_api_Comp F9006 W9007 l9003 y9004) ∧ (Ext w0 F W F9006 W9007)) ∧ e = .returned (.slice A9001 l9003.length c9002) ∧ Mem w0 (orow A9001 l9003.length c9002 63 2 y9004 :: Fz F9006 W9007 :: cs) w' := by
 unfold world_CopyComps at hp
 refine sx_calls Try.func62 rfl (n := 27) (by kernel_rfl) (l := [(0, .slice A_l l.length c_l)]) rfl (by rfl) hM0 ?_
 refine st_seq ?_
 refine st_region [oF 0] (by rfl) ?_
 refine oR [oF 0] [(0, .slice A_l l.length c_l)] [0] (by kernel_rfl) ?_
 refine ops_nil ?_
 refine fin_then ?_
 refine st_seq ?_
 refine st_region [oF 0, oF 1, oF 2, oF 3] (by rfl) ?_
 refine oR [oF 0, oF 1] [(7, vI (l.length : Int)), (0, .slice A_l l.length c_l)] [7, 0] (by kernel_rfl) ?_
 obtain ⟨l1, hv2, hp⟩ := obind hp
 obtain ⟨m3, hm4, he5, hb6⟩ := mk_some hv2
 have hl7 : l1.length = m3 := by rw [he5, List.length_replicate]
 obtain ⟨y8, hy9⟩ : ∃ y_, (Sx.madeOf [vI 0, .slice none 0 0] (l1.length * 2)).toList = y_ := ⟨_, rfl⟩
 have h10 : RepL R_api_Comp F W l1 y8 := by rw [← hy9, hl7, he5]; exact RepL.made (enc_api_Comp (RdS.empty _)) (by decide) _
 refine ops_makeO (t := 25) (x := (Go.Operand.tmp 7)) (y := (Go.Operand.tmp 7)) (d := some 8) (nn := l1.length) (z := 2) (bytes := 32) (xs := y8) (zv := .agg #[vI 0, .slice none 0 0]) ⟨by kernel_rfl⟩ rfl rfl (by rw [hl7]; exact hm4) (by rw [hl7]; exact hm4) Try.underlying25 (by kernel_rfl) (by rw [hl7]; exact hb6) (by rfl) hy9 (fun _ _ _ hS h' => trivial) (fun g11 => ?_)
 refine oR [oF 3] [(3, .slice (some ⟨g11, 0, none⟩) l1.length l1.length), (0, .slice A_l l.length c_l)] [3, 0] (by kernel_rfl) ?_
 refine ops_nil ?_
 refine fin_then ?_
 refine st_join1 (σ := (List api_Comp) × (List Value) × (Nat → Prop) × World) (L := fun x_ => match x_ with | (l12, y13, F15, W16) => [(3, .slice (some ⟨g11, 0, none⟩) l12.length l1.length)]) (N := fun x_ => match x_ with | (l12, y13, F15, W16) => Mem w0 (orow (some ⟨g11, 0, none⟩) l12.length l1.length 63 2 y13 :: Fz F15 W16 :: cs)) (I := fun x_ => match x_ with | (l12, y13, F15, W16) => (world_CopyComps_j1 l12 = some l9003) ∧ (RepL R_api_Comp F15 W16 l12 y13) ∧ (Ext w0 F W F15 W16)) ?_ ?_
 · --
  rintro ⟨l12, y13, F15, W16⟩ ⟨hp, h14, hx1⟩
  refine st_conv (l' := [(3, .slice (some ⟨g11, 0, none⟩) l12.length l1.length)]) (M' := Mem w0 (orow (some ⟨g11, 0, none⟩) l12.length l1.length 63 2 y13 :: Fz F15 W16 :: cs)) rfl (fun _ h => h) ?_
  unfold world_CopyComps_j1 at hp
  refine st_seq ?_
  refine st_region [oF 0, oF 1] (by rfl) ?_
  refine oR [oF 0, oF 1] [(2, .slice (some ⟨g11, 0, none⟩) l12.length l1.length)] [2] (by kernel_rfl) ?_
  refine ops_nil ?_
  refine fin_then ?_
  refine st_ret ?_
  have hq_ := Option.some.inj hp
  have hr0_ := hq_
  subst hr0_
  refine fin_ret [.tmp 2] [.slice (some ⟨g11, 0, none⟩) l12.length l1.length] rfl rfl (fun w_ hM => (.tmp rfl .nil)) (fun w_ hM => ?_)
  exact ⟨(some ⟨g11, 0, none⟩), l1.length, y13, F15, W16, ⟨h14, hx1⟩, rfl, hM⟩
 · --
  intro HJ1
  refine st_seq ?_
  refine st_seq ?_
  refine st_region [oF 0, oF 1, oF 2] (by rfl) ?_
  refine oR [oF 0, oF 1, oF 2] [(11, vI 0), (10, vI (l.length : Int)), (9, .slice A_l l.length c_l), (3, .slice (some ⟨g11, 0, none⟩) l1.length l1.length)] [11, 10, 9, 3] (by kernel_rfl) ?_
  refine ops_nil ?_
  refine fin_then ?_
  refine st_block ?_
  obtain ⟨r2, hl2, hk2⟩ := obind hp
  refine st_loopP (σ := (List api_Comp) × Int) (ρ := (List api_Comp)) (γ := (List Value) × (Nat → Prop) × World) hl2 (y8, F, W) (fun s_ g_ => match s_, g_ with | (l17, i20), (y18, F21, W22) => [(3, .slice (some ⟨g11, 0, none⟩) l17.length l1.length), (9, .slice A_l l.length c_l), (10, vI (l.length : Int)), (11, vI i20)]) (fun s_ g_ => match s_, g_ with | (l17, i20), (y18, F21, W22) => Mem w0 (orow (some ⟨g11, 0, none⟩) l17.length l1.length 63 2 y18 :: Fz F21 W22 :: cs)) (fun s_ g_ => match s_, g_ with | (l17, i20), (y18, F21, W22) => (RepL R_api_Comp F21 W22 l17 y18) ∧ (Ext w0 F W F21 W22)) ⟨h10, (Ext.refl _ _ _)⟩ (look_has ⟨rfl, rfl, rfl, rfl, trivial⟩) (fun w_ hM => hM) ?_
  rintro ⟨l17, i20⟩ ⟨y18, F21, W22⟩ o2 ⟨h19, hx2⟩ hs_ hd2
  have hp : (world_CopyComps_l2 l) l17 i20 = some o2 := hs_
  clear hs_
  unfold world_CopyComps_l2 at hp
  refine st_conv (l' := [(3, .slice (some ⟨g11, 0, none⟩) l17.length l1.length), (9, .slice A_l l.length c_l), (10, vI (l.length : Int)), (11, vI i20)]) (M' := Mem w0 (orow (some ⟨g11, 0, none⟩) l17.length l1.length 63 2 y18 :: Fz F21 W22 :: cs)) rfl (fun _ h => h) ?_
  have h_l := h_l.ext hx2
  refine st_seq ?_
  refine st_region [oF 0] (by rfl) ?_
  refine oR [oF 0] [(12, .bool (decide (i20 < (l.length : Int)))), (3, .slice (some ⟨g11, 0, none⟩) l17.length l1.length), (9, .slice A_l l.length c_l), (10, vI (l.length : Int)), (11, vI i20)] [12, 3, 9, 10, 11] (by kernel_rfl) ?_
  refine ops_nil ?_
  refine fin_then ?_
  refine st_seq ?_
  refine st_if (b := decide (i20 < (l.length : Int))) rfl (fun hc23 => ?_) (fun hc23 => ?_)
  · --
   have hp := cnd_t hc23 hp
   refine st_skip ?_
   refine fin_then ?_
   refine st_seq ?_
   refine st_block ?_
   refine st_seq ?_
   refine st_region [oF 0, oF 1, oF 2, oF 3, oF 4, oF 5] (by rfl) ?_
   refine oR [oF 0] [(13, vI i20), (3, .slice (some ⟨g11, 0, none⟩) l17.length l1.length), (9, .slice A_l l.length c_l), (10, vI (l.length : Int)), (11, vI i20)] [13, 3, 9, 10, 11] (by kernel_rfl) ?_
   obtain ⟨x24, hv25, hp⟩ := obind hp
   obtain ⟨m26, hm27, hx28⟩ := idx_some hv25
   have hl31 := (List.getElem?_eq_some_iff.1 hx28).1
   obtain ⟨ad32, vs29, hA33, hr30, hq34⟩ := RdS.el h_l hx28
   obtain ⟨A35, c36, rfl, h37⟩ := dec_api_Comp hr30
   refine ops_val (op := (Go.Op.indexAddr 25 (Go.Operand.tmp 9) (Go.Operand.tmp 11))) (d := some 14) (v := .pointer (some (ad32.add (m26 * 2)))) ⟨by kernel_rfl⟩ (run_indexA hA33 Try.underlying25 (z := 2) (by kernel_rfl) rfl rfl hm27 hl31) ?_
   refine ops_mem (d := some 15) (an := [.v (vI x24.Kind), .v (.slice A35 x24.Vals.length c36)]) (evs := [.load (ad32.add (m26 * 2)) (vI x24.Kind), .load ((ad32.add (m26 * 2)).add 1) (.slice A35 x24.Vals.length c36)]) (v := .agg #[vI x24.Kind, .slice A35 x24.Vals.length c36]) (M' := Mem w0 (orow (some ⟨g11, 0, none⟩) l17.length l1.length 63 2 y18 :: Fz F21 W22 :: cs)) ⟨by kernel_rfl⟩ (fun w_ hM hS => ⟨w_, ⟨hM.elcell 1 rfl hq34 0 rfl, hM.elcell 1 rfl hq34 1 rfl, rfl⟩, hM, trivial⟩) ?_
   refine oR [] [(15, .agg #[vI x24.Kind, .slice A35 x24.Vals.length c36]), (13, vI i20), (3, .slice (some ⟨g11, 0, none⟩) l17.length l1.length), (9, .slice A_l l.length c_l), (10, vI (l.length : Int)), (11, vI i20)] [15, 13, 3, 9, 10, 11] (by kernel_rfl) ?_
   refine ops_new (d := some 5) (o := .cells #[vI 0, .slice none 0 0] 63) (v := fun b38 => vP b38 0) (M' := fun b38 => Mem w0 (.blk b38 [vI 0, .slice none 0 0] 63 :: orow (some ⟨g11, 0, none⟩) l17.length l1.length 63 2 y18 :: Fz F21 W22 :: cs)) (fun b38 => ⟨by kernel_rfl⟩) (fun w_ hM hS => ⟨hM.blk [vI 0, .slice none 0 0] 63, trivial⟩) (fun b38 => ?_)
   refine oR [oF 4] [(4, vI i20), (5, vP b38 0), (15, .agg #[vI x24.Kind, .slice A35 x24.Vals.length c36]), (3, .slice (some ⟨g11, 0, none⟩) l17.length l1.length), (9, .slice A_l l.length c_l), (10, vI (l.length : Int)), (11, vI i20)] [4, 5, 15, 3, 9, 10, 11] (by kernel_rfl) ?_
   refine ops_store (an := []) (evs := [.store ⟨b38, 0, none⟩ (vI x24.Kind), .store ⟨b38, 1, none⟩ (.slice A35 x24.Vals.length c36)]) (M' := Mem w0 (.blk b38 [vI x24.Kind, .slice A35 x24.Vals.length c36] 63 :: orow (some ⟨g11, 0, none⟩) l17.length l1.length 63 2 y18 :: Fz F21 W22 :: cs)) ⟨by kernel_rfl⟩ (fun w_ hM hS => let ⟨w', he, h'⟩ := hM.evs_stores [vI x24.Kind, .slice A35 x24.Vals.length c36] 0 rfl 0 (Nat.le_of_ble_eq_true rfl); ⟨w', he, h', trivial⟩) ?_
   refine oR [] [(4, vI i20), (5, vP b38 0), (3, .slice (some ⟨g11, 0, none⟩) l17.length l1.length), (9, .slice A_l l.length c_l), (10, vI (l.length : Int)), (11, vI i20)] [4, 5, 3, 9, 10, 11] (by kernel_rfl) ?_
   refine ops_nil ?_
   refine fin_then ?_
   refine st_region_draw [oT 0, oT 1, oT 2, oT 3, oT 4, oT 5, oF 6, oT 7, oT 8, oF 9] (Mem w0 (.blk b38 [vI x24.Kind, .slice A35 x24.Vals.length c36] 63 :: Fz F21 W22 :: cs)) (by kernel_rfl) (by kernel_rfl) (by kernel_rfl) (fun _ d _ _ _ h => by cases d <;> exact h) (M' := Mem w0 (.blk b38 [vI x24.Kind, .slice A35 x24.Vals.length c36] 63 :: orow (some ⟨g11, 0, none⟩) l17.length l1.length 63 2 y18 :: Fz F21 W22 :: cs)) (fun w_ hM => ⟨hM.drew, hM.drew.sub (.cons_cons _ (.cons _ (.cons_cons _ (.refl _))))⟩) ?_
   refine oR [oT 0, oT 1, oT 2] [(18, vP b38 0), (17, vI i20), (16, .slice (some ⟨g11, 0, none⟩) l17.length l1.length), (5, vP b38 0), (3, .slice (some ⟨g11, 0, none⟩) l17.length l1.length), (9, .slice A_l l.length c_l), (10, vI (l.length : Int)), (11, vI i20)] [18, 17, 16, 5, 3, 9, 10, 11] (by kernel_rfl) ?_
   refine ops_load (d := some 19) (an := [.v (vI x24.Kind)]) (evs := [.load ⟨b38, 0, none⟩ (vI x24.Kind)]) (v := vI x24.Kind) ⟨by kernel_rfl⟩ (fun w_ hM => ⟨hM.cell 0 rfl rfl, rfl⟩) ?_
   refine oR [oT 4] [(20, vP b38 1), (19, vI x24.Kind), (17, vI i20), (16, .slice (some ⟨g11, 0, none⟩) l17.length l1.length), (3, .slice (some ⟨g11, 0, none⟩) l17.length l1.length), (9, .slice A_l l.length c_l), (10, vI (l.length : Int)), (11, vI i20)] [20, 19, 17, 16, 3, 9, 10, 11] (by kernel_rfl) ?_
   refine ops_load (d := some 21) (an := [.v (.slice A35 x24.Vals.length c36)]) (evs := [.load ⟨b38, 1, none⟩ (.slice A35 x24.Vals.length c36)]) (v := .slice A35 x24.Vals.length c36) ⟨by kernel_rfl⟩ (fun w_ hM => ⟨hM.cell 0 rfl rfl, rfl⟩) ?_
   refine oR [] [(21, .slice A35 x24.Vals.length c36), (19, vI x24.Kind), (17, vI i20), (16, .slice (some ⟨g11, 0, none⟩) l17.length l1.length), (3, .slice (some ⟨g11, 0, none⟩) l17.length l1.length), (9, .slice A_l l.length c_l), (10, vI (l.length : Int)), (11, vI i20)] [21, 19, 17, 16, 3, 9, 10, 11] (by kernel_rfl) ?_
   obtain ⟨x39, hv40, hp⟩ := obind hp
   refine ops_callI (σ := (Option Addr) × Nat × (List Value)) (d := some 22) (f := 85) (args := #[.slice A35 x24.Vals.length c36]) (v := (fun x_ => match x_ with | (A41, c42, y43) => .slice A41 x39.length c42)) (I := (fun x_ => match x_ with | (A41, c42, y43) => (RepL (Rep.int .i64) F21 W22 x39 y43))) (M' := (fun x_ => match x_ with | (A41, c42, y43) => Mem w0 (orow A41 x39.length c42 3 1 y43 :: .blk b38 [vI x24.Kind, .slice A35 x24.Vals.length c36] 63 :: orow (some ⟨g11, 0, none⟩) l17.length l1.length 63 2 y18 :: Fz F21 W22 :: cs))) ⟨by kernel_rfl⟩ (fun w_ hM hS => (slices_Clone_int_int_ok w0 w_ (.blk b38 [vI x24.Kind, .slice A35 x24.Vals.length c36] 63 :: orow (some ⟨g11, 0, none⟩) l17.length l1.length 63 2 y18 :: cs) F21 W22 A35 c36 x24.Vals (hM.pick 3 [2, 0, 1] (by kernel_rfl) (by decide) rfl) h37 x39 hv40).mono (by rintro e w' ⟨A41, c42, y43, h44, rfl, h'⟩; have h' : Mem w0 (orow A41 x39.length c42 3 1 y43 :: .blk b38 [vI x24.Kind, .slice A35 x24.Vals.length c36] 63 :: orow (some ⟨g11, 0, none⟩) l17.length l1.length 63 2 y18 :: Fz F21 W22 :: cs) w' := (h'.pick 4 [0, 2, 3, 1] (by kernel_rfl) (by decide) rfl); exact ⟨(A41, c42, y43), h44, rfl, h', (by exact h'.sub (.cons _ (.cons_cons _ (.cons _ (.cons_cons _ (.refl _))))))⟩)) ?_
   rintro ⟨A41, c42, y43⟩ h44
   refine ops_conv (l' := [(22, .slice A41 x39.length c42), (21, .slice A35 x24.Vals.length c36), (19, vI x24.Kind), (17, vI i20), (16, .slice (some ⟨g11, 0, none⟩) l17.length l1.length), (3, .slice (some ⟨g11, 0, none⟩) l17.length l1.length), (9, .slice A_l l.length c_l), (10, vI (l.length : Int)), (11, vI i20)]) (M' := Mem w0 (orow A41 x39.length c42 3 1 y43 :: .blk b38 [vI x24.Kind, .slice A35 x24.Vals.length c36] 63 :: orow (some ⟨g11, 0, none⟩) l17.length l1.length 63 2 y18 :: Fz F21 W22 :: cs)) rfl (fun _ h => h) ?_
   refine oR [oT 7] [(23, .agg #[vI x24.Kind, .slice A41 x39.length c42]), (17, vI i20), (16, .slice (some ⟨g11, 0, none⟩) l17.length l1.length), (3, .slice (some ⟨g11, 0, none⟩) l17.length l1.length), (9, .slice A_l l.length c_l), (10, vI (l.length : Int)), (11, vI i20)] [23, 17, 16, 3, 9, 10, 11] (by kernel_rfl) ?_
   obtain ⟨x45, hv46, hp⟩ := obind hp
   obtain ⟨m47, hm48, hx49⟩ := idx_some hv46
   have hl52 := (List.getElem?_eq_some_iff.1 hx49).1
   obtain ⟨vs50, hr51, hq53⟩ := h19.at_ m47 x45 hx49
   obtain ⟨A54, c55, rfl, h56⟩ := dec_api_Comp hr51
   refine ops_val (op := (Go.Op.indexAddr 25 (Go.Operand.tmp 16) (Go.Operand.tmp 17))) (d := some 24) (v := vP g11 (m47 * 2)) ⟨by kernel_rfl⟩ (run_indexRow Try.underlying25 (z := 2) (by kernel_rfl) rfl rfl hm48 hl52 rfl) ?_
   refine oR [] [(24, vP g11 (m47 * 2)), (23, .agg #[vI x24.Kind, .slice A41 x39.length c42]), (3, .slice (some ⟨g11, 0, none⟩) l17.length l1.length), (9, .slice A_l l.length c_l), (10, vI (l.length : Int)), (11, vI i20)] [24, 23, 3, 9, 10, 11] (by kernel_rfl) ?_
   refine ops_ex (σ := (Nat → Prop) × World) (I := fun x_ => Ext w0 F21 W22 x_.1 x_.2 ∧ RdS (Rep.int .i64) x_.1 x_.2 A41 c42 x39) (M' := fun x_ => Mem w0 (.blk b38 [vI x24.Kind, .slice A35 x24.Vals.length c36] 63 :: orow (some ⟨g11, 0, none⟩) l17.length l1.length 63 2 y18 :: Fz x_.1 x_.2 :: cs)) (fun w_ hM => ?_) ?_
   · obtain ⟨F_, h1_, h2_, h3_⟩ := (hM.pick 4 [0, 3, 1, 2] (by kernel_rfl) (by decide) rfl : Mem w0 (orow A41 x39.length c42 3 1 y43 :: Fz F21 W22 :: .blk b38 [vI x24.Kind, .slice A35 x24.Vals.length c36] 63 :: orow (some ⟨g11, 0, none⟩) l17.length l1.length 63 2 y18 :: cs) w_).freeze (z := 1) h44 rfl rfl
     exact ⟨(F_, w_), ⟨h1_, h2_⟩, h3_.pick 3 [1, 2, 0] (by kernel_rfl) (by decide) rfl⟩
   rintro ⟨F57, W58⟩ ⟨hx59, h60⟩
   have hx59 : Ext w0 F21 W22 F57 W58 := hx59
   have h60 : RdS (Rep.int .i64) F57 W58 A41 c42 x39 := h60
   have h_l := h_l.ext hx59
   have h37 := h37.ext hx59
   have h19 := h19.ext hx59
   refine ops_conv (l' := [(24, vP g11 (m47 * 2)), (23, .agg #[vI x24.Kind, .slice A41 x39.length c42]), (3, .slice (some ⟨g11, 0, none⟩) l17.length l1.length), (9, .slice A_l l.length c_l), (10, vI (l.length : Int)), (11, vI i20)]) (M' := Mem w0 (.blk b38 [vI x24.Kind, .slice A35 x24.Vals.length c36] 63 :: orow (some ⟨g11, 0, none⟩) l17.length l1.length 63 2 y18 :: Fz F57 W58 :: cs)) rfl (fun _ h => h) ?_
   obtain ⟨l61, hv62, hp⟩ := obind hp
   obtain ⟨m63, hm64, hl65, he66⟩ := upd_some hv62
   obtain rfl : m47 = m63 := by have := hm48; omega
   have hl67 : l17.length = l61.length := by rw [he66, List.length_set]
   obtain ⟨y68, hy69⟩ : ∃ y_, setAll y18 (m47 * 2 + 0) [vI x24.Kind, .slice A41 x39.length c42] = y_ := ⟨_, rfl⟩
   have h70 : RepL R_api_Comp F57 W58 l61 y68 := by rw [he66, ← hy69]; exact RepL.set h19 (List.getElem?_eq_getElem hl65) (fun vs_ hr_ _ => by obtain ⟨A72, c73, rfl, h74⟩ := dec_api_Comp hr_; exact ⟨(enc_api_Comp h60), Nat.le_of_ble_eq_true rfl⟩)
   refine ops_store (an := []) (evs := [.store ⟨g11, m47 * 2, none⟩ (vI x24.Kind), .store ⟨g11, m47 * 2 + 1, none⟩ (.slice A41 x39.length c42)]) (M' := Mem w0 (.blk b38 [vI x24.Kind, .slice A35 x24.Vals.length c36] 63 :: orow (some ⟨g11, 0, none⟩) l61.length l1.length 63 2 y68 :: Fz F57 W58 :: cs)) ⟨by kernel_rfl⟩ (fun w_ hM hS => let ⟨w', he, h'⟩ := hM.ostore' 1 rfl (m47 * 2 + 0) [vI x24.Kind, .slice A41 x39.length c42] (by have z_ : y18.length = l17.length * 2 := h19.len; have y_ : (m47 + 1) * 2 ≤ l17.length * 2 := Nat.mul_le_mul_right _ hl65; rw [Nat.add_mul] at y_; simp only [List.length_cons, List.length_nil]; omega) hl67 hy69; ⟨w', he, h', (by first | exact (Mem.fzback h' 2 rfl hx59).sub (.cons_cons _ (.cons _ (.cons_cons _ (.refl _)))) | exact (Mem.fzback h' 2 rfl (hx2.trans hx59)).sub (.cons_cons _ (.cons _ (.cons_cons _ (.refl _)))))⟩) ?_
   refine ops_conv (l' := [(24, vP g11 (m47 * 2)), (23, .agg #[vI x24.Kind, .slice A41 x39.length c42]), (3, .slice (some ⟨g11, 0, none⟩) l61.length l1.length), (9, .slice A_l l.length c_l), (10, vI (l.length : Int)), (11, vI i20)]) (M' := Mem w0 (.blk b38 [vI x24.Kind, .slice A35 x24.Vals.length c36] 63 :: orow (some ⟨g11, 0, none⟩) l61.length l1.length 63 2 y68 :: Fz F57 W58 :: cs)) (by first | rfl | rw [hl67]) (fun w_ hM => by first | exact hM | (rw [hl67] at hM; exact hM)) ?_
   refine oR [] [(3, .slice (some ⟨g11, 0, none⟩) l61.length l1.length), (9, .slice A_l l.length c_l), (10, vI (l.length : Int)), (11, vI i20)] [3, 9, 10, 11] (by kernel_rfl) ?_
   refine ops_nil ?_
   refine fin_block ?_
   refine fin_then ?_
   refine st_region [oF 0, oF 1] (by rfl) ?_
   refine oR [oF 0, oF 1] [(11, vI (IntKind.i64.wrap (i20 + 1))), (3, .slice (some ⟨g11, 0, none⟩) l61.length l1.length), (9, .slice A_l l.length c_l), (10, vI (l.length : Int))] [11, 3, 9, 10] (by kernel_rfl) ?_
   refine ops_nil ?_
   exact fin_again (l61, IntKind.i64.wrap (i20 + 1)) (y68, F57, W58) (Option.some.inj hp).symm ⟨h70, (hx2.trans hx59)⟩ (look_has ⟨rfl, rfl, rfl, rfl, trivial⟩) (fun w_ hM => hM.pick 3 [1, 2] (by kernel_rfl) (by decide) rfl)
  · --
   have hp := cnd_f hc23 hp
   refine st_exit ?_
   refine fin_exit_then ?_
   refine fin_exit_then ?_
   refine fin_exit ?_
   obtain hq_ := Option.some.inj hp
   subst hq_
   obtain hq_ := hd2 _ rfl
   subst hq_
   have hp : world_CopyComps_j1 l17 = some l9003 := hk2
   exact fin_join HJ1 (l17, y18, F21, W22) ⟨hp, h19, hx2⟩ (look_has ⟨rfl, trivial⟩) (fun w_ hM => hM)
set_option maxHeartbeats 4000000 in
set_option maxRecDepth 100000 in
theorem cmd_Copy_ok (w0 w : World) (cs : List Chunk) (F : Nat → Prop) (W : World) (c_0 : Int) (c_1 : Int) (c_2 : Int) (c_3 : Int) (A_c_4 : Option Addr) (c_c_4 : Nat) (c_4 : List api_Comp) (hM0 : Mem w0 (Fz F W :: cs) w) (h_c_4 : RdS R_api_Comp F W A_c_4 c_c_4 c_4) (l9003 : List api_Comp) (hp : cmd_Copy c_0 c_1 c_2 c_3 c_4 = some l9003) : Calls Try.prog 53 #[.agg #[vI c_0, vI c_1, vI c_2, vI c_3, .slice A_c_4 c_4.length c_c_4]] w fun e w' => ∃ (A9001 : Option Addr), ∃ (c9002 : Nat), ∃ (y9004 : List Value), ∃ (F9006 : Nat → Prop), ∃ (W9007 : World), ((RepL R_api_Comp F9006 W9007 l9003 y9004) ∧ (Ext w0 F W F9006 W9007)) ∧ e = .returned (.agg #[vI c_0, vI c_1, vI c_2, vI c_3, .slice A9001 l9003.length c9002]) ∧ Mem w0 (orow A9001 l9003.length c9002 63 2 y9004 :: Fz F9006 W9007 :: cs) w' := by
 unfold cmd_Copy at hp
 refine sx_calls Try.func53 rfl (n := 8) (by kernel_rfl) (l := [(0, .agg #[vI c_0, vI c_1, vI c_2, vI c_3, .slice A_c_4 c_4.length c_c_4])]) rfl (by rfl) hM0 ?_
 refine st_seq ?_
 refine st_region [oF 0, oF 1] (by rfl) ?_
 refine ops_new (d := some 1) (o := .cells #[vI c_0, vI c_1, vI c_2, vI c_3, .slice A_c_4 c_4.length c_c_4] 27) (v := fun b1 => vP b1 0) (M' := fun b1 => Mem w0 (.blk b1 [vI c_0, vI c_1, vI c_2, vI c_3, .slice A_c_4 c_4.length c_c_4] 27 :: Fz F W :: cs)) (fun b1 => ⟨by kernel_rfl⟩) (fun w_ hM hS => ⟨hM.blk [vI c_0, vI c_1, vI c_2, vI c_3, .slice A_c_4 c_4.length c_c_4] 27, trivial⟩) (fun b1 => ?_)
 refine oR [] [(1, vP b1 0)] [1] (by kernel_rfl) ?_
 refine ops_new (d := some 2) (o := .cells #[vI 0, vI 0, vI 0, vI 0, .slice none 0 0] 27) (v := fun b2 => vP b2 0) (M' := fun b2 => Mem w0 (.blk b2 [vI 0, vI 0, vI 0, vI 0, .slice none 0 0] 27 :: .blk b1 [vI c_0, vI c_1, vI c_2, vI c_3, .slice A_c_4 c_4.length c_c_4] 27 :: Fz F W :: cs)) (fun b2 => ⟨by kernel_rfl⟩) (fun w_ hM hS => ⟨hM.blk [vI 0, vI 0, vI 0, vI 0, .slice none 0 0] 27, trivial⟩) (fun b2 => ?_)
 refine ops_nil ?_
 refine fin_then ?_
 refine st_seq ?_
 refine st_region [oF 0, oF 1, oF 2, oF 3, oF 4] (by rfl) ?_
 refine oR [oF 0] [(3, vP b1 4), (2, vP b2 0), (1, vP b1 0)] [3, 2, 1] (by kernel_rfl) ?_
 refine ops_mem (d := some 4) (an := [.v (.slice A_c_4 c_4.length c_c_4)]) (evs := [.load ⟨b1, 4, none⟩ (.slice A_c_4 c_4.length c_c_4)]) (v := .slice A_c_4 c_4.length c_c_4) (M' := Mem w0 (.blk b2 [vI 0, vI 0, vI 0, vI 0, .slice none 0 0] 27 :: .blk b1 [vI c_0, vI c_1, vI c_2, vI c_3, .slice A_c_4 c_4.length c_c_4] 27 :: Fz F W :: cs)) ⟨by kernel_rfl⟩ (fun w_ hM hS => ⟨w_, ⟨hM.cell 1 rfl rfl, rfl⟩, hM, trivial⟩) ?_
 refine oR [] [(4, .slice A_c_4 c_4.length c_c_4), (2, vP b2 0), (1, vP b1 0)] [4, 2, 1] (by kernel_rfl) ?_
 obtain ⟨x3, hv4, hp⟩ := obind hp
 refine ops_callI (σ := (Option Addr) × Nat × (List Value) × (Nat → Prop) × World) (d := some 5) (f := 62) (args := #[.slice A_c_4 c_4.length c_c_4]) (v := (fun x_ => match x_ with | (A5, c6, y7, F8, W9) => .slice A5 x3.length c6)) (I := (fun x_ => match x_ with | (A5, c6, y7, F8, W9) => (RepL R_api_Comp F8 W9 x3 y7) ∧ (Ext w0 F W F8 W9))) (M' := (fun x_ => match x_ with | (A5, c6, y7, F8, W9) => Mem w0 (orow A5 x3.length c6 63 2 y7 :: .blk b2 [vI 0, vI 0, vI 0, vI 0, .slice none 0 0] 27 :: .blk b1 [vI c_0, vI c_1, vI c_2, vI c_3, .slice A_c_4 c_4.length c_c_4] 27 :: Fz F8 W9 :: cs))) ⟨by kernel_rfl⟩ (fun w_ hM hS => (world_CopyComps_ok w0 w_ (.blk b2 [vI 0, vI 0, vI 0, vI 0, .slice none 0 0] 27 :: .blk b1 [vI c_0, vI c_1, vI c_2, vI c_3, .slice A_c_4 c_4.length c_c_4] 27 :: cs) F W A_c_4 c_c_4 c_4 (hM.pick 3 [2, 0, 1] (by kernel_rfl) (by decide) rfl) h_c_4 x3 hv4).mono (by rintro e w' ⟨A5, c6, y7, F8, W9, ⟨h10, h11⟩, rfl, h'⟩; have h' : Mem w0 (orow A5 x3.length c6 63 2 y7 :: .blk b2 [vI 0, vI 0, vI 0, vI 0, .slice none 0 0] 27 :: .blk b1 [vI c_0, vI c_1, vI c_2, vI c_3, .slice A_c_4 c_4.length c_c_4] 27 :: Fz F8 W9 :: cs) w' := (h'.pick 4 [0, 2, 3, 1] (by kernel_rfl) (by decide) rfl); exact ⟨(A5, c6, y7, F8, W9), ⟨h10, h11⟩, rfl, h', trivial⟩)) ?_
 rintro ⟨A5, c6, y7, F8, W9⟩ ⟨h10, h11⟩
 have h_c_4 := h_c_4.ext h11
 refine ops_conv (l' := [(5, .slice A5 x3.length c6), (4, .slice A_c_4 c_4.length c_c_4), (2, vP b2 0), (1, vP b1 0)]) (M' := Mem w0 (orow A5 x3.length c6 63 2 y7 :: .blk b2 [vI 0, vI 0, vI 0, vI 0, .slice none 0 0] 27 :: .blk b1 [vI c_0, vI c_1, vI c_2, vI c_3, .slice A_c_4 c_4.length c_c_4] 27 :: Fz F8 W9 :: cs)) rfl (fun _ h => h) ?_
 refine oR [oF 3] [(6, vP b1 4), (5, .slice A5 x3.length c6), (2, vP b2 0), (1, vP b1 0)] [6, 5, 2, 1] (by kernel_rfl) ?_
 refine ops_store (an := []) (evs := [.store ⟨b1, 4, none⟩ (.slice A5 x3.length c6)]) (M' := Mem w0 (orow A5 x3.length c6 63 2 y7 :: .blk b2 [vI 0, vI 0, vI 0, vI 0, .slice none 0 0] 27 :: .blk b1 [vI c_0, vI c_1, vI c_2, vI c_3, .slice A5 x3.length c6] 27 :: Fz F8 W9 :: cs)) ⟨by kernel_rfl⟩ (fun w_ hM hS => let ⟨w', he, h'⟩ := hM.evs_stores [.slice A5 x3.length c6] 2 rfl 4 (Nat.le_of_ble_eq_true rfl); ⟨w', he, h', trivial⟩) ?_
 refine oR [] [(2, vP b2 0), (1, vP b1 0)] [2, 1] (by kernel_rfl) ?_
 refine ops_nil ?_
 refine fin_then ?_
 refine st_seq ?_
 refine st_region [oF 0, oF 1] (by rfl) ?_
 refine ops_mem (d := some 7) (an := [.v (vI c_0), .v (vI c_1), .v (vI c_2), .v (vI c_3), .v (.slice A5 x3.length c6)]) (evs := [.load ⟨b1, 0, none⟩ (vI c_0), .load ⟨b1, 1, none⟩ (vI c_1), .load ⟨b1, 2, none⟩ (vI c_2), .load ⟨b1, 3, none⟩ (vI c_3), .load ⟨b1, 4, none⟩ (.slice A5 x3.length c6)]) (v := .agg #[vI c_0, vI c_1, vI c_2, vI c_3, .slice A5 x3.length c6]) (M' := Mem w0 (orow A5 x3.length c6 63 2 y7 :: .blk b2 [vI 0, vI 0, vI 0, vI 0, .slice none 0 0] 27 :: .blk b1 [vI c_0, vI c_1, vI c_2, vI c_3, .slice A5 x3.length c6] 27 :: Fz F8 W9 :: cs)) ⟨by kernel_rfl⟩ (fun w_ hM hS => ⟨w_, ⟨hM.cell 2 rfl rfl, hM.cell 2 rfl rfl, hM.cell 2 rfl rfl, hM.cell 2 rfl rfl, hM.cell 2 rfl rfl, rfl⟩, hM, trivial⟩) ?_
 refine oR [] [(7, .agg #[vI c_0, vI c_1, vI c_2, vI c_3, .slice A5 x3.length c6]), (2, vP b2 0)] [7, 2] (by kernel_rfl) ?_
 refine ops_store (an := []) (evs := [.store ⟨b2, 0, none⟩ (vI c_0), .store ⟨b2, 1, none⟩ (vI c_1), .store ⟨b2, 2, none⟩ (vI c_2), .store ⟨b2, 3, none⟩ (vI c_3), .store ⟨b2, 4, none⟩ (.slice A5 x3.length c6)]) (M' := Mem w0 (orow A5 x3.length c6 63 2 y7 :: .blk b2 [vI c_0, vI c_1, vI c_2, vI c_3, .slice A5 x3.length c6] 27 :: .blk b1 [vI c_0, vI c_1, vI c_2, vI c_3, .slice A5 x3.length c6] 27 :: Fz F8 W9 :: cs)) ⟨by kernel_rfl⟩ (fun w_ hM hS => let ⟨w', he, h'⟩ := hM.evs_stores [vI c_0, vI c_1, vI c_2, vI c_3, .slice A5 x3.length c6] 1 rfl 0 (Nat.le_of_ble_eq_true rfl); ⟨w', he, h', trivial⟩) ?_
 refine oR [] [(2, vP b2 0)] [2] (by kernel_rfl) ?_
 refine ops_nil ?_
 refine fin_then ?_
 refine st_ret ?_
 have hq_ := Option.some.inj hp
 have hr0_ := hq_
 subst hr0_
 refine fin_ret [.cell 2 27] [.agg #[vI c_0, vI c_1, vI c_2, vI c_3, .slice A5 x3.length c6]] rfl rfl (fun w_ hM => (.cell rfl (tr_run _ [.v (vI c_0), .v (vI c_1), .v (vI c_2), .v (vI c_3), .v (.slice A5 x3.length c6)] [.load ⟨b2, 0, none⟩ (vI c_0), .load ⟨b2, 1, none⟩ (vI c_1), .load ⟨b2, 2, none⟩ (vI c_2), .load ⟨b2, 3, none⟩ (vI c_3), .load ⟨b2, 4, none⟩ (.slice A5 x3.length c6)] (.agg #[vI c_0, vI c_1, vI c_2, vI c_3, .slice A5 x3.length c6] : Value) _ _ (by kernel_rfl) ⟨hM.cell 1 rfl rfl, hM.cell 1 rfl rfl, hM.cell 1 rfl rfl, hM.cell 1 rfl rfl, hM.cell 1 rfl rfl, rfl⟩) .nil)) (fun w_ hM => ?_)
 exact ⟨A5, c6, y7, F8, W9, ⟨h10, h11⟩, rfl, hM.pick 4 [0, 3] (by kernel_rfl) (by decide) rfl⟩
set_option maxHeartbeats 4000000 in
set_option maxRecDepth 100000 in
theorem cmd_Join_ok (w0 w : World) (cs : List Chunk) (F : Nat → Prop) (W : World) (A_l : Option Addr) (c_l : Nat) (l : List (List api_Cmd)) (hM0 : Mem w0 (Fz F W :: cs) w) (h_l : RdS (Rep.sl R_api_Cmd) F W A_l c_l l) (l9003 : List api_Cmd) (i9006 : Int) (hp : cmd_Join l = some (l9003, i9006)) : Calls Try.prog 10 #[.slice A_l l.length c_l] w fun e w' => ∃ (A9001 : Option Addr), ∃ (c9002 : Nat), ∃ (y9004 : List Value), ∃ (F9007 : Nat → Prop), ∃ (W9008 : World), ((RepL R_api_Cmd F9007 W9008 l9003 y9004) ∧ (Ext w0 F W F9007 W9008)) ∧ e = .returned (.tuple #[.slice A9001 l9003.length c9002, vI i9006]) ∧ Mem w0 (orow A9001 l9003.length c9002 27 5 y9004 :: Fz F9007 W9008 :: cs) w' := by
 unfold cmd_Join at hp
 refine sx_calls Try.func10 rfl (n := 45) (by kernel_rfl) (l := [(0, .slice A_l l.length c_l)]) rfl (by rfl) hM0 ?_
 refine st_seq ?_
 refine st_region [oF 0, oF 1] (by rfl) ?_
 refine oR [oF 0, oF 1] [(0, .slice A_l l.length c_l)] [0] (by kernel_rfl) ?_
 refine ops_nil ?_
 refine fin_then ?_
 refine st_seq ?_
 refine st_region [oF 0] (by rfl) ?_
 refine oR [oF 0] [(4, vI 0), (0, .slice A_l l.length c_l)] [4, 0] (by kernel_rfl) ?_
 refine ops_nil ?_
 refine fin_then ?_
 refine st_join1 (σ := Unit) (L := fun _ => [(0, .slice A_l l.length c_l)]) (N := fun _ => Mem w0 (Fz F W :: cs)) (I := fun _ => ((cmd_Join_j1 l) = some (l9003, i9006))) ?_ ?_
 · --
  rintro _ hp
  refine st_conv (l' := [(0, .slice A_l l.length c_l)]) (M' := Mem w0 (Fz F W :: cs)) rfl (fun _ h => h) ?_
  unfold cmd_Join_j1 at hp
  refine st_seq ?_
  refine st_region [oF 0] (by rfl) ?_
  refine oR [oF 0] [(7, .slice none 0 0), (0, .slice A_l l.length c_l)] [7, 0] (by kernel_rfl) ?_
  refine ops_nil ?_
  refine fin_then ?_
  refine st_join1 (σ := (Option Addr) × Nat × (List api_Cmd) × (List Value) × (Nat → Prop) × World) (L := fun x_ => match x_ with | (A1, c2, l3, y4, F6, W7) => [(7, .slice A1 l3.length c2)]) (N := fun x_ => match x_ with | (A1, c2, l3, y4, F6, W7) => Mem w0 (orow A1 l3.length c2 27 5 y4 :: Fz F6 W7 :: cs)) (I := fun x_ => match x_ with | (A1, c2, l3, y4, F6, W7) => (cmd_Join_j2 l3 = some (l9003, i9006)) ∧ (RepL R_api_Cmd F6 W7 l3 y4) ∧ (Ext w0 F W F6 W7)) ?_ ?_
  · --
   rintro ⟨A1, c2, l3, y4, F6, W7⟩ ⟨hp, h5, hx2⟩
   refine st_conv (l' := [(7, .slice A1 l3.length c2)]) (M' := Mem w0 (orow A1 l3.length c2 27 5 y4 :: Fz F6 W7 :: cs)) rfl (fun _ h => h) ?_
   unfold cmd_Join_j2 at hp
   refine st_seq ?_
   refine st_region [oF 0, oF 1, oF 2] (by rfl) ?_
   refine oR [oF 0, oF 1, oF 2] [(3, vI 0), (2, .slice A1 l3.length c2)] [3, 2] (by kernel_rfl) ?_
   refine ops_nil ?_
   refine fin_then ?_
   refine st_ret ?_
   have hq_ := Option.some.inj hp
   obtain ⟨hr0_, hq_⟩ := Prod.mk.inj hq_
   have hr1_ := hq_
   subst hr0_
   subst hr1_
   refine fin_ret [.tmp 2, .tmp 3] [.slice A1 l3.length c2, vI 0] rfl rfl (fun w_ hM => (.tmp rfl (.tmp rfl .nil))) (fun w_ hM => ?_)
   exact ⟨A1, c2, y4, F6, W7, ⟨h5, hx2⟩, rfl, hM⟩
  · --
   intro HJ2
   refine st_seq ?_
   refine st_seq ?_
   refine st_region [oF 0, oF 1, oF 2] (by rfl) ?_
   refine oR [oF 0, oF 1, oF 2] [(27, vI 0), (26, vI (l.length : Int)), (25, .slice A_l l.length c_l), (7, .slice none 0 0)] [27, 26, 25, 7] (by kernel_rfl) ?_
   refine ops_nil ?_
   refine fin_then ?_
   refine st_block ?_
   refine st_conv (l' := [(27, vI 0), (26, vI (l.length : Int)), (25, .slice A_l l.length c_l), (7, .slice none 0 0)]) (M' := Mem w0 (orow none ([] : List api_Cmd).length 0 27 5 [] :: Fz F W :: cs)) rfl (fun w_ h => h.onil none 27 5) ?_
   refine st_conv (l' := [(27, vI 0), (26, vI (l.length : Int)), (25, .slice A_l l.length c_l), (7, .slice none ([] : List api_Cmd).length 0)]) (M' := Mem w0 (orow none ([] : List api_Cmd).length 0 27 5 [] :: Fz F W :: cs)) rfl (fun _ h => h) ?_
   obtain ⟨r3, hl3, hk3⟩ := obind hp
   refine st_loopP (σ := (List api_Cmd) × Int) (ρ := (List api_Cmd)) (γ := (Option Addr) × Nat × (List Value) × (Nat → Prop) × World) hl3 (none, 0, [], F, W) (fun s_ g_ => match s_, g_ with | (l10, i13), (A8, c9, y11, F14, W15) => [(7, .slice A8 l10.length c9), (25, .slice A_l l.length c_l), (26, vI (l.length : Int)), (27, vI i13)]) (fun s_ g_ => match s_, g_ with | (l10, i13), (A8, c9, y11, F14, W15) => Mem w0 (orow A8 l10.length c9 27 5 y11 :: Fz F14 W15 :: cs)) (fun s_ g_ => match s_, g_ with | (l10, i13), (A8, c9, y11, F14, W15) => (RepL R_api_Cmd F14 W15 l10 y11) ∧ (Ext w0 F W F14 W15)) ⟨(RepL.nil (R := R_api_Cmd)), (Ext.refl _ _ _)⟩ (look_has ⟨rfl, rfl, rfl, rfl, trivial⟩) (fun w_ hM => hM) ?_
   rintro ⟨l10, i13⟩ ⟨A8, c9, y11, F14, W15⟩ o3 ⟨h12, hx3⟩ hs_ hd3
   have hp : (cmd_Join_l3 l) l10 i13 = some o3 := hs_
   clear hs_
   unfold cmd_Join_l3 at hp
   refine st_conv (l' := [(7, .slice A8 l10.length c9), (25, .slice A_l l.length c_l), (26, vI (l.length : Int)), (27, vI i13)]) (M' := Mem w0 (orow A8 l10.length c9 27 5 y11 :: Fz F14 W15 :: cs)) rfl (fun _ h => h) ?_
   have h_l := h_l.ext hx3
   refine st_seq ?_
   refine st_region [oF 0] (by rfl) ?_
   refine oR [oF 0] [(28, .bool (decide (i13 < (l.length : Int)))), (7, .slice A8 l10.length c9), (25, .slice A_l l.length c_l), (26, vI (l.length : Int)), (27, vI i13)] [28, 7, 25, 26, 27] (by kernel_rfl) ?_
   refine ops_nil ?_
   refine fin_then ?_
   refine st_seq ?_
   refine st_if (b := decide (i13 < (l.length : Int))) rfl (fun hc16 => ?_) (fun hc16 => ?_)
   · --
    have hp := cnd_t hc16 hp
    refine st_skip ?_
    refine fin_then ?_
    refine st_join1 (σ := (Option Addr) × Nat × (List api_Cmd) × (List Value) × (Nat → Prop) × World) (L := fun x_ => match x_ with | (A17, c18, l19, y20, F22, W23) => [(7, .slice A17 l19.length c18), (25, .slice A_l l.length c_l), (26, vI (l.length : Int)), (27, vI i13)]) (N := fun x_ => match x_ with | (A17, c18, l19, y20, F22, W23) => Mem w0 (orow A17 l19.length c18 27 5 y20 :: Fz F22 W23 :: cs)) (I := fun x_ => match x_ with | (A17, c18, l19, y20, F22, W23) => ((cmd_Join_j4 i13) l19 = some o3) ∧ (RepL R_api_Cmd F22 W23 l19 y20) ∧ (Ext w0 F14 W15 F22 W23)) ?_ ?_
    · --
     rintro ⟨A17, c18, l19, y20, F22, W23⟩ ⟨hp, h21, hx4⟩
     refine st_conv (l' := [(7, .slice A17 l19.length c18), (25, .slice A_l l.length c_l), (26, vI (l.length : Int)), (27, vI i13)]) (M' := Mem w0 (orow A17 l19.length c18 27 5 y20 :: Fz F22 W23 :: cs)) rfl (fun _ h => h) ?_
     have h_l := h_l.ext hx4
     unfold cmd_Join_j4 at hp
     refine st_region [oF 0, oF 1] (by rfl) ?_
     refine oR [oF 0, oF 1] [(27, vI (IntKind.i64.wrap (i13 + 1))), (7, .slice A17 l19.length c18), (25, .slice A_l l.length c_l), (26, vI (l.length : Int))] [27, 7, 25, 26] (by kernel_rfl) ?_
     refine ops_nil ?_
     exact fin_again (l19, IntKind.i64.wrap (i13 + 1)) (A17, c18, y20, F22, W23) (Option.some.inj hp).symm ⟨h21, (hx3.trans hx4)⟩ (look_has ⟨rfl, rfl, rfl, rfl, trivial⟩) (fun w_ hM => hM)
    · --
     intro HJ4
     refine st_seq ?_
     refine st_block ?_
     refine st_seq ?_
     refine st_region [oF 0, oF 1, oF 2] (by rfl) ?_
     refine oR [] [(7, .slice A8 l10.length c9), (25, .slice A_l l.length c_l), (26, vI (l.length : Int)), (27, vI i13)] [7, 25, 26, 27] (by kernel_rfl) ?_
     obtain ⟨x24, hv25, hp⟩ := obind hp
     obtain ⟨m26, hm27, hx28⟩ := idx_some hv25
     have hl31 := (List.getElem?_eq_some_iff.1 hx28).1
     obtain ⟨ad32, vs29, hA33, hr30, hq34⟩ := RdS.el h_l hx28
     obtain ⟨A35, c36, rfl, h37⟩ := hr30
     refine ops_val (op := (Go.Op.indexAddr 22 (Go.Operand.tmp 25) (Go.Operand.tmp 27))) (d := some 29) (v := .pointer (some (ad32.add (m26 * 1)))) ⟨by kernel_rfl⟩ (run_indexA hA33 Try.underlying22 (z := 1) (by kernel_rfl) rfl rfl hm27 hl31) ?_
     refine ops_mem (d := some 30) (an := [.v (.slice A35 x24.length c36)]) (evs := [.load (ad32.add (m26 * 1)) (.slice A35 x24.length c36)]) (v := .slice A35 x24.length c36) (M' := Mem w0 (orow A8 l10.length c9 27 5 y11 :: Fz F14 W15 :: cs)) ⟨by kernel_rfl⟩ (fun w_ hM hS => ⟨w_, ⟨hM.elcell 1 rfl hq34 0 rfl, rfl⟩, hM, trivial⟩) ?_
     refine oR [oF 2] [(9, .slice A35 x24.length c36), (7, .slice A8 l10.length c9), (25, .slice A_l l.length c_l), (26, vI (l.length : Int)), (27, vI i13)] [9, 7, 25, 26, 27] (by kernel_rfl) ?_
     refine ops_nil ?_
     refine fin_then ?_
     refine st_seq ?_
     refine st_region [oF 0, oF 1, oF 2] (by rfl) ?_
     refine oR [oF 0, oF 1, oF 2] [(33, vI 0), (32, vI (x24.length : Int)), (31, .slice A35 x24.length c36), (7, .slice A8 l10.length c9), (25, .slice A_l l.length c_l), (26, vI (l.length : Int)), (27, vI i13)] [33, 32, 31, 7, 25, 26, 27] (by kernel_rfl) ?_
     refine ops_nil ?_
     refine fin_then ?_
     refine st_block ?_
     obtain ⟨r5, hl5, hk5⟩ := obind hp
     refine st_loopP (σ := (List api_Cmd) × Int) (ρ := (List api_Cmd)) (γ := (Option Addr) × Nat × (List Value) × (Nat → Prop) × World) hl5 (A8, c9, y11, F14, W15) (fun s_ g_ => match s_, g_ with | (l40, i43), (A38, c39, y41, F44, W45) => [(7, .slice A38 l40.length c39), (25, .slice A_l l.length c_l), (26, vI (l.length : Int)), (27, vI i13), (31, .slice A35 x24.length c36), (32, vI (x24.length : Int)), (33, vI i43)]) (fun s_ g_ => match s_, g_ with | (l40, i43), (A38, c39, y41, F44, W45) => Mem w0 (orow A38 l40.length c39 27 5 y41 :: Fz F44 W45 :: cs)) (fun s_ g_ => match s_, g_ with | (l40, i43), (A38, c39, y41, F44, W45) => (RepL R_api_Cmd F44 W45 l40 y41) ∧ (Ext w0 F14 W15 F44 W45)) ⟨h12, (Ext.refl _ _ _)⟩ (look_has ⟨rfl, rfl, rfl, rfl, rfl, rfl, rfl, trivial⟩) (fun w_ hM => hM) ?_
     rintro ⟨l40, i43⟩ ⟨A38, c39, y41, F44, W45⟩ o5 ⟨h42, hx5⟩ hs_ hd5
     have hp : (cmd_Join_l5 x24) l40 i43 = some o5 := hs_
     clear hs_
     unfold cmd_Join_l5 at hp
     refine st_conv (l' := [(7, .slice A38 l40.length c39), (25, .slice A_l l.length c_l), (26, vI (l.length : Int)), (27, vI i13), (31, .slice A35 x24.length c36), (32, vI (x24.length : Int)), (33, vI i43)]) (M' := Mem w0 (orow A38 l40.length c39 27 5 y41 :: Fz F44 W45 :: cs)) rfl (fun _ h => h) ?_
     have h_l := h_l.ext hx5
     have h37 := h37.ext hx5
     refine st_seq ?_
     refine st_region [oF 0] (by rfl) ?_
     refine oR [oF 0] [(34, .bool (decide (i43 < (x24.length : Int)))), (7, .slice A38 l40.length c39), (25, .slice A_l l.length c_l), (26, vI (l.length : Int)), (27, vI i13), (31, .slice A35 x24.length c36), (32, vI (x24.length : Int)), (33, vI i43)] [34, 7, 25, 26, 27, 31, 32, 33] (by kernel_rfl) ?_
     refine ops_nil ?_
     refine fin_then ?_
     refine st_seq ?_
     refine st_if (b := decide (i43 < (x24.length : Int))) rfl (fun hc46 => ?_) (fun hc46 => ?_)
     · --
      have hp := cnd_t hc46 hp
      refine st_skip ?_
      refine fin_then ?_
      refine st_seq ?_
      refine st_block ?_
      refine st_seq ?_
      refine st_region [oF 0, oF 1, oF 2, oF 3] (by rfl) ?_
      refine oR [] [(7, .slice A38 l40.length c39), (25, .slice A_l l.length c_l), (26, vI (l.length : Int)), (27, vI i13), (31, .slice A35 x24.length c36), (32, vI (x24.length : Int)), (33, vI i43)] [7, 25, 26, 27, 31, 32, 33] (by kernel_rfl) ?_
      obtain ⟨x47, hv48, hp⟩ := obind hp
      obtain ⟨m49, hm50, hx51⟩ := idx_some hv48
      have hl54 := (List.getElem?_eq_some_iff.1 hx51).1
      obtain ⟨ad55, vs52, hA56, hr53, hq57⟩ := RdS.el h37 hx51
      obtain ⟨A58, c59, rfl, h60⟩ := dec_api_Cmd hr53
      refine ops_val (op := (Go.Op.indexAddr 28 (Go.Operand.tmp 31) (Go.Operand.tmp 33))) (d := some 35) (v := .pointer (some (ad55.add (m49 * 5)))) ⟨by kernel_rfl⟩ (run_indexA hA56 Try.underlying28 (z := 5) (by kernel_rfl) rfl rfl hm50 hl54) ?_
      refine ops_mem (d := some 36) (an := [.v (vI x47.Do), .v (vI x47.Ent.N), .v (vI x47.Ent.Gen), .v (vI x47.Kind), .v (.slice A58 x47.Comps.length c59)]) (evs := [.load (ad55.add (m49 * 5)) (vI x47.Do), .load ((ad55.add (m49 * 5)).add 1) (vI x47.Ent.N), .load ((ad55.add (m49 * 5)).add 2) (vI x47.Ent.Gen), .load ((ad55.add (m49 * 5)).add 3) (vI x47.Kind), .load ((ad55.add (m49 * 5)).add 4) (.slice A58 x47.Comps.length c59)]) (v := .agg #[vI x47.Do, vI x47.Ent.N, vI x47.Ent.Gen, vI x47.Kind, .slice A58 x47.Comps.length c59]) (M' := Mem w0 (orow A38 l40.length c39 27 5 y41 :: Fz F44 W45 :: cs)) ⟨by kernel_rfl⟩ (fun w_ hM hS => ⟨w_, ⟨hM.elcell 1 rfl hq57 0 rfl, hM.elcell 1 rfl hq57 1 rfl, hM.elcell 1 rfl hq57 2 rfl, hM.elcell 1 rfl hq57 3 rfl, hM.elcell 1 rfl hq57 4 rfl, rfl⟩, hM, trivial⟩) ?_
      refine oR [] [(36, .agg #[vI x47.Do, vI x47.Ent.N, vI x47.Ent.Gen, vI x47.Kind, .slice A58 x47.Comps.length c59]), (7, .slice A38 l40.length c39), (25, .slice A_l l.length c_l), (26, vI (l.length : Int)), (27, vI i13), (31, .slice A35 x24.length c36), (32, vI (x24.length : Int)), (33, vI i43)] [36, 7, 25, 26, 27, 31, 32, 33] (by kernel_rfl) ?_
      refine ops_new (d := some 11) (o := .cells #[vI 0, vI 0, vI 0, vI 0, .slice none 0 0] 27) (v := fun b61 => vP b61 0) (M' := fun b61 => Mem w0 (.blk b61 [vI 0, vI 0, vI 0, vI 0, .slice none 0 0] 27 :: orow A38 l40.length c39 27 5 y41 :: Fz F44 W45 :: cs)) (fun b61 => ⟨by kernel_rfl⟩) (fun w_ hM hS => ⟨hM.blk [vI 0, vI 0, vI 0, vI 0, .slice none 0 0] 27, trivial⟩) (fun b61 => ?_)
      refine ops_store (an := []) (evs := [.store ⟨b61, 0, none⟩ (vI x47.Do), .store ⟨b61, 1, none⟩ (vI x47.Ent.N), .store ⟨b61, 2, none⟩ (vI x47.Ent.Gen), .store ⟨b61, 3, none⟩ (vI x47.Kind), .store ⟨b61, 4, none⟩ (.slice A58 x47.Comps.length c59)]) (M' := Mem w0 (.blk b61 [vI x47.Do, vI x47.Ent.N, vI x47.Ent.Gen, vI x47.Kind, .slice A58 x47.Comps.length c59] 27 :: orow A38 l40.length c39 27 5 y41 :: Fz F44 W45 :: cs)) ⟨by kernel_rfl⟩ (fun w_ hM hS => let ⟨w', he, h'⟩ := hM.evs_stores [vI x47.Do, vI x47.Ent.N, vI x47.Ent.Gen, vI x47.Kind, .slice A58 x47.Comps.length c59] 0 rfl 0 (Nat.le_of_ble_eq_true rfl); ⟨w', he, h', trivial⟩) ?_
      refine oR [] [(11, vP b61 0), (7, .slice A38 l40.length c39), (25, .slice A_l l.length c_l), (26, vI (l.length : Int)), (27, vI i13), (31, .slice A35 x24.length c36), (32, vI (x24.length : Int)), (33, vI i43)] [11, 7, 25, 26, 27, 31, 32, 33] (by kernel_rfl) ?_
      refine ops_nil ?_
      refine fin_then ?_
      refine st_region [oF 0, oF 1, oF 2, oF 3, oF 4, oF 5] (by rfl) ?_
      refine oR [oF 0] [(37, .slice A38 l40.length c39), (11, vP b61 0), (7, .slice A38 l40.length c39), (25, .slice A_l l.length c_l), (26, vI (l.length : Int)), (27, vI i13), (31, .slice A35 x24.length c36), (32, vI (x24.length : Int)), (33, vI i43)] [37, 11, 7, 25, 26, 27, 31, 32, 33] (by kernel_rfl) ?_
      refine ops_mem (d := some 38) (an := [.v (vI x47.Do), .v (vI x47.Ent.N), .v (vI x47.Ent.Gen), .v (vI x47.Kind), .v (.slice A58 x47.Comps.length c59)]) (evs := [.load ⟨b61, 0, none⟩ (vI x47.Do), .load ⟨b61, 1, none⟩ (vI x47.Ent.N), .load ⟨b61, 2, none⟩ (vI x47.Ent.Gen), .load ⟨b61, 3, none⟩ (vI x47.Kind), .load ⟨b61, 4, none⟩ (.slice A58 x47.Comps.length c59)]) (v := .agg #[vI x47.Do, vI x47.Ent.N, vI x47.Ent.Gen, vI x47.Kind, .slice A58 x47.Comps.length c59]) (M' := Mem w0 (.blk b61 [vI x47.Do, vI x47.Ent.N, vI x47.Ent.Gen, vI x47.Kind, .slice A58 x47.Comps.length c59] 27 :: orow A38 l40.length c39 27 5 y41 :: Fz F44 W45 :: cs)) ⟨by kernel_rfl⟩ (fun w_ hM hS => ⟨w_, ⟨hM.cell 0 rfl rfl, hM.cell 0 rfl rfl, hM.cell 0 rfl rfl, hM.cell 0 rfl rfl, hM.cell 0 rfl rfl, rfl⟩, hM, trivial⟩) ?_
      refine oR [] [(38, .agg #[vI x47.Do, vI x47.Ent.N, vI x47.Ent.Gen, vI x47.Kind, .slice A58 x47.Comps.length c59]), (37, .slice A38 l40.length c39), (7, .slice A38 l40.length c39), (25, .slice A_l l.length c_l), (26, vI (l.length : Int)), (27, vI i13), (31, .slice A35 x24.length c36), (32, vI (x24.length : Int)), (33, vI i43)] [38, 37, 7, 25, 26, 27, 31, 32, 33] (by kernel_rfl) ?_
      obtain ⟨x62, hv63, hp⟩ := obind hp
      refine ops_callI (σ := (Option Addr) × Nat × (List Value) × (Nat → Prop) × World) (d := some 39) (f := 53) (args := #[.agg #[vI x47.Do, vI x47.Ent.N, vI x47.Ent.Gen, vI x47.Kind, .slice A58 x47.Comps.length c59]]) (v := (fun x_ => match x_ with | (A64, c65, y66, F67, W68) => .agg #[vI x47.Do, vI x47.Ent.N, vI x47.Ent.Gen, vI x47.Kind, .slice A64 x62.length c65])) (I := (fun x_ => match x_ with | (A64, c65, y66, F67, W68) => (RepL R_api_Comp F67 W68 x62 y66) ∧ (Ext w0 F44 W45 F67 W68))) (M' := (fun x_ => match x_ with | (A64, c65, y66, F67, W68) => Mem w0 (orow A64 x62.length c65 63 2 y66 :: .blk b61 [vI x47.Do, vI x47.Ent.N, vI x47.Ent.Gen, vI x47.Kind, .slice A58 x47.Comps.length c59] 27 :: orow A38 l40.length c39 27 5 y41 :: Fz F67 W68 :: cs))) ⟨by kernel_rfl⟩ (fun w_ hM hS => (cmd_Copy_ok w0 w_ (.blk b61 [vI x47.Do, vI x47.Ent.N, vI x47.Ent.Gen, vI x47.Kind, .slice A58 x47.Comps.length c59] 27 :: orow A38 l40.length c39 27 5 y41 :: cs) F44 W45 x47.Do x47.Ent.N x47.Ent.Gen x47.Kind A58 c59 x47.Comps (hM.pick 3 [2, 0, 1] (by kernel_rfl) (by decide) rfl) h60 x62 hv63).mono (by rintro e w' ⟨A64, c65, y66, F67, W68, ⟨h69, h70⟩, rfl, h'⟩; have h' : Mem w0 (orow A64 x62.length c65 63 2 y66 :: .blk b61 [vI x47.Do, vI x47.Ent.N, vI x47.Ent.Gen, vI x47.Kind, .slice A58 x47.Comps.length c59] 27 :: orow A38 l40.length c39 27 5 y41 :: Fz F67 W68 :: cs) w' := (h'.pick 4 [0, 2, 3, 1] (by kernel_rfl) (by decide) rfl); exact ⟨(A64, c65, y66, F67, W68), ⟨h69, h70⟩, rfl, h', trivial⟩)) ?_
      rintro ⟨A64, c65, y66, F67, W68⟩ ⟨h69, h70⟩
      have h60 := h60.ext h70
      have h_l := h_l.ext h70
      have h37 := h37.ext h70
      have h42 := h42.ext h70
      refine ops_conv (l' := [(39, .agg #[vI x47.Do, vI x47.Ent.N, vI x47.Ent.Gen, vI x47.Kind, .slice A64 x62.length c65]), (38, .agg #[vI x47.Do, vI x47.Ent.N, vI x47.Ent.Gen, vI x47.Kind, .slice A58 x47.Comps.length c59]), (37, .slice A38 l40.length c39), (7, .slice A38 l40.length c39), (25, .slice A_l l.length c_l), (26, vI (l.length : Int)), (27, vI i13), (31, .slice A35 x24.length c36), (32, vI (x24.length : Int)), (33, vI i43)]) (M' := Mem w0 (orow A64 x62.length c65 63 2 y66 :: .blk b61 [vI x47.Do, vI x47.Ent.N, vI x47.Ent.Gen, vI x47.Kind, .slice A58 x47.Comps.length c59] 27 :: orow A38 l40.length c39 27 5 y41 :: Fz F67 W68 :: cs)) rfl (fun _ h => h) ?_
      refine oR [] [(39, .agg #[vI x47.Do, vI x47.Ent.N, vI x47.Ent.Gen, vI x47.Kind, .slice A64 x62.length c65]), (37, .slice A38 l40.length c39), (7, .slice A38 l40.length c39), (25, .slice A_l l.length c_l), (26, vI (l.length : Int)), (27, vI i13), (31, .slice A35 x24.length c36), (32, vI (x24.length : Int)), (33, vI i43)] [39, 37, 7, 25, 26, 27, 31, 32, 33] (by kernel_rfl) ?_
      refine ops_ex (σ := (Nat → Prop) × World) (I := fun x_ => Ext w0 F67 W68 x_.1 x_.2 ∧ RdS R_api_Comp x_.1 x_.2 A64 c65 x62) (M' := fun x_ => Mem w0 (.blk b61 [vI x47.Do, vI x47.Ent.N, vI x47.Ent.Gen, vI x47.Kind, .slice A58 x47.Comps.length c59] 27 :: orow A38 l40.length c39 27 5 y41 :: Fz x_.1 x_.2 :: cs)) (fun w_ hM => ?_) ?_
      · obtain ⟨F_, h1_, h2_, h3_⟩ := (hM.pick 4 [0, 3, 1, 2] (by kernel_rfl) (by decide) rfl : Mem w0 (orow A64 x62.length c65 63 2 y66 :: Fz F67 W68 :: .blk b61 [vI x47.Do, vI x47.Ent.N, vI x47.Ent.Gen, vI x47.Kind, .slice A58 x47.Comps.length c59] 27 :: orow A38 l40.length c39 27 5 y41 :: cs) w_).freeze (z := 2) h69 rfl rfl
        exact ⟨(F_, w_), ⟨h1_, h2_⟩, h3_.pick 3 [1, 2, 0] (by kernel_rfl) (by decide) rfl⟩
      rintro ⟨F71, W72⟩ ⟨hx73, h74⟩
      have hx73 : Ext w0 F67 W68 F71 W72 := hx73
      have h74 : RdS R_api_Comp F71 W72 A64 c65 x62 := h74
      have h_l := h_l.ext hx73
      have h37 := h37.ext hx73
      have h60 := h60.ext hx73
      have h42 := h42.ext hx73
      refine ops_conv (l' := [(39, .agg #[vI x47.Do, vI x47.Ent.N, vI x47.Ent.Gen, vI x47.Kind, .slice A64 x62.length c65]), (37, .slice A38 l40.length c39), (7, .slice A38 l40.length c39), (25, .slice A_l l.length c_l), (26, vI (l.length : Int)), (27, vI i13), (31, .slice A35 x24.length c36), (32, vI (x24.length : Int)), (33, vI i43)]) (M' := Mem w0 (.blk b61 [vI x47.Do, vI x47.Ent.N, vI x47.Ent.Gen, vI x47.Kind, .slice A58 x47.Comps.length c59] 27 :: orow A38 l40.length c39 27 5 y41 :: Fz F71 W72 :: cs)) rfl (fun _ h => h) ?_
      have h75 : RepL R_api_Cmd F71 W72 ([(api_Cmd.mk x47.Do (api_Ent.mk x47.Ent.N x47.Ent.Gen) x47.Kind x62)] : List api_Cmd) ([vI x47.Do, vI x47.Ent.N, vI x47.Ent.Gen, vI x47.Kind, .slice A64 x62.length c65]) := (RepL.cons (R := R_api_Cmd) (F := F71) (w := W72) (vs := [vI x47.Do, vI x47.Ent.N, vI x47.Ent.Gen, vI x47.Kind, .slice A64 x62.length c65]) (ys := []) (enc_api_Cmd h74) RepL.nil)
      refine ops_new (d := some 40) (o := .cells ([vI x47.Do, vI x47.Ent.N, vI x47.Ent.Gen, vI x47.Kind, .slice A64 x62.length c65]).toArray 27) (v := fun g76 => .slice (some ⟨g76, 0, none⟩) ([(api_Cmd.mk x47.Do (api_Ent.mk x47.Ent.N x47.Ent.Gen) x47.Kind x62)] : List api_Cmd).length 1) (M' := fun g76 => Mem w0 (orow (some ⟨g76, 0, none⟩) ([(api_Cmd.mk x47.Do (api_Ent.mk x47.Ent.N x47.Ent.Gen) x47.Kind x62)] : List api_Cmd).length 1 27 5 ([vI x47.Do, vI x47.Ent.N, vI x47.Ent.Gen, vI x47.Kind, .slice A64 x62.length c65]) :: .blk b61 [vI x47.Do, vI x47.Ent.N, vI x47.Ent.Gen, vI x47.Kind, .slice A58 x47.Comps.length c59] 27 :: orow A38 l40.length c39 27 5 y41 :: Fz F71 W72 :: cs)) (fun g76 => ⟨by kernel_rfl⟩) (fun w_ hM hS => ⟨hM.onew [vI x47.Do, vI x47.Ent.N, vI x47.Ent.Gen, vI x47.Kind, .slice A64 x62.length c65] 27 1 5 rfl (by decide), trivial⟩) (fun g76 => ?_)
      refine oR [] [(40, .slice (some ⟨g76, 0, none⟩) ([(api_Cmd.mk x47.Do (api_Ent.mk x47.Ent.N x47.Ent.Gen) x47.Kind x62)] : List api_Cmd).length 1), (37, .slice A38 l40.length c39), (7, .slice A38 l40.length c39), (25, .slice A_l l.length c_l), (26, vI (l.length : Int)), (27, vI i13), (31, .slice A35 x24.length c36), (32, vI (x24.length : Int)), (33, vI i43)] [40, 37, 7, 25, 26, 27, 31, 32, 33] (by kernel_rfl) ?_
      obtain ⟨l77, hv78, hp⟩ := obind hp
      obtain ⟨he79, hb80⟩ := app_some hv78
      obtain ⟨y81, hy82⟩ : ∃ y_, y41 ++ ([vI x47.Do, vI x47.Ent.N, vI x47.Ent.Gen, vI x47.Kind, .slice A64 x62.length c65]) = y_ := ⟨_, rfl⟩
      have h83 : RepL R_api_Cmd F71 W72 l77 y81 := by rw [he79, ← hy82]; exact RepL.app h42 h75
      refine ops_appendO (x := (Go.Operand.tmp 37)) (y := (Go.Operand.tmp 40)) (t := 28) (e := 27) (d := some 41) (n' := l77.length) (z := 5) (m := ([(api_Cmd.mk x47.Do (api_Ent.mk x47.Ent.N x47.Ent.Gen) x47.Kind x62)] : List api_Cmd).length) (bytes := 56) (xs' := y81) (news := ([vI x47.Do, vI x47.Ent.N, vI x47.Ent.Gen, vI x47.Kind, .slice A64 x62.length c65])) (zv := .agg #[vI 0, vI 0, vI 0, vI 0, .slice none 0 0]) 2 ⟨by kernel_rfl⟩ rfl rfl Try.underlying28 (by kernel_rfl) (by rfl) rfl (fun w_ hM => hM.srcO 0 rfl) h75.len h75.one hb80 (by have z_ := congrArg List.length he79; rw [List.length_append] at z_; exact z_.symm) hy82 (fun _ _ _ _ hS h' => trivial) ?_
      rintro ⟨A84, c85⟩
      refine ops_conv (l' := [(41, .slice A84 l77.length c85), (40, .slice (some ⟨g76, 0, none⟩) ([(api_Cmd.mk x47.Do (api_Ent.mk x47.Ent.N x47.Ent.Gen) x47.Kind x62)] : List api_Cmd).length 1), (37, .slice A38 l40.length c39), (7, .slice A38 l40.length c39), (25, .slice A_l l.length c_l), (26, vI (l.length : Int)), (27, vI i13), (31, .slice A35 x24.length c36), (32, vI (x24.length : Int)), (33, vI i43)]) (M' := Mem w0 (orow (some ⟨g76, 0, none⟩) ([(api_Cmd.mk x47.Do (api_Ent.mk x47.Ent.N x47.Ent.Gen) x47.Kind x62)] : List api_Cmd).length 1 27 5 ([vI x47.Do, vI x47.Ent.N, vI x47.Ent.Gen, vI x47.Kind, .slice A64 x62.length c65]) :: .blk b61 [vI x47.Do, vI x47.Ent.N, vI x47.Ent.Gen, vI x47.Kind, .slice A58 x47.Comps.length c59] 27 :: orow A84 l77.length c85 27 5 y81 :: Fz F71 W72 :: cs)) rfl (fun _ h => h) ?_
      refine oR [oF 5] [(7, .slice A84 l77.length c85), (25, .slice A_l l.length c_l), (26, vI (l.length : Int)), (27, vI i13), (31, .slice A35 x24.length c36), (32, vI (x24.length : Int)), (33, vI i43)] [7, 25, 26, 27, 31, 32, 33] (by kernel_rfl) ?_
      refine ops_nil ?_
      refine fin_block ?_
      refine fin_then ?_
      refine st_region [oF 0, oF 1] (by rfl) ?_
      refine oR [oF 0, oF 1] [(33, vI (IntKind.i64.wrap (i43 + 1))), (7, .slice A84 l77.length c85), (25, .slice A_l l.length c_l), (26, vI (l.length : Int)), (27, vI i13), (31, .slice A35 x24.length c36), (32, vI (x24.length : Int))] [33, 7, 25, 26, 27, 31, 32] (by kernel_rfl) ?_
      refine ops_nil ?_
      exact fin_again (l77, IntKind.i64.wrap (i43 + 1)) (A84, c85, y81, F71, W72) (Option.some.inj hp).symm ⟨h83, ((hx5.trans h70).trans hx73)⟩ (look_has ⟨rfl, rfl, rfl, rfl, rfl, rfl, rfl, trivial⟩) (fun w_ hM => hM.pick 4 [2, 3] (by kernel_rfl) (by decide) rfl)
     · --
      have hp := cnd_f hc46 hp
      refine st_exit ?_
      refine fin_exit_then ?_
      refine fin_exit_then ?_
      refine fin_exit ?_
      refine fin_block ?_
      obtain hq_ := Option.some.inj hp
      subst hq_
      obtain hq_ := hd5 _ rfl
      subst hq_
      have hp : (cmd_Join_j4 i13) l40 = some o3 := hk5
      exact fin_join HJ4 (A38, c39, l40, y41, F44, W45) ⟨hp, h42, hx5⟩ (look_has ⟨rfl, rfl, rfl, rfl, trivial⟩) (fun w_ hM => hM)
   · --
    have hp := cnd_f hc16 hp
    refine st_exit ?_
    refine fin_exit_then ?_
    refine fin_exit_then ?_
    refine fin_exit ?_
    obtain hq_ := Option.some.inj hp
    subst hq_
    obtain hq_ := hd3 _ rfl
    subst hq_
    have hp : cmd_Join_j2 l10 = some (l9003, i9006) := hk3
    exact fin_join HJ2 (A8, c9, l10, y11, F14, W15) ⟨hp, h12, hx3⟩ (look_has ⟨rfl, trivial⟩) (fun w_ hM => hM)
 · --
  intro HJ1
  refine st_seq ?_
  refine st_seq ?_
  refine st_region [oF 0, oF 1, oF 2] (by rfl) ?_
  refine oR [oF 0, oF 1, oF 2] [(14, vI 0), (13, vI (l.length : Int)), (12, .slice A_l l.length c_l), (4, vI 0), (0, .slice A_l l.length c_l)] [14, 13, 12, 4, 0] (by kernel_rfl) ?_
  refine ops_nil ?_
  refine fin_then ?_
  refine st_block ?_
  obtain ⟨r6, hl6, hk6⟩ := obind hp
  refine st_loopP (σ := Int × Int) (ρ := (((List api_Cmd) × Int) ⊕ Unit)) (γ := Unit) hl6 () (fun s_ g_ => match s_, g_ with | (i86, i87), _ => [(0, .slice A_l l.length c_l), (4, vI i86), (12, .slice A_l l.length c_l), (13, vI (l.length : Int)), (14, vI i87)]) (fun s_ g_ => match s_, g_ with | (i86, i87), _ => Mem w0 (Fz F W :: cs)) (fun s_ g_ => match s_, g_ with | (i86, i87), _ => True) trivial (look_has ⟨rfl, rfl, rfl, rfl, rfl, trivial⟩) (fun w_ hM => hM) ?_
  rintro ⟨i86, i87⟩ _ o6 - hs_ hd6
  have hp : (cmd_Join_l6 l) i86 i87 = some o6 := hs_
  clear hs_
  unfold cmd_Join_l6 at hp
  refine st_conv (l' := [(0, .slice A_l l.length c_l), (4, vI i86), (12, .slice A_l l.length c_l), (13, vI (l.length : Int)), (14, vI i87)]) (M' := Mem w0 (Fz F W :: cs)) rfl (fun _ h => h) ?_
  refine st_seq ?_
  refine st_region [oF 0] (by rfl) ?_
  refine oR [oF 0] [(15, .bool (decide (i87 < (l.length : Int)))), (0, .slice A_l l.length c_l), (4, vI i86), (12, .slice A_l l.length c_l), (13, vI (l.length : Int)), (14, vI i87)] [15, 0, 4, 12, 13, 14] (by kernel_rfl) ?_
  refine ops_nil ?_
  refine fin_then ?_
  refine st_seq ?_
  refine st_if (b := decide (i87 < (l.length : Int))) rfl (fun hc88 => ?_) (fun hc88 => ?_)
  · --
   have hp := cnd_t hc88 hp
   refine st_skip ?_
   refine fin_then ?_
   refine st_seq ?_
   refine st_block ?_
   refine st_seq ?_
   refine st_region [oF 0, oF 1, oF 2] (by rfl) ?_
   refine oR [] [(0, .slice A_l l.length c_l), (4, vI i86), (12, .slice A_l l.length c_l), (13, vI (l.length : Int)), (14, vI i87)] [0, 4, 12, 13, 14] (by kernel_rfl) ?_
   obtain ⟨x89, hv90, hp⟩ := obind hp
   obtain ⟨m91, hm92, hx93⟩ := idx_some hv90
   have hl96 := (List.getElem?_eq_some_iff.1 hx93).1
   obtain ⟨ad97, vs94, hA98, hr95, hq99⟩ := RdS.el h_l hx93
   obtain ⟨A100, c101, rfl, h102⟩ := hr95
   refine ops_val (op := (Go.Op.indexAddr 22 (Go.Operand.tmp 12) (Go.Operand.tmp 14))) (d := some 16) (v := .pointer (some (ad97.add (m91 * 1)))) ⟨by kernel_rfl⟩ (run_indexA hA98 Try.underlying22 (z := 1) (by kernel_rfl) rfl rfl hm92 hl96) ?_
   refine ops_mem (d := some 17) (an := [.v (.slice A100 x89.length c101)]) (evs := [.load (ad97.add (m91 * 1)) (.slice A100 x89.length c101)]) (v := .slice A100 x89.length c101) (M' := Mem w0 (Fz F W :: cs)) ⟨by kernel_rfl⟩ (fun w_ hM hS => ⟨w_, ⟨hM.elcell 0 rfl hq99 0 rfl, rfl⟩, hM, trivial⟩) ?_
   refine oR [oF 2] [(6, .slice A100 x89.length c101), (0, .slice A_l l.length c_l), (4, vI i86), (12, .slice A_l l.length c_l), (13, vI (l.length : Int)), (14, vI i87)] [6, 0, 4, 12, 13, 14] (by kernel_rfl) ?_
   refine ops_nil ?_
   refine fin_then ?_
   refine st_seq ?_
   refine st_region [oF 0, oF 1, oF 2, oF 3, oF 4] (by rfl) ?_
   refine oR [oF 0, oF 1, oF 2, oF 3, oF 4] [(4, vI (IntKind.i64.wrap (i86 + (x89.length : Int)))), (0, .slice A_l l.length c_l), (12, .slice A_l l.length c_l), (13, vI (l.length : Int)), (14, vI i87)] [4, 0, 12, 13, 14] (by kernel_rfl) ?_
   refine ops_nil ?_
   refine fin_then ?_
   refine st_seq ?_
   refine st_region [oF 0, oF 1] (by rfl) ?_
   refine oR [oF 0, oF 1] [(23, .bool (decide (131072 < IntKind.i64.wrap (i86 + (x89.length : Int))))), (4, vI (IntKind.i64.wrap (i86 + (x89.length : Int)))), (0, .slice A_l l.length c_l), (12, .slice A_l l.length c_l), (13, vI (l.length : Int)), (14, vI i87)] [23, 4, 0, 12, 13, 14] (by kernel_rfl) ?_
   refine ops_nil ?_
   refine fin_then ?_
   refine st_if (b := decide (131072 < IntKind.i64.wrap (i86 + (x89.length : Int)))) rfl (fun hc103 => ?_) (fun hc103 => ?_)
   · --
    have hp := cnd_t hc103 hp
    refine st_seq ?_
    refine st_region [oF 0, oF 1] (by rfl) ?_
    refine oR [oF 0, oF 1] [(3, vI 2), (2, .slice none 0 0)] [3, 2] (by kernel_rfl) ?_
    refine ops_nil ?_
    refine fin_then ?_
    refine st_ret ?_
    refine fin_ret_block ?_
    refine fin_ret_then ?_
    refine fin_ret_then ?_
    refine fin_ret_block ?_
    refine fin_ret_then ?_
    refine fin_conv (l' := [(3, vI 2), (2, .slice none 0 0)]) (M' := Mem w0 (orow none ([] : List api_Cmd).length 0 27 5 [] :: Fz F W :: cs)) rfl (fun w_ h => h.onil none 27 5) ?_
    refine fin_conv (l' := [(3, vI 2), (2, .slice none ([] : List api_Cmd).length 0)]) (M' := Mem w0 (orow none ([] : List api_Cmd).length 0 27 5 [] :: Fz F W :: cs)) rfl (fun _ h => h) ?_
    obtain hq_ := Option.some.inj hp
    subst hq_
    obtain hq_ := hd6 _ rfl
    subst hq_
    have hp : some (([] : List api_Cmd), 2) = some (l9003, i9006) := hk6
    have hq_ := Option.some.inj hp
    obtain ⟨hr0_, hq_⟩ := Prod.mk.inj hq_
    have hr1_ := hq_
    subst hr0_
    subst hr1_
    refine fin_ret [.tmp 2, .tmp 3] [.slice none ([] : List api_Cmd).length 0, vI 2] rfl rfl (fun w_ hM => (.tmp rfl (.tmp rfl .nil))) (fun w_ hM => ?_)
    exact ⟨none, 0, [], F, W, ⟨(RepL.nil (R := R_api_Cmd)), (Ext.refl _ _ _)⟩, rfl, hM⟩
   · --
    have hp := cnd_f hc103 hp
    refine st_skip ?_
    refine fin_block ?_
    refine fin_then ?_
    refine st_region [oF 0, oF 1] (by rfl) ?_
    refine oR [oF 0, oF 1] [(14, vI (IntKind.i64.wrap (i87 + 1))), (4, vI (IntKind.i64.wrap (i86 + (x89.length : Int)))), (0, .slice A_l l.length c_l), (12, .slice A_l l.length c_l), (13, vI (l.length : Int))] [14, 4, 0, 12, 13] (by kernel_rfl) ?_
    refine ops_nil ?_
    exact fin_again (IntKind.i64.wrap (i86 + (x89.length : Int)), IntKind.i64.wrap (i87 + 1)) () (Option.some.inj hp).symm trivial (look_has ⟨rfl, rfl, rfl, rfl, rfl, trivial⟩) (fun w_ hM => hM)
  · --
   have hp := cnd_f hc88 hp
   refine st_exit ?_
   refine fin_exit_then ?_
   refine fin_exit_then ?_
   refine fin_exit ?_
   obtain hq_ := Option.some.inj hp
   subst hq_
   obtain hq_ := hd6 _ rfl
   subst hq_
   have hp : (cmd_Join_j1 l) = some (l9003, i9006) := hk6
   exact fin_join HJ1 () hp (look_has ⟨rfl, trivial⟩) (fun w_ hM => hM)
set_option maxHeartbeats 4000000 in
set_option maxRecDepth 100000 in
theorem tourlaw3_two_ok (w0 w : World) (cs : List Chunk) (F : Nat → Prop) (W : World) (hM0 : Mem w0 (Fz F W :: cs) w) (l9002 : List api_Kind) (hp : tourlaw3_two = some l9002) : Calls Try.prog 61 #[] w fun e w' => ∃ (A9001 : Option Addr), ∃ (y9003 : List Value), ∃ (F9005 : Nat → Prop), ∃ (W9006 : World), ((RepL R_api_Kind F9005 W9006 l9002 y9003) ∧ (Ext w0 F W F9005 W9006)) ∧ e = .returned (.slice A9001 l9002.length 2) ∧ Mem w0 (orow A9001 l9002.length 2 176 2 y9003 :: Fz F9005 W9006 :: cs) w' := by
 unfold tourlaw3_two at hp
 refine sx_calls Try.func61 rfl (n := 8) (by kernel_rfl) (l := []) rfl (by rfl) hM0 ?_
 refine st_seq ?_
 refine st_region [oF 0] (by rfl) ?_
 refine oR [oF 0] [] [] (by kernel_rfl) ?_
 refine ops_nil ?_
 refine fin_then ?_
 refine st_seq ?_
 refine st_region [oF 0, oF 1, oF 2, oF 3, oF 4, oF 5, oF 6, oF 7] (by rfl) ?_
 refine oR [oF 0] [(1, .agg #[.string (⟨#[120]⟩), vI 3, vI (-2)])] [1] (by kernel_rfl) ?_
 have h1 : RepL R_api_Field F W ([(api_Field.mk (⟨#[120]⟩) 3 (-2))] : List api_Field) ([.string (⟨#[120]⟩), vI 3, vI (-2)]) := (RepL.cons (R := R_api_Field) (F := F) (w := W) (vs := [.string (⟨#[120]⟩), vI 3, vI (-2)]) (ys := []) (enc_api_Field) RepL.nil)
 refine ops_new (d := some 2) (o := .cells ([.string (⟨#[120]⟩), vI 3, vI (-2)]).toArray 173) (v := fun g2 => .slice (some ⟨g2, 0, none⟩) ([(api_Field.mk (⟨#[120]⟩) 3 (-2))] : List api_Field).length 1) (M' := fun g2 => Mem w0 (orow (some ⟨g2, 0, none⟩) ([(api_Field.mk (⟨#[120]⟩) 3 (-2))] : List api_Field).length 1 173 3 ([.string (⟨#[120]⟩), vI 3, vI (-2)]) :: Fz F W :: cs)) (fun g2 => ⟨by kernel_rfl⟩) (fun w_ hM hS => ⟨hM.onew [.string (⟨#[120]⟩), vI 3, vI (-2)] 173 1 3 rfl (by decide), trivial⟩) (fun g2 => ?_)
 refine oR [oF 2, oF 3] [(4, .agg #[.string (⟨#[120]⟩), vI 8, vI 0]), (3, .agg #[.string (⟨#[112, 108, 97, 99, 101]⟩), .slice (some ⟨g2, 0, none⟩) ([(api_Field.mk (⟨#[120]⟩) 3 (-2))] : List api_Field).length 1])] [4, 3] (by kernel_rfl) ?_
 have h3 : RepL R_api_Field F W ([(api_Field.mk (⟨#[120]⟩) 8 0)] : List api_Field) ([.string (⟨#[120]⟩), vI 8, vI 0]) := (RepL.cons (R := R_api_Field) (F := F) (w := W) (vs := [.string (⟨#[120]⟩), vI 8, vI 0]) (ys := []) (enc_api_Field) RepL.nil)
 refine ops_new (d := some 5) (o := .cells ([.string (⟨#[120]⟩), vI 8, vI 0]).toArray 173) (v := fun g4 => .slice (some ⟨g4, 0, none⟩) ([(api_Field.mk (⟨#[120]⟩) 8 0)] : List api_Field).length 1) (M' := fun g4 => Mem w0 (orow (some ⟨g4, 0, none⟩) ([(api_Field.mk (⟨#[120]⟩) 8 0)] : List api_Field).length 1 173 3 ([.string (⟨#[120]⟩), vI 8, vI 0]) :: orow (some ⟨g2, 0, none⟩) ([(api_Field.mk (⟨#[120]⟩) 3 (-2))] : List api_Field).length 1 173 3 ([.string (⟨#[120]⟩), vI 3, vI (-2)]) :: Fz F W :: cs)) (fun g4 => ⟨by kernel_rfl⟩) (fun w_ hM hS => ⟨hM.onew [.string (⟨#[120]⟩), vI 8, vI 0] 173 1 3 rfl (by decide), trivial⟩) (fun g4 => ?_)
 refine oR [oF 5] [(6, .agg #[.string (⟨#[108, 105, 102, 101]⟩), .slice (some ⟨g4, 0, none⟩) ([(api_Field.mk (⟨#[120]⟩) 8 0)] : List api_Field).length 1]), (3, .agg #[.string (⟨#[112, 108, 97, 99, 101]⟩), .slice (some ⟨g2, 0, none⟩) ([(api_Field.mk (⟨#[120]⟩) 3 (-2))] : List api_Field).length 1])] [6, 3] (by kernel_rfl) ?_
 refine ops_ex (σ := (Nat → Prop) × World) (I := fun x_ => Ext w0 F W x_.1 x_.2 ∧ RdS R_api_Field x_.1 x_.2 (some ⟨g2, 0, none⟩) 1 ([(api_Field.mk (⟨#[120]⟩) 3 (-2))] : List api_Field)) (M' := fun x_ => Mem w0 (orow (some ⟨g4, 0, none⟩) ([(api_Field.mk (⟨#[120]⟩) 8 0)] : List api_Field).length 1 173 3 ([.string (⟨#[120]⟩), vI 8, vI 0]) :: Fz x_.1 x_.2 :: cs)) (fun w_ hM => ?_) ?_
 · obtain ⟨F_, h1_, h2_, h3_⟩ := (hM.pick 3 [1, 2, 0] (by kernel_rfl) (by decide) rfl : Mem w0 (orow (some ⟨g2, 0, none⟩) ([(api_Field.mk (⟨#[120]⟩) 3 (-2))] : List api_Field).length 1 173 3 ([.string (⟨#[120]⟩), vI 3, vI (-2)]) :: Fz F W :: orow (some ⟨g4, 0, none⟩) ([(api_Field.mk (⟨#[120]⟩) 8 0)] : List api_Field).length 1 173 3 ([.string (⟨#[120]⟩), vI 8, vI 0]) :: cs) w_).freeze (z := 3) h1 rfl rfl
   exact ⟨(F_, w_), ⟨h1_, h2_⟩, h3_.pick 2 [1, 0] (by kernel_rfl) (by decide) rfl⟩
 rintro ⟨F5, W6⟩ ⟨hx7, h8⟩
 have hx7 : Ext w0 F W F5 W6 := hx7
 have h8 : RdS R_api_Field F5 W6 (some ⟨g2, 0, none⟩) 1 ([(api_Field.mk (⟨#[120]⟩) 3 (-2))] : List api_Field) := h8
 have h3 := h3.ext hx7
 refine ops_conv (l' := [(6, .agg #[.string (⟨#[108, 105, 102, 101]⟩), .slice (some ⟨g4, 0, none⟩) ([(api_Field.mk (⟨#[120]⟩) 8 0)] : List api_Field).length 1]), (3, .agg #[.string (⟨#[112, 108, 97, 99, 101]⟩), .slice (some ⟨g2, 0, none⟩) ([(api_Field.mk (⟨#[120]⟩) 3 (-2))] : List api_Field).length 1])]) (M' := Mem w0 (orow (some ⟨g4, 0, none⟩) ([(api_Field.mk (⟨#[120]⟩) 8 0)] : List api_Field).length 1 173 3 ([.string (⟨#[120]⟩), vI 8, vI 0]) :: Fz F5 W6 :: cs)) rfl (fun _ h => h) ?_
 refine ops_ex (σ := (Nat → Prop) × World) (I := fun x_ => Ext w0 F5 W6 x_.1 x_.2 ∧ RdS R_api_Field x_.1 x_.2 (some ⟨g4, 0, none⟩) 1 ([(api_Field.mk (⟨#[120]⟩) 8 0)] : List api_Field)) (M' := fun x_ => Mem w0 (Fz x_.1 x_.2 :: cs)) (fun w_ hM => ?_) ?_
 · obtain ⟨F_, h1_, h2_, h3_⟩ := (hM.pick 2 [0, 1] (by kernel_rfl) (by decide) rfl : Mem w0 (orow (some ⟨g4, 0, none⟩) ([(api_Field.mk (⟨#[120]⟩) 8 0)] : List api_Field).length 1 173 3 ([.string (⟨#[120]⟩), vI 8, vI 0]) :: Fz F5 W6 :: cs) w_).freeze (z := 3) h3 rfl rfl
   exact ⟨(F_, w_), ⟨h1_, h2_⟩, h3_.pick 1 [0] (by kernel_rfl) (by decide) rfl⟩
 rintro ⟨F9, W10⟩ ⟨hx11, h12⟩
 have hx11 : Ext w0 F5 W6 F9 W10 := hx11
 have h12 : RdS R_api_Field F9 W10 (some ⟨g4, 0, none⟩) 1 ([(api_Field.mk (⟨#[120]⟩) 8 0)] : List api_Field) := h12
 have h8 := h8.ext hx11
 refine ops_conv (l' := [(6, .agg #[.string (⟨#[108, 105, 102, 101]⟩), .slice (some ⟨g4, 0, none⟩) ([(api_Field.mk (⟨#[120]⟩) 8 0)] : List api_Field).length 1]), (3, .agg #[.string (⟨#[112, 108, 97, 99, 101]⟩), .slice (some ⟨g2, 0, none⟩) ([(api_Field.mk (⟨#[120]⟩) 3 (-2))] : List api_Field).length 1])]) (M' := Mem w0 (Fz F9 W10 :: cs)) rfl (fun _ h => h) ?_
 have h13 : RepL R_api_Kind F9 W10 ([(api_Kind.mk (⟨#[112, 108, 97, 99, 101]⟩) ([(api_Field.mk (⟨#[120]⟩) 3 (-2))] : List api_Field)), (api_Kind.mk (⟨#[108, 105, 102, 101]⟩) ([(api_Field.mk (⟨#[120]⟩) 8 0)] : List api_Field))] : List api_Kind) ([.string (⟨#[112, 108, 97, 99, 101]⟩), .slice (some ⟨g2, 0, none⟩) ([(api_Field.mk (⟨#[120]⟩) 3 (-2))] : List api_Field).length 1, .string (⟨#[108, 105, 102, 101]⟩), .slice (some ⟨g4, 0, none⟩) ([(api_Field.mk (⟨#[120]⟩) 8 0)] : List api_Field).length 1]) := (RepL.cons (R := R_api_Kind) (F := F9) (w := W10) (vs := [.string (⟨#[112, 108, 97, 99, 101]⟩), .slice (some ⟨g2, 0, none⟩) ([(api_Field.mk (⟨#[120]⟩) 3 (-2))] : List api_Field).length 1]) (ys := [.string (⟨#[108, 105, 102, 101]⟩), .slice (some ⟨g4, 0, none⟩) ([(api_Field.mk (⟨#[120]⟩) 8 0)] : List api_Field).length 1]) (enc_api_Kind h8) (RepL.cons (R := R_api_Kind) (F := F9) (w := W10) (vs := [.string (⟨#[108, 105, 102, 101]⟩), .slice (some ⟨g4, 0, none⟩) ([(api_Field.mk (⟨#[120]⟩) 8 0)] : List api_Field).length 1]) (ys := []) (enc_api_Kind h12) RepL.nil))
 refine ops_new (d := some 7) (o := .cells ([.string (⟨#[112, 108, 97, 99, 101]⟩), .slice (some ⟨g2, 0, none⟩) ([(api_Field.mk (⟨#[120]⟩) 3 (-2))] : List api_Field).length 1, .string (⟨#[108, 105, 102, 101]⟩), .slice (some ⟨g4, 0, none⟩) ([(api_Field.mk (⟨#[120]⟩) 8 0)] : List api_Field).length 1]).toArray 176) (v := fun g14 => .slice (some ⟨g14, 0, none⟩) ([(api_Kind.mk (⟨#[112, 108, 97, 99, 101]⟩) ([(api_Field.mk (⟨#[120]⟩) 3 (-2))] : List api_Field)), (api_Kind.mk (⟨#[108, 105, 102, 101]⟩) ([(api_Field.mk (⟨#[120]⟩) 8 0)] : List api_Field))] : List api_Kind).length 2) (M' := fun g14 => Mem w0 (orow (some ⟨g14, 0, none⟩) ([(api_Kind.mk (⟨#[112, 108, 97, 99, 101]⟩) ([(api_Field.mk (⟨#[120]⟩) 3 (-2))] : List api_Field)), (api_Kind.mk (⟨#[108, 105, 102, 101]⟩) ([(api_Field.mk (⟨#[120]⟩) 8 0)] : List api_Field))] : List api_Kind).length 2 176 2 ([.string (⟨#[112, 108, 97, 99, 101]⟩), .slice (some ⟨g2, 0, none⟩) ([(api_Field.mk (⟨#[120]⟩) 3 (-2))] : List api_Field).length 1, .string (⟨#[108, 105, 102, 101]⟩), .slice (some ⟨g4, 0, none⟩) ([(api_Field.mk (⟨#[120]⟩) 8 0)] : List api_Field).length 1]) :: Fz F9 W10 :: cs)) (fun g14 => ⟨by kernel_rfl⟩) (fun w_ hM hS => ⟨hM.onew [.string (⟨#[112, 108, 97, 99, 101]⟩), .slice (some ⟨g2, 0, none⟩) ([(api_Field.mk (⟨#[120]⟩) 3 (-2))] : List api_Field).length 1, .string (⟨#[108, 105, 102, 101]⟩), .slice (some ⟨g4, 0, none⟩) ([(api_Field.mk (⟨#[120]⟩) 8 0)] : List api_Field).length 1] 176 2 2 rfl (by decide), trivial⟩) (fun g14 => ?_)
 refine oR [oF 7] [(0, .slice (some ⟨g14, 0, none⟩) ([(api_Kind.mk (⟨#[112, 108, 97, 99, 101]⟩) ([(api_Field.mk (⟨#[120]⟩) 3 (-2))] : List api_Field)), (api_Kind.mk (⟨#[108, 105, 102, 101]⟩) ([(api_Field.mk (⟨#[120]⟩) 8 0)] : List api_Field))] : List api_Kind).length 2)] [0] (by kernel_rfl) ?_
 refine ops_nil ?_
 refine fin_then ?_
 refine st_ret ?_
 have hq_ := Option.some.inj hp
 have hr0_ := hq_
 subst hr0_
 refine fin_ret [.tmp 0] [.slice (some ⟨g14, 0, none⟩) ([(api_Kind.mk (⟨#[112, 108, 97, 99, 101]⟩) ([(api_Field.mk (⟨#[120]⟩) 3 (-2))] : List api_Field)), (api_Kind.mk (⟨#[108, 105, 102, 101]⟩) ([(api_Field.mk (⟨#[120]⟩) 8 0)] : List api_Field))] : List api_Kind).length 2] rfl rfl (fun w_ hM => (.tmp rfl .nil)) (fun w_ hM => ?_)
 exact ⟨(some ⟨g14, 0, none⟩), ([.string (⟨#[112, 108, 97, 99, 101]⟩), .slice (some ⟨g2, 0, none⟩) ([(api_Field.mk (⟨#[120]⟩) 3 (-2))] : List api_Field).length 1, .string (⟨#[108, 105, 102, 101]⟩), .slice (some ⟨g4, 0, none⟩) ([(api_Field.mk (⟨#[120]⟩) 8 0)] : List api_Field).length 1]), F9, W10, ⟨h13, (hx7.trans hx11)⟩, rfl, hM⟩
end Go.Proofs.Ythcbepikeinglaa.M
