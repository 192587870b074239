/- The Go functions come to what the plain functions tell. No condition. -/
import Derived.Test.YthcbepikeinglaaDoorProg
import Derived.Test.YthcbepikeinglaaDoorFnN
import Derived.Test.YthcbepikeinglaaDoorWkN4
import Derived.Test.YthcbepikeinglaaDoorExMap
namespace Go.Proofs.YthcbepikeinglaaDoor.N
open Go Go.RowKit Go.Proofs.YthcbepikeinglaaDoor.Sx
set_option linter.unusedVariables false
set_option maxHeartbeats 4000000
set_option maxRecDepth 100000
theorem tourref3_Listed_ok (w0 w : World) (cs : List Chunk) (F : Nat → Prop) (W : World) (B_m : Option Nat) (m : Option (List (Int × (List Int)))) (hM0 : Mem w0 (Fz F W :: cs) w) (h_m : RdM (fun x_ : Int => Value.int .i64 x_) (Rep.sl (Rep.int .i64)) false F W B_m m) (l9003 : List api_Comp) (hp : tourref3_Listed m = some l9003) : Calls Tryd.prog 103 #[.map B_m] w fun e w' => ∃ (A9001 : Option Addr), ∃ (c9002 : Nat), ∃ (y9004 : List Value), ∃ (F9006 : Nat → Prop), ∃ (W9007 : World), ((RepL R_api_Comp F9006 W9007 l9003 y9004) ∧ (Ext w0 F W F9006 W9007)) ∧ e = .returned (sl A9001 l9003 c9002) ∧ Mem w0 (ow A9001 l9003 c9002 118 2 y9004 :: Fz F9006 W9007 :: cs) w' := by
 unfold tourref3_Listed at hp
 refine sx_calls Tryd.func103 rfl (n := 26) (by kernel_rfl) (l := [(0, .map B_m)]) rfl (by rfl) hM0 ?_
 refine st_seq (st_region [oF 0] (by rfl) ?_)
 refine oQ [oF 0] [(0, .map B_m)] (by kernel_rfl) ?_
 refine ops_nil (fin_then (st_seq (st_region [oF 0] (by rfl) ?_)))
 refine oQ [oF 0] [(3, .slice none 0 0), (0, .map B_m)] (by kernel_rfl) ?_
 refine ops_nil (fin_then ?_)
 refine st_join1 (σ := (Option Addr) × Nat × (List api_Comp) × (List Value) × (Nat → Prop) × World) (L := fun x_ => match x_ with | (A1, c2, l3, y4, F6, W7) => [(3, sl A1 l3 c2)]) (N := fun x_ => match x_ with | (A1, c2, l3, y4, F6, W7) => Mem w0 (ow A1 l3 c2 118 2 y4 :: Fz F6 W7 :: cs)) (I := fun x_ => match x_ with | (A1, c2, l3, y4, F6, W7) => (tourref3_Listed_j1 l3 = some l9003) ∧ (RepL R_api_Comp F6 W7 l3 y4) ∧ (Ext w0 F W F6 W7)) ?_ ?_
 ·
  rintro ⟨A1, c2, l3, y4, F6, W7⟩ ⟨hp, h5, hx1⟩
  unfold tourref3_Listed_j1 at hp
  refine st_seq (st_region [oF 0, oF 1] (by rfl) ?_)
  refine oQ [oF 0, oF 1] [(2, sl A1 l3 c2)] (by kernel_rfl) ?_
  refine ops_nil (fin_then (st_ret ?_))
  have hq_ := Option.some.inj hp
  have hr0_ := hq_
  subst hr0_
  refine fin_ret [.tmp 2] [sl A1 l3 c2] rfl rfl (fun w_ hM => (.tmp rfl .nil)) (fun w_ hM => ?_)
  exact ⟨A1, c2, y4, F6, W7, ⟨h5, hx1⟩, rfl, hM⟩
 ·
  intro HJ1
  refine st_seq (st_seq (st_region [oF 0] (by rfl) ?_))
  refine oQ [oF 0] [(7, vI 0), (3, .slice none 0 0), (0, .map B_m)] (by kernel_rfl) ?_
  refine ops_nil (fin_then (st_block ?_))
  refine st_conv (l' := [(7, vI 0), (3, .slice none 0 0), (0, .map B_m)]) (M' := Mem w0 (ow none ([] : List api_Comp) 0 118 2 [] :: Fz F W :: cs)) rfl (fun w_ h => h.onil none 118 2) ?_
  obtain ⟨r2, hl2, hk2⟩ := obind hp
  refine st_loopP (σ := (List api_Comp) × Int) (ρ := (List api_Comp)) (γ := (Option Addr) × Nat × (List Value) × (Nat → Prop) × World) hl2 (none, 0, [], F, W) (fun s_ g_ => match s_, g_ with | (l10, i13), (A8, c9, y11, F14, W15) => [(0, .map B_m), (3, sl A8 l10 c9), (7, vI i13)]) (fun s_ g_ => match s_, g_ with | (l10, i13), (A8, c9, y11, F14, W15) => Mem w0 (ow A8 l10 c9 118 2 y11 :: Fz F14 W15 :: cs)) (fun s_ g_ => match s_, g_ with | (l10, i13), (A8, c9, y11, F14, W15) => (RepL R_api_Comp F14 W15 l10 y11) ∧ (Ext w0 F W F14 W15)) ⟨(RepL.nil (R := R_api_Comp)), (Ext.refl _ _ _)⟩ (look_has ⟨rfl, rfl, rfl, trivial⟩) (fun w_ hM => hM) ?_
  rintro ⟨l10, i13⟩ ⟨A8, c9, y11, F14, W15⟩ o2 ⟨h12, hx2⟩ hs_ hd2
  have hp : (tourref3_Listed_l2 m) l10 i13 = some o2 := hs_
  clear hs_
  unfold tourref3_Listed_l2 at hp
  have h_m := h_m.ext hx2
  refine st_seq (st_region [oF 0] (by rfl) ?_)
  refine oQ [oF 0] [(8, .bool (decide (i13 < 16))), (0, .map B_m), (3, sl A8 l10 c9), (7, vI i13)] (by kernel_rfl) ?_
  refine ops_nil (fin_then (st_seq ?_))
  refine st_if (b := decide (i13 < 16)) rfl (fun hc16 => ?_) (fun hc16 => ?_)
  ·
   have hp := cnd_t hc16 hp
   refine st_skip (fin_then ?_)
   refine st_join1 (σ := (Option Addr) × Nat × (List api_Comp) × (List Value) × (Nat → Prop) × World) (L := fun x_ => match x_ with | (A17, c18, l19, y20, F22, W23) => [(0, .map B_m), (3, sl A17 l19 c18), (7, vI i13)]) (N := fun x_ => match x_ with | (A17, c18, l19, y20, F22, W23) => Mem w0 (ow A17 l19 c18 118 2 y20 :: Fz F22 W23 :: cs)) (I := fun x_ => match x_ with | (A17, c18, l19, y20, F22, W23) => ((tourref3_Listed_j3 i13) l19 = some o2) ∧ (RepL R_api_Comp F22 W23 l19 y20) ∧ (Ext w0 F14 W15 F22 W23)) ?_ ?_
   ·
    rintro ⟨A17, c18, l19, y20, F22, W23⟩ ⟨hp, h21, hx3⟩
    have h_m := h_m.ext hx3
    unfold tourref3_Listed_j3 at hp
    refine st_region [oF 0, oF 1] (by rfl) ?_
    refine oQ [oF 0, oF 1] [(7, vI (IntKind.i64.wrap (i13 + 1))), (0, .map B_m), (3, sl A17 l19 c18)] (by kernel_rfl) ?_
    refine ops_nil ?_
    exact fin_again (l19, IntKind.i64.wrap (i13 + 1)) (A17, c18, y20, F22, W23) (Option.some.inj hp).symm ⟨h21, (hx2.trans hx3)⟩ (look_has ⟨rfl, rfl, rfl, trivial⟩) (fun w_ hM => hM)
   ·
    intro HJ3
    refine st_seq (st_block (st_seq (st_region [oF 0, oF 1] (by rfl) ?_)))
    refine oQ [oF 0, oF 1] [(4, vI i13), (0, .map B_m), (3, sl A8 l10 c9), (7, vI i13)] (by kernel_rfl) ?_
    refine ops_nil (fin_then (st_seq (st_region [oF 0, oF 1, oF 2, oF 3, oF 4, oF 5, oF 6, oF 7] (by rfl) ?_)))
    refine oQ [oF 0, oF 1] [(12, vI i13), (11, .map B_m), (4, vI i13), (0, .map B_m), (3, sl A8 l10 c9), (7, vI i13)] (by kernel_rfl) ?_
    obtain ⟨x24, hv25, hp⟩ := obind hp
    obtain ⟨vs26, hr27, hrun28⟩ := h_m.get (KeyLaw.int Tryd.underlying3) Tryd.underlying125 i13 ([] : List Int) ((slrd (RdS.empty _))) (fun u_ => Tryd.zeroValue33 u_)
    have hr27 : (Rep.sl (Rep.int .i64)).rd F14 W15 x24 vs26 := by rw [← Option.some.inj hv25]; exact hr27
    obtain ⟨A29, c30, rfl, h31⟩ := hr27
    refine ops_law (op := (.lookup 125 (.tmp 11) (.tmp 12) true)) (d := some 13) (σ := Unit) (v := fun _ => .tuple #[sl A29 x24 c30, .bool ((mget (m.getD []) i13).isSome)]) (M' := fun _ => Mem w0 (ow A8 l10 c9 118 2 y11 :: Fz F14 W15 :: cs)) ⟨by kernel_rfl⟩ (fun o_ w_ ho_ hM hS => ⟨(), w_, run_lookupV rfl rfl (hrun28 true w_ (hM.fz 1 rfl)) o_ ho_, hM, trivial⟩) (fun _ => ?_)
    refine oQ [oF 3, oF 4, oF 5, oF 6, oF 7] [(6, .bool ((mget (m.getD []) i13).isSome)), (5, sl A29 x24 c30), (4, vI i13), (0, .map B_m), (3, sl A8 l10 c9), (7, vI i13)] (by kernel_rfl) ?_
    refine ops_nil (fin_then (st_seq (st_region [oF 0] (by rfl) ?_)))
    refine oQ [oF 0] [(16, .bool ((mget (m.getD []) i13).isSome)), (5, sl A29 x24 c30), (4, vI i13), (0, .map B_m), (3, sl A8 l10 c9), (7, vI i13)] (by kernel_rfl) ?_
    refine ops_nil (fin_then ?_)
    refine st_if (b := (mget (m.getD []) i13).isSome) rfl (fun hc32 => ?_) (fun hc32 => ?_)
    ·
     have hp := cnd_t hc32 hp
     refine st_region [oF 0, oF 1, oF 2, oF 3, oF 4, oF 5, oF 6, oF 7] (by rfl) ?_
     refine oQ [oF 0, oF 1, oF 2] [(19, sl A29 x24 c30), (18, vI i13), (17, sl A8 l10 c9), (0, .map B_m), (3, sl A8 l10 c9), (7, vI i13)] (by kernel_rfl) ?_
     obtain ⟨x33, hv34, hp⟩ := obind hp
     refine ops_callI (σ := (Option Addr) × Nat × (List Value)) (d := some 20) (f := 74) (args := #[sl A29 x24 c30]) (v := (fun x_ => match x_ with | (A35, c36, y37) => sl A35 x33 c36)) (I := (fun x_ => match x_ with | (A35, c36, y37) => (RepL (Rep.int .i64) F14 W15 x33 y37))) (M' := (fun x_ => match x_ with | (A35, c36, y37) => Mem w0 (ow A35 x33 c36 3 1 y37 :: ow A8 l10 c9 118 2 y11 :: Fz F14 W15 :: cs))) ⟨by kernel_rfl⟩ (fun w_ hM hS => (slices_Clone_int_int_ok w0 w_ (ow A8 l10 c9 118 2 y11 :: cs) F14 W15 A29 c30 x24 (hM.pick 2 [1, 0] (by kernel_rfl) (by decide) rfl) h31 x33 hv34).mono (by rintro e w' ⟨A35, c36, y37, h38, rfl, h'⟩; have h' : Mem w0 (ow A35 x33 c36 3 1 y37 :: ow A8 l10 c9 118 2 y11 :: Fz F14 W15 :: cs) w' := (h'.pick 3 [0, 2, 1] (by kernel_rfl) (by decide) rfl); exact ⟨(A35, c36, y37), h38, rfl, h', trivial⟩)) ?_
     rintro ⟨A35, c36, y37⟩ h38
     refine oQ [oF 4] [(21, .agg #[vI i13, sl A35 x33 c36]), (17, sl A8 l10 c9), (0, .map B_m), (3, sl A8 l10 c9), (7, vI i13)] (by kernel_rfl) ?_
     refine ops_ex (σ := (Nat → Prop) × World) (I := fun x_ => Ext w0 F14 W15 x_.1 x_.2 ∧ RdS (Rep.int .i64) x_.1 x_.2 A35 c36 x33) (M' := fun x_ => Mem w0 (ow A8 l10 c9 118 2 y11 :: Fz x_.1 x_.2 :: cs)) (fun w_ hM => ?_) ?_
     · obtain ⟨F_, h1_, h2_, h3_⟩ := (hM.pick 3 [0, 2, 1] (by kernel_rfl) (by decide) rfl : Mem w0 (ow A35 x33 c36 3 1 y37 :: Fz F14 W15 :: ow A8 l10 c9 118 2 y11 :: cs) w_).freeze (z := 1) h38 rfl rfl
       exact ⟨(F_, w_), ⟨h1_, h2_⟩, h3_.pick 2 [1, 0] (by kernel_rfl) (by decide) rfl⟩
     rintro ⟨F39, W40⟩ ⟨hx41, h42⟩
     have hx41 : Ext w0 F14 W15 F39 W40 := hx41
     have h42 : RdS (Rep.int .i64) F39 W40 A35 c36 x33 := h42
     have h_m := h_m.ext hx41
     have h12 := h12.ext hx41
     have h43 : RepL R_api_Comp F39 W40 ([(api_Comp.mk i13 x33)] : List api_Comp) ([vI i13, sl A35 x33 c36]) := (RepL.cons (R := R_api_Comp) (F := F39) (w := W40) (vs := [vI i13, sl A35 x33 c36]) (ys := []) (enc_api_Comp h42) RepL.nil)
     refine ops_new (d := some 22) (o := .cells ([vI i13, sl A35 x33 c36]).toArray 118) (v := fun g44 => .slice (sa g44) ([(api_Comp.mk i13 x33)] : List api_Comp).length 1) (M' := fun g44 => Mem w0 (orow (sa g44) ([(api_Comp.mk i13 x33)] : List api_Comp).length 1 118 2 ([vI i13, sl A35 x33 c36]) :: ow A8 l10 c9 118 2 y11 :: Fz F39 W40 :: cs)) (fun g44 => ⟨by kernel_rfl⟩) (fun w_ hM hS => ⟨hM.onew [vI i13, sl A35 x33 c36] 118 1 2 rfl (by decide), trivial⟩) (fun g44 => ?_)
     obtain ⟨l45, hv46, hp⟩ := obind hp
     obtain ⟨he47, hb48⟩ := app_some hv46
     obtain ⟨y49, hy50⟩ : ∃ y_, y11 ++ ([vI i13, sl A35 x33 c36]) = y_ := ⟨_, rfl⟩
     have h51 : RepL R_api_Comp F39 W40 l45 y49 := by rw [he47, ← hy50]; exact RepL.app h12 h43
     refine ops_appendO (x := (Go.Operand.tmp 17)) (y := (Go.Operand.tmp 22)) (t := 113) (e := 118) (d := some 23) (n' := l45.length) (z := 2) (m := ([(api_Comp.mk i13 x33)] : List api_Comp).length) (bytes := 32) (xs' := y49) (news := ([vI i13, sl A35 x33 c36])) (zv := .agg #[vI 0, .slice none 0 0]) 1 ⟨by kernel_rfl⟩ rfl rfl Tryd.underlying113 (by kernel_rfl) (by rfl) rfl (fun w_ hM => hM.srcO 0 rfl) h43.len h43.one hb48 (by have z_ := congrArg List.length he47; rw [List.length_append] at z_; exact z_.symm) hy50 (fun _ _ _ _ hS h' => trivial) ?_
     rintro ⟨A52, c53⟩
     refine oQ [oF 7] [(3, sl A52 l45 c53), (0, .map B_m), (7, vI i13)] (by kernel_rfl) ?_
     refine ops_nil (fin_block ?_)
     exact fin_join HJ3 (A52, c53, l45, y49, F39, W40) ⟨hp, h51, hx41⟩ (look_has ⟨rfl, rfl, rfl, trivial⟩) (fun w_ hM => hM.pick 3 [1, 2] (by kernel_rfl) (by decide) rfl)
    ·
     have hp := cnd_f hc32 hp
     refine st_skip (fin_block ?_)
     exact fin_join HJ3 (A8, c9, l10, y11, F14, W15) ⟨hp, h12, (Ext.refl _ _ _)⟩ (look_has ⟨rfl, rfl, rfl, trivial⟩) (fun w_ hM => hM)
  ·
   have hp := cnd_f hc16 hp
   refine st_exit (fin_exit_then (fin_exit_then (fin_exit ?_)))
   obtain hq_ := Option.some.inj hp
   subst hq_
   obtain hq_ := hd2 _ rfl
   subst hq_
   have hp : tourref3_Listed_j1 l10 = some l9003 := hk2
   exact fin_join HJ1 (A8, c9, l10, y11, F14, W15) ⟨hp, h12, hx2⟩ (look_has ⟨rfl, trivial⟩) (fun w_ hM => hM)
end Go.Proofs.YthcbepikeinglaaDoor.N
