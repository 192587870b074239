/- The Go functions come to what the plain functions tell. No condition. -/
import Derived.Test.YtfihfbkjomploaaProg
import Derived.Test.YtfihfbkjomploaaFnX
import Derived.Test.YtfihfbkjomploaaWkX7
import Derived.Test.YtfihfbkjomploaaWkX8
namespace Go.Proofs.Ytfihfbkjomploaa.X
open Go Go.RowKit Go.Proofs.Ytfihfbkjomploaa.Sx
set_option linter.unusedVariables false
set_option maxHeartbeats 4000000 in
set_option maxRecDepth 100000 in
theorem tourref1_Narrowed_v2_ok (w0 w : World) (cs : List Chunk) (F : Nat → Prop) (W : World) (A_a : Option Addr) (c_a : Nat) (a : List Int) (A_b : Option Addr) (c_b : Nat) (b : List Int) (hM0 : Mem w0 (Fz F W :: cs) w) (h_a : RdS (Rep.int .u64) F W A_a c_a a) (h_b : RdS (Rep.int .u64) F W A_b c_b b) (i9001 : Int) (i9002 : Int) (hp : tourref1_Narrowed_v2 a b = some (i9001, i9002)) : Calls Try.prog 44 #[.slice A_a a.length c_a, .slice A_b b.length c_b] w fun e w' => ∃ (F9003 : Nat → Prop), ∃ (W9004 : World), ((Ext w0 F W F9003 W9004)) ∧ e = .returned (.tuple #[vI i9001, vI i9002]) ∧ Mem w0 (Fz F9003 W9004 :: cs) w' := by
 unfold tourref1_Narrowed_v2 at hp
 refine sx_calls Try.func44 rfl (n := 80) (by kernel_rfl) (l := [(0, .slice A_a a.length c_a), (1, .slice A_b b.length c_b)]) rfl (by rfl) hM0 ?_
 refine st_seq ?_
 refine st_region [oF 0, oF 1] (by rfl) ?_
 refine oR [oF 0, oF 1] [(0, .slice A_a a.length c_a), (1, .slice A_b b.length c_b)] [0, 1] (by kernel_rfl) ?_
 refine ops_nil ?_
 refine fin_then ?_
 refine st_seq ?_
 refine st_region [oF 0, oF 1, oF 2, oF 3, oF 4, oF 5] (by rfl) ?_
 refine oR [oF 0] [(9, .slice A_a a.length c_a), (0, .slice A_a a.length c_a), (1, .slice A_b b.length c_b)] [9, 0, 1] (by kernel_rfl) ?_
 obtain ⟨x1, hv2, hp⟩ := obind hp
 refine ops_callI (σ := (Option Addr) × Nat × (List Value)) (d := some 10) (f := 108) (args := #[.slice A_a a.length c_a]) (v := (fun x_ => match x_ with | (A3, c4, y5) => .slice A3 x1.length c4)) (I := (fun x_ => match x_ with | (A3, c4, y5) => (RepL (Rep.int .u64) F W x1 y5))) (M' := (fun x_ => match x_ with | (A3, c4, y5) => Mem w0 (orow A3 x1.length c4 24 1 y5 :: Fz F W :: cs))) ⟨by kernel_rfl⟩ (fun w_ hM hS => (slices_Clone_uint64_uint64_ok w0 w_ (cs) F W A_a c_a a hM h_a x1 hv2).mono (by rintro e w' ⟨A3, c4, y5, h6, rfl, h'⟩; have h' : Mem w0 (orow A3 x1.length c4 24 1 y5 :: Fz F W :: cs) w' := h'; exact ⟨(A3, c4, y5), h6, rfl, h', trivial⟩)) ?_
 rintro ⟨A3, c4, y5⟩ h6
 refine ops_conv (l' := [(10, .slice A3 x1.length c4), (9, .slice A_a a.length c_a), (0, .slice A_a a.length c_a), (1, .slice A_b b.length c_b)]) (M' := Mem w0 (orow A3 x1.length c4 24 1 y5 :: Fz F W :: cs)) rfl (fun _ h => h) ?_
 refine oR [oF 2] [(11, .slice A_b b.length c_b), (10, .slice A3 x1.length c4), (0, .slice A_a a.length c_a), (1, .slice A_b b.length c_b)] [11, 10, 0, 1] (by kernel_rfl) ?_
 obtain ⟨x7, hv8, hp⟩ := obind hp
 refine ops_callI (σ := (Option Addr) × Nat × (List Value)) (d := some 12) (f := 108) (args := #[.slice A_b b.length c_b]) (v := (fun x_ => match x_ with | (A9, c10, y11) => .slice A9 x7.length c10)) (I := (fun x_ => match x_ with | (A9, c10, y11) => (RepL (Rep.int .u64) F W x7 y11))) (M' := (fun x_ => match x_ with | (A9, c10, y11) => Mem w0 (orow A9 x7.length c10 24 1 y11 :: orow A3 x1.length c4 24 1 y5 :: Fz F W :: cs))) ⟨by kernel_rfl⟩ (fun w_ hM hS => (slices_Clone_uint64_uint64_ok w0 w_ (orow A3 x1.length c4 24 1 y5 :: cs) F W A_b c_b b (hM.pick 2 [1, 0] (by kernel_rfl) (by decide) rfl) h_b x7 hv8).mono (by rintro e w' ⟨A9, c10, y11, h12, rfl, h'⟩; have h' : Mem w0 (orow A9 x7.length c10 24 1 y11 :: orow A3 x1.length c4 24 1 y5 :: Fz F W :: cs) w' := (h'.pick 3 [0, 2, 1] (by kernel_rfl) (by decide) rfl); exact ⟨(A9, c10, y11), h12, rfl, h', trivial⟩)) ?_
 rintro ⟨A9, c10, y11⟩ h12
 refine ops_conv (l' := [(12, .slice A9 x7.length c10), (11, .slice A_b b.length c_b), (10, .slice A3 x1.length c4), (0, .slice A_a a.length c_a), (1, .slice A_b b.length c_b)]) (M' := Mem w0 (orow A9 x7.length c10 24 1 y11 :: orow A3 x1.length c4 24 1 y5 :: Fz F W :: cs)) rfl (fun _ h => h) ?_
 refine oR [oF 4, oF 5] [(1, .slice A9 x7.length c10), (0, .slice A3 x1.length c4)] [1, 0] (by kernel_rfl) ?_
 refine ops_nil ?_
 refine fin_then ?_
 refine st_join1 (σ := (Option Addr) × Nat × (List Int) × (List Value) × (Option Addr) × (List Value)) (L := fun x_ => match x_ with | (A13, c14, l15, y16, A18, y19) => [(0, .slice A13 l15.length c14), (1, .slice A18 x7.length c10)]) (N := fun x_ => match x_ with | (A13, c14, l15, y16, A18, y19) => Mem w0 (orow A13 l15.length c14 24 1 y16 :: orow A18 x7.length c10 24 1 y19 :: Fz F W :: cs)) (I := fun x_ => match x_ with | (A13, c14, l15, y16, A18, y19) => ((tourref1_Narrowed_v2_j1 x7) l15 = some (i9001, i9002)) ∧ (RepL (Rep.int .u64) F W l15 y16) ∧ (RepL (Rep.int .u64) F W x7 y19)) ?_ ?_
 · --
  rintro ⟨A13, c14, l15, y16, A18, y19⟩ ⟨hp, h17, h20⟩
  refine st_conv (l' := [(0, .slice A13 l15.length c14), (1, .slice A18 x7.length c10)]) (M' := Mem w0 (orow A13 l15.length c14 24 1 y16 :: orow A18 x7.length c10 24 1 y19 :: Fz F W :: cs)) rfl (fun _ h => h) ?_
  unfold tourref1_Narrowed_v2_j1 at hp
  refine st_join1 (σ := (Option Addr) × (List Value) × (Option Addr) × Nat × (List Int) × (List Value)) (L := fun x_ => match x_ with | (A21, y22, A24, c25, l26, y27) => [(0, .slice A21 l15.length c14), (1, .slice A24 l26.length c25)]) (N := fun x_ => match x_ with | (A21, y22, A24, c25, l26, y27) => Mem w0 (orow A21 l15.length c14 24 1 y22 :: orow A24 l26.length c25 24 1 y27 :: Fz F W :: cs)) (I := fun x_ => match x_ with | (A21, y22, A24, c25, l26, y27) => ((tourref1_Narrowed_v2_j2 l15) l26 = some (i9001, i9002)) ∧ (RepL (Rep.int .u64) F W l15 y22) ∧ (RepL (Rep.int .u64) F W l26 y27)) ?_ ?_
  · --
   rintro ⟨A21, y22, A24, c25, l26, y27⟩ ⟨hp, h23, h28⟩
   refine st_conv (l' := [(0, .slice A21 l15.length c14), (1, .slice A24 l26.length c25)]) (M' := Mem w0 (orow A21 l15.length c14 24 1 y22 :: orow A24 l26.length c25 24 1 y27 :: Fz F W :: cs)) rfl (fun _ h => h) ?_
   unfold tourref1_Narrowed_v2_j2 at hp
   refine st_seq ?_
   refine st_seq ?_
   refine st_region [oF 0, oF 1, oF 2, oF 3, oF 4] (by rfl) ?_
   refine oR [oF 0] [(41, .slice A21 l15.length c14), (0, .slice A21 l15.length c14), (1, .slice A24 l26.length c25)] [41, 0, 1] (by kernel_rfl) ?_
   obtain ⟨x29, hv30, hp⟩ := obind hp
   refine ops_callI (σ := Unit) (d := some 42) (f := 49) (args := #[.slice A21 l15.length c14]) (v := (fun _ => vU x29)) (I := (fun _ => True)) (M' := (fun _ => Mem w0 (orow A21 l15.length c14 24 1 y22 :: orow A24 l26.length c25 24 1 y27 :: Fz F W :: cs))) ⟨by kernel_rfl⟩ (fun w_ hM hS => (tourref1_Top_ok w_ w_ [] (fun b => b < w_.heap.size) w_ A21 c14 l15 (Mem.fz0 w_) (hM.ordS 0 2 rfl rfl h23 rfl rfl) x29 hv30).mono (by rintro e w' ⟨-, rfl, h'⟩; have h' : Mem w_ [] w' := h'.pick 1 [] (by kernel_rfl) (by decide) rfl; exact ⟨(), trivial, rfl, hM.join h' rfl, trivial⟩)) ?_
   rintro _ -
   refine ops_conv (l' := [(42, vU x29), (41, .slice A21 l15.length c14), (0, .slice A21 l15.length c14), (1, .slice A24 l26.length c25)]) (M' := Mem w0 (orow A21 l15.length c14 24 1 y22 :: orow A24 l26.length c25 24 1 y27 :: Fz F W :: cs)) rfl (fun _ h => h) ?_
   refine oR [oF 2] [(43, .slice A24 l26.length c25), (42, vU x29), (0, .slice A21 l15.length c14), (1, .slice A24 l26.length c25)] [43, 42, 0, 1] (by kernel_rfl) ?_
   obtain ⟨x31, hv32, hp⟩ := obind hp
   refine ops_callI (σ := Unit) (d := some 44) (f := 49) (args := #[.slice A24 l26.length c25]) (v := (fun _ => vU x31)) (I := (fun _ => True)) (M' := (fun _ => Mem w0 (orow A21 l15.length c14 24 1 y22 :: orow A24 l26.length c25 24 1 y27 :: Fz F W :: cs))) ⟨by kernel_rfl⟩ (fun w_ hM hS => (tourref1_Top_ok w_ w_ [] (fun b => b < w_.heap.size) w_ A24 c25 l26 (Mem.fz0 w_) (hM.ordS 1 2 rfl rfl h28 rfl rfl) x31 hv32).mono (by rintro e w' ⟨-, rfl, h'⟩; have h' : Mem w_ [] w' := h'.pick 1 [] (by kernel_rfl) (by decide) rfl; exact ⟨(), trivial, rfl, hM.join h' rfl, trivial⟩)) ?_
   rintro _ -
   refine ops_conv (l' := [(44, vU x31), (43, .slice A24 l26.length c25), (42, vU x29), (0, .slice A21 l15.length c14), (1, .slice A24 l26.length c25)]) (M' := Mem w0 (orow A21 l15.length c14 24 1 y22 :: orow A24 l26.length c25 24 1 y27 :: Fz F W :: cs)) rfl (fun _ h => h) ?_
   refine oR [oF 4] [(45, .bool (x29 == x31)), (0, .slice A21 l15.length c14), (1, .slice A24 l26.length c25)] [45, 0, 1] (by kernel_rfl) ?_
   refine ops_nil ?_
   refine fin_then ?_
   refine st_if (b := (x29 == x31)) rfl (fun hc33 => ?_) (fun hc33 => ?_)
   · --
    have hp := cnd_t hc33 hp
    refine st_seq ?_
    refine st_region [oF 0, oF 1] (by rfl) ?_
    refine oR [oF 0, oF 1] [(5, vI 1), (4, vI (-1))] [5, 4] (by kernel_rfl) ?_
    refine ops_nil ?_
    refine fin_then ?_
    refine st_ret ?_
    refine fin_ret_then ?_
    have hq_ := Option.some.inj hp
    obtain ⟨hr0_, hq_⟩ := Prod.mk.inj hq_
    have hr1_ := hq_
    subst hr0_
    subst hr1_
    refine fin_ret [.tmp 4, .tmp 5] [vI (-1), vI 1] rfl rfl (fun w_ hM => (.tmp rfl (.tmp rfl .nil))) (fun w_ hM => ?_)
    exact ⟨F, W, (Ext.refl _ _ _), rfl, hM.pick 3 [2] (by kernel_rfl) (by decide) rfl⟩
   · --
    have hp := cnd_f hc33 hp
    refine st_skip ?_
    refine fin_then ?_
    refine st_seq ?_
    refine st_region [oF 0, oF 1] (by rfl) ?_
    refine oR [oF 0, oF 1] [(7, vI 1), (6, vI 0), (0, .slice A21 l15.length c14), (1, .slice A24 l26.length c25)] [7, 6, 0, 1] (by kernel_rfl) ?_
    refine ops_nil ?_
    refine fin_then ?_
    refine st_join1 (σ := Int × Int × (Nat → Prop) × World) (L := fun x_ => match x_ with | (i34, i35, F36, W37) => [(6, vI i34), (7, vI i35)]) (N := fun x_ => match x_ with | (i34, i35, F36, W37) => Mem w0 (Fz F36 W37 :: cs)) (I := fun x_ => match x_ with | (i34, i35, F36, W37) => (tourref1_Narrowed_v2_j3 i34 i35 = some (i9001, i9002)) ∧ (Ext w0 F W F36 W37)) ?_ ?_
    · --
     rintro ⟨i34, i35, F36, W37⟩ ⟨hp, hx3⟩
     refine st_conv (l' := [(6, vI i34), (7, vI i35)]) (M' := Mem w0 (Fz F36 W37 :: cs)) rfl (fun _ h => h) ?_
     unfold tourref1_Narrowed_v2_j3 at hp
     refine st_seq ?_
     refine st_region [oF 0, oF 1, oF 2, oF 3] (by rfl) ?_
     refine oR [oF 0, oF 1, oF 2, oF 3] [(5, vI i35), (4, vI i34)] [5, 4] (by kernel_rfl) ?_
     refine ops_nil ?_
     refine fin_then ?_
     refine st_ret ?_
     have hq_ := Option.some.inj hp
     obtain ⟨hr0_, hq_⟩ := Prod.mk.inj hq_
     have hr1_ := hq_
     subst hr0_
     subst hr1_
     refine fin_ret [.tmp 4, .tmp 5] [vI i34, vI i35] rfl rfl (fun w_ hM => (.tmp rfl (.tmp rfl .nil))) (fun w_ hM => ?_)
     exact ⟨F36, W37, hx3, rfl, hM⟩
    · --
     intro HJ3
     refine st_seq ?_
     refine st_block ?_
     refine st_ex (σ := (Nat → Prop) × World) (I := fun x_ => Ext w0 F W x_.1 x_.2 ∧ RdS (Rep.int .u64) x_.1 x_.2 A21 c14 l15) (M' := fun x_ => Mem w0 (orow A24 l26.length c25 24 1 y27 :: Fz x_.1 x_.2 :: cs)) (fun w_ hM => ?_) ?_
     · obtain ⟨F_, h1_, h2_, h3_⟩ := (hM.pick 3 [0, 2, 1] (by kernel_rfl) (by decide) rfl : Mem w0 (orow A21 l15.length c14 24 1 y22 :: Fz F W :: orow A24 l26.length c25 24 1 y27 :: cs) w_).freeze (z := 1) h23 rfl rfl
       exact ⟨(F_, w_), ⟨h1_, h2_⟩, h3_.pick 2 [1, 0] (by kernel_rfl) (by decide) rfl⟩
     rintro ⟨F50, W51⟩ ⟨hx52, h53⟩
     have hx52 : Ext w0 F W F50 W51 := hx52
     have h53 : RdS (Rep.int .u64) F50 W51 A21 c14 l15 := h53
     have h28 := h28.ext hx52
     refine st_conv (l' := [(7, vI 1), (6, vI 0), (0, .slice A21 l15.length c14), (1, .slice A24 l26.length c25)]) (M' := Mem w0 (orow A24 l26.length c25 24 1 y27 :: Fz F50 W51 :: cs)) rfl (fun _ h => h) ?_
     refine st_ex (σ := (Nat → Prop) × World) (I := fun x_ => Ext w0 F50 W51 x_.1 x_.2 ∧ RdS (Rep.int .u64) x_.1 x_.2 A24 c25 l26) (M' := fun x_ => Mem w0 (Fz x_.1 x_.2 :: cs)) (fun w_ hM => ?_) ?_
     · obtain ⟨F_, h1_, h2_, h3_⟩ := (hM.pick 2 [0, 1] (by kernel_rfl) (by decide) rfl : Mem w0 (orow A24 l26.length c25 24 1 y27 :: Fz F50 W51 :: cs) w_).freeze (z := 1) h28 rfl rfl
       exact ⟨(F_, w_), ⟨h1_, h2_⟩, h3_.pick 1 [0] (by kernel_rfl) (by decide) rfl⟩
     rintro ⟨F54, W55⟩ ⟨hx56, h57⟩
     have hx56 : Ext w0 F50 W51 F54 W55 := hx56
     have h57 : RdS (Rep.int .u64) F54 W55 A24 c25 l26 := h57
     have h53 := h53.ext hx56
     refine st_conv (l' := [(7, vI 1), (6, vI 0), (0, .slice A21 l15.length c14), (1, .slice A24 l26.length c25)]) (M' := Mem w0 (Fz F54 W55 :: cs)) rfl (fun _ h => h) ?_
     refine st_conv (l' := [(7, vI 1), (6, vI 0), (0, .slice A21 l15.length c14), (1, .slice A24 l26.length c25)]) (M' := Mem w0 (Fz F54 W55 :: cs)) rfl (fun _ h => h) ?_
     obtain ⟨r4, hl4, hk4⟩ := obind hp
     refine st_loopP (σ := (List Int) × (List Int) × Int × Int) (ρ := Int × Int) (γ := (Option Addr) × Nat × (Option Addr) × Nat × (Nat → Prop) × World) hl4 (A21, c14, A24, c25, F54, W55) (fun s_ g_ => match s_, g_ with | (l40, l44, i46, i47), (A38, c39, A42, c43, F48, W49) => [(0, .slice A38 l40.length c39), (1, .slice A42 l44.length c43), (6, vI i46), (7, vI i47)]) (fun s_ g_ => match s_, g_ with | (l40, l44, i46, i47), (A38, c39, A42, c43, F48, W49) => Mem w0 (Fz F48 W49 :: cs)) (fun s_ g_ => match s_, g_ with | (l40, l44, i46, i47), (A38, c39, A42, c43, F48, W49) => (RdS (Rep.int .u64) F48 W49 A38 c39 l40) ∧ (RdS (Rep.int .u64) F48 W49 A42 c43 l44) ∧ (Ext w0 F W F48 W49)) ⟨h53, h57, (hx52.trans hx56)⟩ (look_has ⟨rfl, rfl, rfl, rfl, trivial⟩) (fun w_ hM => hM) ?_
     rintro ⟨l40, l44, i46, i47⟩ ⟨A38, c39, A42, c43, F48, W49⟩ o4 ⟨h41, h45, hx4⟩ hs_ hd4
     have hp : tourref1_Narrowed_v2_l4 l40 l44 i46 i47 = some o4 := hs_
     clear hs_
     unfold tourref1_Narrowed_v2_l4 at hp
     refine st_conv (l' := [(0, .slice A38 l40.length c39), (1, .slice A42 l44.length c43), (6, vI i46), (7, vI i47)]) (M' := Mem w0 (Fz F48 W49 :: cs)) rfl (fun _ h => h) ?_
     refine st_seq ?_
     refine st_seq ?_
     refine st_region [oF 0, oF 1, oF 2] (by rfl) ?_
     refine oR [oF 0, oF 1, oF 2] [(48, .bool (decide (1 < (l40.length : Int)))), (0, .slice A38 l40.length c39), (1, .slice A42 l44.length c43), (6, vI i46), (7, vI i47)] [48, 0, 1, 6, 7] (by kernel_rfl) ?_
     refine ops_nil ?_
     refine fin_then ?_
     refine st_if (b := decide (1 < (l40.length : Int))) rfl (fun hc58 => ?_) (fun hc58 => ?_)
     · --
      have hp := cnd_t hc58 hp
      refine st_skip ?_
      refine fin_then ?_
      refine st_block ?_
      refine st_seq ?_
      refine st_region [oF 0, oF 1, oF 2, oF 3] (by rfl) ?_
      refine oR [oF 0, oF 1] [(50, vI (l40.length : Int)), (0, .slice A38 l40.length c39), (1, .slice A42 l44.length c43), (6, vI i46), (7, vI i47)] [50, 0, 1, 6, 7] (by kernel_rfl) ?_
      obtain ⟨x59, hv60, hp⟩ := obind hp
      refine ops_callI (σ := Unit) (d := some 51) (f := 109) (args := #[vI (l40.length : Int)]) (v := (fun _ => vI x59)) (I := (fun _ => True)) (M' := (fun _ => Mem w0 (Fz F48 W49 :: cs))) ⟨by kernel_rfl⟩ (fun w_ hM hS => (tourref1_half_ok w0 w_ (cs) F48 W49 (l40.length : Int) hM  x59 hv60).mono (by rintro e w' ⟨-, rfl, h'⟩; have h' : Mem w0 (Fz F48 W49 :: cs) w' := h'; exact ⟨(), trivial, rfl, h', trivial⟩)) ?_
      rintro _ -
      refine ops_conv (l' := [(51, vI x59), (50, vI (l40.length : Int)), (0, .slice A38 l40.length c39), (1, .slice A42 l44.length c43), (6, vI i46), (7, vI i47)]) (M' := Mem w0 (Fz F48 W49 :: cs)) rfl (fun _ h => h) ?_
      refine oR [oF 3] [(8, vI x59), (0, .slice A38 l40.length c39), (1, .slice A42 l44.length c43), (6, vI i46), (7, vI i47)] [8, 0, 1, 6, 7] (by kernel_rfl) ?_
      refine ops_nil ?_
      refine fin_then ?_
      refine st_seq ?_
      refine st_region [oF 0, oF 1, oF 2] (by rfl) ?_
      refine oR [oF 0, oF 1, oF 2] [(7, vI (IntKind.i64.wrap (i47 + 1))), (8, vI x59), (0, .slice A38 l40.length c39), (1, .slice A42 l44.length c43), (6, vI i46)] [7, 8, 0, 1, 6] (by kernel_rfl) ?_
      refine ops_nil ?_
      refine fin_then ?_
      refine st_join1 (σ := Bool) (L := fun x_ => match x_ with | t61 => [(0, .slice A38 l40.length c39), (1, .slice A42 l44.length c43), (6, vI i46), (7, vI (IntKind.i64.wrap (i47 + 1))), (8, vI x59), (62, .bool t61)]) (N := fun x_ => match x_ with | t61 => Mem w0 (Fz F48 W49 :: cs)) (I := fun x_ => match x_ with | t61 => ((tourref1_Narrowed_v2_j5 l40 x59 l44 i46 i47) t61 = some o4)) ?_ ?_
      · --
       rintro t61 hp
       refine st_conv (l' := [(0, .slice A38 l40.length c39), (1, .slice A42 l44.length c43), (6, vI i46), (7, vI (IntKind.i64.wrap (i47 + 1))), (8, vI x59), (62, .bool t61)]) (M' := Mem w0 (Fz F48 W49 :: cs)) rfl (fun _ h => h) ?_
       unfold tourref1_Narrowed_v2_j5 at hp
       refine st_if (b := t61) rfl (fun hc62 => ?_) (fun hc62 => ?_)
       · --
        have hp := cnd_t hc62 hp
        obtain ⟨l63, hv64, hp⟩ := obind hp
        obtain ⟨l74, hv75, hp⟩ := obind hp
        refine st_region_tree (.node [oT 0, oT 1, oT 3, oT 4] (.leaf [oF 2, oT 6, oF 5, oT 7]) (.leaf [oF 5, oF 2, oT 6, oT 7])) (Mem w0 (Fz F48 W49 :: cs)) (by kernel_rfl) (by kernel_rfl) (by kernel_rfl) (fun _ d _ _ _ h => by cases d <;> exact h) (M' := Mem w0 (Fz F48 W49 :: cs)) (fun w_ hM => ⟨hM.drew, hM.drew.sub (.cons_cons _ (.refl _))⟩) ?_
        refine tree_node ?_
        refine oR [oT 0, oT 1, oT 3, oT 4] [(67, vI x59), (66, .slice A42 l44.length c43), (64, vI x59), (63, .slice A38 l40.length c39), (0, .slice A38 l40.length c39), (1, .slice A42 l44.length c43), (6, vI i46), (7, vI (IntKind.i64.wrap (i47 + 1)))] [67, 66, 64, 63, 0, 1, 6, 7] (by kernel_rfl) ?_
        refine ops_nil ?_
        refine tree_both ?_ ?_
        · --
         refine tree_leaf ?_
         obtain ⟨m76, n77, hm78, hn79, h80, h81, he82⟩ := cut_some hv64
         have hl83 := cut_len he82 h80 h81
         have h84 : RdS (Rep.int .u64) F48 W49 A38 c39 l63 := by have h_ := h41.cut h80 h81; rw [← he82] at h_; rw [show m76 = 0 by omega, cutA_zero, Nat.sub_zero] at h_; exact h_
         refine ops_val (op := (Go.Op.slice 63 (Go.Operand.tmp 63) none (some (Go.Operand.tmp 64)) none)) (d := some 65) (v := .slice A38 l63.length c39) ⟨by kernel_rfl⟩ (run_cutH0 (by kernel_rfl) (z := 1) (by kernel_rfl) rfl rfl hn79 (Nat.le_trans h81 h41.cap) (by omega)) ?_
         refine oR [oT 6] [(0, .slice A38 l63.length c39), (67, vI x59), (66, .slice A42 l44.length c43), (1, .slice A42 l44.length c43), (6, vI i46), (7, vI (IntKind.i64.wrap (i47 + 1)))] [0, 67, 66, 1, 6, 7] (by kernel_rfl) ?_
         obtain ⟨m85, n86, hm87, hn88, h89, h90, he91⟩ := cut_some hv75
         have hl92 := cut_len he91 h89 h90
         have h93 : RdS (Rep.int .u64) F48 W49 A42 c43 l74 := by have h_ := h45.cut h89 h90; rw [← he91] at h_; rw [show m85 = 0 by omega, cutA_zero, Nat.sub_zero] at h_; exact h_
         refine ops_val (op := (Go.Op.slice 63 (Go.Operand.tmp 66) none (some (Go.Operand.tmp 67)) none)) (d := some 68) (v := .slice A42 l74.length c43) ⟨by kernel_rfl⟩ (run_cutH0 (by kernel_rfl) (z := 1) (by kernel_rfl) rfl rfl hn88 (Nat.le_trans h90 h45.cap) (by omega)) ?_
         refine oR [oT 7] [(1, .slice A42 l74.length c43), (0, .slice A38 l63.length c39), (6, vI i46), (7, vI (IntKind.i64.wrap (i47 + 1)))] [1, 0, 6, 7] (by kernel_rfl) ?_
         refine ops_nil ?_
         refine fin_block ?_
         exact fin_again (l63, l74, i46, IntKind.i64.wrap (i47 + 1)) (A38, c39, A42, c43, F48, W49) (Option.some.inj hp).symm ⟨h84, h93, hx4⟩ (look_has ⟨rfl, rfl, rfl, rfl, trivial⟩) (fun w_ hM => hM)
        · --
         refine tree_leaf ?_
         obtain ⟨m94, n95, hm96, hn97, h98, h99, he100⟩ := cut_some hv75
         have hl101 := cut_len he100 h98 h99
         have h102 : RdS (Rep.int .u64) F48 W49 A42 c43 l74 := by have h_ := h45.cut h98 h99; rw [← he100] at h_; rw [show m94 = 0 by omega, cutA_zero, Nat.sub_zero] at h_; exact h_
         refine ops_val (op := (Go.Op.slice 63 (Go.Operand.tmp 66) none (some (Go.Operand.tmp 67)) none)) (d := some 68) (v := .slice A42 l74.length c43) ⟨by kernel_rfl⟩ (run_cutH0 (by kernel_rfl) (z := 1) (by kernel_rfl) rfl rfl hn97 (Nat.le_trans h99 h45.cap) (by omega)) ?_
         refine oR [] [(68, .slice A42 l74.length c43), (64, vI x59), (63, .slice A38 l40.length c39), (0, .slice A38 l40.length c39), (1, .slice A42 l44.length c43), (6, vI i46), (7, vI (IntKind.i64.wrap (i47 + 1)))] [68, 64, 63, 0, 1, 6, 7] (by kernel_rfl) ?_
         obtain ⟨m103, n104, hm105, hn106, h107, h108, he109⟩ := cut_some hv64
         have hl110 := cut_len he109 h107 h108
         have h111 : RdS (Rep.int .u64) F48 W49 A38 c39 l63 := by have h_ := h41.cut h107 h108; rw [← he109] at h_; rw [show m103 = 0 by omega, cutA_zero, Nat.sub_zero] at h_; exact h_
         refine ops_val (op := (Go.Op.slice 63 (Go.Operand.tmp 63) none (some (Go.Operand.tmp 64)) none)) (d := some 65) (v := .slice A38 l63.length c39) ⟨by kernel_rfl⟩ (run_cutH0 (by kernel_rfl) (z := 1) (by kernel_rfl) rfl rfl hn106 (Nat.le_trans h108 h41.cap) (by omega)) ?_
         refine oR [oT 6, oT 7] [(1, .slice A42 l74.length c43), (0, .slice A38 l63.length c39), (6, vI i46), (7, vI (IntKind.i64.wrap (i47 + 1)))] [1, 0, 6, 7] (by kernel_rfl) ?_
         refine ops_nil ?_
         refine fin_block ?_
         exact fin_again (l63, l74, i46, IntKind.i64.wrap (i47 + 1)) (A38, c39, A42, c43, F48, W49) (Option.some.inj hp).symm ⟨h111, h102, hx4⟩ (look_has ⟨rfl, rfl, rfl, rfl, trivial⟩) (fun w_ hM => hM)
       · --
        have hp := cnd_f hc62 hp
        obtain ⟨l112, hv113, hp⟩ := obind hp
        obtain ⟨l123, hv124, hp⟩ := obind hp
        refine st_region_tree (.node [oT 0, oT 1, oT 2, oT 3, oT 4, oT 6, oT 7, oT 9] (.leaf [oF 5, oT 10, oF 8, oT 11]) (.leaf [oF 8, oF 5, oT 10, oT 11])) (Mem w0 (Fz F48 W49 :: cs)) (by kernel_rfl) (by kernel_rfl) (by kernel_rfl) (fun _ d _ _ _ h => by cases d <;> exact h) (M' := Mem w0 (Fz F48 W49 :: cs)) (fun w_ hM => ⟨hM.drew, hM.drew.sub (.cons_cons _ (.refl _))⟩) ?_
        refine tree_node ?_
        refine oR [oT 0, oT 1, oT 2, oT 3, oT 4, oT 6, oT 7, oT 9] [(6, vI (IntKind.i64.wrap (i46 + x59))), (76, vI x59), (75, .slice A42 l44.length c43), (73, vI x59), (72, .slice A38 l40.length c39), (0, .slice A38 l40.length c39), (1, .slice A42 l44.length c43), (7, vI (IntKind.i64.wrap (i47 + 1)))] [6, 76, 75, 73, 72, 0, 1, 7] (by kernel_rfl) ?_
        refine ops_nil ?_
        refine tree_both ?_ ?_
        · --
         refine tree_leaf ?_
         obtain ⟨m125, n126, hm127, hn128, h129, h130, he131⟩ := cut_some hv113
         have hl132 := cut_len he131 h129 h130
         have h133 : RdS (Rep.int .u64) F48 W49 (cutA A38 c39 m125 1) (c39 - m125) l112 := by have h_ := h41.cut h129 h130; rw [← he131] at h_; exact h_
         refine ops_val (op := (Go.Op.slice 63 (Go.Operand.tmp 72) (some (Go.Operand.tmp 73)) none none)) (d := some 74) (v := .slice (cutA A38 c39 m125 1) l112.length (c39 - m125)) ⟨by kernel_rfl⟩ (run_cutL (by kernel_rfl) (z := 1) (by kernel_rfl) rfl rfl hm127 (by omega) (by omega) rfl) ?_
         refine oR [oT 10] [(0, .slice (cutA A38 c39 m125 1) l112.length (c39 - m125)), (6, vI (IntKind.i64.wrap (i46 + x59))), (76, vI x59), (75, .slice A42 l44.length c43), (1, .slice A42 l44.length c43), (7, vI (IntKind.i64.wrap (i47 + 1)))] [0, 6, 76, 75, 1, 7] (by kernel_rfl) ?_
         obtain ⟨m134, n135, hm136, hn137, h138, h139, he140⟩ := cut_some hv124
         have hl141 := cut_len he140 h138 h139
         have h142 : RdS (Rep.int .u64) F48 W49 (cutA A42 c43 m134 1) (c43 - m134) l123 := by have h_ := h45.cut h138 h139; rw [← he140] at h_; exact h_
         refine ops_val (op := (Go.Op.slice 63 (Go.Operand.tmp 75) (some (Go.Operand.tmp 76)) none none)) (d := some 77) (v := .slice (cutA A42 c43 m134 1) l123.length (c43 - m134)) ⟨by kernel_rfl⟩ (run_cutL (by kernel_rfl) (z := 1) (by kernel_rfl) rfl rfl hm136 (by omega) (by omega) rfl) ?_
         refine oR [oT 11] [(1, .slice (cutA A42 c43 m134 1) l123.length (c43 - m134)), (0, .slice (cutA A38 c39 m125 1) l112.length (c39 - m125)), (6, vI (IntKind.i64.wrap (i46 + x59))), (7, vI (IntKind.i64.wrap (i47 + 1)))] [1, 0, 6, 7] (by kernel_rfl) ?_
         refine ops_nil ?_
         refine fin_block ?_
         exact fin_again (l112, l123, IntKind.i64.wrap (i46 + x59), IntKind.i64.wrap (i47 + 1)) ((cutA A38 c39 m125 1), (c39 - m125), (cutA A42 c43 m134 1), (c43 - m134), F48, W49) (Option.some.inj hp).symm ⟨h133, h142, hx4⟩ (look_has ⟨rfl, rfl, rfl, rfl, trivial⟩) (fun w_ hM => hM)
        · --
         refine tree_leaf ?_
         obtain ⟨m143, n144, hm145, hn146, h147, h148, he149⟩ := cut_some hv124
         have hl150 := cut_len he149 h147 h148
         have h151 : RdS (Rep.int .u64) F48 W49 (cutA A42 c43 m143 1) (c43 - m143) l123 := by have h_ := h45.cut h147 h148; rw [← he149] at h_; exact h_
         refine ops_val (op := (Go.Op.slice 63 (Go.Operand.tmp 75) (some (Go.Operand.tmp 76)) none none)) (d := some 77) (v := .slice (cutA A42 c43 m143 1) l123.length (c43 - m143)) ⟨by kernel_rfl⟩ (run_cutL (by kernel_rfl) (z := 1) (by kernel_rfl) rfl rfl hm145 (by omega) (by omega) rfl) ?_
         refine oR [] [(77, .slice (cutA A42 c43 m143 1) l123.length (c43 - m143)), (6, vI (IntKind.i64.wrap (i46 + x59))), (73, vI x59), (72, .slice A38 l40.length c39), (0, .slice A38 l40.length c39), (1, .slice A42 l44.length c43), (7, vI (IntKind.i64.wrap (i47 + 1)))] [77, 6, 73, 72, 0, 1, 7] (by kernel_rfl) ?_
         obtain ⟨m152, n153, hm154, hn155, h156, h157, he158⟩ := cut_some hv113
         have hl159 := cut_len he158 h156 h157
         have h160 : RdS (Rep.int .u64) F48 W49 (cutA A38 c39 m152 1) (c39 - m152) l112 := by have h_ := h41.cut h156 h157; rw [← he158] at h_; exact h_
         refine ops_val (op := (Go.Op.slice 63 (Go.Operand.tmp 72) (some (Go.Operand.tmp 73)) none none)) (d := some 74) (v := .slice (cutA A38 c39 m152 1) l112.length (c39 - m152)) ⟨by kernel_rfl⟩ (run_cutL (by kernel_rfl) (z := 1) (by kernel_rfl) rfl rfl hm154 (by omega) (by omega) rfl) ?_
         refine oR [oT 10, oT 11] [(1, .slice (cutA A42 c43 m143 1) l123.length (c43 - m143)), (0, .slice (cutA A38 c39 m152 1) l112.length (c39 - m152)), (6, vI (IntKind.i64.wrap (i46 + x59))), (7, vI (IntKind.i64.wrap (i47 + 1)))] [1, 0, 6, 7] (by kernel_rfl) ?_
         refine ops_nil ?_
         refine fin_block ?_
         exact fin_again (l112, l123, IntKind.i64.wrap (i46 + x59), IntKind.i64.wrap (i47 + 1)) ((cutA A38 c39 m152 1), (c39 - m152), (cutA A42 c43 m143 1), (c43 - m143), F48, W49) (Option.some.inj hp).symm ⟨h160, h151, hx4⟩ (look_has ⟨rfl, rfl, rfl, rfl, trivial⟩) (fun w_ hM => hM)
      · --
       intro HJ5
       refine st_seq ?_
       obtain ⟨l161, hv162, hp⟩ := obind hp
       obtain ⟨x172, hv173, hp⟩ := obind hp
       obtain ⟨l174, hv175, hp⟩ := obind hp
       obtain ⟨x185, hv186, hp⟩ := obind hp
       refine st_region_tree (.node [oT 0, oT 1, oT 4, oT 5] (.node [oF 2] (.leaf [oF 3, oF 6, oF 7, oT 8]) (.leaf [oF 6, oF 3, oF 7, oT 8])) (.leaf [oF 6, oF 2, oF 3, oF 7, oT 8])) (Mem w0 (Fz F48 W49 :: cs)) (by kernel_rfl) (by kernel_rfl) (by kernel_rfl) (fun _ d _ _ _ h => by cases d <;> exact h) (M' := Mem w0 (Fz F48 W49 :: cs)) (fun w_ hM => ⟨hM.drew, hM.drew.sub (.cons_cons _ (.refl _))⟩) ?_
       refine tree_node ?_
       refine oR [oT 0, oT 1, oT 4, oT 5] [(59, vI x59), (58, .slice A42 l44.length c43), (55, vI x59), (54, .slice A38 l40.length c39), (7, vI (IntKind.i64.wrap (i47 + 1))), (8, vI x59), (0, .slice A38 l40.length c39), (1, .slice A42 l44.length c43), (6, vI i46)] [59, 58, 55, 54, 7, 8, 0, 1, 6] (by kernel_rfl) ?_
       refine ops_nil ?_
       refine tree_both ?_ ?_
       · --
        refine tree_node ?_
        obtain ⟨m187, n188, hm189, hn190, h191, h192, he193⟩ := cut_some hv162
        have hl194 := cut_len he193 h191 h192
        have h195 : RdS (Rep.int .u64) F48 W49 A38 c39 l161 := by have h_ := h41.cut h191 h192; rw [← he193] at h_; rw [show m187 = 0 by omega, cutA_zero, Nat.sub_zero] at h_; exact h_
        refine ops_val (op := (Go.Op.slice 63 (Go.Operand.tmp 54) none (some (Go.Operand.tmp 55)) none)) (d := some 56) (v := .slice A38 l161.length c39) ⟨by kernel_rfl⟩ (run_cutH0 (by kernel_rfl) (z := 1) (by kernel_rfl) rfl rfl hn190 (Nat.le_trans h192 h41.cap) (by omega)) ?_
        refine oR [] [(56, .slice A38 l161.length c39), (59, vI x59), (58, .slice A42 l44.length c43), (7, vI (IntKind.i64.wrap (i47 + 1))), (8, vI x59), (0, .slice A38 l40.length c39), (1, .slice A42 l44.length c43), (6, vI i46)] [56, 59, 58, 7, 8, 0, 1, 6] (by kernel_rfl) ?_
        refine ops_nil ?_
        refine tree_both ?_ ?_
        · --
         refine tree_leaf ?_
         refine ops_callI (σ := Unit) (d := some 57) (f := 49) (args := #[.slice A38 l161.length c39]) (v := (fun _ => vU x172)) (I := (fun _ => True)) (M' := (fun _ => Mem w0 (Fz F48 W49 :: cs))) ⟨by kernel_rfl⟩ (fun w_ hM hS => (tourref1_Top_ok w0 w_ (cs) F48 W49 A38 c39 l161 hM h195 x172 hv173).mono (by rintro e w' ⟨-, rfl, h'⟩; have h' : Mem w0 (Fz F48 W49 :: cs) w' := h'; exact ⟨(), trivial, rfl, h', (by exact h'.sub (.cons_cons _ (.refl _)))⟩)) ?_
         rintro _ -
         refine ops_conv (l' := [(57, vU x172), (56, .slice A38 l161.length c39), (59, vI x59), (58, .slice A42 l44.length c43), (7, vI (IntKind.i64.wrap (i47 + 1))), (8, vI x59), (0, .slice A38 l40.length c39), (1, .slice A42 l44.length c43), (6, vI i46)]) (M' := Mem w0 (Fz F48 W49 :: cs)) rfl (fun _ h => h) ?_
         refine oR [] [(57, vU x172), (59, vI x59), (58, .slice A42 l44.length c43), (7, vI (IntKind.i64.wrap (i47 + 1))), (8, vI x59), (0, .slice A38 l40.length c39), (1, .slice A42 l44.length c43), (6, vI i46)] [57, 59, 58, 7, 8, 0, 1, 6] (by kernel_rfl) ?_
         obtain ⟨m196, n197, hm198, hn199, h200, h201, he202⟩ := cut_some hv175
         have hl203 := cut_len he202 h200 h201
         have h204 : RdS (Rep.int .u64) F48 W49 A42 c43 l174 := by have h_ := h45.cut h200 h201; rw [← he202] at h_; rw [show m196 = 0 by omega, cutA_zero, Nat.sub_zero] at h_; exact h_
         refine ops_val (op := (Go.Op.slice 63 (Go.Operand.tmp 58) none (some (Go.Operand.tmp 59)) none)) (d := some 60) (v := .slice A42 l174.length c43) ⟨by kernel_rfl⟩ (run_cutH0 (by kernel_rfl) (z := 1) (by kernel_rfl) rfl rfl hn199 (Nat.le_trans h201 h45.cap) (by omega)) ?_
         refine oR [] [(60, .slice A42 l174.length c43), (57, vU x172), (7, vI (IntKind.i64.wrap (i47 + 1))), (8, vI x59), (0, .slice A38 l40.length c39), (1, .slice A42 l44.length c43), (6, vI i46)] [60, 57, 7, 8, 0, 1, 6] (by kernel_rfl) ?_
         refine ops_callI (σ := Unit) (d := some 61) (f := 49) (args := #[.slice A42 l174.length c43]) (v := (fun _ => vU x185)) (I := (fun _ => True)) (M' := (fun _ => Mem w0 (Fz F48 W49 :: cs))) ⟨by kernel_rfl⟩ (fun w_ hM hS => (tourref1_Top_ok w0 w_ (cs) F48 W49 A42 c43 l174 hM h204 x185 hv186).mono (by rintro e w' ⟨-, rfl, h'⟩; have h' : Mem w0 (Fz F48 W49 :: cs) w' := h'; exact ⟨(), trivial, rfl, h', (by exact h'.sub (.cons_cons _ (.refl _)))⟩)) ?_
         rintro _ -
         refine ops_conv (l' := [(61, vU x185), (60, .slice A42 l174.length c43), (57, vU x172), (7, vI (IntKind.i64.wrap (i47 + 1))), (8, vI x59), (0, .slice A38 l40.length c39), (1, .slice A42 l44.length c43), (6, vI i46)]) (M' := Mem w0 (Fz F48 W49 :: cs)) rfl (fun _ h => h) ?_
         refine oR [oT 8] [(62, .bool (!(x172 == x185))), (7, vI (IntKind.i64.wrap (i47 + 1))), (8, vI x59), (0, .slice A38 l40.length c39), (1, .slice A42 l44.length c43), (6, vI i46)] [62, 7, 8, 0, 1, 6] (by kernel_rfl) ?_
         refine ops_nil ?_
         exact fin_join HJ5 (!(x172 == x185)) hp (look_has ⟨rfl, rfl, rfl, rfl, rfl, rfl, trivial⟩) (fun w_ hM => hM)
        · --
         refine tree_leaf ?_
         obtain ⟨m205, n206, hm207, hn208, h209, h210, he211⟩ := cut_some hv175
         have hl212 := cut_len he211 h209 h210
         have h213 : RdS (Rep.int .u64) F48 W49 A42 c43 l174 := by have h_ := h45.cut h209 h210; rw [← he211] at h_; rw [show m205 = 0 by omega, cutA_zero, Nat.sub_zero] at h_; exact h_
         refine ops_val (op := (Go.Op.slice 63 (Go.Operand.tmp 58) none (some (Go.Operand.tmp 59)) none)) (d := some 60) (v := .slice A42 l174.length c43) ⟨by kernel_rfl⟩ (run_cutH0 (by kernel_rfl) (z := 1) (by kernel_rfl) rfl rfl hn208 (Nat.le_trans h210 h45.cap) (by omega)) ?_
         refine oR [] [(60, .slice A42 l174.length c43), (56, .slice A38 l161.length c39), (7, vI (IntKind.i64.wrap (i47 + 1))), (8, vI x59), (0, .slice A38 l40.length c39), (1, .slice A42 l44.length c43), (6, vI i46)] [60, 56, 7, 8, 0, 1, 6] (by kernel_rfl) ?_
         refine ops_callI (σ := Unit) (d := some 57) (f := 49) (args := #[.slice A38 l161.length c39]) (v := (fun _ => vU x172)) (I := (fun _ => True)) (M' := (fun _ => Mem w0 (Fz F48 W49 :: cs))) ⟨by kernel_rfl⟩ (fun w_ hM hS => (tourref1_Top_ok w0 w_ (cs) F48 W49 A38 c39 l161 hM h195 x172 hv173).mono (by rintro e w' ⟨-, rfl, h'⟩; have h' : Mem w0 (Fz F48 W49 :: cs) w' := h'; exact ⟨(), trivial, rfl, h', (by exact h'.sub (.cons_cons _ (.refl _)))⟩)) ?_
         rintro _ -
         refine ops_conv (l' := [(57, vU x172), (60, .slice A42 l174.length c43), (56, .slice A38 l161.length c39), (7, vI (IntKind.i64.wrap (i47 + 1))), (8, vI x59), (0, .slice A38 l40.length c39), (1, .slice A42 l44.length c43), (6, vI i46)]) (M' := Mem w0 (Fz F48 W49 :: cs)) rfl (fun _ h => h) ?_
         refine oR [] [(57, vU x172), (60, .slice A42 l174.length c43), (7, vI (IntKind.i64.wrap (i47 + 1))), (8, vI x59), (0, .slice A38 l40.length c39), (1, .slice A42 l44.length c43), (6, vI i46)] [57, 60, 7, 8, 0, 1, 6] (by kernel_rfl) ?_
         refine ops_callI (σ := Unit) (d := some 61) (f := 49) (args := #[.slice A42 l174.length c43]) (v := (fun _ => vU x185)) (I := (fun _ => True)) (M' := (fun _ => Mem w0 (Fz F48 W49 :: cs))) ⟨by kernel_rfl⟩ (fun w_ hM hS => (tourref1_Top_ok w0 w_ (cs) F48 W49 A42 c43 l174 hM h213 x185 hv186).mono (by rintro e w' ⟨-, rfl, h'⟩; have h' : Mem w0 (Fz F48 W49 :: cs) w' := h'; exact ⟨(), trivial, rfl, h', (by exact h'.sub (.cons_cons _ (.refl _)))⟩)) ?_
         rintro _ -
         refine ops_conv (l' := [(61, vU x185), (57, vU x172), (60, .slice A42 l174.length c43), (7, vI (IntKind.i64.wrap (i47 + 1))), (8, vI x59), (0, .slice A38 l40.length c39), (1, .slice A42 l44.length c43), (6, vI i46)]) (M' := Mem w0 (Fz F48 W49 :: cs)) rfl (fun _ h => h) ?_
         refine oR [oT 8] [(62, .bool (!(x172 == x185))), (7, vI (IntKind.i64.wrap (i47 + 1))), (8, vI x59), (0, .slice A38 l40.length c39), (1, .slice A42 l44.length c43), (6, vI i46)] [62, 7, 8, 0, 1, 6] (by kernel_rfl) ?_
         refine ops_nil ?_
         exact fin_join HJ5 (!(x172 == x185)) hp (look_has ⟨rfl, rfl, rfl, rfl, rfl, rfl, trivial⟩) (fun w_ hM => hM)
       · --
        refine tree_leaf ?_
        obtain ⟨m214, n215, hm216, hn217, h218, h219, he220⟩ := cut_some hv175
        have hl221 := cut_len he220 h218 h219
        have h222 : RdS (Rep.int .u64) F48 W49 A42 c43 l174 := by have h_ := h45.cut h218 h219; rw [← he220] at h_; rw [show m214 = 0 by omega, cutA_zero, Nat.sub_zero] at h_; exact h_
        refine ops_val (op := (Go.Op.slice 63 (Go.Operand.tmp 58) none (some (Go.Operand.tmp 59)) none)) (d := some 60) (v := .slice A42 l174.length c43) ⟨by kernel_rfl⟩ (run_cutH0 (by kernel_rfl) (z := 1) (by kernel_rfl) rfl rfl hn217 (Nat.le_trans h219 h45.cap) (by omega)) ?_
        refine oR [] [(60, .slice A42 l174.length c43), (55, vI x59), (54, .slice A38 l40.length c39), (7, vI (IntKind.i64.wrap (i47 + 1))), (8, vI x59), (0, .slice A38 l40.length c39), (1, .slice A42 l44.length c43), (6, vI i46)] [60, 55, 54, 7, 8, 0, 1, 6] (by kernel_rfl) ?_
        obtain ⟨m223, n224, hm225, hn226, h227, h228, he229⟩ := cut_some hv162
        have hl230 := cut_len he229 h227 h228
        have h231 : RdS (Rep.int .u64) F48 W49 A38 c39 l161 := by have h_ := h41.cut h227 h228; rw [← he229] at h_; rw [show m223 = 0 by omega, cutA_zero, Nat.sub_zero] at h_; exact h_
        refine ops_val (op := (Go.Op.slice 63 (Go.Operand.tmp 54) none (some (Go.Operand.tmp 55)) none)) (d := some 56) (v := .slice A38 l161.length c39) ⟨by kernel_rfl⟩ (run_cutH0 (by kernel_rfl) (z := 1) (by kernel_rfl) rfl rfl hn226 (Nat.le_trans h228 h41.cap) (by omega)) ?_
        refine oR [] [(56, .slice A38 l161.length c39), (60, .slice A42 l174.length c43), (7, vI (IntKind.i64.wrap (i47 + 1))), (8, vI x59), (0, .slice A38 l40.length c39), (1, .slice A42 l44.length c43), (6, vI i46)] [56, 60, 7, 8, 0, 1, 6] (by kernel_rfl) ?_
        refine ops_callI (σ := Unit) (d := some 57) (f := 49) (args := #[.slice A38 l161.length c39]) (v := (fun _ => vU x172)) (I := (fun _ => True)) (M' := (fun _ => Mem w0 (Fz F48 W49 :: cs))) ⟨by kernel_rfl⟩ (fun w_ hM hS => (tourref1_Top_ok w0 w_ (cs) F48 W49 A38 c39 l161 hM h231 x172 hv173).mono (by rintro e w' ⟨-, rfl, h'⟩; have h' : Mem w0 (Fz F48 W49 :: cs) w' := h'; exact ⟨(), trivial, rfl, h', (by exact h'.sub (.cons_cons _ (.refl _)))⟩)) ?_
        rintro _ -
        refine ops_conv (l' := [(57, vU x172), (56, .slice A38 l161.length c39), (60, .slice A42 l174.length c43), (7, vI (IntKind.i64.wrap (i47 + 1))), (8, vI x59), (0, .slice A38 l40.length c39), (1, .slice A42 l44.length c43), (6, vI i46)]) (M' := Mem w0 (Fz F48 W49 :: cs)) rfl (fun _ h => h) ?_
        refine oR [] [(57, vU x172), (60, .slice A42 l174.length c43), (7, vI (IntKind.i64.wrap (i47 + 1))), (8, vI x59), (0, .slice A38 l40.length c39), (1, .slice A42 l44.length c43), (6, vI i46)] [57, 60, 7, 8, 0, 1, 6] (by kernel_rfl) ?_
        refine ops_callI (σ := Unit) (d := some 61) (f := 49) (args := #[.slice A42 l174.length c43]) (v := (fun _ => vU x185)) (I := (fun _ => True)) (M' := (fun _ => Mem w0 (Fz F48 W49 :: cs))) ⟨by kernel_rfl⟩ (fun w_ hM hS => (tourref1_Top_ok w0 w_ (cs) F48 W49 A42 c43 l174 hM h222 x185 hv186).mono (by rintro e w' ⟨-, rfl, h'⟩; have h' : Mem w0 (Fz F48 W49 :: cs) w' := h'; exact ⟨(), trivial, rfl, h', (by exact h'.sub (.cons_cons _ (.refl _)))⟩)) ?_
        rintro _ -
        refine ops_conv (l' := [(61, vU x185), (57, vU x172), (60, .slice A42 l174.length c43), (7, vI (IntKind.i64.wrap (i47 + 1))), (8, vI x59), (0, .slice A38 l40.length c39), (1, .slice A42 l44.length c43), (6, vI i46)]) (M' := Mem w0 (Fz F48 W49 :: cs)) rfl (fun _ h => h) ?_
        refine oR [oT 8] [(62, .bool (!(x172 == x185))), (7, vI (IntKind.i64.wrap (i47 + 1))), (8, vI x59), (0, .slice A38 l40.length c39), (1, .slice A42 l44.length c43), (6, vI i46)] [62, 7, 8, 0, 1, 6] (by kernel_rfl) ?_
        refine ops_nil ?_
        exact fin_join HJ5 (!(x172 == x185)) hp (look_has ⟨rfl, rfl, rfl, rfl, rfl, rfl, trivial⟩) (fun w_ hM => hM)
     · --
      have hp := cnd_f hc58 hp
      refine st_exit ?_
      refine fin_exit_then ?_
      refine fin_exit_then ?_
      refine fin_exit ?_
      obtain hq_ := Option.some.inj hp
      subst hq_
      obtain hq_ := hd4 _ rfl
      subst hq_
      have hp : tourref1_Narrowed_v2_j3 i46 i47 = some (i9001, i9002) := hk4
      exact fin_join HJ3 (i46, i47, F48, W49) ⟨hp, hx4⟩ (look_has ⟨rfl, rfl, trivial⟩) (fun w_ hM => hM)
  · --
   intro HJ2
   refine st_seq ?_
   refine st_block ?_
   obtain ⟨r6, hl6, hk6⟩ := obind hp
   refine st_loopP (σ := (List Int)) (ρ := (List Int)) (γ := (Option Addr) × (List Value) × (Option Addr) × Nat × (List Value)) hl6 (A13, y16, A18, c10, y19) (fun s_ g_ => match s_, g_ with | l237, (A232, y233, A235, c236, y238) => [(0, .slice A232 l15.length c14), (1, .slice A235 l237.length c236)]) (fun s_ g_ => match s_, g_ with | l237, (A232, y233, A235, c236, y238) => Mem w0 (orow A232 l15.length c14 24 1 y233 :: orow A235 l237.length c236 24 1 y238 :: Fz F W :: cs)) (fun s_ g_ => match s_, g_ with | l237, (A232, y233, A235, c236, y238) => (RepL (Rep.int .u64) F W l15 y233) ∧ (RepL (Rep.int .u64) F W l237 y238)) ⟨h17, h20⟩ (look_has ⟨rfl, rfl, trivial⟩) (fun w_ hM => hM) ?_
   rintro l237 ⟨A232, y233, A235, c236, y238⟩ o6 ⟨h234, h239⟩ hs_ hd6
   have hp : (tourref1_Narrowed_v2_l6 l15) l237 = some o6 := hs_
   clear hs_
   unfold tourref1_Narrowed_v2_l6 at hp
   refine st_conv (l' := [(0, .slice A232 l15.length c14), (1, .slice A235 l237.length c236)]) (M' := Mem w0 (orow A232 l15.length c14 24 1 y233 :: orow A235 l237.length c236 24 1 y238 :: Fz F W :: cs)) rfl (fun _ h => h) ?_
   refine st_seq ?_
   refine st_seq ?_
   refine st_region [oF 0, oF 1, oF 2, oF 3, oF 4] (by rfl) ?_
   refine oR [oF 0, oF 1, oF 2, oF 3, oF 4] [(31, .bool (decide ((l237.length : Int) < (l15.length : Int)))), (0, .slice A232 l15.length c14), (1, .slice A235 l237.length c236)] [31, 0, 1] (by kernel_rfl) ?_
   refine ops_nil ?_
   refine fin_then ?_
   refine st_if (b := decide ((l237.length : Int) < (l15.length : Int))) rfl (fun hc240 => ?_) (fun hc240 => ?_)
   · --
    have hp := cnd_t hc240 hp
    refine st_skip ?_
    refine fin_then ?_
    refine st_block ?_
    refine st_region [oF 0, oF 1, oF 2, oF 3, oF 4, oF 5, oF 6, oF 7, oF 8, oF 9] (by rfl) ?_
    refine oR [oF 0, oF 1, oF 2, oF 3] [(35, vI (l237.length : Int)), (33, .slice A232 l15.length c14), (32, .slice A235 l237.length c236), (0, .slice A232 l15.length c14), (1, .slice A235 l237.length c236)] [35, 33, 32, 0, 1] (by kernel_rfl) ?_
    obtain ⟨x241, hv242, hp⟩ := obind hp
    obtain ⟨m243, hm244, hx245⟩ := idx_some hv242
    have hl248 := (List.getElem?_eq_some_iff.1 hx245).1
    refine ops_fact (fun w_ hM => hM.orowSome 0 rfl (Nat.lt_of_le_of_lt (Nat.zero_le _) hl248)) ?_
    rintro ⟨g249, rfl, -⟩
    obtain ⟨vs246, hr247, hq250⟩ := h234.at_ m243 x241 hx245
    obtain rfl := hr247
    refine ops_val (op := (Go.Op.indexAddr 63 (Go.Operand.tmp 33) (Go.Operand.tmp 35))) (d := some 36) (v := vP g249 (m243 * 1)) ⟨by kernel_rfl⟩ (run_indexRow Try.underlying63 (z := 1) (by kernel_rfl) rfl rfl hm244 hl248 rfl) ?_
    refine oR [] [(36, vP g249 (m243 * 1)), (32, .slice A235 l237.length c236), (0, .slice (some ⟨g249, 0, none⟩) l15.length c14), (1, .slice A235 l237.length c236)] [36, 32, 0, 1] (by kernel_rfl) ?_
    refine ops_mem (d := some 37) (an := [.v (vU x241)]) (evs := [.load ⟨g249, m243 * 1, none⟩ (vU x241)]) (v := vU x241) (M' := Mem w0 (orow (some ⟨g249, 0, none⟩) l15.length c14 24 1 y233 :: orow A235 l237.length c236 24 1 y238 :: Fz F W :: cs)) ⟨by kernel_rfl⟩ (fun w_ hM hS => ⟨w_, ⟨hM.ocell 0 rfl (hq250 0 _ rfl), rfl⟩, hM, trivial⟩) ?_
    refine oR [oF 6] [(38, vU (Go.bits .xor .u64 18446744073709551615 x241)), (32, .slice A235 l237.length c236), (0, .slice (some ⟨g249, 0, none⟩) l15.length c14), (1, .slice A235 l237.length c236)] [38, 32, 0, 1] (by kernel_rfl) ?_
    have h251 : RepL (Rep.int .u64) F W ([Go.bits .xor .u64 18446744073709551615 x241] : List Int) ([vU (Go.bits .xor .u64 18446744073709551615 x241)]) := (RepL.cons (R := (Rep.int .u64)) (F := F) (w := W) (vs := [vU (Go.bits .xor .u64 18446744073709551615 x241)]) (ys := []) rfl RepL.nil)
    refine ops_new (d := some 39) (o := .cells ([vU (Go.bits .xor .u64 18446744073709551615 x241)]).toArray 24) (v := fun g252 => .slice (some ⟨g252, 0, none⟩) ([Go.bits .xor .u64 18446744073709551615 x241] : List Int).length 1) (M' := fun g252 => Mem w0 (orow (some ⟨g252, 0, none⟩) ([Go.bits .xor .u64 18446744073709551615 x241] : List Int).length 1 24 1 ([vU (Go.bits .xor .u64 18446744073709551615 x241)]) :: orow (some ⟨g249, 0, none⟩) l15.length c14 24 1 y233 :: orow A235 l237.length c236 24 1 y238 :: Fz F W :: cs)) (fun g252 => ⟨by kernel_rfl⟩) (fun w_ hM hS => ⟨hM.onew [vU (Go.bits .xor .u64 18446744073709551615 x241)] 24 1 1 rfl (by decide), trivial⟩) (fun g252 => ?_)
    refine oR [] [(39, .slice (some ⟨g252, 0, none⟩) ([Go.bits .xor .u64 18446744073709551615 x241] : List Int).length 1), (32, .slice A235 l237.length c236), (0, .slice (some ⟨g249, 0, none⟩) l15.length c14), (1, .slice A235 l237.length c236)] [39, 32, 0, 1] (by kernel_rfl) ?_
    obtain ⟨l253, hv254, hp⟩ := obind hp
    obtain ⟨he255, hb256⟩ := app_some hv254
    obtain ⟨y257, hy258⟩ : ∃ y_, y238 ++ ([vU (Go.bits .xor .u64 18446744073709551615 x241)]) = y_ := ⟨_, rfl⟩
    have h259 : RepL (Rep.int .u64) F W l253 y257 := by rw [he255, ← hy258]; exact RepL.app h239 h251
    refine ops_appendO (x := (Go.Operand.tmp 32)) (y := (Go.Operand.tmp 39)) (t := 63) (e := 24) (d := some 40) (n' := l253.length) (z := 1) (m := ([Go.bits .xor .u64 18446744073709551615 x241] : List Int).length) (bytes := 8) (xs' := y257) (news := ([vU (Go.bits .xor .u64 18446744073709551615 x241)])) (zv := vU 0) 2 ⟨by kernel_rfl⟩ rfl rfl Try.underlying63 (by kernel_rfl) (by rfl) rfl (fun w_ hM => hM.srcO 0 rfl) h251.len h251.one hb256 (by have z_ := congrArg List.length he255; rw [List.length_append] at z_; exact z_.symm) hy258 (fun _ _ _ _ hS h' => trivial) ?_
    rintro ⟨A260, c261⟩
    refine ops_conv (l' := [(40, .slice A260 l253.length c261), (39, .slice (some ⟨g252, 0, none⟩) ([Go.bits .xor .u64 18446744073709551615 x241] : List Int).length 1), (32, .slice A235 l237.length c236), (0, .slice (some ⟨g249, 0, none⟩) l15.length c14), (1, .slice A235 l237.length c236)]) (M' := Mem w0 (orow (some ⟨g252, 0, none⟩) ([Go.bits .xor .u64 18446744073709551615 x241] : List Int).length 1 24 1 ([vU (Go.bits .xor .u64 18446744073709551615 x241)]) :: orow (some ⟨g249, 0, none⟩) l15.length c14 24 1 y233 :: orow A260 l253.length c261 24 1 y257 :: Fz F W :: cs)) rfl (fun _ h => h) ?_
    refine oR [oF 9] [(1, .slice A260 l253.length c261), (0, .slice (some ⟨g249, 0, none⟩) l15.length c14)] [1, 0] (by kernel_rfl) ?_
    refine ops_nil ?_
    refine fin_block ?_
    exact fin_again l253 ((some ⟨g249, 0, none⟩), y233, A260, c261, y257) (Option.some.inj hp).symm ⟨h234, h259⟩ (look_has ⟨rfl, rfl, trivial⟩) (fun w_ hM => hM.pick 4 [1, 2, 3] (by kernel_rfl) (by decide) rfl)
   · --
    have hp := cnd_f hc240 hp
    refine st_exit ?_
    refine fin_exit_then ?_
    refine fin_exit_then ?_
    refine fin_exit ?_
    obtain hq_ := Option.some.inj hp
    subst hq_
    obtain hq_ := hd6 _ rfl
    subst hq_
    have hp : (tourref1_Narrowed_v2_j2 l15) l237 = some (i9001, i9002) := hk6
    exact fin_join HJ2 (A232, y233, A235, c236, l237, y238) ⟨hp, h234, h239⟩ (look_has ⟨rfl, rfl, trivial⟩) (fun w_ hM => hM)
 · --
  intro HJ1
  refine st_seq ?_
  refine st_block ?_
  obtain ⟨r7, hl7, hk7⟩ := obind hp
  refine st_loopP (σ := (List Int)) (ρ := (List Int)) (γ := (Option Addr) × Nat × (List Value) × (Option Addr) × (List Value)) hl7 (A3, c4, y5, A9, y11) (fun s_ g_ => match s_, g_ with | l264, (A262, c263, y265, A267, y268) => [(0, .slice A262 l264.length c263), (1, .slice A267 x7.length c10)]) (fun s_ g_ => match s_, g_ with | l264, (A262, c263, y265, A267, y268) => Mem w0 (orow A262 l264.length c263 24 1 y265 :: orow A267 x7.length c10 24 1 y268 :: Fz F W :: cs)) (fun s_ g_ => match s_, g_ with | l264, (A262, c263, y265, A267, y268) => (RepL (Rep.int .u64) F W l264 y265) ∧ (RepL (Rep.int .u64) F W x7 y268)) ⟨h6, h12⟩ (look_has ⟨rfl, rfl, trivial⟩) (fun w_ hM => hM.pick 3 [1, 0, 2] (by kernel_rfl) (by decide) rfl) ?_
  rintro l264 ⟨A262, c263, y265, A267, y268⟩ o7 ⟨h266, h269⟩ hs_ hd7
  have hp : (tourref1_Narrowed_v2_l7 x7) l264 = some o7 := hs_
  clear hs_
  unfold tourref1_Narrowed_v2_l7 at hp
  refine st_conv (l' := [(0, .slice A262 l264.length c263), (1, .slice A267 x7.length c10)]) (M' := Mem w0 (orow A262 l264.length c263 24 1 y265 :: orow A267 x7.length c10 24 1 y268 :: Fz F W :: cs)) rfl (fun _ h => h) ?_
  refine st_seq ?_
  refine st_seq ?_
  refine st_region [oF 0, oF 1, oF 2, oF 3, oF 4] (by rfl) ?_
  refine oR [oF 0, oF 1, oF 2, oF 3, oF 4] [(17, .bool (decide ((l264.length : Int) < (x7.length : Int)))), (0, .slice A262 l264.length c263), (1, .slice A267 x7.length c10)] [17, 0, 1] (by kernel_rfl) ?_
  refine ops_nil ?_
  refine fin_then ?_
  refine st_if (b := decide ((l264.length : Int) < (x7.length : Int))) rfl (fun hc270 => ?_) (fun hc270 => ?_)
  · --
   have hp := cnd_t hc270 hp
   refine st_skip ?_
   refine fin_then ?_
   refine st_block ?_
   refine st_region [oF 0, oF 1, oF 2, oF 3, oF 4, oF 5, oF 6, oF 7, oF 8, oF 9] (by rfl) ?_
   refine oR [oF 0, oF 1, oF 2, oF 3] [(21, vI (l264.length : Int)), (19, .slice A267 x7.length c10), (18, .slice A262 l264.length c263), (0, .slice A262 l264.length c263), (1, .slice A267 x7.length c10)] [21, 19, 18, 0, 1] (by kernel_rfl) ?_
   obtain ⟨x271, hv272, hp⟩ := obind hp
   obtain ⟨m273, hm274, hx275⟩ := idx_some hv272
   have hl278 := (List.getElem?_eq_some_iff.1 hx275).1
   refine ops_fact (fun w_ hM => hM.orowSome 1 rfl (Nat.lt_of_le_of_lt (Nat.zero_le _) hl278)) ?_
   rintro ⟨g279, rfl, -⟩
   obtain ⟨vs276, hr277, hq280⟩ := h269.at_ m273 x271 hx275
   obtain rfl := hr277
   refine ops_val (op := (Go.Op.indexAddr 63 (Go.Operand.tmp 19) (Go.Operand.tmp 21))) (d := some 22) (v := vP g279 (m273 * 1)) ⟨by kernel_rfl⟩ (run_indexRow Try.underlying63 (z := 1) (by kernel_rfl) rfl rfl hm274 hl278 rfl) ?_
   refine oR [] [(22, vP g279 (m273 * 1)), (18, .slice A262 l264.length c263), (0, .slice A262 l264.length c263), (1, .slice (some ⟨g279, 0, none⟩) x7.length c10)] [22, 18, 0, 1] (by kernel_rfl) ?_
   refine ops_mem (d := some 23) (an := [.v (vU x271)]) (evs := [.load ⟨g279, m273 * 1, none⟩ (vU x271)]) (v := vU x271) (M' := Mem w0 (orow A262 l264.length c263 24 1 y265 :: orow (some ⟨g279, 0, none⟩) x7.length c10 24 1 y268 :: Fz F W :: cs)) ⟨by kernel_rfl⟩ (fun w_ hM hS => ⟨w_, ⟨hM.ocell 1 rfl (hq280 0 _ rfl), rfl⟩, hM, trivial⟩) ?_
   refine oR [oF 6] [(24, vU (Go.bits .xor .u64 18446744073709551615 x271)), (18, .slice A262 l264.length c263), (0, .slice A262 l264.length c263), (1, .slice (some ⟨g279, 0, none⟩) x7.length c10)] [24, 18, 0, 1] (by kernel_rfl) ?_
   have h281 : RepL (Rep.int .u64) F W ([Go.bits .xor .u64 18446744073709551615 x271] : List Int) ([vU (Go.bits .xor .u64 18446744073709551615 x271)]) := (RepL.cons (R := (Rep.int .u64)) (F := F) (w := W) (vs := [vU (Go.bits .xor .u64 18446744073709551615 x271)]) (ys := []) rfl RepL.nil)
   refine ops_new (d := some 25) (o := .cells ([vU (Go.bits .xor .u64 18446744073709551615 x271)]).toArray 24) (v := fun g282 => .slice (some ⟨g282, 0, none⟩) ([Go.bits .xor .u64 18446744073709551615 x271] : List Int).length 1) (M' := fun g282 => Mem w0 (orow (some ⟨g282, 0, none⟩) ([Go.bits .xor .u64 18446744073709551615 x271] : List Int).length 1 24 1 ([vU (Go.bits .xor .u64 18446744073709551615 x271)]) :: orow A262 l264.length c263 24 1 y265 :: orow (some ⟨g279, 0, none⟩) x7.length c10 24 1 y268 :: Fz F W :: cs)) (fun g282 => ⟨by kernel_rfl⟩) (fun w_ hM hS => ⟨hM.onew [vU (Go.bits .xor .u64 18446744073709551615 x271)] 24 1 1 rfl (by decide), trivial⟩) (fun g282 => ?_)
   refine oR [] [(25, .slice (some ⟨g282, 0, none⟩) ([Go.bits .xor .u64 18446744073709551615 x271] : List Int).length 1), (18, .slice A262 l264.length c263), (0, .slice A262 l264.length c263), (1, .slice (some ⟨g279, 0, none⟩) x7.length c10)] [25, 18, 0, 1] (by kernel_rfl) ?_
   obtain ⟨l283, hv284, hp⟩ := obind hp
   obtain ⟨he285, hb286⟩ := app_some hv284
   obtain ⟨y287, hy288⟩ : ∃ y_, y265 ++ ([vU (Go.bits .xor .u64 18446744073709551615 x271)]) = y_ := ⟨_, rfl⟩
   have h289 : RepL (Rep.int .u64) F W l283 y287 := by rw [he285, ← hy288]; exact RepL.app h266 h281
   refine ops_appendO (x := (Go.Operand.tmp 18)) (y := (Go.Operand.tmp 25)) (t := 63) (e := 24) (d := some 26) (n' := l283.length) (z := 1) (m := ([Go.bits .xor .u64 18446744073709551615 x271] : List Int).length) (bytes := 8) (xs' := y287) (news := ([vU (Go.bits .xor .u64 18446744073709551615 x271)])) (zv := vU 0) 1 ⟨by kernel_rfl⟩ rfl rfl Try.underlying63 (by kernel_rfl) (by rfl) rfl (fun w_ hM => hM.srcO 0 rfl) h281.len h281.one hb286 (by have z_ := congrArg List.length he285; rw [List.length_append] at z_; exact z_.symm) hy288 (fun _ _ _ _ hS h' => trivial) ?_
   rintro ⟨A290, c291⟩
   refine ops_conv (l' := [(26, .slice A290 l283.length c291), (25, .slice (some ⟨g282, 0, none⟩) ([Go.bits .xor .u64 18446744073709551615 x271] : List Int).length 1), (18, .slice A262 l264.length c263), (0, .slice A262 l264.length c263), (1, .slice (some ⟨g279, 0, none⟩) x7.length c10)]) (M' := Mem w0 (orow (some ⟨g282, 0, none⟩) ([Go.bits .xor .u64 18446744073709551615 x271] : List Int).length 1 24 1 ([vU (Go.bits .xor .u64 18446744073709551615 x271)]) :: orow A290 l283.length c291 24 1 y287 :: orow (some ⟨g279, 0, none⟩) x7.length c10 24 1 y268 :: Fz F W :: cs)) rfl (fun _ h => h) ?_
   refine oR [oF 9] [(0, .slice A290 l283.length c291), (1, .slice (some ⟨g279, 0, none⟩) x7.length c10)] [0, 1] (by kernel_rfl) ?_
   refine ops_nil ?_
   refine fin_block ?_
   exact fin_again l283 (A290, c291, y287, (some ⟨g279, 0, none⟩), y268) (Option.some.inj hp).symm ⟨h289, h269⟩ (look_has ⟨rfl, rfl, trivial⟩) (fun w_ hM => hM.pick 4 [1, 2, 3] (by kernel_rfl) (by decide) rfl)
  · --
   have hp := cnd_f hc270 hp
   refine st_exit ?_
   refine fin_exit_then ?_
   refine fin_exit_then ?_
   refine fin_exit ?_
   obtain hq_ := Option.some.inj hp
   subst hq_
   obtain hq_ := hd7 _ rfl
   subst hq_
   have hp : (tourref1_Narrowed_v2_j1 x7) l264 = some (i9001, i9002) := hk7
   exact fin_join HJ1 (A262, c263, l264, y265, A267, y268) ⟨hp, h266, h269⟩ (look_has ⟨rfl, rfl, trivial⟩) (fun w_ hM => hM)
set_option maxHeartbeats 4000000 in
set_option maxRecDepth 100000 in
theorem tourlaw1_MerkleNarrows_ok (w0 w : World) (cs : List Chunk) (F : Nat → Prop) (W : World) (A_a : Option Addr) (c_a : Nat) (a : List Int) (A_b : Option Addr) (c_b : Nat) (b : List Int) (hM0 : Mem w0 (Fz F W :: cs) w) (h_a : RdS (Rep.int .u64) F W A_a c_a a) (h_b : RdS (Rep.int .u64) F W A_b c_b b) (t9001 : Bool) (hp : tourlaw1_MerkleNarrows a b = some t9001) : Calls Try.prog 6 #[.slice A_a a.length c_a, .slice A_b b.length c_b] w fun e w' => ∃ (F9002 : Nat → Prop), ∃ (W9003 : World), ((Ext w0 F W F9002 W9003)) ∧ e = .returned (.bool t9001) ∧ Mem w0 (Fz F9002 W9003 :: cs) w' := by
 unfold tourlaw1_MerkleNarrows at hp
 refine sx_calls Try.func6 rfl (n := 49) (by kernel_rfl) (l := [(0, .slice A_a a.length c_a), (1, .slice A_b b.length c_b)]) rfl (by rfl) hM0 ?_
 refine st_seq ?_
 refine st_region [oF 0] (by rfl) ?_
 refine oR [oF 0] [(0, .slice A_a a.length c_a), (1, .slice A_b b.length c_b)] [0, 1] (by kernel_rfl) ?_
 refine ops_nil ?_
 refine fin_then ?_
 refine st_seq ?_
 refine st_seq ?_
 refine st_region [oF 0, oF 1] (by rfl) ?_
 obtain ⟨x1, hv2, hp⟩ := obind hp
 refine ops_callI (σ := (Nat → Prop) × World) (d := some 10) (f := 42) (args := #[]) (v := (fun x_ => match x_ with | (F3, W4) => .bool x1)) (I := (fun x_ => match x_ with | (F3, W4) => (Ext w0 F W F3 W4))) (M' := (fun x_ => match x_ with | (F3, W4) => Mem w0 (Fz F3 W4 :: cs))) ⟨by kernel_rfl⟩ (fun w_ hM hS => (tourlaw1_merkleBegun_ok w0 w_ (cs) F W  hM  x1 hv2).mono (by rintro e w' ⟨F3, W4, h5, rfl, h'⟩; have h' : Mem w0 (Fz F3 W4 :: cs) w' := h'; exact ⟨(F3, W4), h5, rfl, h', trivial⟩)) ?_
 rintro ⟨F3, W4⟩ h5
 have h_a := h_a.ext h5
 have h_b := h_b.ext h5
 refine ops_conv (l' := [(10, .bool x1), (0, .slice A_a a.length c_a), (1, .slice A_b b.length c_b)]) (M' := Mem w0 (Fz F3 W4 :: cs)) rfl (fun _ h => h) ?_
 refine oR [oF 1] [(11, .bool (!x1)), (0, .slice A_a a.length c_a), (1, .slice A_b b.length c_b)] [11, 0, 1] (by kernel_rfl) ?_
 refine ops_nil ?_
 refine fin_then ?_
 refine st_if (b := !x1) rfl (fun hc6 => ?_) (fun hc6 => ?_)
 · --
  have hp := cnd_t hc6 hp
  refine st_seq ?_
  refine st_region [oF 0] (by rfl) ?_
  refine oR [oF 0] [(4, .bool false)] [4] (by kernel_rfl) ?_
  refine ops_nil ?_
  refine fin_then ?_
  refine st_ret ?_
  refine fin_ret_then ?_
  have hq_ := Option.some.inj hp
  have hr0_ := hq_
  subst hr0_
  refine fin_ret [.tmp 4] [.bool false] rfl rfl (fun w_ hM => (.tmp rfl .nil)) (fun w_ hM => ?_)
  exact ⟨F3, W4, h5, rfl, hM⟩
 · --
  have hp := cnd_f hc6 hp
  refine st_skip ?_
  refine fin_then ?_
  refine st_seq ?_
  refine st_region [oF 0, oF 1, oF 2, oF 3, oF 4, oF 5, oF 6, oF 7] (by rfl) ?_
  refine oR [oF 0, oF 1] [(14, .slice A_b b.length c_b), (13, .slice A_a a.length c_a), (0, .slice A_a a.length c_a), (1, .slice A_b b.length c_b)] [14, 13, 0, 1] (by kernel_rfl) ?_
  obtain ⟨x7, x8, hv9, hp⟩ := obind2 hp
  refine ops_callI (σ := (Nat → Prop) × World) (d := some 15) (f := 43) (args := #[.slice A_a a.length c_a, .slice A_b b.length c_b]) (v := (fun x_ => match x_ with | (F10, W11) => .tuple #[vI x7, vI x8])) (I := (fun x_ => match x_ with | (F10, W11) => (Ext w0 F3 W4 F10 W11))) (M' := (fun x_ => match x_ with | (F10, W11) => Mem w0 (Fz F10 W11 :: cs))) ⟨by kernel_rfl⟩ (fun w_ hM hS => (merkle_Narrow_ok w0 w_ (cs) F3 W4 A_a c_a a A_b c_b b hM h_a h_b x7 x8 hv9).mono (by rintro e w' ⟨F10, W11, h12, rfl, h'⟩; have h' : Mem w0 (Fz F10 W11 :: cs) w' := h'; exact ⟨(F10, W11), h12, rfl, h', trivial⟩)) ?_
  rintro ⟨F10, W11⟩ h12
  have h_b := h_b.ext h12
  have h_a := h_a.ext h12
  refine ops_conv (l' := [(15, .tuple #[vI x7, vI x8]), (14, .slice A_b b.length c_b), (13, .slice A_a a.length c_a), (0, .slice A_a a.length c_a), (1, .slice A_b b.length c_b)]) (M' := Mem w0 (Fz F10 W11 :: cs)) rfl (fun _ h => h) ?_
  refine oR [oF 3, oF 4, oF 5, oF 6, oF 7] [(6, vI x8), (5, vI x7), (0, .slice A_a a.length c_a), (1, .slice A_b b.length c_b)] [6, 5, 0, 1] (by kernel_rfl) ?_
  refine ops_nil ?_
  refine fin_then ?_
  refine st_seq ?_
  refine st_seq ?_
  refine st_region [oF 0, oF 1, oF 2, oF 3, oF 4, oF 5] (by rfl) ?_
  refine oR [oF 0, oF 1, oF 2, oF 3] [(21, vI (b.length : Int)), (19, vI (a.length : Int)), (6, vI x8), (5, vI x7), (0, .slice A_a a.length c_a), (1, .slice A_b b.length c_b)] [21, 19, 6, 5, 0, 1] (by kernel_rfl) ?_
  refine ops_val (op := (Go.Op.call { callee := (Go.Callee.builtin Go.Builtin.max), args := #[(Go.Operand.tmp 19), (Go.Operand.tmp 21)], argTypes := #[3, 3] })) (d := some 22) (v := vI (max (a.length : Int) (b.length : Int))) ⟨by kernel_rfl⟩ (run_max rfl rfl) ?_
  refine oR [oF 5] [(7, vI (max (a.length : Int) (b.length : Int))), (6, vI x8), (5, vI x7), (0, .slice A_a a.length c_a), (1, .slice A_b b.length c_b)] [7, 6, 5, 0, 1] (by kernel_rfl) ?_
  refine ops_nil ?_
  refine fin_then ?_
  refine st_seq ?_
  refine st_region [oF 0, oF 1, oF 2, oF 3, oF 4, oF 5] (by rfl) ?_
  refine oR [oF 0, oF 1, oF 2] [(25, .bool (max (a.length : Int) (b.length : Int) == 0)), (7, vI (max (a.length : Int) (b.length : Int))), (6, vI x8), (5, vI x7), (0, .slice A_a a.length c_a), (1, .slice A_b b.length c_b)] [25, 7, 6, 5, 0, 1] (by kernel_rfl) ?_
  refine ops_bool (t := (max (a.length : Int) (b.length : Int) == 0)) (l1 := [(25, .bool true), (7, vI (max (a.length : Int) (b.length : Int))), (6, vI x8), (5, vI x7), (0, .slice A_a a.length c_a), (1, .slice A_b b.length c_b)]) (l2 := [(25, .bool false), (7, vI (max (a.length : Int) (b.length : Int))), (6, vI x8), (5, vI x7), (0, .slice A_a a.length c_a), (1, .slice A_b b.length c_b)]) (fun h => by rw [h]) (fun h => by rw [h]) (fun hc13 => ?_) (fun hc13 => ?_)
  · --
   have hp := cnd_t hc13 hp
   refine oR [oF 3, oF 4, oF 5] [(28, .bool true), (6, vI x8), (5, vI x7), (0, .slice A_a a.length c_a), (1, .slice A_b b.length c_b)] [28, 6, 5, 0, 1] (by kernel_rfl) ?_
   refine ops_nil ?_
   refine fin_then ?_
   refine st_true rfl ?_
   refine st_join1 (σ := Bool) (L := fun x_ => match x_ with | t14 => [(4, .bool t14)]) (N := fun x_ => match x_ with | t14 => Mem w0 (Fz F10 W11 :: cs)) (I := fun x_ => match x_ with | t14 => (tourlaw1_MerkleNarrows_j1 t14 = some t9001)) ?_ ?_
   · --
    rintro t14 hp
    refine st_conv (l' := [(4, .bool t14)]) (M' := Mem w0 (Fz F10 W11 :: cs)) rfl (fun _ h => h) ?_
    unfold tourlaw1_MerkleNarrows_j1 at hp
    refine st_ret ?_
    refine fin_ret_then ?_
    have hq_ := Option.some.inj hp
    have hr0_ := hq_
    subst hr0_
    refine fin_ret [.tmp 4] [.bool t14] rfl rfl (fun w_ hM => (.tmp rfl .nil)) (fun w_ hM => ?_)
    exact ⟨F10, W11, (h5.trans h12), rfl, hM⟩
   · --
    intro HJ1
    refine st_seq ?_
    refine st_region [oF 0, oF 1, oF 2, oF 3, oF 4, oF 5, oF 6] (by rfl) ?_
    refine oR [oF 0, oF 1, oF 2] [(31, .bool (x7 == (-1))), (6, vI x8)] [31, 6] (by kernel_rfl) ?_
    refine ops_bool (t := (x7 == (-1))) (l1 := [(31, .bool true), (6, vI x8)]) (l2 := [(31, .bool false), (6, vI x8)]) (fun h => by rw [h]) (fun h => by rw [h]) (fun hc15 => ?_) (fun hc15 => ?_)
    · --
     have hp := cnd_t hc15 hp
     refine oR [oF 3, oF 4, oF 5, oF 6] [(4, .bool (x8 == 0))] [4] (by kernel_rfl) ?_
     refine ops_nil ?_
     exact fin_join HJ1 (x8 == 0) hp (look_has ⟨rfl, trivial⟩) (fun w_ hM => hM)
    · --
     have hp := cnd_f hc15 hp
     refine oR [oF 3, oF 4, oF 5, oF 6] [(4, .bool false)] [4] (by kernel_rfl) ?_
     refine ops_nil ?_
     exact fin_join HJ1 false hp (look_has ⟨rfl, trivial⟩) (fun w_ hM => hM)
  · --
   have hp := cnd_f hc13 hp
   refine oR [oF 3, oF 4, oF 5] [(28, .bool (decide (4096 < max (a.length : Int) (b.length : Int)))), (6, vI x8), (5, vI x7), (0, .slice A_a a.length c_a), (1, .slice A_b b.length c_b)] [28, 6, 5, 0, 1] (by kernel_rfl) ?_
   refine ops_nil ?_
   refine fin_then ?_
   refine st_if (b := decide (4096 < max (a.length : Int) (b.length : Int))) rfl (fun hc16 => ?_) (fun hc16 => ?_)
   · --
    have hp := cnd_t hc16 hp
    refine st_join1 (σ := Bool) (L := fun x_ => match x_ with | t17 => [(4, .bool t17)]) (N := fun x_ => match x_ with | t17 => Mem w0 (Fz F10 W11 :: cs)) (I := fun x_ => match x_ with | t17 => (tourlaw1_MerkleNarrows_j2 t17 = some t9001)) ?_ ?_
    · --
     rintro t17 hp
     refine st_conv (l' := [(4, .bool t17)]) (M' := Mem w0 (Fz F10 W11 :: cs)) rfl (fun _ h => h) ?_
     unfold tourlaw1_MerkleNarrows_j2 at hp
     refine st_ret ?_
     refine fin_ret_then ?_
     have hq_ := Option.some.inj hp
     have hr0_ := hq_
     subst hr0_
     refine fin_ret [.tmp 4] [.bool t17] rfl rfl (fun w_ hM => (.tmp rfl .nil)) (fun w_ hM => ?_)
     exact ⟨F10, W11, (h5.trans h12), rfl, hM⟩
    · --
     intro HJ2
     refine st_seq ?_
     refine st_region [oF 0, oF 1, oF 2, oF 3, oF 4, oF 5, oF 6] (by rfl) ?_
     refine oR [oF 0, oF 1, oF 2] [(31, .bool (x7 == (-1))), (6, vI x8)] [31, 6] (by kernel_rfl) ?_
     refine ops_bool (t := (x7 == (-1))) (l1 := [(31, .bool true), (6, vI x8)]) (l2 := [(31, .bool false), (6, vI x8)]) (fun h => by rw [h]) (fun h => by rw [h]) (fun hc18 => ?_) (fun hc18 => ?_)
     · --
      have hp := cnd_t hc18 hp
      refine oR [oF 3, oF 4, oF 5, oF 6] [(4, .bool (x8 == 0))] [4] (by kernel_rfl) ?_
      refine ops_nil ?_
      exact fin_join HJ2 (x8 == 0) hp (look_has ⟨rfl, trivial⟩) (fun w_ hM => hM)
     · --
      have hp := cnd_f hc18 hp
      refine oR [oF 3, oF 4, oF 5, oF 6] [(4, .bool false)] [4] (by kernel_rfl) ?_
      refine ops_nil ?_
      exact fin_join HJ2 false hp (look_has ⟨rfl, trivial⟩) (fun w_ hM => hM)
   · --
    have hp := cnd_f hc16 hp
    refine st_skip ?_
    refine fin_then ?_
    refine st_seq ?_
    refine st_region [oF 0, oF 1, oF 2, oF 3, oF 4, oF 5, oF 6, oF 7] (by rfl) ?_
    refine oR [oF 0, oF 1] [(37, .slice A_b b.length c_b), (36, .slice A_a a.length c_a), (6, vI x8), (5, vI x7)] [37, 36, 6, 5] (by kernel_rfl) ?_
    obtain ⟨x19, x20, hv21, hp⟩ := obind2 hp
    refine ops_callI (σ := (Nat → Prop) × World) (d := some 38) (f := 44) (args := #[.slice A_a a.length c_a, .slice A_b b.length c_b]) (v := (fun x_ => match x_ with | (F22, W23) => .tuple #[vI x19, vI x20])) (I := (fun x_ => match x_ with | (F22, W23) => (Ext w0 F10 W11 F22 W23))) (M' := (fun x_ => match x_ with | (F22, W23) => Mem w0 (Fz F22 W23 :: cs))) ⟨by kernel_rfl⟩ (fun w_ hM hS => (tourref1_Narrowed_v2_ok w0 w_ (cs) F10 W11 A_a c_a a A_b c_b b hM h_a h_b x19 x20 hv21).mono (by rintro e w' ⟨F22, W23, h24, rfl, h'⟩; have h' : Mem w0 (Fz F22 W23 :: cs) w' := h'; exact ⟨(F22, W23), h24, rfl, h', trivial⟩)) ?_
    rintro ⟨F22, W23⟩ h24
    have h_b := h_b.ext h24
    have h_a := h_a.ext h24
    refine ops_conv (l' := [(38, .tuple #[vI x19, vI x20]), (37, .slice A_b b.length c_b), (36, .slice A_a a.length c_a), (6, vI x8), (5, vI x7)]) (M' := Mem w0 (Fz F22 W23 :: cs)) rfl (fun _ h => h) ?_
    refine oR [oF 3, oF 4, oF 5, oF 6, oF 7] [(9, vI x20), (8, vI x19), (6, vI x8), (5, vI x7)] [9, 8, 6, 5] (by kernel_rfl) ?_
    refine ops_nil ?_
    refine fin_then ?_
    refine st_join1 (σ := Bool) (L := fun x_ => match x_ with | t25 => [(4, .bool t25)]) (N := fun x_ => match x_ with | t25 => Mem w0 (Fz F22 W23 :: cs)) (I := fun x_ => match x_ with | t25 => (tourlaw1_MerkleNarrows_j3 t25 = some t9001)) ?_ ?_
    · --
     rintro t25 hp
     refine st_conv (l' := [(4, .bool t25)]) (M' := Mem w0 (Fz F22 W23 :: cs)) rfl (fun _ h => h) ?_
     unfold tourlaw1_MerkleNarrows_j3 at hp
     refine st_ret ?_
     have hq_ := Option.some.inj hp
     have hr0_ := hq_
     subst hr0_
     refine fin_ret [.tmp 4] [.bool t25] rfl rfl (fun w_ hM => (.tmp rfl .nil)) (fun w_ hM => ?_)
     exact ⟨F22, W23, ((h5.trans h12).trans h24), rfl, hM⟩
    · --
     intro HJ3
     refine st_seq ?_
     refine st_region [oF 0, oF 1, oF 2, oF 3, oF 4, oF 5, oF 6, oF 7, oF 8] (by rfl) ?_
     refine oR [oF 0, oF 1, oF 2, oF 3] [(44, .bool (x7 == x19)), (9, vI x20), (6, vI x8)] [44, 9, 6] (by kernel_rfl) ?_
     refine ops_bool (t := (x7 == x19)) (l1 := [(44, .bool true), (9, vI x20), (6, vI x8)]) (l2 := [(44, .bool false), (9, vI x20), (6, vI x8)]) (fun h => by rw [h]) (fun h => by rw [h]) (fun hc26 => ?_) (fun hc26 => ?_)
     · --
      have hp := cnd_t hc26 hp
      refine oR [oF 4, oF 5, oF 6, oF 7, oF 8] [(4, .bool (x8 == x20))] [4] (by kernel_rfl) ?_
      refine ops_nil ?_
      exact fin_join HJ3 (x8 == x20) hp (look_has ⟨rfl, trivial⟩) (fun w_ hM => hM)
     · --
      have hp := cnd_f hc26 hp
      refine oR [oF 4, oF 5, oF 6, oF 7, oF 8] [(4, .bool false)] [4] (by kernel_rfl) ?_
      refine ops_nil ?_
      exact fin_join HJ3 false hp (look_has ⟨rfl, trivial⟩) (fun w_ hM => hM)
set_option maxHeartbeats 4000000 in
set_option maxRecDepth 100000 in
theorem merkle_Verify_ok (w0 w : World) (cs : List Chunk) (F : Nat → Prop) (W : World) (root : Int) (n : Int) (i : Int) (leaf : Int) (A_proof : Option Addr) (c_proof : Nat) (proof : List Int) (hM0 : Mem w0 (Fz F W :: cs) w) (h_proof : RdS (Rep.int .u64) F W A_proof c_proof proof) (t9001 : Bool) (hp : merkle_Verify root n i leaf proof = some t9001) : Calls Try.prog 45 #[vU root, vI n, vI i, vU leaf, .slice A_proof proof.length c_proof] w fun e w' => (True) ∧ e = .returned (.bool t9001) ∧ Mem w0 (Fz F W :: cs) w' := by
 unfold merkle_Verify at hp
 refine sx_calls Try.func45 rfl (n := 65) (by kernel_rfl) (l := [(0, vU root), (1, vI n), (2, vI i), (3, vU leaf), (4, .slice A_proof proof.length c_proof)]) rfl (by rfl) hM0 ?_
 refine st_seq ?_
 refine st_region [oF 0] (by rfl) ?_
 refine oR [oF 0] [(0, vU root), (1, vI n), (2, vI i), (3, vU leaf), (4, .slice A_proof proof.length c_proof)] [0, 1, 2, 3, 4] (by kernel_rfl) ?_
 refine ops_nil ?_
 refine fin_then ?_
 refine st_seq ?_
 refine st_seq ?_
 refine st_region [oF 0, oF 1, oF 2, oF 3, oF 4, oF 5, oF 6, oF 7, oF 8, oF 9, oF 10, oF 11, oF 12, oF 13, oF 14] (by rfl) ?_
 refine oR [oF 0, oF 1, oF 2] [(14, .bool (decide (n < 1))), (0, vU root), (1, vI n), (2, vI i), (3, vU leaf), (4, .slice A_proof proof.length c_proof)] [14, 0, 1, 2, 3, 4] (by kernel_rfl) ?_
 refine ops_bool (t := decide (n < 1)) (l1 := [(14, .bool true), (0, vU root), (1, vI n), (2, vI i), (3, vU leaf), (4, .slice A_proof proof.length c_proof)]) (l2 := [(14, .bool false), (0, vU root), (1, vI n), (2, vI i), (3, vU leaf), (4, .slice A_proof proof.length c_proof)]) (fun h => by rw [h]) (fun h => by rw [h]) (fun hc1 => ?_) (fun hc1 => ?_)
 · --
  have hp := cnd_t hc1 hp
  refine oR [oF 3, oF 4, oF 5, oF 6, oF 7, oF 8, oF 9, oF 10, oF 11, oF 12, oF 13, oF 14] [(26, .bool true), (0, vU root), (1, vI n), (2, vI i), (3, vU leaf), (4, .slice A_proof proof.length c_proof)] [26, 0, 1, 2, 3, 4] (by kernel_rfl) ?_
  refine ops_nil ?_
  refine fin_then ?_
  refine st_true rfl ?_
  refine st_seq ?_
  refine st_region [oF 0] (by rfl) ?_
  refine oR [oF 0] [(10, .bool false)] [10] (by kernel_rfl) ?_
  refine ops_nil ?_
  refine fin_then ?_
  refine st_ret ?_
  refine fin_ret_then ?_
  have hq_ := Option.some.inj hp
  have hr0_ := hq_
  subst hr0_
  refine fin_ret [.tmp 10] [.bool false] rfl rfl (fun w_ hM => (.tmp rfl .nil)) (fun w_ hM => ?_)
  exact ⟨trivial, rfl, hM⟩
 · --
  have hp := cnd_f hc1 hp
  refine oR [oF 3, oF 4, oF 5, oF 6] [(18, .bool (decide (4096 < n))), (0, vU root), (1, vI n), (2, vI i), (3, vU leaf), (4, .slice A_proof proof.length c_proof)] [18, 0, 1, 2, 3, 4] (by kernel_rfl) ?_
  refine ops_bool (t := decide (4096 < n)) (l1 := [(18, .bool true), (0, vU root), (1, vI n), (2, vI i), (3, vU leaf), (4, .slice A_proof proof.length c_proof)]) (l2 := [(18, .bool false), (0, vU root), (1, vI n), (2, vI i), (3, vU leaf), (4, .slice A_proof proof.length c_proof)]) (fun h => by rw [h]) (fun h => by rw [h]) (fun hc2 => ?_) (fun hc2 => ?_)
  · --
   have hp := cnd_t hc2 hp
   refine oR [oF 7, oF 8, oF 9, oF 10, oF 11, oF 12, oF 13, oF 14] [(26, .bool true), (0, vU root), (1, vI n), (2, vI i), (3, vU leaf), (4, .slice A_proof proof.length c_proof)] [26, 0, 1, 2, 3, 4] (by kernel_rfl) ?_
   refine ops_nil ?_
   refine fin_then ?_
   refine st_true rfl ?_
   refine st_seq ?_
   refine st_region [oF 0] (by rfl) ?_
   refine oR [oF 0] [(10, .bool false)] [10] (by kernel_rfl) ?_
   refine ops_nil ?_
   refine fin_then ?_
   refine st_ret ?_
   refine fin_ret_then ?_
   have hq_ := Option.some.inj hp
   have hr0_ := hq_
   subst hr0_
   refine fin_ret [.tmp 10] [.bool false] rfl rfl (fun w_ hM => (.tmp rfl .nil)) (fun w_ hM => ?_)
   exact ⟨trivial, rfl, hM⟩
  · --
   have hp := cnd_f hc2 hp
   refine oR [oF 7, oF 8, oF 9, oF 10] [(22, .bool (decide (i < 0))), (0, vU root), (1, vI n), (2, vI i), (3, vU leaf), (4, .slice A_proof proof.length c_proof)] [22, 0, 1, 2, 3, 4] (by kernel_rfl) ?_
   refine ops_bool (t := decide (i < 0)) (l1 := [(22, .bool true), (0, vU root), (1, vI n), (2, vI i), (3, vU leaf), (4, .slice A_proof proof.length c_proof)]) (l2 := [(22, .bool false), (0, vU root), (1, vI n), (2, vI i), (3, vU leaf), (4, .slice A_proof proof.length c_proof)]) (fun h => by rw [h]) (fun h => by rw [h]) (fun hc3 => ?_) (fun hc3 => ?_)
   · --
    have hp := cnd_t hc3 hp
    refine oR [oF 11, oF 12, oF 13, oF 14] [(26, .bool true), (0, vU root), (1, vI n), (2, vI i), (3, vU leaf), (4, .slice A_proof proof.length c_proof)] [26, 0, 1, 2, 3, 4] (by kernel_rfl) ?_
    refine ops_nil ?_
    refine fin_then ?_
    refine st_true rfl ?_
    refine st_seq ?_
    refine st_region [oF 0] (by rfl) ?_
    refine oR [oF 0] [(10, .bool false)] [10] (by kernel_rfl) ?_
    refine ops_nil ?_
    refine fin_then ?_
    refine st_ret ?_
    refine fin_ret_then ?_
    have hq_ := Option.some.inj hp
    have hr0_ := hq_
    subst hr0_
    refine fin_ret [.tmp 10] [.bool false] rfl rfl (fun w_ hM => (.tmp rfl .nil)) (fun w_ hM => ?_)
    exact ⟨trivial, rfl, hM⟩
   · --
    have hp := cnd_f hc3 hp
    refine oR [oF 11, oF 12, oF 13, oF 14] [(26, .bool (decide (n ≤ i))), (0, vU root), (1, vI n), (2, vI i), (3, vU leaf), (4, .slice A_proof proof.length c_proof)] [26, 0, 1, 2, 3, 4] (by kernel_rfl) ?_
    refine ops_nil ?_
    refine fin_then ?_
    refine st_if (b := decide (n ≤ i)) rfl (fun hc4 => ?_) (fun hc4 => ?_)
    · --
     have hp := cnd_t hc4 hp
     refine st_seq ?_
     refine st_region [oF 0] (by rfl) ?_
     refine oR [oF 0] [(10, .bool false)] [10] (by kernel_rfl) ?_
     refine ops_nil ?_
     refine fin_then ?_
     refine st_ret ?_
     refine fin_ret_then ?_
     have hq_ := Option.some.inj hp
     have hr0_ := hq_
     subst hr0_
     refine fin_ret [.tmp 10] [.bool false] rfl rfl (fun w_ hM => (.tmp rfl .nil)) (fun w_ hM => ?_)
     exact ⟨trivial, rfl, hM⟩
    · --
     have hp := cnd_f hc4 hp
     refine st_skip ?_
     refine fin_then ?_
     refine st_join1 (σ := Int × (Option Addr) × Nat × (List Int)) (L := fun x_ => match x_ with | (i5, A6, c7, l8) => [(0, vU root), (3, vU i5), (4, .slice A6 l8.length c7)]) (N := fun x_ => match x_ with | (i5, A6, c7, l8) => Mem w0 (Fz F W :: cs)) (I := fun x_ => match x_ with | (i5, A6, c7, l8) => ((merkle_Verify_j1 root) i5 l8 = some t9001) ∧ (RdS (Rep.int .u64) F W A6 c7 l8)) ?_ ?_
     · --
      rintro ⟨i5, A6, c7, l8⟩ ⟨hp, h9⟩
      refine st_conv (l' := [(0, vU root), (3, vU i5), (4, .slice A6 l8.length c7)]) (M' := Mem w0 (Fz F W :: cs)) rfl (fun _ h => h) ?_
      unfold merkle_Verify_j1 at hp
      refine st_join1 (σ := Bool) (L := fun x_ => match x_ with | t10 => [(10, .bool t10)]) (N := fun x_ => match x_ with | t10 => Mem w0 (Fz F W :: cs)) (I := fun x_ => match x_ with | t10 => (merkle_Verify_j2 t10 = some t9001)) ?_ ?_
      · --
       rintro t10 hp
       refine st_conv (l' := [(10, .bool t10)]) (M' := Mem w0 (Fz F W :: cs)) rfl (fun _ h => h) ?_
       unfold merkle_Verify_j2 at hp
       refine st_ret ?_
       have hq_ := Option.some.inj hp
       have hr0_ := hq_
       subst hr0_
       refine fin_ret [.tmp 10] [.bool t10] rfl rfl (fun w_ hM => (.tmp rfl .nil)) (fun w_ hM => ?_)
       exact ⟨trivial, rfl, hM⟩
      · --
       intro HJ2
       refine st_seq ?_
       refine st_region [oF 0, oF 1, oF 2, oF 3, oF 4, oF 5, oF 6, oF 7, oF 8] (by rfl) ?_
       refine oR [oF 0, oF 1, oF 2, oF 3] [(60, .bool ((l8.length : Int) == 0)), (0, vU root), (3, vU i5)] [60, 0, 3] (by kernel_rfl) ?_
       refine ops_bool (t := ((l8.length : Int) == 0)) (l1 := [(60, .bool true), (0, vU root), (3, vU i5)]) (l2 := [(60, .bool false), (0, vU root), (3, vU i5)]) (fun h => by rw [h]) (fun h => by rw [h]) (fun hc11 => ?_) (fun hc11 => ?_)
       · --
        have hp := cnd_t hc11 hp
        refine oR [oF 4, oF 5, oF 6, oF 7, oF 8] [(10, .bool (i5 == root))] [10] (by kernel_rfl) ?_
        refine ops_nil ?_
        exact fin_join HJ2 (i5 == root) hp (look_has ⟨rfl, trivial⟩) (fun w_ hM => hM)
       · --
        have hp := cnd_f hc11 hp
        refine oR [oF 4, oF 5, oF 6, oF 7, oF 8] [(10, .bool false)] [10] (by kernel_rfl) ?_
        refine ops_nil ?_
        exact fin_join HJ2 false hp (look_has ⟨rfl, trivial⟩) (fun w_ hM => hM)
     · --
      intro HJ1
      refine st_seq ?_
      refine st_block ?_
      obtain ⟨r3, hl3, hk3⟩ := obind hp
      refine st_loopP (σ := Int × Int × Int × (List Int)) (ρ := (Bool ⊕ Int × (List Int))) (γ := (Option Addr) × Nat) hl3 (A_proof, c_proof) (fun s_ g_ => match s_, g_ with | (i12, i13, i14, l17), (A15, c16) => [(0, vU root), (1, vI i12), (2, vI i13), (3, vU i14), (4, .slice A15 l17.length c16)]) (fun s_ g_ => match s_, g_ with | (i12, i13, i14, l17), (A15, c16) => Mem w0 (Fz F W :: cs)) (fun s_ g_ => match s_, g_ with | (i12, i13, i14, l17), (A15, c16) => (RdS (Rep.int .u64) F W A15 c16 l17)) h_proof (look_has ⟨rfl, rfl, rfl, rfl, rfl, trivial⟩) (fun w_ hM => hM) ?_
      rintro ⟨i12, i13, i14, l17⟩ ⟨A15, c16⟩ o3 h18 hs_ hd3
      have hp : merkle_Verify_l3 i12 i13 i14 l17 = some o3 := hs_
      clear hs_
      unfold merkle_Verify_l3 at hp
      refine st_conv (l' := [(0, vU root), (1, vI i12), (2, vI i13), (3, vU i14), (4, .slice A15 l17.length c16)]) (M' := Mem w0 (Fz F W :: cs)) rfl (fun _ h => h) ?_
      refine st_seq ?_
      refine st_seq ?_
      refine st_region [oF 0, oF 1] (by rfl) ?_
      refine oR [oF 0, oF 1] [(28, .bool (decide (1 < i12))), (0, vU root), (1, vI i12), (2, vI i13), (3, vU i14), (4, .slice A15 l17.length c16)] [28, 0, 1, 2, 3, 4] (by kernel_rfl) ?_
      refine ops_nil ?_
      refine fin_then ?_
      refine st_if (b := decide (1 < i12)) rfl (fun hc19 => ?_) (fun hc19 => ?_)
      · --
       have hp := cnd_t hc19 hp
       refine st_skip ?_
       refine fin_then ?_
       refine st_seq ?_
       refine st_block ?_
       refine st_join1 (σ := Int × (Option Addr) × Nat × (List Int)) (L := fun x_ => match x_ with | (i20, A21, c22, l23) => [(0, vU root), (1, vI i12), (2, vI i13), (3, vU i20), (4, .slice A21 l23.length c22)]) (N := fun x_ => match x_ with | (i20, A21, c22, l23) => Mem w0 (Fz F W :: cs)) (I := fun x_ => match x_ with | (i20, A21, c22, l23) => ((merkle_Verify_j4 i12 i13) i20 l23 = some o3) ∧ (RdS (Rep.int .u64) F W A21 c22 l23)) ?_ ?_
       · --
        rintro ⟨i20, A21, c22, l23⟩ ⟨hp, h24⟩
        refine st_conv (l' := [(0, vU root), (1, vI i12), (2, vI i13), (3, vU i20), (4, .slice A21 l23.length c22)]) (M' := Mem w0 (Fz F W :: cs)) rfl (fun _ h => h) ?_
        unfold merkle_Verify_j4 at hp
        refine st_region [oF 0, oF 1, oF 2] (by rfl) ?_
        refine oR [oF 0, oF 1, oF 2] [(2, vI (IntKind.i64.wrap (Int.tdiv i13 2))), (0, vU root), (1, vI i12), (3, vU i20), (4, .slice A21 l23.length c22)] [2, 0, 1, 3, 4] (by kernel_rfl) ?_
        refine ops_nil ?_
        refine fin_block ?_
        refine fin_then ?_
        refine st_region [oF 0, oF 1, oF 2, oF 3] (by rfl) ?_
        refine oR [oF 0, oF 1, oF 2, oF 3] [(1, vI (IntKind.i64.wrap (Int.tdiv (IntKind.i64.wrap (i12 + 1)) 2))), (2, vI (IntKind.i64.wrap (Int.tdiv i13 2))), (0, vU root), (3, vU i20), (4, .slice A21 l23.length c22)] [1, 2, 0, 3, 4] (by kernel_rfl) ?_
        refine ops_nil ?_
        exact fin_again (IntKind.i64.wrap (Int.tdiv (IntKind.i64.wrap (i12 + 1)) 2), IntKind.i64.wrap (Int.tdiv i13 2), i20, l23) (A21, c22) (Option.some.inj hp).symm h24 (look_has ⟨rfl, rfl, rfl, rfl, rfl, trivial⟩) (fun w_ hM => hM)
       · --
        intro HJ4
        refine st_seq ?_
        refine st_seq ?_
        refine st_region [oF 0, oF 1, oF 2] (by rfl) ?_
        refine oR [oF 0, oF 1, oF 2] [(11, vI (Go.bits .xor .i64 i13 1)), (0, vU root), (1, vI i12), (2, vI i13), (3, vU i14), (4, .slice A15 l17.length c16)] [11, 0, 1, 2, 3, 4] (by kernel_rfl) ?_
        refine ops_nil ?_
        refine fin_then ?_
        refine st_seq ?_
        refine st_region [oF 0, oF 1, oF 2] (by rfl) ?_
        refine oR [oF 0, oF 1, oF 2] [(36, .bool (decide (Go.bits .xor .i64 i13 1 < i12))), (0, vU root), (1, vI i12), (2, vI i13), (3, vU i14), (4, .slice A15 l17.length c16)] [36, 0, 1, 2, 3, 4] (by kernel_rfl) ?_
        refine ops_nil ?_
        refine fin_then ?_
        refine st_if (b := decide (Go.bits .xor .i64 i13 1 < i12)) rfl (fun hc25 => ?_) (fun hc25 => ?_)
        · --
         have hp := cnd_t hc25 hp
         refine st_seq ?_
         refine st_seq ?_
         refine st_region [oF 0, oF 1, oF 2] (by rfl) ?_
         refine oR [oF 0, oF 1, oF 2] [(39, .bool ((l17.length : Int) == 0)), (0, vU root), (1, vI i12), (2, vI i13), (3, vU i14), (4, .slice A15 l17.length c16)] [39, 0, 1, 2, 3, 4] (by kernel_rfl) ?_
         refine ops_nil ?_
         refine fin_then ?_
         refine st_if (b := ((l17.length : Int) == 0)) rfl (fun hc26 => ?_) (fun hc26 => ?_)
         · --
          have hp := cnd_t hc26 hp
          refine st_seq ?_
          refine st_region [oF 0] (by rfl) ?_
          refine oR [oF 0] [(10, .bool false)] [10] (by kernel_rfl) ?_
          refine ops_nil ?_
          refine fin_then ?_
          refine st_ret ?_
          refine fin_ret_then ?_
          refine fin_ret_then ?_
          refine fin_ret_block ?_
          refine fin_ret_then ?_
          refine fin_ret_then ?_
          refine fin_ret_block ?_
          refine fin_ret_then ?_
          obtain hq_ := Option.some.inj hp
          subst hq_
          obtain hq_ := hd3 _ rfl
          subst hq_
          have hp : some false = some t9001 := hk3
          have hq_ := Option.some.inj hp
          have hr0_ := hq_
          subst hr0_
          refine fin_ret [.tmp 10] [.bool false] rfl rfl (fun w_ hM => (.tmp rfl .nil)) (fun w_ hM => ?_)
          exact ⟨trivial, rfl, hM⟩
         · --
          have hp := cnd_f hc26 hp
          refine st_skip ?_
          refine fin_then ?_
          refine st_join1 (σ := Int) (L := fun x_ => match x_ with | i27 => [(0, vU root), (1, vI i12), (2, vI i13), (3, vU i27), (4, .slice A15 l17.length c16)]) (N := fun x_ => match x_ with | i27 => Mem w0 (Fz F W :: cs)) (I := fun x_ => match x_ with | i27 => ((merkle_Verify_j5 l17 i12 i13) i27 = some o3)) ?_ ?_
          · --
           rintro i27 hp
           refine st_conv (l' := [(0, vU root), (1, vI i12), (2, vI i13), (3, vU i27), (4, .slice A15 l17.length c16)]) (M' := Mem w0 (Fz F W :: cs)) rfl (fun _ h => h) ?_
           unfold merkle_Verify_j5 at hp
           refine st_region [oF 0, oF 1, oF 2] (by rfl) ?_
           refine oR [oF 0] [(53, .slice A15 l17.length c16), (0, vU root), (1, vI i12), (2, vI i13), (3, vU i27), (4, .slice A15 l17.length c16)] [53, 0, 1, 2, 3, 4] (by kernel_rfl) ?_
           obtain ⟨l28, hv29, hp⟩ := obind hp
           obtain ⟨m30, n31, hm32, hn33, h34, h35, he36⟩ := cut_some hv29
           have hl37 := cut_len he36 h34 h35
           have h38 : RdS (Rep.int .u64) F W (cutA A15 c16 m30 1) (c16 - m30) l28 := by have h_ := h18.cut h34 h35; rw [← he36] at h_; exact h_
           refine ops_val (op := (Go.Op.slice 63 (Go.Operand.tmp 53) (some (Go.Operand.const (Go.Value.int Go.IntKind.i64 1))) none none)) (d := some 54) (v := .slice (cutA A15 c16 m30 1) l28.length (c16 - m30)) ⟨by kernel_rfl⟩ (run_cutL (by kernel_rfl) (z := 1) (by kernel_rfl) rfl rfl hm32 (by omega) (by omega) rfl) ?_
           refine oR [oF 2] [(4, .slice (cutA A15 c16 m30 1) l28.length (c16 - m30)), (0, vU root), (1, vI i12), (2, vI i13), (3, vU i27)] [4, 0, 1, 2, 3] (by kernel_rfl) ?_
           refine ops_nil ?_
           exact fin_join HJ4 (i27, (cutA A15 c16 m30 1), (c16 - m30), l28) ⟨hp, h38⟩ (look_has ⟨rfl, rfl, rfl, rfl, rfl, trivial⟩) (fun w_ hM => hM)
          · --
           intro HJ5
           refine st_seq ?_
           refine st_seq ?_
           refine st_region [oF 0, oF 1, oF 2] (by rfl) ?_
           refine oR [oF 0, oF 1, oF 2] [(42, .bool (Int.tmod i13 2 == 0)), (0, vU root), (1, vI i12), (2, vI i13), (3, vU i14), (4, .slice A15 l17.length c16)] [42, 0, 1, 2, 3, 4] (by kernel_rfl) ?_
           refine ops_nil ?_
           refine fin_then ?_
           refine st_if (b := (Int.tmod i13 2 == 0)) rfl (fun hc39 => ?_) (fun hc39 => ?_)
           · --
            have hp := cnd_t hc39 hp
            refine st_region [oF 0, oF 1, oF 2, oF 3, oF 4, oF 5] (by rfl) ?_
            refine oR [oF 0, oF 1] [(44, .slice A15 l17.length c16), (43, vU i14), (0, vU root), (1, vI i12), (2, vI i13), (3, vU i14), (4, .slice A15 l17.length c16)] [44, 43, 0, 1, 2, 3, 4] (by kernel_rfl) ?_
            obtain ⟨x40, hv41, hp⟩ := obind hp
            obtain ⟨m42, hm43, hx44⟩ := idx_some hv41
            have hl47 := (List.getElem?_eq_some_iff.1 hx44).1
            obtain ⟨ad48, vs45, hA49, hr46, hq50⟩ := RdS.el h18 hx44
            obtain rfl := hr46
            refine ops_val (op := (Go.Op.indexAddr 63 (Go.Operand.tmp 44) (Go.Operand.const (Go.Value.int Go.IntKind.i64 0)))) (d := some 45) (v := .pointer (some (ad48.add (m42 * 1)))) ⟨by kernel_rfl⟩ (run_indexA hA49 Try.underlying63 (z := 1) (by kernel_rfl) rfl rfl hm43 hl47) ?_
            refine oR [] [(45, .pointer (some (ad48.add (m42 * 1)))), (43, vU i14), (0, vU root), (1, vI i12), (2, vI i13), (3, vU i14), (4, .slice A15 l17.length c16)] [45, 43, 0, 1, 2, 3, 4] (by kernel_rfl) ?_
            refine ops_mem (d := some 46) (an := [.v (vU x40)]) (evs := [.load (ad48.add (m42 * 1)) (vU x40)]) (v := vU x40) (M' := Mem w0 (Fz F W :: cs)) ⟨by kernel_rfl⟩ (fun w_ hM hS => ⟨w_, ⟨hM.elcell 0 rfl hq50 0 rfl, rfl⟩, hM, trivial⟩) ?_
            refine oR [] [(46, vU x40), (43, vU i14), (0, vU root), (1, vI i12), (2, vI i13), (3, vU i14), (4, .slice A15 l17.length c16)] [46, 43, 0, 1, 2, 3, 4] (by kernel_rfl) ?_
            obtain ⟨x51, hv52, hp⟩ := obind hp
            refine ops_callI (σ := Unit) (d := some 47) (f := 110) (args := #[vU i14, vU x40]) (v := (fun _ => vU x51)) (I := (fun _ => True)) (M' := (fun _ => Mem w0 (Fz F W :: cs))) ⟨by kernel_rfl⟩ (fun w_ hM hS => (sum_Join_ok w0 w_ (cs) F W i14 x40 hM  x51 hv52).mono (by rintro e w' ⟨-, rfl, h'⟩; have h' : Mem w0 (Fz F W :: cs) w' := h'; exact ⟨(), trivial, rfl, h', trivial⟩)) ?_
            rintro _ -
            refine ops_conv (l' := [(47, vU x51), (46, vU x40), (43, vU i14), (0, vU root), (1, vI i12), (2, vI i13), (3, vU i14), (4, .slice A15 l17.length c16)]) (M' := Mem w0 (Fz F W :: cs)) rfl (fun _ h => h) ?_
            refine oR [oF 5] [(3, vU x51), (0, vU root), (1, vI i12), (2, vI i13), (4, .slice A15 l17.length c16)] [3, 0, 1, 2, 4] (by kernel_rfl) ?_
            refine ops_nil ?_
            exact fin_join HJ5 x51 hp (look_has ⟨rfl, rfl, rfl, rfl, rfl, trivial⟩) (fun w_ hM => hM)
           · --
            have hp := cnd_f hc39 hp
            refine st_region [oF 0, oF 1, oF 2, oF 3, oF 4, oF 5] (by rfl) ?_
            refine oR [oF 0] [(48, .slice A15 l17.length c16), (0, vU root), (1, vI i12), (2, vI i13), (3, vU i14), (4, .slice A15 l17.length c16)] [48, 0, 1, 2, 3, 4] (by kernel_rfl) ?_
            obtain ⟨x53, hv54, hp⟩ := obind hp
            obtain ⟨m55, hm56, hx57⟩ := idx_some hv54
            have hl60 := (List.getElem?_eq_some_iff.1 hx57).1
            obtain ⟨ad61, vs58, hA62, hr59, hq63⟩ := RdS.el h18 hx57
            obtain rfl := hr59
            refine ops_val (op := (Go.Op.indexAddr 63 (Go.Operand.tmp 48) (Go.Operand.const (Go.Value.int Go.IntKind.i64 0)))) (d := some 49) (v := .pointer (some (ad61.add (m55 * 1)))) ⟨by kernel_rfl⟩ (run_indexA hA62 Try.underlying63 (z := 1) (by kernel_rfl) rfl rfl hm56 hl60) ?_
            refine oR [] [(49, .pointer (some (ad61.add (m55 * 1)))), (0, vU root), (1, vI i12), (2, vI i13), (3, vU i14), (4, .slice A15 l17.length c16)] [49, 0, 1, 2, 3, 4] (by kernel_rfl) ?_
            refine ops_mem (d := some 50) (an := [.v (vU x53)]) (evs := [.load (ad61.add (m55 * 1)) (vU x53)]) (v := vU x53) (M' := Mem w0 (Fz F W :: cs)) ⟨by kernel_rfl⟩ (fun w_ hM hS => ⟨w_, ⟨hM.elcell 0 rfl hq63 0 rfl, rfl⟩, hM, trivial⟩) ?_
            refine oR [oF 3] [(51, vU i14), (50, vU x53), (0, vU root), (1, vI i12), (2, vI i13), (3, vU i14), (4, .slice A15 l17.length c16)] [51, 50, 0, 1, 2, 3, 4] (by kernel_rfl) ?_
            obtain ⟨x64, hv65, hp⟩ := obind hp
            refine ops_callI (σ := Unit) (d := some 52) (f := 110) (args := #[vU x53, vU i14]) (v := (fun _ => vU x64)) (I := (fun _ => True)) (M' := (fun _ => Mem w0 (Fz F W :: cs))) ⟨by kernel_rfl⟩ (fun w_ hM hS => (sum_Join_ok w0 w_ (cs) F W x53 i14 hM  x64 hv65).mono (by rintro e w' ⟨-, rfl, h'⟩; have h' : Mem w0 (Fz F W :: cs) w' := h'; exact ⟨(), trivial, rfl, h', trivial⟩)) ?_
            rintro _ -
            refine ops_conv (l' := [(52, vU x64), (51, vU i14), (50, vU x53), (0, vU root), (1, vI i12), (2, vI i13), (3, vU i14), (4, .slice A15 l17.length c16)]) (M' := Mem w0 (Fz F W :: cs)) rfl (fun _ h => h) ?_
            refine oR [oF 5] [(3, vU x64), (0, vU root), (1, vI i12), (2, vI i13), (4, .slice A15 l17.length c16)] [3, 0, 1, 2, 4] (by kernel_rfl) ?_
            refine ops_nil ?_
            exact fin_join HJ5 x64 hp (look_has ⟨rfl, rfl, rfl, rfl, rfl, trivial⟩) (fun w_ hM => hM)
        · --
         have hp := cnd_f hc25 hp
         refine st_skip ?_
         exact fin_join HJ4 (i14, A15, c16, l17) ⟨hp, h18⟩ (look_has ⟨rfl, rfl, rfl, rfl, rfl, trivial⟩) (fun w_ hM => hM)
      · --
       have hp := cnd_f hc19 hp
       refine st_exit ?_
       refine fin_exit_then ?_
       refine fin_exit_then ?_
       refine fin_exit ?_
       obtain hq_ := Option.some.inj hp
       subst hq_
       obtain hq_ := hd3 _ rfl
       subst hq_
       have hp : (merkle_Verify_j1 root) i14 l17 = some t9001 := hk3
       exact fin_join HJ1 (i14, A15, c16, l17) ⟨hp, h18⟩ (look_has ⟨rfl, rfl, rfl, trivial⟩) (fun w_ hM => hM)
end Go.Proofs.Ytfihfbkjomploaa.X
