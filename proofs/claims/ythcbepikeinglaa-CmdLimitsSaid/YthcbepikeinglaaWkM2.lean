/- The Go functions come to what the plain functions tell. No condition. -/
import Derived.Test.YthcbepikeinglaaProg
import Derived.Test.YthcbepikeinglaaFnM
import Derived.Test.YthcbepikeinglaaWkM0
import Derived.Test.YthcbepikeinglaaWkM1
namespace Go.Proofs.Ythcbepikeinglaa.M
open Go Go.RowKit Go.Proofs.Ythcbepikeinglaa.Sx
set_option linter.unusedVariables false
set_option maxHeartbeats 4000000 in
set_option maxRecDepth 100000 in
theorem tourlaw3_pair_ok (w0 w : World) (cs : List Chunk) (F : Nat → Prop) (W : World) (hM0 : Mem w0 (Fz F W :: cs) w) (l9002 : List api_Kind) (l9006 : List Int) (l9010 : List api_Item) (hp : tourlaw3_pair = some (l9002, l9006, l9010)) : Calls Try.prog 19 #[] w fun e w' => ∃ (A9001 : Option Addr), ∃ (y9003 : List Value), ∃ (A9005 : Option Addr), ∃ (y9007 : List Value), ∃ (A9009 : Option Addr), ∃ (y9011 : List Value), ∃ (F9013 : Nat → Prop), ∃ (W9014 : World), ((RepL R_api_Kind F9013 W9014 l9002 y9003) ∧ (RepL (Rep.int .i64) F9013 W9014 l9006 y9007) ∧ (RepL R_api_Item F9013 W9014 l9010 y9011) ∧ (Ext w0 F W F9013 W9014)) ∧ e = .returned (.agg #[.slice A9001 l9002.length 2, .slice A9005 l9006.length 2, .slice A9009 l9010.length 2]) ∧ Mem w0 (orow A9001 l9002.length 2 176 2 y9003 :: orow A9005 l9006.length 2 3 1 y9007 :: orow A9009 l9010.length 2 58 3 y9011 :: Fz F9013 W9014 :: cs) w' := by
 unfold tourlaw3_pair at hp
 refine sx_calls Try.func19 rfl (n := 16) (by kernel_rfl) (l := []) rfl (by rfl) hM0 ?_
 refine st_seq ?_
 refine st_region [oF 0] (by rfl) ?_
 refine ops_new (d := some 0) (o := .cells #[.slice none 0 0, .slice none 0 0, .slice none 0 0] 49) (v := fun b1 => vP b1 0) (M' := fun b1 => Mem w0 (.blk b1 [.slice none 0 0, .slice none 0 0, .slice none 0 0] 49 :: Fz F W :: cs)) (fun b1 => ⟨by kernel_rfl⟩) (fun w_ hM hS => ⟨hM.blk [.slice none 0 0, .slice none 0 0, .slice none 0 0] 49, trivial⟩) (fun b1 => ?_)
 refine ops_nil ?_
 refine fin_then ?_
 refine st_seq ?_
 refine st_region [oF 0, oF 1, oF 2, oF 3, oF 4, oF 5, oF 6, oF 7, oF 8, oF 9, oF 10, oF 11, oF 12, oF 13, oF 14, oF 15] (by rfl) ?_
 obtain ⟨x2, hv3, hp⟩ := obind hp
 refine ops_callI (σ := (Option Addr) × (List Value) × (Nat → Prop) × World) (d := some 1) (f := 61) (args := #[]) (v := (fun x_ => match x_ with | (A4, y5, F6, W7) => .slice A4 x2.length 2)) (I := (fun x_ => match x_ with | (A4, y5, F6, W7) => (RepL R_api_Kind F6 W7 x2 y5) ∧ (Ext w0 F W F6 W7))) (M' := (fun x_ => match x_ with | (A4, y5, F6, W7) => Mem w0 (orow A4 x2.length 2 176 2 y5 :: .blk b1 [.slice none 0 0, .slice none 0 0, .slice none 0 0] 49 :: Fz F6 W7 :: cs))) ⟨by kernel_rfl⟩ (fun w_ hM hS => (tourlaw3_two_ok w0 w_ (.blk b1 [.slice none 0 0, .slice none 0 0, .slice none 0 0] 49 :: cs) F W  (hM.pick 2 [1, 0] (by kernel_rfl) (by decide) rfl)  x2 hv3).mono (by rintro e w' ⟨A4, y5, F6, W7, ⟨h8, h9⟩, rfl, h'⟩; have h' : Mem w0 (orow A4 x2.length 2 176 2 y5 :: .blk b1 [.slice none 0 0, .slice none 0 0, .slice none 0 0] 49 :: Fz F6 W7 :: cs) w' := (h'.pick 3 [0, 2, 1] (by kernel_rfl) (by decide) rfl); exact ⟨(A4, y5, F6, W7), ⟨h8, h9⟩, rfl, h', trivial⟩)) ?_
 rintro ⟨A4, y5, F6, W7⟩ ⟨h8, h9⟩
 refine ops_conv (l' := [(1, .slice A4 x2.length 2), (0, vP b1 0)]) (M' := Mem w0 (orow A4 x2.length 2 176 2 y5 :: .blk b1 [.slice none 0 0, .slice none 0 0, .slice none 0 0] 49 :: Fz F6 W7 :: cs)) rfl (fun _ h => h) ?_
 have h10 : RepL (Rep.int .i64) F6 W7 ([0, 2] : List Int) ([vI 0, vI 2]) := (RepL.cons (R := (Rep.int .i64)) (F := F6) (w := W7) (vs := [vI 0]) (ys := [vI 2]) rfl (RepL.cons (R := (Rep.int .i64)) (F := F6) (w := W7) (vs := [vI 2]) (ys := []) rfl RepL.nil))
 refine ops_new (d := some 2) (o := .cells ([vI 0, vI 2]).toArray 3) (v := fun g11 => .slice (some ⟨g11, 0, none⟩) ([0, 2] : List Int).length 2) (M' := fun g11 => Mem w0 (orow (some ⟨g11, 0, none⟩) ([0, 2] : List Int).length 2 3 1 ([vI 0, vI 2]) :: orow A4 x2.length 2 176 2 y5 :: .blk b1 [.slice none 0 0, .slice none 0 0, .slice none 0 0] 49 :: Fz F6 W7 :: cs)) (fun g11 => ⟨by kernel_rfl⟩) (fun w_ hM hS => ⟨hM.onew [vI 0, vI 2] 3 2 1 rfl (by decide), trivial⟩) (fun g11 => ?_)
 have h12 : RepL (Rep.int .i64) F6 W7 ([4] : List Int) ([vI 4]) := (RepL.cons (R := (Rep.int .i64)) (F := F6) (w := W7) (vs := [vI 4]) (ys := []) rfl RepL.nil)
 refine ops_new (d := some 3) (o := .cells ([vI 4]).toArray 3) (v := fun g13 => .slice (some ⟨g13, 0, none⟩) ([4] : List Int).length 1) (M' := fun g13 => Mem w0 (orow (some ⟨g13, 0, none⟩) ([4] : List Int).length 1 3 1 ([vI 4]) :: orow (some ⟨g11, 0, none⟩) ([0, 2] : List Int).length 2 3 1 ([vI 0, vI 2]) :: orow A4 x2.length 2 176 2 y5 :: .blk b1 [.slice none 0 0, .slice none 0 0, .slice none 0 0] 49 :: Fz F6 W7 :: cs)) (fun g13 => ⟨by kernel_rfl⟩) (fun w_ hM hS => ⟨hM.onew [vI 4] 3 1 1 rfl (by decide), trivial⟩) (fun g13 => ?_)
 refine oR [oF 3] [(4, .agg #[vI 0, .slice (some ⟨g13, 0, none⟩) ([4] : List Int).length 1]), (2, .slice (some ⟨g11, 0, none⟩) ([0, 2] : List Int).length 2), (1, .slice A4 x2.length 2), (0, vP b1 0)] [4, 2, 1, 0] (by kernel_rfl) ?_
 have h14 : RepL (Rep.int .i64) F6 W7 ([9] : List Int) ([vI 9]) := (RepL.cons (R := (Rep.int .i64)) (F := F6) (w := W7) (vs := [vI 9]) (ys := []) rfl RepL.nil)
 refine ops_new (d := some 5) (o := .cells ([vI 9]).toArray 3) (v := fun g15 => .slice (some ⟨g15, 0, none⟩) ([9] : List Int).length 1) (M' := fun g15 => Mem w0 (orow (some ⟨g15, 0, none⟩) ([9] : List Int).length 1 3 1 ([vI 9]) :: orow (some ⟨g13, 0, none⟩) ([4] : List Int).length 1 3 1 ([vI 4]) :: orow (some ⟨g11, 0, none⟩) ([0, 2] : List Int).length 2 3 1 ([vI 0, vI 2]) :: orow A4 x2.length 2 176 2 y5 :: .blk b1 [.slice none 0 0, .slice none 0 0, .slice none 0 0] 49 :: Fz F6 W7 :: cs)) (fun g15 => ⟨by kernel_rfl⟩) (fun w_ hM hS => ⟨hM.onew [vI 9] 3 1 1 rfl (by decide), trivial⟩) (fun g15 => ?_)
 refine oR [oF 5] [(6, .agg #[vI 1, .slice (some ⟨g15, 0, none⟩) ([9] : List Int).length 1]), (4, .agg #[vI 0, .slice (some ⟨g13, 0, none⟩) ([4] : List Int).length 1]), (2, .slice (some ⟨g11, 0, none⟩) ([0, 2] : List Int).length 2), (1, .slice A4 x2.length 2), (0, vP b1 0)] [6, 4, 2, 1, 0] (by kernel_rfl) ?_
 refine ops_ex (σ := (Nat → Prop) × World) (I := fun x_ => Ext w0 F6 W7 x_.1 x_.2 ∧ RdS (Rep.int .i64) x_.1 x_.2 (some ⟨g13, 0, none⟩) 1 ([4] : List Int)) (M' := fun x_ => Mem w0 (orow (some ⟨g15, 0, none⟩) ([9] : List Int).length 1 3 1 ([vI 9]) :: orow (some ⟨g11, 0, none⟩) ([0, 2] : List Int).length 2 3 1 ([vI 0, vI 2]) :: orow A4 x2.length 2 176 2 y5 :: .blk b1 [.slice none 0 0, .slice none 0 0, .slice none 0 0] 49 :: Fz x_.1 x_.2 :: cs)) (fun w_ hM => ?_) ?_
 · obtain ⟨F_, h1_, h2_, h3_⟩ := (hM.pick 6 [1, 5, 0, 2, 3, 4] (by kernel_rfl) (by decide) rfl : Mem w0 (orow (some ⟨g13, 0, none⟩) ([4] : List Int).length 1 3 1 ([vI 4]) :: Fz F6 W7 :: orow (some ⟨g15, 0, none⟩) ([9] : List Int).length 1 3 1 ([vI 9]) :: orow (some ⟨g11, 0, none⟩) ([0, 2] : List Int).length 2 3 1 ([vI 0, vI 2]) :: orow A4 x2.length 2 176 2 y5 :: .blk b1 [.slice none 0 0, .slice none 0 0, .slice none 0 0] 49 :: cs) w_).freeze (z := 1) h12 rfl rfl
   exact ⟨(F_, w_), ⟨h1_, h2_⟩, h3_.pick 5 [1, 2, 3, 4, 0] (by kernel_rfl) (by decide) rfl⟩
 rintro ⟨F16, W17⟩ ⟨hx18, h19⟩
 have hx18 : Ext w0 F6 W7 F16 W17 := hx18
 have h19 : RdS (Rep.int .i64) F16 W17 (some ⟨g13, 0, none⟩) 1 ([4] : List Int) := h19
 have h14 := h14.ext hx18
 have h10 := h10.ext hx18
 have h8 := h8.ext hx18
 refine ops_conv (l' := [(6, .agg #[vI 1, .slice (some ⟨g15, 0, none⟩) ([9] : List Int).length 1]), (4, .agg #[vI 0, .slice (some ⟨g13, 0, none⟩) ([4] : List Int).length 1]), (2, .slice (some ⟨g11, 0, none⟩) ([0, 2] : List Int).length 2), (1, .slice A4 x2.length 2), (0, vP b1 0)]) (M' := Mem w0 (orow (some ⟨g15, 0, none⟩) ([9] : List Int).length 1 3 1 ([vI 9]) :: orow (some ⟨g11, 0, none⟩) ([0, 2] : List Int).length 2 3 1 ([vI 0, vI 2]) :: orow A4 x2.length 2 176 2 y5 :: .blk b1 [.slice none 0 0, .slice none 0 0, .slice none 0 0] 49 :: Fz F16 W17 :: cs)) rfl (fun _ h => h) ?_
 refine ops_ex (σ := (Nat → Prop) × World) (I := fun x_ => Ext w0 F16 W17 x_.1 x_.2 ∧ RdS (Rep.int .i64) x_.1 x_.2 (some ⟨g15, 0, none⟩) 1 ([9] : List Int)) (M' := fun x_ => Mem w0 (orow (some ⟨g11, 0, none⟩) ([0, 2] : List Int).length 2 3 1 ([vI 0, vI 2]) :: orow A4 x2.length 2 176 2 y5 :: .blk b1 [.slice none 0 0, .slice none 0 0, .slice none 0 0] 49 :: Fz x_.1 x_.2 :: cs)) (fun w_ hM => ?_) ?_
 · obtain ⟨F_, h1_, h2_, h3_⟩ := (hM.pick 5 [0, 4, 1, 2, 3] (by kernel_rfl) (by decide) rfl : Mem w0 (orow (some ⟨g15, 0, none⟩) ([9] : List Int).length 1 3 1 ([vI 9]) :: Fz F16 W17 :: orow (some ⟨g11, 0, none⟩) ([0, 2] : List Int).length 2 3 1 ([vI 0, vI 2]) :: orow A4 x2.length 2 176 2 y5 :: .blk b1 [.slice none 0 0, .slice none 0 0, .slice none 0 0] 49 :: cs) w_).freeze (z := 1) h14 rfl rfl
   exact ⟨(F_, w_), ⟨h1_, h2_⟩, h3_.pick 4 [1, 2, 3, 0] (by kernel_rfl) (by decide) rfl⟩
 rintro ⟨F20, W21⟩ ⟨hx22, h23⟩
 have hx22 : Ext w0 F16 W17 F20 W21 := hx22
 have h23 : RdS (Rep.int .i64) F20 W21 (some ⟨g15, 0, none⟩) 1 ([9] : List Int) := h23
 have h19 := h19.ext hx22
 have h10 := h10.ext hx22
 have h8 := h8.ext hx22
 refine ops_conv (l' := [(6, .agg #[vI 1, .slice (some ⟨g15, 0, none⟩) ([9] : List Int).length 1]), (4, .agg #[vI 0, .slice (some ⟨g13, 0, none⟩) ([4] : List Int).length 1]), (2, .slice (some ⟨g11, 0, none⟩) ([0, 2] : List Int).length 2), (1, .slice A4 x2.length 2), (0, vP b1 0)]) (M' := Mem w0 (orow (some ⟨g11, 0, none⟩) ([0, 2] : List Int).length 2 3 1 ([vI 0, vI 2]) :: orow A4 x2.length 2 176 2 y5 :: .blk b1 [.slice none 0 0, .slice none 0 0, .slice none 0 0] 49 :: Fz F20 W21 :: cs)) rfl (fun _ h => h) ?_
 have h24 : RepL R_api_Comp F20 W21 ([(api_Comp.mk 0 ([4] : List Int)), (api_Comp.mk 1 ([9] : List Int))] : List api_Comp) ([vI 0, .slice (some ⟨g13, 0, none⟩) ([4] : List Int).length 1, vI 1, .slice (some ⟨g15, 0, none⟩) ([9] : List Int).length 1]) := (RepL.cons (R := R_api_Comp) (F := F20) (w := W21) (vs := [vI 0, .slice (some ⟨g13, 0, none⟩) ([4] : List Int).length 1]) (ys := [vI 1, .slice (some ⟨g15, 0, none⟩) ([9] : List Int).length 1]) (enc_api_Comp h19) (RepL.cons (R := R_api_Comp) (F := F20) (w := W21) (vs := [vI 1, .slice (some ⟨g15, 0, none⟩) ([9] : List Int).length 1]) (ys := []) (enc_api_Comp h23) RepL.nil))
 refine ops_new (d := some 7) (o := .cells ([vI 0, .slice (some ⟨g13, 0, none⟩) ([4] : List Int).length 1, vI 1, .slice (some ⟨g15, 0, none⟩) ([9] : List Int).length 1]).toArray 63) (v := fun g25 => .slice (some ⟨g25, 0, none⟩) ([(api_Comp.mk 0 ([4] : List Int)), (api_Comp.mk 1 ([9] : List Int))] : List api_Comp).length 2) (M' := fun g25 => Mem w0 (orow (some ⟨g25, 0, none⟩) ([(api_Comp.mk 0 ([4] : List Int)), (api_Comp.mk 1 ([9] : List Int))] : List api_Comp).length 2 63 2 ([vI 0, .slice (some ⟨g13, 0, none⟩) ([4] : List Int).length 1, vI 1, .slice (some ⟨g15, 0, none⟩) ([9] : List Int).length 1]) :: orow (some ⟨g11, 0, none⟩) ([0, 2] : List Int).length 2 3 1 ([vI 0, vI 2]) :: orow A4 x2.length 2 176 2 y5 :: .blk b1 [.slice none 0 0, .slice none 0 0, .slice none 0 0] 49 :: Fz F20 W21 :: cs)) (fun g25 => ⟨by kernel_rfl⟩) (fun w_ hM hS => ⟨hM.onew [vI 0, .slice (some ⟨g13, 0, none⟩) ([4] : List Int).length 1, vI 1, .slice (some ⟨g15, 0, none⟩) ([9] : List Int).length 1] 63 2 2 rfl (by decide), trivial⟩) (fun g25 => ?_)
 refine oR [oF 7, oF 8] [(9, .agg #[vI 1, vI 2]), (8, .agg #[vI 0, vI 0, .slice (some ⟨g25, 0, none⟩) ([(api_Comp.mk 0 ([4] : List Int)), (api_Comp.mk 1 ([9] : List Int))] : List api_Comp).length 2]), (2, .slice (some ⟨g11, 0, none⟩) ([0, 2] : List Int).length 2), (1, .slice A4 x2.length 2), (0, vP b1 0)] [9, 8, 2, 1, 0] (by kernel_rfl) ?_
 have h26 : RepL (Rep.int .i64) F20 W21 ([7] : List Int) ([vI 7]) := (RepL.cons (R := (Rep.int .i64)) (F := F20) (w := W21) (vs := [vI 7]) (ys := []) rfl RepL.nil)
 refine ops_new (d := some 10) (o := .cells ([vI 7]).toArray 3) (v := fun g27 => .slice (some ⟨g27, 0, none⟩) ([7] : List Int).length 1) (M' := fun g27 => Mem w0 (orow (some ⟨g27, 0, none⟩) ([7] : List Int).length 1 3 1 ([vI 7]) :: orow (some ⟨g25, 0, none⟩) ([(api_Comp.mk 0 ([4] : List Int)), (api_Comp.mk 1 ([9] : List Int))] : List api_Comp).length 2 63 2 ([vI 0, .slice (some ⟨g13, 0, none⟩) ([4] : List Int).length 1, vI 1, .slice (some ⟨g15, 0, none⟩) ([9] : List Int).length 1]) :: orow (some ⟨g11, 0, none⟩) ([0, 2] : List Int).length 2 3 1 ([vI 0, vI 2]) :: orow A4 x2.length 2 176 2 y5 :: .blk b1 [.slice none 0 0, .slice none 0 0, .slice none 0 0] 49 :: Fz F20 W21 :: cs)) (fun g27 => ⟨by kernel_rfl⟩) (fun w_ hM hS => ⟨hM.onew [vI 7] 3 1 1 rfl (by decide), trivial⟩) (fun g27 => ?_)
 refine oR [oF 10] [(11, .agg #[vI 1, .slice (some ⟨g27, 0, none⟩) ([7] : List Int).length 1]), (9, .agg #[vI 1, vI 2]), (8, .agg #[vI 0, vI 0, .slice (some ⟨g25, 0, none⟩) ([(api_Comp.mk 0 ([4] : List Int)), (api_Comp.mk 1 ([9] : List Int))] : List api_Comp).length 2]), (2, .slice (some ⟨g11, 0, none⟩) ([0, 2] : List Int).length 2), (1, .slice A4 x2.length 2), (0, vP b1 0)] [11, 9, 8, 2, 1, 0] (by kernel_rfl) ?_
 refine ops_ex (σ := (Nat → Prop) × World) (I := fun x_ => Ext w0 F20 W21 x_.1 x_.2 ∧ RdS (Rep.int .i64) x_.1 x_.2 (some ⟨g27, 0, none⟩) 1 ([7] : List Int)) (M' := fun x_ => Mem w0 (orow (some ⟨g25, 0, none⟩) ([(api_Comp.mk 0 ([4] : List Int)), (api_Comp.mk 1 ([9] : List Int))] : List api_Comp).length 2 63 2 ([vI 0, .slice (some ⟨g13, 0, none⟩) ([4] : List Int).length 1, vI 1, .slice (some ⟨g15, 0, none⟩) ([9] : List Int).length 1]) :: orow (some ⟨g11, 0, none⟩) ([0, 2] : List Int).length 2 3 1 ([vI 0, vI 2]) :: orow A4 x2.length 2 176 2 y5 :: .blk b1 [.slice none 0 0, .slice none 0 0, .slice none 0 0] 49 :: Fz x_.1 x_.2 :: cs)) (fun w_ hM => ?_) ?_
 · obtain ⟨F_, h1_, h2_, h3_⟩ := (hM.pick 6 [0, 5, 1, 2, 3, 4] (by kernel_rfl) (by decide) rfl : Mem w0 (orow (some ⟨g27, 0, none⟩) ([7] : List Int).length 1 3 1 ([vI 7]) :: Fz F20 W21 :: orow (some ⟨g25, 0, none⟩) ([(api_Comp.mk 0 ([4] : List Int)), (api_Comp.mk 1 ([9] : List Int))] : List api_Comp).length 2 63 2 ([vI 0, .slice (some ⟨g13, 0, none⟩) ([4] : List Int).length 1, vI 1, .slice (some ⟨g15, 0, none⟩) ([9] : List Int).length 1]) :: orow (some ⟨g11, 0, none⟩) ([0, 2] : List Int).length 2 3 1 ([vI 0, vI 2]) :: orow A4 x2.length 2 176 2 y5 :: .blk b1 [.slice none 0 0, .slice none 0 0, .slice none 0 0] 49 :: cs) w_).freeze (z := 1) h26 rfl rfl
   exact ⟨(F_, w_), ⟨h1_, h2_⟩, h3_.pick 5 [1, 2, 3, 4, 0] (by kernel_rfl) (by decide) rfl⟩
 rintro ⟨F28, W29⟩ ⟨hx30, h31⟩
 have hx30 : Ext w0 F20 W21 F28 W29 := hx30
 have h31 : RdS (Rep.int .i64) F28 W29 (some ⟨g27, 0, none⟩) 1 ([7] : List Int) := h31
 have h24 := h24.ext hx30
 have h10 := h10.ext hx30
 have h8 := h8.ext hx30
 refine ops_conv (l' := [(11, .agg #[vI 1, .slice (some ⟨g27, 0, none⟩) ([7] : List Int).length 1]), (9, .agg #[vI 1, vI 2]), (8, .agg #[vI 0, vI 0, .slice (some ⟨g25, 0, none⟩) ([(api_Comp.mk 0 ([4] : List Int)), (api_Comp.mk 1 ([9] : List Int))] : List api_Comp).length 2]), (2, .slice (some ⟨g11, 0, none⟩) ([0, 2] : List Int).length 2), (1, .slice A4 x2.length 2), (0, vP b1 0)]) (M' := Mem w0 (orow (some ⟨g25, 0, none⟩) ([(api_Comp.mk 0 ([4] : List Int)), (api_Comp.mk 1 ([9] : List Int))] : List api_Comp).length 2 63 2 ([vI 0, .slice (some ⟨g13, 0, none⟩) ([4] : List Int).length 1, vI 1, .slice (some ⟨g15, 0, none⟩) ([9] : List Int).length 1]) :: orow (some ⟨g11, 0, none⟩) ([0, 2] : List Int).length 2 3 1 ([vI 0, vI 2]) :: orow A4 x2.length 2 176 2 y5 :: .blk b1 [.slice none 0 0, .slice none 0 0, .slice none 0 0] 49 :: Fz F28 W29 :: cs)) rfl (fun _ h => h) ?_
 have h32 : RepL R_api_Comp F28 W29 ([(api_Comp.mk 1 ([7] : List Int))] : List api_Comp) ([vI 1, .slice (some ⟨g27, 0, none⟩) ([7] : List Int).length 1]) := (RepL.cons (R := R_api_Comp) (F := F28) (w := W29) (vs := [vI 1, .slice (some ⟨g27, 0, none⟩) ([7] : List Int).length 1]) (ys := []) (enc_api_Comp h31) RepL.nil)
 refine ops_new (d := some 12) (o := .cells ([vI 1, .slice (some ⟨g27, 0, none⟩) ([7] : List Int).length 1]).toArray 63) (v := fun g33 => .slice (some ⟨g33, 0, none⟩) ([(api_Comp.mk 1 ([7] : List Int))] : List api_Comp).length 1) (M' := fun g33 => Mem w0 (orow (some ⟨g33, 0, none⟩) ([(api_Comp.mk 1 ([7] : List Int))] : List api_Comp).length 1 63 2 ([vI 1, .slice (some ⟨g27, 0, none⟩) ([7] : List Int).length 1]) :: orow (some ⟨g25, 0, none⟩) ([(api_Comp.mk 0 ([4] : List Int)), (api_Comp.mk 1 ([9] : List Int))] : List api_Comp).length 2 63 2 ([vI 0, .slice (some ⟨g13, 0, none⟩) ([4] : List Int).length 1, vI 1, .slice (some ⟨g15, 0, none⟩) ([9] : List Int).length 1]) :: orow (some ⟨g11, 0, none⟩) ([0, 2] : List Int).length 2 3 1 ([vI 0, vI 2]) :: orow A4 x2.length 2 176 2 y5 :: .blk b1 [.slice none 0 0, .slice none 0 0, .slice none 0 0] 49 :: Fz F28 W29 :: cs)) (fun g33 => ⟨by kernel_rfl⟩) (fun w_ hM hS => ⟨hM.onew [vI 1, .slice (some ⟨g27, 0, none⟩) ([7] : List Int).length 1] 63 1 2 rfl (by decide), trivial⟩) (fun g33 => ?_)
 refine oR [oF 12] [(13, .agg #[vI 1, vI 2, .slice (some ⟨g33, 0, none⟩) ([(api_Comp.mk 1 ([7] : List Int))] : List api_Comp).length 1]), (8, .agg #[vI 0, vI 0, .slice (some ⟨g25, 0, none⟩) ([(api_Comp.mk 0 ([4] : List Int)), (api_Comp.mk 1 ([9] : List Int))] : List api_Comp).length 2]), (2, .slice (some ⟨g11, 0, none⟩) ([0, 2] : List Int).length 2), (1, .slice A4 x2.length 2), (0, vP b1 0)] [13, 8, 2, 1, 0] (by kernel_rfl) ?_
 refine ops_ex (σ := (Nat → Prop) × World) (I := fun x_ => Ext w0 F28 W29 x_.1 x_.2 ∧ RdS R_api_Comp x_.1 x_.2 (some ⟨g25, 0, none⟩) 2 ([(api_Comp.mk 0 ([4] : List Int)), (api_Comp.mk 1 ([9] : List Int))] : List api_Comp)) (M' := fun x_ => Mem w0 (orow (some ⟨g33, 0, none⟩) ([(api_Comp.mk 1 ([7] : List Int))] : List api_Comp).length 1 63 2 ([vI 1, .slice (some ⟨g27, 0, none⟩) ([7] : List Int).length 1]) :: orow (some ⟨g11, 0, none⟩) ([0, 2] : List Int).length 2 3 1 ([vI 0, vI 2]) :: orow A4 x2.length 2 176 2 y5 :: .blk b1 [.slice none 0 0, .slice none 0 0, .slice none 0 0] 49 :: Fz x_.1 x_.2 :: cs)) (fun w_ hM => ?_) ?_
 · obtain ⟨F_, h1_, h2_, h3_⟩ := (hM.pick 6 [1, 5, 0, 2, 3, 4] (by kernel_rfl) (by decide) rfl : Mem w0 (orow (some ⟨g25, 0, none⟩) ([(api_Comp.mk 0 ([4] : List Int)), (api_Comp.mk 1 ([9] : List Int))] : List api_Comp).length 2 63 2 ([vI 0, .slice (some ⟨g13, 0, none⟩) ([4] : List Int).length 1, vI 1, .slice (some ⟨g15, 0, none⟩) ([9] : List Int).length 1]) :: Fz F28 W29 :: orow (some ⟨g33, 0, none⟩) ([(api_Comp.mk 1 ([7] : List Int))] : List api_Comp).length 1 63 2 ([vI 1, .slice (some ⟨g27, 0, none⟩) ([7] : List Int).length 1]) :: orow (some ⟨g11, 0, none⟩) ([0, 2] : List Int).length 2 3 1 ([vI 0, vI 2]) :: orow A4 x2.length 2 176 2 y5 :: .blk b1 [.slice none 0 0, .slice none 0 0, .slice none 0 0] 49 :: cs) w_).freeze (z := 2) h24 rfl rfl
   exact ⟨(F_, w_), ⟨h1_, h2_⟩, h3_.pick 5 [1, 2, 3, 4, 0] (by kernel_rfl) (by decide) rfl⟩
 rintro ⟨F34, W35⟩ ⟨hx36, h37⟩
 have hx36 : Ext w0 F28 W29 F34 W35 := hx36
 have h37 : RdS R_api_Comp F34 W35 (some ⟨g25, 0, none⟩) 2 ([(api_Comp.mk 0 ([4] : List Int)), (api_Comp.mk 1 ([9] : List Int))] : List api_Comp) := h37
 have h32 := h32.ext hx36
 have h10 := h10.ext hx36
 have h8 := h8.ext hx36
 refine ops_conv (l' := [(13, .agg #[vI 1, vI 2, .slice (some ⟨g33, 0, none⟩) ([(api_Comp.mk 1 ([7] : List Int))] : List api_Comp).length 1]), (8, .agg #[vI 0, vI 0, .slice (some ⟨g25, 0, none⟩) ([(api_Comp.mk 0 ([4] : List Int)), (api_Comp.mk 1 ([9] : List Int))] : List api_Comp).length 2]), (2, .slice (some ⟨g11, 0, none⟩) ([0, 2] : List Int).length 2), (1, .slice A4 x2.length 2), (0, vP b1 0)]) (M' := Mem w0 (orow (some ⟨g33, 0, none⟩) ([(api_Comp.mk 1 ([7] : List Int))] : List api_Comp).length 1 63 2 ([vI 1, .slice (some ⟨g27, 0, none⟩) ([7] : List Int).length 1]) :: orow (some ⟨g11, 0, none⟩) ([0, 2] : List Int).length 2 3 1 ([vI 0, vI 2]) :: orow A4 x2.length 2 176 2 y5 :: .blk b1 [.slice none 0 0, .slice none 0 0, .slice none 0 0] 49 :: Fz F34 W35 :: cs)) rfl (fun _ h => h) ?_
 refine ops_ex (σ := (Nat → Prop) × World) (I := fun x_ => Ext w0 F34 W35 x_.1 x_.2 ∧ RdS R_api_Comp x_.1 x_.2 (some ⟨g33, 0, none⟩) 1 ([(api_Comp.mk 1 ([7] : List Int))] : List api_Comp)) (M' := fun x_ => Mem w0 (orow (some ⟨g11, 0, none⟩) ([0, 2] : List Int).length 2 3 1 ([vI 0, vI 2]) :: orow A4 x2.length 2 176 2 y5 :: .blk b1 [.slice none 0 0, .slice none 0 0, .slice none 0 0] 49 :: Fz x_.1 x_.2 :: cs)) (fun w_ hM => ?_) ?_
 · obtain ⟨F_, h1_, h2_, h3_⟩ := (hM.pick 5 [0, 4, 1, 2, 3] (by kernel_rfl) (by decide) rfl : Mem w0 (orow (some ⟨g33, 0, none⟩) ([(api_Comp.mk 1 ([7] : List Int))] : List api_Comp).length 1 63 2 ([vI 1, .slice (some ⟨g27, 0, none⟩) ([7] : List Int).length 1]) :: Fz F34 W35 :: orow (some ⟨g11, 0, none⟩) ([0, 2] : List Int).length 2 3 1 ([vI 0, vI 2]) :: orow A4 x2.length 2 176 2 y5 :: .blk b1 [.slice none 0 0, .slice none 0 0, .slice none 0 0] 49 :: cs) w_).freeze (z := 2) h32 rfl rfl
   exact ⟨(F_, w_), ⟨h1_, h2_⟩, h3_.pick 4 [1, 2, 3, 0] (by kernel_rfl) (by decide) rfl⟩
 rintro ⟨F38, W39⟩ ⟨hx40, h41⟩
 have hx40 : Ext w0 F34 W35 F38 W39 := hx40
 have h41 : RdS R_api_Comp F38 W39 (some ⟨g33, 0, none⟩) 1 ([(api_Comp.mk 1 ([7] : List Int))] : List api_Comp) := h41
 have h37 := h37.ext hx40
 have h10 := h10.ext hx40
 have h8 := h8.ext hx40
 refine ops_conv (l' := [(13, .agg #[vI 1, vI 2, .slice (some ⟨g33, 0, none⟩) ([(api_Comp.mk 1 ([7] : List Int))] : List api_Comp).length 1]), (8, .agg #[vI 0, vI 0, .slice (some ⟨g25, 0, none⟩) ([(api_Comp.mk 0 ([4] : List Int)), (api_Comp.mk 1 ([9] : List Int))] : List api_Comp).length 2]), (2, .slice (some ⟨g11, 0, none⟩) ([0, 2] : List Int).length 2), (1, .slice A4 x2.length 2), (0, vP b1 0)]) (M' := Mem w0 (orow (some ⟨g11, 0, none⟩) ([0, 2] : List Int).length 2 3 1 ([vI 0, vI 2]) :: orow A4 x2.length 2 176 2 y5 :: .blk b1 [.slice none 0 0, .slice none 0 0, .slice none 0 0] 49 :: Fz F38 W39 :: cs)) rfl (fun _ h => h) ?_
 have h42 : RepL R_api_Item F38 W39 ([(api_Item.mk (api_Ent.mk 0 0) ([(api_Comp.mk 0 ([4] : List Int)), (api_Comp.mk 1 ([9] : List Int))] : List api_Comp)), (api_Item.mk (api_Ent.mk 1 2) ([(api_Comp.mk 1 ([7] : List Int))] : List api_Comp))] : List api_Item) ([vI 0, vI 0, .slice (some ⟨g25, 0, none⟩) ([(api_Comp.mk 0 ([4] : List Int)), (api_Comp.mk 1 ([9] : List Int))] : List api_Comp).length 2, vI 1, vI 2, .slice (some ⟨g33, 0, none⟩) ([(api_Comp.mk 1 ([7] : List Int))] : List api_Comp).length 1]) := (RepL.cons (R := R_api_Item) (F := F38) (w := W39) (vs := [vI 0, vI 0, .slice (some ⟨g25, 0, none⟩) ([(api_Comp.mk 0 ([4] : List Int)), (api_Comp.mk 1 ([9] : List Int))] : List api_Comp).length 2]) (ys := [vI 1, vI 2, .slice (some ⟨g33, 0, none⟩) ([(api_Comp.mk 1 ([7] : List Int))] : List api_Comp).length 1]) (enc_api_Item h37) (RepL.cons (R := R_api_Item) (F := F38) (w := W39) (vs := [vI 1, vI 2, .slice (some ⟨g33, 0, none⟩) ([(api_Comp.mk 1 ([7] : List Int))] : List api_Comp).length 1]) (ys := []) (enc_api_Item h41) RepL.nil))
 refine ops_new (d := some 14) (o := .cells ([vI 0, vI 0, .slice (some ⟨g25, 0, none⟩) ([(api_Comp.mk 0 ([4] : List Int)), (api_Comp.mk 1 ([9] : List Int))] : List api_Comp).length 2, vI 1, vI 2, .slice (some ⟨g33, 0, none⟩) ([(api_Comp.mk 1 ([7] : List Int))] : List api_Comp).length 1]).toArray 58) (v := fun g43 => .slice (some ⟨g43, 0, none⟩) ([(api_Item.mk (api_Ent.mk 0 0) ([(api_Comp.mk 0 ([4] : List Int)), (api_Comp.mk 1 ([9] : List Int))] : List api_Comp)), (api_Item.mk (api_Ent.mk 1 2) ([(api_Comp.mk 1 ([7] : List Int))] : List api_Comp))] : List api_Item).length 2) (M' := fun g43 => Mem w0 (orow (some ⟨g43, 0, none⟩) ([(api_Item.mk (api_Ent.mk 0 0) ([(api_Comp.mk 0 ([4] : List Int)), (api_Comp.mk 1 ([9] : List Int))] : List api_Comp)), (api_Item.mk (api_Ent.mk 1 2) ([(api_Comp.mk 1 ([7] : List Int))] : List api_Comp))] : List api_Item).length 2 58 3 ([vI 0, vI 0, .slice (some ⟨g25, 0, none⟩) ([(api_Comp.mk 0 ([4] : List Int)), (api_Comp.mk 1 ([9] : List Int))] : List api_Comp).length 2, vI 1, vI 2, .slice (some ⟨g33, 0, none⟩) ([(api_Comp.mk 1 ([7] : List Int))] : List api_Comp).length 1]) :: orow (some ⟨g11, 0, none⟩) ([0, 2] : List Int).length 2 3 1 ([vI 0, vI 2]) :: orow A4 x2.length 2 176 2 y5 :: .blk b1 [.slice none 0 0, .slice none 0 0, .slice none 0 0] 49 :: Fz F38 W39 :: cs)) (fun g43 => ⟨by kernel_rfl⟩) (fun w_ hM hS => ⟨hM.onew [vI 0, vI 0, .slice (some ⟨g25, 0, none⟩) ([(api_Comp.mk 0 ([4] : List Int)), (api_Comp.mk 1 ([9] : List Int))] : List api_Comp).length 2, vI 1, vI 2, .slice (some ⟨g33, 0, none⟩) ([(api_Comp.mk 1 ([7] : List Int))] : List api_Comp).length 1] 58 2 3 rfl (by decide), trivial⟩) (fun g43 => ?_)
 refine oR [oF 14] [(15, .agg #[.slice A4 x2.length 2, .slice (some ⟨g11, 0, none⟩) ([0, 2] : List Int).length 2, .slice (some ⟨g43, 0, none⟩) ([(api_Item.mk (api_Ent.mk 0 0) ([(api_Comp.mk 0 ([4] : List Int)), (api_Comp.mk 1 ([9] : List Int))] : List api_Comp)), (api_Item.mk (api_Ent.mk 1 2) ([(api_Comp.mk 1 ([7] : List Int))] : List api_Comp))] : List api_Item).length 2]), (0, vP b1 0)] [15, 0] (by kernel_rfl) ?_
 refine ops_store (an := []) (evs := [.store ⟨b1, 0, none⟩ (.slice A4 x2.length 2), .store ⟨b1, 1, none⟩ (.slice (some ⟨g11, 0, none⟩) ([0, 2] : List Int).length 2), .store ⟨b1, 2, none⟩ (.slice (some ⟨g43, 0, none⟩) ([(api_Item.mk (api_Ent.mk 0 0) ([(api_Comp.mk 0 ([4] : List Int)), (api_Comp.mk 1 ([9] : List Int))] : List api_Comp)), (api_Item.mk (api_Ent.mk 1 2) ([(api_Comp.mk 1 ([7] : List Int))] : List api_Comp))] : List api_Item).length 2)]) (M' := Mem w0 (orow (some ⟨g43, 0, none⟩) ([(api_Item.mk (api_Ent.mk 0 0) ([(api_Comp.mk 0 ([4] : List Int)), (api_Comp.mk 1 ([9] : List Int))] : List api_Comp)), (api_Item.mk (api_Ent.mk 1 2) ([(api_Comp.mk 1 ([7] : List Int))] : List api_Comp))] : List api_Item).length 2 58 3 ([vI 0, vI 0, .slice (some ⟨g25, 0, none⟩) ([(api_Comp.mk 0 ([4] : List Int)), (api_Comp.mk 1 ([9] : List Int))] : List api_Comp).length 2, vI 1, vI 2, .slice (some ⟨g33, 0, none⟩) ([(api_Comp.mk 1 ([7] : List Int))] : List api_Comp).length 1]) :: orow (some ⟨g11, 0, none⟩) ([0, 2] : List Int).length 2 3 1 ([vI 0, vI 2]) :: orow A4 x2.length 2 176 2 y5 :: .blk b1 [.slice A4 x2.length 2, .slice (some ⟨g11, 0, none⟩) ([0, 2] : List Int).length 2, .slice (some ⟨g43, 0, none⟩) ([(api_Item.mk (api_Ent.mk 0 0) ([(api_Comp.mk 0 ([4] : List Int)), (api_Comp.mk 1 ([9] : List Int))] : List api_Comp)), (api_Item.mk (api_Ent.mk 1 2) ([(api_Comp.mk 1 ([7] : List Int))] : List api_Comp))] : List api_Item).length 2] 49 :: Fz F38 W39 :: cs)) ⟨by kernel_rfl⟩ (fun w_ hM hS => let ⟨w', he, h'⟩ := hM.evs_stores [.slice A4 x2.length 2, .slice (some ⟨g11, 0, none⟩) ([0, 2] : List Int).length 2, .slice (some ⟨g43, 0, none⟩) ([(api_Item.mk (api_Ent.mk 0 0) ([(api_Comp.mk 0 ([4] : List Int)), (api_Comp.mk 1 ([9] : List Int))] : List api_Comp)), (api_Item.mk (api_Ent.mk 1 2) ([(api_Comp.mk 1 ([7] : List Int))] : List api_Comp))] : List api_Item).length 2] 3 rfl 0 (Nat.le_of_ble_eq_true rfl); ⟨w', he, h', trivial⟩) ?_
 refine oR [] [(0, vP b1 0)] [0] (by kernel_rfl) ?_
 refine ops_nil ?_
 refine fin_then ?_
 refine st_ret ?_
 have hq_ := Option.some.inj hp
 obtain ⟨hr0_, hq_⟩ := Prod.mk.inj hq_
 obtain ⟨hr1_, hq_⟩ := Prod.mk.inj hq_
 have hr2_ := hq_
 subst hr0_
 subst hr1_
 subst hr2_
 refine fin_ret [.cell 0 49] [.agg #[.slice A4 x2.length 2, .slice (some ⟨g11, 0, none⟩) ([0, 2] : List Int).length 2, .slice (some ⟨g43, 0, none⟩) ([(api_Item.mk (api_Ent.mk 0 0) ([(api_Comp.mk 0 ([4] : List Int)), (api_Comp.mk 1 ([9] : List Int))] : List api_Comp)), (api_Item.mk (api_Ent.mk 1 2) ([(api_Comp.mk 1 ([7] : List Int))] : List api_Comp))] : List api_Item).length 2]] rfl rfl (fun w_ hM => (.cell rfl (tr_run _ [.v (.slice A4 x2.length 2), .v (.slice (some ⟨g11, 0, none⟩) ([0, 2] : List Int).length 2), .v (.slice (some ⟨g43, 0, none⟩) ([(api_Item.mk (api_Ent.mk 0 0) ([(api_Comp.mk 0 ([4] : List Int)), (api_Comp.mk 1 ([9] : List Int))] : List api_Comp)), (api_Item.mk (api_Ent.mk 1 2) ([(api_Comp.mk 1 ([7] : List Int))] : List api_Comp))] : List api_Item).length 2)] [.load ⟨b1, 0, none⟩ (.slice A4 x2.length 2), .load ⟨b1, 1, none⟩ (.slice (some ⟨g11, 0, none⟩) ([0, 2] : List Int).length 2), .load ⟨b1, 2, none⟩ (.slice (some ⟨g43, 0, none⟩) ([(api_Item.mk (api_Ent.mk 0 0) ([(api_Comp.mk 0 ([4] : List Int)), (api_Comp.mk 1 ([9] : List Int))] : List api_Comp)), (api_Item.mk (api_Ent.mk 1 2) ([(api_Comp.mk 1 ([7] : List Int))] : List api_Comp))] : List api_Item).length 2)] (.agg #[.slice A4 x2.length 2, .slice (some ⟨g11, 0, none⟩) ([0, 2] : List Int).length 2, .slice (some ⟨g43, 0, none⟩) ([(api_Item.mk (api_Ent.mk 0 0) ([(api_Comp.mk 0 ([4] : List Int)), (api_Comp.mk 1 ([9] : List Int))] : List api_Comp)), (api_Item.mk (api_Ent.mk 1 2) ([(api_Comp.mk 1 ([7] : List Int))] : List api_Comp))] : List api_Item).length 2] : Value) _ _ (by kernel_rfl) ⟨hM.cell 3 rfl rfl, hM.cell 3 rfl rfl, hM.cell 3 rfl rfl, rfl⟩) .nil)) (fun w_ hM => ?_)
 exact ⟨A4, y5, (some ⟨g11, 0, none⟩), ([vI 0, vI 2]), (some ⟨g43, 0, none⟩), ([vI 0, vI 0, .slice (some ⟨g25, 0, none⟩) ([(api_Comp.mk 0 ([4] : List Int)), (api_Comp.mk 1 ([9] : List Int))] : List api_Comp).length 2, vI 1, vI 2, .slice (some ⟨g33, 0, none⟩) ([(api_Comp.mk 1 ([7] : List Int))] : List api_Comp).length 1]), F38, W39, ⟨h8, h10, h42, (((((h9.trans hx18).trans hx22).trans hx30).trans hx36).trans hx40)⟩, rfl, hM.pick 5 [2, 1, 0, 4] (by kernel_rfl) (by decide) rfl⟩
set_option maxHeartbeats 4000000 in
set_option maxRecDepth 100000 in
theorem slices_Concat_api_Cmd_api_Cmd_ok (w0 w : World) (cs : List Chunk) (F : Nat → Prop) (W : World) (A_slices : Option Addr) (c_slices : Nat) (slices : List (List api_Cmd)) (hM0 : Mem w0 (Fz F W :: cs) w) (h_slices : RdS (Rep.sl R_api_Cmd) F W A_slices c_slices slices) (l9003 : List api_Cmd) (hp : slices_Concat_api_Cmd_api_Cmd slices = some l9003) : Calls Try.prog 12 #[.slice A_slices slices.length c_slices] w fun e w' => ∃ (A9001 : Option Addr), ∃ (c9002 : Nat), ∃ (y9004 : List Value), ((RepL R_api_Cmd F W l9003 y9004)) ∧ e = .returned (.slice A9001 l9003.length c9002) ∧ Mem w0 (orow A9001 l9003.length c9002 27 5 y9004 :: Fz F W :: cs) w' := by
 unfold slices_Concat_api_Cmd_api_Cmd at hp
 refine sx_calls Try.func12 rfl (n := 36) (by kernel_rfl) (l := [(0, .slice A_slices slices.length c_slices)]) rfl (by rfl) hM0 ?_
 refine st_seq ?_
 refine st_region [oF 0] (by rfl) ?_
 refine oR [oF 0] [(0, .slice A_slices slices.length c_slices)] [0] (by kernel_rfl) ?_
 refine ops_nil ?_
 refine fin_then ?_
 refine st_seq ?_
 refine st_region [oF 0] (by rfl) ?_
 refine oR [oF 0] [(3, vI 0), (0, .slice A_slices slices.length c_slices)] [3, 0] (by kernel_rfl) ?_
 refine ops_nil ?_
 refine fin_then ?_
 refine st_join1 (σ := Int) (L := fun x_ => match x_ with | i1 => [(0, .slice A_slices slices.length c_slices), (3, vI i1)]) (N := fun x_ => match x_ with | i1 => Mem w0 (Fz F W :: cs)) (I := fun x_ => match x_ with | i1 => ((slices_Concat_api_Cmd_api_Cmd_j1 slices) i1 = some l9003)) ?_ ?_
 · --
  rintro i1 hp
  refine st_conv (l' := [(0, .slice A_slices slices.length c_slices), (3, vI i1)]) (M' := Mem w0 (Fz F W :: cs)) rfl (fun _ h => h) ?_
  unfold slices_Concat_api_Cmd_api_Cmd_j1 at hp
  refine st_seq ?_
  refine st_region [oF 0, oF 1, oF 2] (by rfl) ?_
  refine oR [oF 0] [(23, vI i1), (0, .slice A_slices slices.length c_slices)] [23, 0] (by kernel_rfl) ?_
  obtain ⟨x2, hv3, hp⟩ := obind hp
  refine ops_callI (σ := (Option Addr) × Nat × (List Value)) (d := some 24) (f := 58) (args := #[.slice none 0 0, vI i1]) (v := (fun x_ => match x_ with | (A4, c5, y6) => .slice A4 x2.length c5)) (I := (fun x_ => match x_ with | (A4, c5, y6) => (RepL R_api_Cmd F W x2 y6))) (M' := (fun x_ => match x_ with | (A4, c5, y6) => Mem w0 (orow A4 x2.length c5 27 5 y6 :: Fz F W :: cs))) ⟨by kernel_rfl⟩ (fun w_ hM hS => (slices_Grow_api_Cmd_api_Cmd_ok w0 w_ (cs) F W i1 hM  x2 hv3).mono (by rintro e w' ⟨A4, c5, y6, h7, rfl, h'⟩; have h' : Mem w0 (orow A4 x2.length c5 27 5 y6 :: Fz F W :: cs) w' := h'; exact ⟨(A4, c5, y6), h7, rfl, h', trivial⟩)) ?_
  rintro ⟨A4, c5, y6⟩ h7
  refine ops_conv (l' := [(24, .slice A4 x2.length c5), (23, vI i1), (0, .slice A_slices slices.length c_slices)]) (M' := Mem w0 (orow A4 x2.length c5 27 5 y6 :: Fz F W :: cs)) rfl (fun _ h => h) ?_
  refine oR [oF 2] [(6, .slice A4 x2.length c5), (0, .slice A_slices slices.length c_slices)] [6, 0] (by kernel_rfl) ?_
  refine ops_nil ?_
  refine fin_then ?_
  refine st_join1 (σ := (Option Addr) × Nat × (List api_Cmd) × (List Value)) (L := fun x_ => match x_ with | (A8, c9, l10, y11) => [(6, .slice A8 l10.length c9)]) (N := fun x_ => match x_ with | (A8, c9, l10, y11) => Mem w0 (orow A8 l10.length c9 27 5 y11 :: Fz F W :: cs)) (I := fun x_ => match x_ with | (A8, c9, l10, y11) => (slices_Concat_api_Cmd_api_Cmd_j2 l10 = some l9003) ∧ (RepL R_api_Cmd F W l10 y11)) ?_ ?_
  · --
   rintro ⟨A8, c9, l10, y11⟩ ⟨hp, h12⟩
   refine st_conv (l' := [(6, .slice A8 l10.length c9)]) (M' := Mem w0 (orow A8 l10.length c9 27 5 y11 :: Fz F W :: cs)) rfl (fun _ h => h) ?_
   unfold slices_Concat_api_Cmd_api_Cmd_j2 at hp
   refine st_seq ?_
   refine st_region [oF 0, oF 1] (by rfl) ?_
   refine oR [oF 0, oF 1] [(2, .slice A8 l10.length c9)] [2] (by kernel_rfl) ?_
   refine ops_nil ?_
   refine fin_then ?_
   refine st_ret ?_
   have hq_ := Option.some.inj hp
   have hr0_ := hq_
   subst hr0_
   refine fin_ret [.tmp 2] [.slice A8 l10.length c9] rfl rfl (fun w_ hM => (.tmp rfl .nil)) (fun w_ hM => ?_)
   exact ⟨A8, c9, y11, h12, rfl, hM⟩
  · --
   intro HJ2
   refine st_seq ?_
   refine st_seq ?_
   refine st_region [oF 0, oF 1, oF 2] (by rfl) ?_
   refine oR [oF 0, oF 1, oF 2] [(27, vI 0), (26, vI (slices.length : Int)), (25, .slice A_slices slices.length c_slices), (6, .slice A4 x2.length c5)] [27, 26, 25, 6] (by kernel_rfl) ?_
   refine ops_nil ?_
   refine fin_then ?_
   refine st_block ?_
   obtain ⟨r3, hl3, hk3⟩ := obind hp
   refine st_loopP (σ := (List api_Cmd) × Int) (ρ := (List api_Cmd)) (γ := (Option Addr) × Nat × (List Value)) hl3 (A4, c5, y6) (fun s_ g_ => match s_, g_ with | (l15, i18), (A13, c14, y16) => [(6, .slice A13 l15.length c14), (25, .slice A_slices slices.length c_slices), (26, vI (slices.length : Int)), (27, vI i18)]) (fun s_ g_ => match s_, g_ with | (l15, i18), (A13, c14, y16) => Mem w0 (orow A13 l15.length c14 27 5 y16 :: Fz F W :: cs)) (fun s_ g_ => match s_, g_ with | (l15, i18), (A13, c14, y16) => (RepL R_api_Cmd F W l15 y16)) h7 (look_has ⟨rfl, rfl, rfl, rfl, trivial⟩) (fun w_ hM => hM) ?_
   rintro ⟨l15, i18⟩ ⟨A13, c14, y16⟩ o3 h17 hs_ hd3
   have hp : (slices_Concat_api_Cmd_api_Cmd_l3 slices) l15 i18 = some o3 := hs_
   clear hs_
   unfold slices_Concat_api_Cmd_api_Cmd_l3 at hp
   refine st_conv (l' := [(6, .slice A13 l15.length c14), (25, .slice A_slices slices.length c_slices), (26, vI (slices.length : Int)), (27, vI i18)]) (M' := Mem w0 (orow A13 l15.length c14 27 5 y16 :: Fz F W :: cs)) rfl (fun _ h => h) ?_
   refine st_seq ?_
   refine st_region [oF 0] (by rfl) ?_
   refine oR [oF 0] [(28, .bool (decide (i18 < (slices.length : Int)))), (6, .slice A13 l15.length c14), (25, .slice A_slices slices.length c_slices), (26, vI (slices.length : Int)), (27, vI i18)] [28, 6, 25, 26, 27] (by kernel_rfl) ?_
   refine ops_nil ?_
   refine fin_then ?_
   refine st_seq ?_
   refine st_if (b := decide (i18 < (slices.length : Int))) rfl (fun hc19 => ?_) (fun hc19 => ?_)
   · --
    have hp := cnd_t hc19 hp
    refine st_skip ?_
    refine fin_then ?_
    refine st_seq ?_
    refine st_block ?_
    refine st_seq ?_
    refine st_region [oF 0, oF 1, oF 2] (by rfl) ?_
    refine oR [] [(6, .slice A13 l15.length c14), (25, .slice A_slices slices.length c_slices), (26, vI (slices.length : Int)), (27, vI i18)] [6, 25, 26, 27] (by kernel_rfl) ?_
    obtain ⟨x20, hv21, hp⟩ := obind hp
    obtain ⟨m22, hm23, hx24⟩ := idx_some hv21
    have hl27 := (List.getElem?_eq_some_iff.1 hx24).1
    obtain ⟨ad28, vs25, hA29, hr26, hq30⟩ := RdS.el h_slices hx24
    obtain ⟨A31, c32, rfl, h33⟩ := hr26
    refine ops_val (op := (Go.Op.indexAddr 22 (Go.Operand.tmp 25) (Go.Operand.tmp 27))) (d := some 29) (v := .pointer (some (ad28.add (m22 * 1)))) ⟨by kernel_rfl⟩ (run_indexA hA29 Try.underlying22 (z := 1) (by kernel_rfl) rfl rfl hm23 hl27) ?_
    refine ops_mem (d := some 30) (an := [.v (.slice A31 x20.length c32)]) (evs := [.load (ad28.add (m22 * 1)) (.slice A31 x20.length c32)]) (v := .slice A31 x20.length c32) (M' := Mem w0 (orow A13 l15.length c14 27 5 y16 :: Fz F W :: cs)) ⟨by kernel_rfl⟩ (fun w_ hM hS => ⟨w_, ⟨hM.elcell 1 rfl hq30 0 rfl, rfl⟩, hM, trivial⟩) ?_
    refine oR [oF 2] [(8, .slice A31 x20.length c32), (6, .slice A13 l15.length c14), (25, .slice A_slices slices.length c_slices), (26, vI (slices.length : Int)), (27, vI i18)] [8, 6, 25, 26, 27] (by kernel_rfl) ?_
    refine ops_nil ?_
    refine fin_then ?_
    refine st_region [oF 0, oF 1, oF 2, oF 3] (by rfl) ?_
    refine oR [oF 0, oF 1] [(32, .slice A31 x20.length c32), (31, .slice A13 l15.length c14), (6, .slice A13 l15.length c14), (25, .slice A_slices slices.length c_slices), (26, vI (slices.length : Int)), (27, vI i18)] [32, 31, 6, 25, 26, 27] (by kernel_rfl) ?_
    obtain ⟨l34, hv35, hp⟩ := obind hp
    obtain ⟨he36, hb37⟩ := app_some hv35
    obtain ⟨y41, h42, hs43⟩ := RdS.src h33
    obtain ⟨y38, hy39⟩ : ∃ y_, y16 ++ y41 = y_ := ⟨_, rfl⟩
    have h40 : RepL R_api_Cmd F W l34 y38 := by rw [he36, ← hy39]; exact RepL.app h17 h42
    refine ops_appendO (x := (Go.Operand.tmp 31)) (y := (Go.Operand.tmp 32)) (t := 28) (e := 27) (d := some 33) (n' := l34.length) (z := 5) (m := x20.length) (bytes := 56) (xs' := y38) (news := y41) (zv := .agg #[vI 0, vI 0, vI 0, vI 0, .slice none 0 0]) 0 ⟨by kernel_rfl⟩ rfl rfl Try.underlying28 (by kernel_rfl) (by rfl) rfl (fun w_ hM => hM.srcS 1 rfl h42 hs43) h42.len h42.one hb37 (by have z_ := congrArg List.length he36; rw [List.length_append] at z_; exact z_.symm) hy39 (fun _ _ _ _ hS h' => trivial) ?_
    rintro ⟨A44, c45⟩
    refine ops_conv (l' := [(33, .slice A44 l34.length c45), (32, .slice A31 x20.length c32), (31, .slice A13 l15.length c14), (6, .slice A13 l15.length c14), (25, .slice A_slices slices.length c_slices), (26, vI (slices.length : Int)), (27, vI i18)]) (M' := Mem w0 (orow A44 l34.length c45 27 5 y38 :: Fz F W :: cs)) rfl (fun _ h => h) ?_
    refine oR [oF 3] [(6, .slice A44 l34.length c45), (25, .slice A_slices slices.length c_slices), (26, vI (slices.length : Int)), (27, vI i18)] [6, 25, 26, 27] (by kernel_rfl) ?_
    refine ops_nil ?_
    refine fin_block ?_
    refine fin_then ?_
    refine st_region [oF 0, oF 1] (by rfl) ?_
    refine oR [oF 0, oF 1] [(27, vI (IntKind.i64.wrap (i18 + 1))), (6, .slice A44 l34.length c45), (25, .slice A_slices slices.length c_slices), (26, vI (slices.length : Int))] [27, 6, 25, 26] (by kernel_rfl) ?_
    refine ops_nil ?_
    exact fin_again (l34, IntKind.i64.wrap (i18 + 1)) (A44, c45, y38) (Option.some.inj hp).symm h40 (look_has ⟨rfl, rfl, rfl, rfl, trivial⟩) (fun w_ hM => hM)
   · --
    have hp := cnd_f hc19 hp
    refine st_exit ?_
    refine fin_exit_then ?_
    refine fin_exit_then ?_
    refine fin_exit ?_
    obtain hq_ := Option.some.inj hp
    subst hq_
    obtain hq_ := hd3 _ rfl
    subst hq_
    have hp : slices_Concat_api_Cmd_api_Cmd_j2 l15 = some l9003 := hk3
    exact fin_join HJ2 (A13, c14, l15, y16) ⟨hp, h17⟩ (look_has ⟨rfl, trivial⟩) (fun w_ hM => hM)
 · --
  intro HJ1
  refine st_seq ?_
  refine st_seq ?_
  refine st_region [oF 0, oF 1, oF 2] (by rfl) ?_
  refine oR [oF 0, oF 1, oF 2] [(11, vI 0), (10, vI (slices.length : Int)), (9, .slice A_slices slices.length c_slices), (3, vI 0), (0, .slice A_slices slices.length c_slices)] [11, 10, 9, 3, 0] (by kernel_rfl) ?_
  refine ops_nil ?_
  refine fin_then ?_
  refine st_block ?_
  obtain ⟨r4, hl4, hk4⟩ := obind hp
  refine st_loopP (σ := Int × Int) (ρ := Int) (γ := Unit) hl4 () (fun s_ g_ => match s_, g_ with | (i46, i47), _ => [(0, .slice A_slices slices.length c_slices), (3, vI i46), (9, .slice A_slices slices.length c_slices), (10, vI (slices.length : Int)), (11, vI i47)]) (fun s_ g_ => match s_, g_ with | (i46, i47), _ => Mem w0 (Fz F W :: cs)) (fun s_ g_ => match s_, g_ with | (i46, i47), _ => True) trivial (look_has ⟨rfl, rfl, rfl, rfl, rfl, trivial⟩) (fun w_ hM => hM) ?_
  rintro ⟨i46, i47⟩ _ o4 - hs_ hd4
  have hp : (slices_Concat_api_Cmd_api_Cmd_l4 slices) i46 i47 = some o4 := hs_
  clear hs_
  unfold slices_Concat_api_Cmd_api_Cmd_l4 at hp
  refine st_conv (l' := [(0, .slice A_slices slices.length c_slices), (3, vI i46), (9, .slice A_slices slices.length c_slices), (10, vI (slices.length : Int)), (11, vI i47)]) (M' := Mem w0 (Fz F W :: cs)) rfl (fun _ h => h) ?_
  refine st_seq ?_
  refine st_region [oF 0] (by rfl) ?_
  refine oR [oF 0] [(12, .bool (decide (i47 < (slices.length : Int)))), (0, .slice A_slices slices.length c_slices), (3, vI i46), (9, .slice A_slices slices.length c_slices), (10, vI (slices.length : Int)), (11, vI i47)] [12, 0, 3, 9, 10, 11] (by kernel_rfl) ?_
  refine ops_nil ?_
  refine fin_then ?_
  refine st_seq ?_
  refine st_if (b := decide (i47 < (slices.length : Int))) rfl (fun hc48 => ?_) (fun hc48 => ?_)
  · --
   have hp := cnd_t hc48 hp
   refine st_skip ?_
   refine fin_then ?_
   refine st_seq ?_
   refine st_block ?_
   refine st_seq ?_
   refine st_region [oF 0, oF 1, oF 2] (by rfl) ?_
   refine oR [] [(0, .slice A_slices slices.length c_slices), (3, vI i46), (9, .slice A_slices slices.length c_slices), (10, vI (slices.length : Int)), (11, vI i47)] [0, 3, 9, 10, 11] (by kernel_rfl) ?_
   obtain ⟨x49, hv50, hp⟩ := obind hp
   obtain ⟨m51, hm52, hx53⟩ := idx_some hv50
   have hl56 := (List.getElem?_eq_some_iff.1 hx53).1
   obtain ⟨ad57, vs54, hA58, hr55, hq59⟩ := RdS.el h_slices hx53
   obtain ⟨A60, c61, rfl, h62⟩ := hr55
   refine ops_val (op := (Go.Op.indexAddr 22 (Go.Operand.tmp 9) (Go.Operand.tmp 11))) (d := some 13) (v := .pointer (some (ad57.add (m51 * 1)))) ⟨by kernel_rfl⟩ (run_indexA hA58 Try.underlying22 (z := 1) (by kernel_rfl) rfl rfl hm52 hl56) ?_
   refine ops_mem (d := some 14) (an := [.v (.slice A60 x49.length c61)]) (evs := [.load (ad57.add (m51 * 1)) (.slice A60 x49.length c61)]) (v := .slice A60 x49.length c61) (M' := Mem w0 (Fz F W :: cs)) ⟨by kernel_rfl⟩ (fun w_ hM hS => ⟨w_, ⟨hM.elcell 0 rfl hq59 0 rfl, rfl⟩, hM, trivial⟩) ?_
   refine oR [oF 2] [(5, .slice A60 x49.length c61), (0, .slice A_slices slices.length c_slices), (3, vI i46), (9, .slice A_slices slices.length c_slices), (10, vI (slices.length : Int)), (11, vI i47)] [5, 0, 3, 9, 10, 11] (by kernel_rfl) ?_
   refine ops_nil ?_
   refine fin_then ?_
   refine st_seq ?_
   refine st_region [oF 0, oF 1, oF 2, oF 3, oF 4] (by rfl) ?_
   refine oR [oF 0, oF 1, oF 2, oF 3, oF 4] [(3, vI (IntKind.i64.wrap (i46 + (x49.length : Int)))), (0, .slice A_slices slices.length c_slices), (9, .slice A_slices slices.length c_slices), (10, vI (slices.length : Int)), (11, vI i47)] [3, 0, 9, 10, 11] (by kernel_rfl) ?_
   refine ops_nil ?_
   refine fin_then ?_
   refine st_seq ?_
   refine st_region [oF 0, oF 1] (by rfl) ?_
   refine oR [oF 0, oF 1] [(20, .bool (decide (IntKind.i64.wrap (i46 + (x49.length : Int)) < 0))), (3, vI (IntKind.i64.wrap (i46 + (x49.length : Int)))), (0, .slice A_slices slices.length c_slices), (9, .slice A_slices slices.length c_slices), (10, vI (slices.length : Int)), (11, vI i47)] [20, 3, 0, 9, 10, 11] (by kernel_rfl) ?_
   refine ops_nil ?_
   refine fin_then ?_
   refine st_if (b := decide (IntKind.i64.wrap (i46 + (x49.length : Int)) < 0)) rfl (fun hc63 => ?_) (fun hc63 => ?_)
   · --
    have hp := cnd_t hc63 hp
    cases hp
   · --
    have hp := cnd_f hc63 hp
    refine st_skip ?_
    refine fin_block ?_
    refine fin_then ?_
    refine st_region [oF 0, oF 1] (by rfl) ?_
    refine oR [oF 0, oF 1] [(11, vI (IntKind.i64.wrap (i47 + 1))), (3, vI (IntKind.i64.wrap (i46 + (x49.length : Int)))), (0, .slice A_slices slices.length c_slices), (9, .slice A_slices slices.length c_slices), (10, vI (slices.length : Int))] [11, 3, 0, 9, 10] (by kernel_rfl) ?_
    refine ops_nil ?_
    exact fin_again (IntKind.i64.wrap (i46 + (x49.length : Int)), IntKind.i64.wrap (i47 + 1)) () (Option.some.inj hp).symm trivial (look_has ⟨rfl, rfl, rfl, rfl, rfl, trivial⟩) (fun w_ hM => hM)
  · --
   have hp := cnd_f hc48 hp
   refine st_exit ?_
   refine fin_exit_then ?_
   refine fin_exit_then ?_
   refine fin_exit ?_
   obtain hq_ := Option.some.inj hp
   subst hq_
   obtain hq_ := hd4 _ rfl
   subst hq_
   have hp : (slices_Concat_api_Cmd_api_Cmd_j1 slices) i46 = some l9003 := hk4
   exact fin_join HJ1 i46 hp (look_has ⟨rfl, rfl, trivial⟩) (fun w_ hM => hM)
set_option maxHeartbeats 4000000 in
set_option maxRecDepth 100000 in
theorem kind_Name_ok (w0 w : World) (cs : List Chunk) (F : Nat → Prop) (W : World) (s : ByteArray) (hM0 : Mem w0 (Fz F W :: cs) w) (t9001 : Bool) (hp : kind_Name s = some t9001) : Calls Try.prog 137 #[.string s] w fun e w' => (True) ∧ e = .returned (.bool t9001) ∧ Mem w0 (Fz F W :: cs) w' := by
 unfold kind_Name at hp
 refine sx_calls Try.func137 rfl (n := 41) (by kernel_rfl) (l := [(0, .string s)]) rfl (by rfl) hM0 ?_
 refine st_seq ?_
 refine st_region [oF 0] (by rfl) ?_
 refine oR [oF 0] [(0, .string s)] [0] (by kernel_rfl) ?_
 refine ops_nil ?_
 refine fin_then ?_
 refine st_seq ?_
 refine st_seq ?_
 refine st_region [oF 0, oF 1, oF 2, oF 3, oF 4, oF 5, oF 6, oF 7] (by rfl) ?_
 refine oR [oF 0, oF 1, oF 2, oF 3] [(8, .bool ((s.size : Int) == 0)), (0, .string s)] [8, 0] (by kernel_rfl) ?_
 refine ops_bool (t := ((s.size : Int) == 0)) (l1 := [(8, .bool true), (0, .string s)]) (l2 := [(8, .bool false), (0, .string s)]) (fun h => by rw [h]) (fun h => by rw [h]) (fun hc1 => ?_) (fun hc1 => ?_)
 · --
  have hp := cnd_t hc1 hp
  refine oR [oF 4, oF 5, oF 6, oF 7] [(12, .bool true), (0, .string s)] [12, 0] (by kernel_rfl) ?_
  refine ops_nil ?_
  refine fin_then ?_
  refine st_true rfl ?_
  refine st_seq ?_
  refine st_region [oF 0] (by rfl) ?_
  refine oR [oF 0] [(2, .bool false)] [2] (by kernel_rfl) ?_
  refine ops_nil ?_
  refine fin_then ?_
  refine st_ret ?_
  refine fin_ret_then ?_
  have hq_ := Option.some.inj hp
  have hr0_ := hq_
  subst hr0_
  refine fin_ret [.tmp 2] [.bool false] rfl rfl (fun w_ hM => (.tmp rfl .nil)) (fun w_ hM => ?_)
  exact ⟨trivial, rfl, hM⟩
 · --
  have hp := cnd_f hc1 hp
  refine oR [oF 4, oF 5, oF 6, oF 7] [(12, .bool (decide (16 < (s.size : Int)))), (0, .string s)] [12, 0] (by kernel_rfl) ?_
  refine ops_nil ?_
  refine fin_then ?_
  refine st_if (b := decide (16 < (s.size : Int))) rfl (fun hc2 => ?_) (fun hc2 => ?_)
  · --
   have hp := cnd_t hc2 hp
   refine st_seq ?_
   refine st_region [oF 0] (by rfl) ?_
   refine oR [oF 0] [(2, .bool false)] [2] (by kernel_rfl) ?_
   refine ops_nil ?_
   refine fin_then ?_
   refine st_ret ?_
   refine fin_ret_then ?_
   have hq_ := Option.some.inj hp
   have hr0_ := hq_
   subst hr0_
   refine fin_ret [.tmp 2] [.bool false] rfl rfl (fun w_ hM => (.tmp rfl .nil)) (fun w_ hM => ?_)
   exact ⟨trivial, rfl, hM⟩
  · --
   have hp := cnd_f hc2 hp
   refine st_skip ?_
   refine fin_then ?_
   refine st_join1 (σ := Unit) (L := fun _ => []) (N := fun _ => Mem w0 (Fz F W :: cs)) (I := fun _ => (kind_Name_j1 = some t9001)) ?_ ?_
   · --
    rintro _ hp
    refine st_conv (l' := []) (M' := Mem w0 (Fz F W :: cs)) rfl (fun _ h => h) ?_
    unfold kind_Name_j1 at hp
    refine st_seq ?_
    refine st_region [oF 0] (by rfl) ?_
    refine oR [oF 0] [(2, .bool true)] [2] (by kernel_rfl) ?_
    refine ops_nil ?_
    refine fin_then ?_
    refine st_ret ?_
    have hq_ := Option.some.inj hp
    have hr0_ := hq_
    subst hr0_
    refine fin_ret [.tmp 2] [.bool true] rfl rfl (fun w_ hM => (.tmp rfl .nil)) (fun w_ hM => ?_)
    exact ⟨trivial, rfl, hM⟩
   · --
    intro HJ1
    refine st_seq ?_
    refine st_seq ?_
    refine st_region [oF 0, oF 1, oF 2] (by rfl) ?_
    refine oR [oF 0, oF 1, oF 2] [(15, vI 0), (14, vI (s.size : Int)), (0, .string s)] [15, 14, 0] (by kernel_rfl) ?_
    refine ops_nil ?_
    refine fin_then ?_
    refine st_block ?_
    obtain ⟨r2, hl2, hk2⟩ := obind hp
    refine st_loopP (σ := Int) (ρ := (Bool ⊕ Unit)) (γ := Unit) hl2 () (fun s_ g_ => match s_, g_ with | i3, _ => [(0, .string s), (14, vI (s.size : Int)), (15, vI i3)]) (fun s_ g_ => match s_, g_ with | i3, _ => Mem w0 (Fz F W :: cs)) (fun s_ g_ => match s_, g_ with | i3, _ => True) trivial (look_has ⟨rfl, rfl, rfl, trivial⟩) (fun w_ hM => hM) ?_
    rintro i3 _ o2 - hs_ hd2
    have hp : (kind_Name_l2 s) i3 = some o2 := hs_
    clear hs_
    unfold kind_Name_l2 at hp
    refine st_conv (l' := [(0, .string s), (14, vI (s.size : Int)), (15, vI i3)]) (M' := Mem w0 (Fz F W :: cs)) rfl (fun _ h => h) ?_
    refine st_seq ?_
    refine st_region [oF 0] (by rfl) ?_
    refine oR [oF 0] [(16, .bool (decide (i3 < (s.size : Int)))), (0, .string s), (14, vI (s.size : Int)), (15, vI i3)] [16, 0, 14, 15] (by kernel_rfl) ?_
    refine ops_nil ?_
    refine fin_then ?_
    refine st_seq ?_
    refine st_if (b := decide (i3 < (s.size : Int))) rfl (fun hc4 => ?_) (fun hc4 => ?_)
    · --
     have hp := cnd_t hc4 hp
     refine st_skip ?_
     refine fin_then ?_
     refine st_join1 (σ := Unit) (L := fun _ => [(0, .string s), (14, vI (s.size : Int)), (15, vI i3)]) (N := fun _ => Mem w0 (Fz F W :: cs)) (I := fun _ => ((kind_Name_j3 i3) = some o2)) ?_ ?_
     · --
      rintro _ hp
      refine st_conv (l' := [(0, .string s), (14, vI (s.size : Int)), (15, vI i3)]) (M' := Mem w0 (Fz F W :: cs)) rfl (fun _ h => h) ?_
      unfold kind_Name_j3 at hp
      refine st_region [oF 0, oF 1] (by rfl) ?_
      refine oR [oF 0, oF 1] [(15, vI (IntKind.i64.wrap (i3 + 1))), (0, .string s), (14, vI (s.size : Int))] [15, 0, 14] (by kernel_rfl) ?_
      refine ops_nil ?_
      exact fin_again (IntKind.i64.wrap (i3 + 1)) () (Option.some.inj hp).symm trivial (look_has ⟨rfl, rfl, rfl, trivial⟩) (fun w_ hM => hM)
     · --
      intro HJ3
      refine st_seq ?_
      refine st_block ?_
      refine st_seq ?_
      refine st_region [oF 0, oF 1] (by rfl) ?_
      refine oR [oF 0, oF 1] [(3, vI i3), (0, .string s), (14, vI (s.size : Int)), (15, vI i3)] [3, 0, 14, 15] (by kernel_rfl) ?_
      refine ops_nil ?_
      refine fin_then ?_
      refine st_seq ?_
      refine st_region [oF 0, oF 1, oF 2, oF 3] (by rfl) ?_
      refine oR [oF 0, oF 1] [(19, vI i3), (18, .string s), (3, vI i3), (0, .string s), (14, vI (s.size : Int)), (15, vI i3)] [19, 18, 3, 0, 14, 15] (by kernel_rfl) ?_
      obtain ⟨x5, hv6, hp⟩ := obind hp
      refine ops_val (op := (Go.Op.index 9 (Go.Operand.tmp 18) (Go.Operand.tmp 19))) (d := some 20) (v := .int .u8 x5) ⟨by kernel_rfl⟩ (run_strIdx Try.underlying9 rfl rfl hv6) ?_
      refine oR [oF 3] [(4, .int .u8 x5), (3, vI i3), (0, .string s), (14, vI (s.size : Int)), (15, vI i3)] [4, 3, 0, 14, 15] (by kernel_rfl) ?_
      refine ops_nil ?_
      refine fin_then ?_
      refine st_seq ?_
      refine st_region [oF 0, oF 1, oF 2, oF 3, oF 4, oF 5, oF 6, oF 7, oF 8, oF 9, oF 10, oF 11, oF 12, oF 13, oF 14, oF 15, oF 16, oF 17, oF 18] (by rfl) ?_
      refine oR [oF 0, oF 1, oF 2] [(23, .bool (decide (97 ≤ x5))), (4, .int .u8 x5), (3, vI i3), (0, .string s), (14, vI (s.size : Int)), (15, vI i3)] [23, 4, 3, 0, 14, 15] (by kernel_rfl) ?_
      refine ops_bool (t := decide (97 ≤ x5)) (l1 := [(23, .bool true), (4, .int .u8 x5), (3, vI i3), (0, .string s), (14, vI (s.size : Int)), (15, vI i3)]) (l2 := [(23, .bool false), (4, .int .u8 x5), (3, vI i3), (0, .string s), (14, vI (s.size : Int)), (15, vI i3)]) (fun h => by rw [h]) (fun h => by rw [h]) (fun hc7 => ?_) (fun hc7 => ?_)
      · --
       have hp := cnd_t hc7 hp
       refine oR [oF 3, oF 4, oF 5, oF 6] [(27, .bool (decide (x5 ≤ 122))), (4, .int .u8 x5), (3, vI i3), (0, .string s), (14, vI (s.size : Int)), (15, vI i3)] [27, 4, 3, 0, 14, 15] (by kernel_rfl) ?_
       refine ops_bool (t := decide (x5 ≤ 122)) (l1 := [(27, .bool true), (4, .int .u8 x5), (3, vI i3), (0, .string s), (14, vI (s.size : Int)), (15, vI i3)]) (l2 := [(27, .bool false), (4, .int .u8 x5), (3, vI i3), (0, .string s), (14, vI (s.size : Int)), (15, vI i3)]) (fun h => by rw [h]) (fun h => by rw [h]) (fun hc8 => ?_) (fun hc8 => ?_)
       · --
        have hp := cnd_t hc8 hp
        refine oR [oF 7, oF 8, oF 9, oF 10, oF 11, oF 12, oF 13, oF 14, oF 15, oF 16, oF 17, oF 18] [(39, .bool false), (0, .string s), (14, vI (s.size : Int)), (15, vI i3)] [39, 0, 14, 15] (by kernel_rfl) ?_
        refine ops_nil ?_
        refine fin_then ?_
        refine st_false rfl ?_
        refine st_skip ?_
        refine fin_block ?_
        exact fin_join HJ3 () hp (look_has ⟨rfl, rfl, rfl, trivial⟩) (fun w_ hM => hM)
       · --
        have hp := cnd_f hc8 hp
        refine oR [oF 7, oF 8, oF 9] [(30, .bool (decide (0 < i3))), (27, .bool false), (4, .int .u8 x5), (0, .string s), (14, vI (s.size : Int)), (15, vI i3)] [30, 27, 4, 0, 14, 15] (by kernel_rfl) ?_
        refine ops_bool (t := decide (0 < i3)) (l1 := [(30, .bool true), (27, .bool false), (4, .int .u8 x5), (0, .string s), (14, vI (s.size : Int)), (15, vI i3)]) (l2 := [(30, .bool false), (27, .bool false), (4, .int .u8 x5), (0, .string s), (14, vI (s.size : Int)), (15, vI i3)]) (fun h => by rw [h]) (fun h => by rw [h]) (fun hc9 => ?_) (fun hc9 => ?_)
        · --
         have hp := cnd_t hc9 hp
         refine oR [oF 10, oF 11, oF 12, oF 13] [(34, .bool (decide (48 ≤ x5))), (27, .bool false), (4, .int .u8 x5), (0, .string s), (14, vI (s.size : Int)), (15, vI i3)] [34, 27, 4, 0, 14, 15] (by kernel_rfl) ?_
         refine ops_bool (t := decide (48 ≤ x5)) (l1 := [(34, .bool true), (27, .bool false), (4, .int .u8 x5), (0, .string s), (14, vI (s.size : Int)), (15, vI i3)]) (l2 := [(34, .bool false), (27, .bool false), (4, .int .u8 x5), (0, .string s), (14, vI (s.size : Int)), (15, vI i3)]) (fun h => by rw [h]) (fun h => by rw [h]) (fun hc10 => ?_) (fun hc10 => ?_)
         · --
          have hp := cnd_t hc10 hp
          refine oR [oF 14, oF 15, oF 16, oF 17, oF 18] [(39, .bool (!(decide (x5 ≤ 57)))), (0, .string s), (14, vI (s.size : Int)), (15, vI i3)] [39, 0, 14, 15] (by kernel_rfl) ?_
          refine ops_nil ?_
          refine fin_then ?_
          refine st_if (b := !(decide (x5 ≤ 57))) rfl (fun hc11 => ?_) (fun hc11 => ?_)
          · --
           have hp := cnd_t hc11 hp
           refine st_seq ?_
           refine st_region [oF 0] (by rfl) ?_
           refine oR [oF 0] [(2, .bool false)] [2] (by kernel_rfl) ?_
           refine ops_nil ?_
           refine fin_then ?_
           refine st_ret ?_
           refine fin_ret_block ?_
           refine fin_ret_then ?_
           refine fin_ret_then ?_
           refine fin_ret_block ?_
           refine fin_ret_then ?_
           obtain hq_ := Option.some.inj hp
           subst hq_
           obtain hq_ := hd2 _ rfl
           subst hq_
           have hp : some false = some t9001 := hk2
           have hq_ := Option.some.inj hp
           have hr0_ := hq_
           subst hr0_
           refine fin_ret [.tmp 2] [.bool false] rfl rfl (fun w_ hM => (.tmp rfl .nil)) (fun w_ hM => ?_)
           exact ⟨trivial, rfl, hM⟩
          · --
           have hp := cnd_f hc11 hp
           refine st_skip ?_
           refine fin_block ?_
           exact fin_join HJ3 () hp (look_has ⟨rfl, rfl, rfl, trivial⟩) (fun w_ hM => hM)
         · --
          have hp := cnd_f hc10 hp
          refine oR [oF 14, oF 15, oF 16, oF 17, oF 18] [(39, .bool true), (0, .string s), (14, vI (s.size : Int)), (15, vI i3)] [39, 0, 14, 15] (by kernel_rfl) ?_
          refine ops_nil ?_
          refine fin_then ?_
          refine st_true rfl ?_
          refine st_seq ?_
          refine st_region [oF 0] (by rfl) ?_
          refine oR [oF 0] [(2, .bool false)] [2] (by kernel_rfl) ?_
          refine ops_nil ?_
          refine fin_then ?_
          refine st_ret ?_
          refine fin_ret_block ?_
          refine fin_ret_then ?_
          refine fin_ret_then ?_
          refine fin_ret_block ?_
          refine fin_ret_then ?_
          obtain hq_ := Option.some.inj hp
          subst hq_
          obtain hq_ := hd2 _ rfl
          subst hq_
          have hp : some false = some t9001 := hk2
          have hq_ := Option.some.inj hp
          have hr0_ := hq_
          subst hr0_
          refine fin_ret [.tmp 2] [.bool false] rfl rfl (fun w_ hM => (.tmp rfl .nil)) (fun w_ hM => ?_)
          exact ⟨trivial, rfl, hM⟩
        · --
         have hp := cnd_f hc9 hp
         refine oR [oF 10, oF 11, oF 12, oF 13, oF 14, oF 15, oF 16, oF 17, oF 18] [(39, .bool true), (0, .string s), (14, vI (s.size : Int)), (15, vI i3)] [39, 0, 14, 15] (by kernel_rfl) ?_
         refine ops_nil ?_
         refine fin_then ?_
         refine st_true rfl ?_
         refine st_seq ?_
         refine st_region [oF 0] (by rfl) ?_
         refine oR [oF 0] [(2, .bool false)] [2] (by kernel_rfl) ?_
         refine ops_nil ?_
         refine fin_then ?_
         refine st_ret ?_
         refine fin_ret_block ?_
         refine fin_ret_then ?_
         refine fin_ret_then ?_
         refine fin_ret_block ?_
         refine fin_ret_then ?_
         obtain hq_ := Option.some.inj hp
         subst hq_
         obtain hq_ := hd2 _ rfl
         subst hq_
         have hp : some false = some t9001 := hk2
         have hq_ := Option.some.inj hp
         have hr0_ := hq_
         subst hr0_
         refine fin_ret [.tmp 2] [.bool false] rfl rfl (fun w_ hM => (.tmp rfl .nil)) (fun w_ hM => ?_)
         exact ⟨trivial, rfl, hM⟩
      · --
       have hp := cnd_f hc7 hp
       refine oR [oF 3, oF 4, oF 5, oF 6, oF 7, oF 8, oF 9] [(30, .bool (decide (0 < i3))), (27, .bool false), (4, .int .u8 x5), (0, .string s), (14, vI (s.size : Int)), (15, vI i3)] [30, 27, 4, 0, 14, 15] (by kernel_rfl) ?_
       refine ops_bool (t := decide (0 < i3)) (l1 := [(30, .bool true), (27, .bool false), (4, .int .u8 x5), (0, .string s), (14, vI (s.size : Int)), (15, vI i3)]) (l2 := [(30, .bool false), (27, .bool false), (4, .int .u8 x5), (0, .string s), (14, vI (s.size : Int)), (15, vI i3)]) (fun h => by rw [h]) (fun h => by rw [h]) (fun hc12 => ?_) (fun hc12 => ?_)
       · --
        have hp := cnd_t hc12 hp
        refine oR [oF 10, oF 11, oF 12, oF 13] [(34, .bool (decide (48 ≤ x5))), (27, .bool false), (4, .int .u8 x5), (0, .string s), (14, vI (s.size : Int)), (15, vI i3)] [34, 27, 4, 0, 14, 15] (by kernel_rfl) ?_
        refine ops_bool (t := decide (48 ≤ x5)) (l1 := [(34, .bool true), (27, .bool false), (4, .int .u8 x5), (0, .string s), (14, vI (s.size : Int)), (15, vI i3)]) (l2 := [(34, .bool false), (27, .bool false), (4, .int .u8 x5), (0, .string s), (14, vI (s.size : Int)), (15, vI i3)]) (fun h => by rw [h]) (fun h => by rw [h]) (fun hc13 => ?_) (fun hc13 => ?_)
        · --
         have hp := cnd_t hc13 hp
         refine oR [oF 14, oF 15, oF 16, oF 17, oF 18] [(39, .bool (!(decide (x5 ≤ 57)))), (0, .string s), (14, vI (s.size : Int)), (15, vI i3)] [39, 0, 14, 15] (by kernel_rfl) ?_
         refine ops_nil ?_
         refine fin_then ?_
         refine st_if (b := !(decide (x5 ≤ 57))) rfl (fun hc14 => ?_) (fun hc14 => ?_)
         · --
          have hp := cnd_t hc14 hp
          refine st_seq ?_
          refine st_region [oF 0] (by rfl) ?_
          refine oR [oF 0] [(2, .bool false)] [2] (by kernel_rfl) ?_
          refine ops_nil ?_
          refine fin_then ?_
          refine st_ret ?_
          refine fin_ret_block ?_
          refine fin_ret_then ?_
          refine fin_ret_then ?_
          refine fin_ret_block ?_
          refine fin_ret_then ?_
          obtain hq_ := Option.some.inj hp
          subst hq_
          obtain hq_ := hd2 _ rfl
          subst hq_
          have hp : some false = some t9001 := hk2
          have hq_ := Option.some.inj hp
          have hr0_ := hq_
          subst hr0_
          refine fin_ret [.tmp 2] [.bool false] rfl rfl (fun w_ hM => (.tmp rfl .nil)) (fun w_ hM => ?_)
          exact ⟨trivial, rfl, hM⟩
         · --
          have hp := cnd_f hc14 hp
          refine st_skip ?_
          refine fin_block ?_
          exact fin_join HJ3 () hp (look_has ⟨rfl, rfl, rfl, trivial⟩) (fun w_ hM => hM)
        · --
         have hp := cnd_f hc13 hp
         refine oR [oF 14, oF 15, oF 16, oF 17, oF 18] [(39, .bool true), (0, .string s), (14, vI (s.size : Int)), (15, vI i3)] [39, 0, 14, 15] (by kernel_rfl) ?_
         refine ops_nil ?_
         refine fin_then ?_
         refine st_true rfl ?_
         refine st_seq ?_
         refine st_region [oF 0] (by rfl) ?_
         refine oR [oF 0] [(2, .bool false)] [2] (by kernel_rfl) ?_
         refine ops_nil ?_
         refine fin_then ?_
         refine st_ret ?_
         refine fin_ret_block ?_
         refine fin_ret_then ?_
         refine fin_ret_then ?_
         refine fin_ret_block ?_
         refine fin_ret_then ?_
         obtain hq_ := Option.some.inj hp
         subst hq_
         obtain hq_ := hd2 _ rfl
         subst hq_
         have hp : some false = some t9001 := hk2
         have hq_ := Option.some.inj hp
         have hr0_ := hq_
         subst hr0_
         refine fin_ret [.tmp 2] [.bool false] rfl rfl (fun w_ hM => (.tmp rfl .nil)) (fun w_ hM => ?_)
         exact ⟨trivial, rfl, hM⟩
       · --
        have hp := cnd_f hc12 hp
        refine oR [oF 10, oF 11, oF 12, oF 13, oF 14, oF 15, oF 16, oF 17, oF 18] [(39, .bool true), (0, .string s), (14, vI (s.size : Int)), (15, vI i3)] [39, 0, 14, 15] (by kernel_rfl) ?_
        refine ops_nil ?_
        refine fin_then ?_
        refine st_true rfl ?_
        refine st_seq ?_
        refine st_region [oF 0] (by rfl) ?_
        refine oR [oF 0] [(2, .bool false)] [2] (by kernel_rfl) ?_
        refine ops_nil ?_
        refine fin_then ?_
        refine st_ret ?_
        refine fin_ret_block ?_
        refine fin_ret_then ?_
        refine fin_ret_then ?_
        refine fin_ret_block ?_
        refine fin_ret_then ?_
        obtain hq_ := Option.some.inj hp
        subst hq_
        obtain hq_ := hd2 _ rfl
        subst hq_
        have hp : some false = some t9001 := hk2
        have hq_ := Option.some.inj hp
        have hr0_ := hq_
        subst hr0_
        refine fin_ret [.tmp 2] [.bool false] rfl rfl (fun w_ hM => (.tmp rfl .nil)) (fun w_ hM => ?_)
        exact ⟨trivial, rfl, hM⟩
    · --
     have hp := cnd_f hc4 hp
     refine st_exit ?_
     refine fin_exit_then ?_
     refine fin_exit_then ?_
     refine fin_exit ?_
     obtain hq_ := Option.some.inj hp
     subst hq_
     obtain hq_ := hd2 _ rfl
     subst hq_
     have hp : kind_Name_j1 = some t9001 := hk2
     exact fin_join HJ1 () hp (look_has trivial) (fun w_ hM => hM)
set_option maxHeartbeats 4000000 in
set_option maxRecDepth 100000 in
theorem kind_field_ok (w0 w : World) (cs : List Chunk) (F : Nat → Prop) (W : World) (f_0 : ByteArray) (f_1 : Int) (f_2 : Int) (hM0 : Mem w0 (Fz F W :: cs) w) (i9001 : Int) (hp : kind_field f_0 f_1 f_2 = some i9001) : Calls Try.prog 138 #[.agg #[.string f_0, vI f_1, vI f_2]] w fun e w' => (True) ∧ e = .returned (vI i9001) ∧ Mem w0 (Fz F W :: cs) w' := by
 unfold kind_field at hp
 refine sx_calls Try.func138 rfl (n := 27) (by kernel_rfl) (l := [(0, .agg #[.string f_0, vI f_1, vI f_2])]) rfl (by rfl) hM0 ?_
 refine st_seq ?_
 refine st_region [oF 0, oF 1] (by rfl) ?_
 refine ops_new (d := some 1) (o := .cells #[.string f_0, vI f_1, vI f_2] 173) (v := fun b1 => vP b1 0) (M' := fun b1 => Mem w0 (.blk b1 [.string f_0, vI f_1, vI f_2] 173 :: Fz F W :: cs)) (fun b1 => ⟨by kernel_rfl⟩) (fun w_ hM hS => ⟨hM.blk [.string f_0, vI f_1, vI f_2] 173, trivial⟩) (fun b1 => ?_)
 refine oR [oF 1] [(1, vP b1 0)] [1] (by kernel_rfl) ?_
 refine ops_nil ?_
 refine fin_then ?_
 refine st_seq ?_
 refine st_seq ?_
 refine st_region [oF 0, oF 1, oF 2, oF 3, oF 4, oF 5, oF 6, oF 7, oF 8, oF 9, oF 10, oF 11, oF 12, oF 13, oF 14, oF 15, oF 16, oF 17, oF 18, oF 19, oF 20, oF 21, oF 22, oF 23] (by rfl) ?_
 refine oR [oF 0] [(3, vP b1 0), (1, vP b1 0)] [3, 1] (by kernel_rfl) ?_
 refine ops_mem (d := some 4) (an := [.v (.string f_0)]) (evs := [.load ⟨b1, 0, none⟩ (.string f_0)]) (v := .string f_0) (M' := Mem w0 (.blk b1 [.string f_0, vI f_1, vI f_2] 173 :: Fz F W :: cs)) ⟨by kernel_rfl⟩ (fun w_ hM hS => ⟨w_, ⟨hM.cell 0 rfl rfl, rfl⟩, hM, trivial⟩) ?_
 refine oR [] [(4, .string f_0), (1, vP b1 0)] [4, 1] (by kernel_rfl) ?_
 obtain ⟨x2, hv3, hp⟩ := obind hp
 refine ops_callI (σ := Unit) (d := some 5) (f := 137) (args := #[.string f_0]) (v := (fun _ => .bool x2)) (I := (fun _ => True)) (M' := (fun _ => Mem w0 (.blk b1 [.string f_0, vI f_1, vI f_2] 173 :: Fz F W :: cs))) ⟨by kernel_rfl⟩ (fun w_ hM hS => (kind_Name_ok w0 w_ (.blk b1 [.string f_0, vI f_1, vI f_2] 173 :: cs) F W f_0 (hM.pick 2 [1, 0] (by kernel_rfl) (by decide) rfl)  x2 hv3).mono (by rintro e w' ⟨-, rfl, h'⟩; have h' : Mem w0 (.blk b1 [.string f_0, vI f_1, vI f_2] 173 :: Fz F W :: cs) w' := (h'.pick 2 [1, 0] (by kernel_rfl) (by decide) rfl); exact ⟨(), trivial, rfl, h', trivial⟩)) ?_
 rintro _ -
 refine ops_conv (l' := [(5, .bool x2), (4, .string f_0), (1, vP b1 0)]) (M' := Mem w0 (.blk b1 [.string f_0, vI f_1, vI f_2] 173 :: Fz F W :: cs)) rfl (fun _ h => h) ?_
 refine oR [oF 3, oF 4] [(7, .bool (!x2)), (1, vP b1 0)] [7, 1] (by kernel_rfl) ?_
 refine ops_bool (t := !x2) (l1 := [(7, .bool true), (1, vP b1 0)]) (l2 := [(7, .bool false), (1, vP b1 0)]) (fun h => by rw [h]) (fun h => by rw [h]) (fun hc4 => ?_) (fun hc4 => ?_)
 · --
  have hp := cnd_t hc4 hp
  refine oR [oF 5, oF 6, oF 7, oF 8, oF 9, oF 10, oF 11, oF 12, oF 13, oF 14, oF 15, oF 16, oF 17, oF 18, oF 19, oF 20, oF 21, oF 22, oF 23] [(26, .bool true)] [26] (by kernel_rfl) ?_
  refine ops_nil ?_
  refine fin_then ?_
  refine st_true rfl ?_
  refine st_seq ?_
  refine st_region [oF 0] (by rfl) ?_
  refine oR [oF 0] [(2, vI 3)] [2] (by kernel_rfl) ?_
  refine ops_nil ?_
  refine fin_then ?_
  refine st_ret ?_
  refine fin_ret_then ?_
  have hq_ := Option.some.inj hp
  have hr0_ := hq_
  subst hr0_
  refine fin_ret [.tmp 2] [vI 3] rfl rfl (fun w_ hM => (.tmp rfl .nil)) (fun w_ hM => ?_)
  exact ⟨trivial, rfl, hM.pick 2 [1] (by kernel_rfl) (by decide) rfl⟩
 · --
  have hp := cnd_f hc4 hp
  refine oR [oF 5] [(8, vP b1 1), (7, .bool false), (1, vP b1 0)] [8, 7, 1] (by kernel_rfl) ?_
  refine ops_mem (d := some 9) (an := [.v (vI f_1)]) (evs := [.load ⟨b1, 1, none⟩ (vI f_1)]) (v := vI f_1) (M' := Mem w0 (.blk b1 [.string f_0, vI f_1, vI f_2] 173 :: Fz F W :: cs)) ⟨by kernel_rfl⟩ (fun w_ hM hS => ⟨w_, ⟨hM.cell 0 rfl rfl, rfl⟩, hM, trivial⟩) ?_
  refine oR [oF 7, oF 8, oF 9] [(12, .bool (decide (f_1 < 1))), (1, vP b1 0)] [12, 1] (by kernel_rfl) ?_
  refine ops_bool (t := decide (f_1 < 1)) (l1 := [(12, .bool true), (1, vP b1 0)]) (l2 := [(12, .bool false), (1, vP b1 0)]) (fun h => by rw [h]) (fun h => by rw [h]) (fun hc5 => ?_) (fun hc5 => ?_)
  · --
   have hp := cnd_t hc5 hp
   refine oR [oF 10, oF 11, oF 12, oF 13, oF 14, oF 15, oF 16, oF 17, oF 18, oF 19, oF 20, oF 21, oF 22, oF 23] [(26, .bool true)] [26] (by kernel_rfl) ?_
   refine ops_nil ?_
   refine fin_then ?_
   refine st_true rfl ?_
   refine st_seq ?_
   refine st_region [oF 0] (by rfl) ?_
   refine oR [oF 0] [(2, vI 3)] [2] (by kernel_rfl) ?_
   refine ops_nil ?_
   refine fin_then ?_
   refine st_ret ?_
   refine fin_ret_then ?_
   have hq_ := Option.some.inj hp
   have hr0_ := hq_
   subst hr0_
   refine fin_ret [.tmp 2] [vI 3] rfl rfl (fun w_ hM => (.tmp rfl .nil)) (fun w_ hM => ?_)
   exact ⟨trivial, rfl, hM.pick 2 [1] (by kernel_rfl) (by decide) rfl⟩
  · --
   have hp := cnd_f hc5 hp
   refine oR [oF 10] [(13, vP b1 1), (12, .bool false), (1, vP b1 0)] [13, 12, 1] (by kernel_rfl) ?_
   refine ops_mem (d := some 14) (an := [.v (vI f_1)]) (evs := [.load ⟨b1, 1, none⟩ (vI f_1)]) (v := vI f_1) (M' := Mem w0 (.blk b1 [.string f_0, vI f_1, vI f_2] 173 :: Fz F W :: cs)) ⟨by kernel_rfl⟩ (fun w_ hM hS => ⟨w_, ⟨hM.cell 0 rfl rfl, rfl⟩, hM, trivial⟩) ?_
   refine oR [oF 12, oF 13, oF 14] [(17, .bool (decide (32 < f_1))), (1, vP b1 0)] [17, 1] (by kernel_rfl) ?_
   refine ops_bool (t := decide (32 < f_1)) (l1 := [(17, .bool true), (1, vP b1 0)]) (l2 := [(17, .bool false), (1, vP b1 0)]) (fun h => by rw [h]) (fun h => by rw [h]) (fun hc6 => ?_) (fun hc6 => ?_)
   · --
    have hp := cnd_t hc6 hp
    refine oR [oF 15, oF 16, oF 17, oF 18, oF 19, oF 20, oF 21, oF 22, oF 23] [(26, .bool true)] [26] (by kernel_rfl) ?_
    refine ops_nil ?_
    refine fin_then ?_
    refine st_true rfl ?_
    refine st_seq ?_
    refine st_region [oF 0] (by rfl) ?_
    refine oR [oF 0] [(2, vI 3)] [2] (by kernel_rfl) ?_
    refine ops_nil ?_
    refine fin_then ?_
    refine st_ret ?_
    refine fin_ret_then ?_
    have hq_ := Option.some.inj hp
    have hr0_ := hq_
    subst hr0_
    refine fin_ret [.tmp 2] [vI 3] rfl rfl (fun w_ hM => (.tmp rfl .nil)) (fun w_ hM => ?_)
    exact ⟨trivial, rfl, hM.pick 2 [1] (by kernel_rfl) (by decide) rfl⟩
   · --
    have hp := cnd_f hc6 hp
    refine oR [oF 15] [(18, vP b1 2), (17, .bool false), (1, vP b1 0)] [18, 17, 1] (by kernel_rfl) ?_
    refine ops_mem (d := some 19) (an := [.v (vI f_2)]) (evs := [.load ⟨b1, 2, none⟩ (vI f_2)]) (v := vI f_2) (M' := Mem w0 (.blk b1 [.string f_0, vI f_1, vI f_2] 173 :: Fz F W :: cs)) ⟨by kernel_rfl⟩ (fun w_ hM hS => ⟨w_, ⟨hM.cell 0 rfl rfl, rfl⟩, hM, trivial⟩) ?_
    refine oR [oF 17, oF 18, oF 19] [(22, .bool (decide (f_2 < (-4294967296)))), (1, vP b1 0)] [22, 1] (by kernel_rfl) ?_
    refine ops_bool (t := decide (f_2 < (-4294967296))) (l1 := [(22, .bool true), (1, vP b1 0)]) (l2 := [(22, .bool false), (1, vP b1 0)]) (fun h => by rw [h]) (fun h => by rw [h]) (fun hc7 => ?_) (fun hc7 => ?_)
    · --
     have hp := cnd_t hc7 hp
     refine oR [oF 20, oF 21, oF 22, oF 23] [(26, .bool true)] [26] (by kernel_rfl) ?_
     refine ops_nil ?_
     refine fin_then ?_
     refine st_true rfl ?_
     refine st_seq ?_
     refine st_region [oF 0] (by rfl) ?_
     refine oR [oF 0] [(2, vI 3)] [2] (by kernel_rfl) ?_
     refine ops_nil ?_
     refine fin_then ?_
     refine st_ret ?_
     refine fin_ret_then ?_
     have hq_ := Option.some.inj hp
     have hr0_ := hq_
     subst hr0_
     refine fin_ret [.tmp 2] [vI 3] rfl rfl (fun w_ hM => (.tmp rfl .nil)) (fun w_ hM => ?_)
     exact ⟨trivial, rfl, hM.pick 2 [1] (by kernel_rfl) (by decide) rfl⟩
    · --
     have hp := cnd_f hc7 hp
     refine oR [oF 20] [(23, vP b1 2), (22, .bool false)] [23, 22] (by kernel_rfl) ?_
     refine ops_mem (d := some 24) (an := [.v (vI f_2)]) (evs := [.load ⟨b1, 2, none⟩ (vI f_2)]) (v := vI f_2) (M' := Mem w0 (.blk b1 [.string f_0, vI f_1, vI f_2] 173 :: Fz F W :: cs)) ⟨by kernel_rfl⟩ (fun w_ hM hS => ⟨w_, ⟨hM.cell 0 rfl rfl, rfl⟩, hM, trivial⟩) ?_
     refine oR [oF 22, oF 23] [(26, .bool (decide (4294967296 < f_2)))] [26] (by kernel_rfl) ?_
     refine ops_nil ?_
     refine fin_then ?_
     refine st_if (b := decide (4294967296 < f_2)) rfl (fun hc8 => ?_) (fun hc8 => ?_)
     · --
      have hp := cnd_t hc8 hp
      refine st_seq ?_
      refine st_region [oF 0] (by rfl) ?_
      refine oR [oF 0] [(2, vI 3)] [2] (by kernel_rfl) ?_
      refine ops_nil ?_
      refine fin_then ?_
      refine st_ret ?_
      refine fin_ret_then ?_
      have hq_ := Option.some.inj hp
      have hr0_ := hq_
      subst hr0_
      refine fin_ret [.tmp 2] [vI 3] rfl rfl (fun w_ hM => (.tmp rfl .nil)) (fun w_ hM => ?_)
      exact ⟨trivial, rfl, hM.pick 2 [1] (by kernel_rfl) (by decide) rfl⟩
     · --
      have hp := cnd_f hc8 hp
      refine st_skip ?_
      refine fin_then ?_
      refine st_seq ?_
      refine st_region [oF 0] (by rfl) ?_
      refine oR [oF 0] [(2, vI 0)] [2] (by kernel_rfl) ?_
      refine ops_nil ?_
      refine fin_then ?_
      refine st_ret ?_
      have hq_ := Option.some.inj hp
      have hr0_ := hq_
      subst hr0_
      refine fin_ret [.tmp 2] [vI 0] rfl rfl (fun w_ hM => (.tmp rfl .nil)) (fun w_ hM => ?_)
      exact ⟨trivial, rfl, hM.pick 2 [1] (by kernel_rfl) (by decide) rfl⟩
end Go.Proofs.Ythcbepikeinglaa.M
