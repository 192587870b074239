/- The Go functions come to what the plain functions tell. No condition. -/
import Derived.Test.YtbfndcookgijfaaGreatDoorProg
import Derived.Test.YtbfndcookgijfaaGreatDoorFnW
namespace Go.Proofs.YtbfndcookgijfaaGreatDoor.W
open Go Go.RowKit Go.Proofs.YtbfndcookgijfaaGreatDoor.Sx
set_option linter.unusedVariables false
set_option maxHeartbeats 4000000
set_option maxRecDepth 100000
theorem tourlaw3_two_ok (w0 w : World) (cs : List Chunk) (F : Nat → Prop) (W : World) (hM0 : Mem w0 (Fz F W :: cs) w) (l9002 : List api_Kind) (hp : tourlaw3_two = some l9002) : Calls Tryz.prog 39 #[] w fun e w' => ∃ (A9001 : Option Addr), ∃ (y9003 : List Value), ∃ (F9005 : Nat → Prop), ∃ (W9006 : World), ((RepL R_api_Kind F9005 W9006 l9002 y9003) ∧ (Ext w0 F W F9005 W9006)) ∧ e = .returned (sl A9001 l9002 2) ∧ Mem w0 (ow A9001 l9002 2 86 2 y9003 :: Fz F9005 W9006 :: cs) w' := by
 unfold tourlaw3_two at hp
 refine sx_calls Tryz.func39 rfl (n := 8) (by kernel_rfl) (l := []) rfl (by rfl) hM0 ?_
 refine st_seq (st_region [oF 0] (by rfl) ?_)
 refine oQ [oF 0] [] (by kernel_rfl) ?_
 refine ops_nil (fin_then (st_seq (st_region [oF 0, oF 1, oF 2, oF 3, oF 4, oF 5, oF 6, oF 7] (by rfl) ?_)))
 refine oQ [oF 0] [(1, .agg #[.string (⟨#[120]⟩), vI 3, vI (-2)])] (by kernel_rfl) ?_
 have h1 : RepL R_api_Field F W ([(api_Field.mk (⟨#[120]⟩) 3 (-2))] : List api_Field) ([.string (⟨#[120]⟩), vI 3, vI (-2)]) := (RepL.cons (R := R_api_Field) (F := F) (w := W) (vs := [.string (⟨#[120]⟩), vI 3, vI (-2)]) (ys := []) (enc_api_Field) RepL.nil)
 refine ops_new (d := some 2) (o := .cells ([.string (⟨#[120]⟩), vI 3, vI (-2)] : List Value).toArray 99) (v := fun g2 => .slice (sa g2) ([(api_Field.mk (⟨#[120]⟩) 3 (-2))] : List api_Field).length 1) (M' := fun g2 => Mem w0 (orow (sa g2) ([(api_Field.mk (⟨#[120]⟩) 3 (-2))] : List api_Field).length 1 99 3 ([.string (⟨#[120]⟩), vI 3, vI (-2)]) :: Fz F W :: cs)) (fun g2 => ⟨by kernel_rfl⟩) (fun w_ hM hS => ⟨hM.onew [.string (⟨#[120]⟩), vI 3, vI (-2)] 99 1 3 rfl (by decide), trivial⟩) (fun g2 => ?_)
 refine oQ [oF 2, oF 3] [(4, .agg #[.string (⟨#[120]⟩), vI 8, vI 0]), (3, .agg #[.string (⟨#[112, 108, 97, 99, 101]⟩), .slice (sa g2) ([(api_Field.mk (⟨#[120]⟩) 3 (-2))] : List api_Field).length 1])] (by kernel_rfl) ?_
 have h3 : RepL R_api_Field F W ([(api_Field.mk (⟨#[120]⟩) 8 0)] : List api_Field) ([.string (⟨#[120]⟩), vI 8, vI 0]) := (RepL.cons (R := R_api_Field) (F := F) (w := W) (vs := [.string (⟨#[120]⟩), vI 8, vI 0]) (ys := []) (enc_api_Field) RepL.nil)
 refine ops_new (d := some 5) (o := .cells ([.string (⟨#[120]⟩), vI 8, vI 0] : List Value).toArray 99) (v := fun g4 => .slice (sa g4) ([(api_Field.mk (⟨#[120]⟩) 8 0)] : List api_Field).length 1) (M' := fun g4 => Mem w0 (orow (sa g4) ([(api_Field.mk (⟨#[120]⟩) 8 0)] : List api_Field).length 1 99 3 ([.string (⟨#[120]⟩), vI 8, vI 0]) :: orow (sa g2) ([(api_Field.mk (⟨#[120]⟩) 3 (-2))] : List api_Field).length 1 99 3 ([.string (⟨#[120]⟩), vI 3, vI (-2)]) :: Fz F W :: cs)) (fun g4 => ⟨by kernel_rfl⟩) (fun w_ hM hS => ⟨hM.onew [.string (⟨#[120]⟩), vI 8, vI 0] 99 1 3 rfl (by decide), trivial⟩) (fun g4 => ?_)
 refine oQ [oF 5] [(6, .agg #[.string (⟨#[108, 105, 102, 101]⟩), .slice (sa g4) ([(api_Field.mk (⟨#[120]⟩) 8 0)] : List api_Field).length 1]), (3, .agg #[.string (⟨#[112, 108, 97, 99, 101]⟩), .slice (sa g2) ([(api_Field.mk (⟨#[120]⟩) 3 (-2))] : List api_Field).length 1])] (by kernel_rfl) ?_
 refine ops_ex (σ := (Nat → Prop) × World) (I := fun x_ => Ext w0 F W x_.1 x_.2 ∧ RdS R_api_Field x_.1 x_.2 (sa g2) 1 ([(api_Field.mk (⟨#[120]⟩) 3 (-2))] : List api_Field)) (M' := fun x_ => Mem w0 (orow (sa g4) ([(api_Field.mk (⟨#[120]⟩) 8 0)] : List api_Field).length 1 99 3 ([.string (⟨#[120]⟩), vI 8, vI 0]) :: Fz x_.1 x_.2 :: cs)) (fun w_ hM => ?_) ?_
 · obtain ⟨F_, h1_, h2_, h3_⟩ := (hM.pick 3 [1, 2, 0] (by kernel_rfl) (by decide) rfl : Mem w0 (orow (sa g2) ([(api_Field.mk (⟨#[120]⟩) 3 (-2))] : List api_Field).length 1 99 3 ([.string (⟨#[120]⟩), vI 3, vI (-2)]) :: Fz F W :: orow (sa g4) ([(api_Field.mk (⟨#[120]⟩) 8 0)] : List api_Field).length 1 99 3 ([.string (⟨#[120]⟩), vI 8, vI 0]) :: cs) w_).freeze (z := 3) h1 rfl rfl
   exact ⟨(F_, w_), ⟨h1_, h2_⟩, h3_.pick 2 [1, 0] (by kernel_rfl) (by decide) rfl⟩
 rintro ⟨F5, W6⟩ ⟨hx7, h8⟩
 have hx7 : Ext w0 F W F5 W6 := hx7
 have h8 : RdS R_api_Field F5 W6 (sa g2) 1 ([(api_Field.mk (⟨#[120]⟩) 3 (-2))] : List api_Field) := h8
 have h3 := h3.ext hx7
 refine ops_ex (σ := (Nat → Prop) × World) (I := fun x_ => Ext w0 F5 W6 x_.1 x_.2 ∧ RdS R_api_Field x_.1 x_.2 (sa g4) 1 ([(api_Field.mk (⟨#[120]⟩) 8 0)] : List api_Field)) (M' := fun x_ => Mem w0 (Fz x_.1 x_.2 :: cs)) (fun w_ hM => ?_) ?_
 · obtain ⟨F_, h1_, h2_, h3_⟩ := (hM.pick 2 [0, 1] (by kernel_rfl) (by decide) rfl : Mem w0 (orow (sa g4) ([(api_Field.mk (⟨#[120]⟩) 8 0)] : List api_Field).length 1 99 3 ([.string (⟨#[120]⟩), vI 8, vI 0]) :: Fz F5 W6 :: cs) w_).freeze (z := 3) h3 rfl rfl
   exact ⟨(F_, w_), ⟨h1_, h2_⟩, h3_.pick 1 [0] (by kernel_rfl) (by decide) rfl⟩
 rintro ⟨F9, W10⟩ ⟨hx11, h12⟩
 have hx11 : Ext w0 F5 W6 F9 W10 := hx11
 have h12 : RdS R_api_Field F9 W10 (sa g4) 1 ([(api_Field.mk (⟨#[120]⟩) 8 0)] : List api_Field) := h12
 have h8 := h8.ext hx11
 have h13 : RepL R_api_Kind F9 W10 ([(api_Kind.mk (⟨#[112, 108, 97, 99, 101]⟩) ([(api_Field.mk (⟨#[120]⟩) 3 (-2))] : List api_Field)), (api_Kind.mk (⟨#[108, 105, 102, 101]⟩) ([(api_Field.mk (⟨#[120]⟩) 8 0)] : List api_Field))] : List api_Kind) ([.string (⟨#[112, 108, 97, 99, 101]⟩), .slice (sa g2) ([(api_Field.mk (⟨#[120]⟩) 3 (-2))] : List api_Field).length 1, .string (⟨#[108, 105, 102, 101]⟩), .slice (sa g4) ([(api_Field.mk (⟨#[120]⟩) 8 0)] : List api_Field).length 1]) := (RepL.cons (R := R_api_Kind) (F := F9) (w := W10) (vs := [.string (⟨#[112, 108, 97, 99, 101]⟩), .slice (sa g2) ([(api_Field.mk (⟨#[120]⟩) 3 (-2))] : List api_Field).length 1]) (ys := [.string (⟨#[108, 105, 102, 101]⟩), .slice (sa g4) ([(api_Field.mk (⟨#[120]⟩) 8 0)] : List api_Field).length 1]) (enc_api_Kind h8) (RepL.cons (R := R_api_Kind) (F := F9) (w := W10) (vs := [.string (⟨#[108, 105, 102, 101]⟩), .slice (sa g4) ([(api_Field.mk (⟨#[120]⟩) 8 0)] : List api_Field).length 1]) (ys := []) (enc_api_Kind h12) RepL.nil))
 refine ops_new (d := some 7) (o := .cells ([.string (⟨#[112, 108, 97, 99, 101]⟩), .slice (sa g2) ([(api_Field.mk (⟨#[120]⟩) 3 (-2))] : List api_Field).length 1, .string (⟨#[108, 105, 102, 101]⟩), .slice (sa g4) ([(api_Field.mk (⟨#[120]⟩) 8 0)] : List api_Field).length 1] : List Value).toArray 86) (v := fun g14 => .slice (sa g14) ([(api_Kind.mk (⟨#[112, 108, 97, 99, 101]⟩) ([(api_Field.mk (⟨#[120]⟩) 3 (-2))] : List api_Field)), (api_Kind.mk (⟨#[108, 105, 102, 101]⟩) ([(api_Field.mk (⟨#[120]⟩) 8 0)] : List api_Field))] : List api_Kind).length 2) (M' := fun g14 => Mem w0 (orow (sa g14) ([(api_Kind.mk (⟨#[112, 108, 97, 99, 101]⟩) ([(api_Field.mk (⟨#[120]⟩) 3 (-2))] : List api_Field)), (api_Kind.mk (⟨#[108, 105, 102, 101]⟩) ([(api_Field.mk (⟨#[120]⟩) 8 0)] : List api_Field))] : List api_Kind).length 2 86 2 ([.string (⟨#[112, 108, 97, 99, 101]⟩), .slice (sa g2) ([(api_Field.mk (⟨#[120]⟩) 3 (-2))] : List api_Field).length 1, .string (⟨#[108, 105, 102, 101]⟩), .slice (sa g4) ([(api_Field.mk (⟨#[120]⟩) 8 0)] : List api_Field).length 1]) :: Fz F9 W10 :: cs)) (fun g14 => ⟨by kernel_rfl⟩) (fun w_ hM hS => ⟨hM.onew [.string (⟨#[112, 108, 97, 99, 101]⟩), .slice (sa g2) ([(api_Field.mk (⟨#[120]⟩) 3 (-2))] : List api_Field).length 1, .string (⟨#[108, 105, 102, 101]⟩), .slice (sa g4) ([(api_Field.mk (⟨#[120]⟩) 8 0)] : List api_Field).length 1] 86 2 2 rfl (by decide), trivial⟩) (fun g14 => ?_)
 refine oQ [oF 7] [(0, .slice (sa g14) ([(api_Kind.mk (⟨#[112, 108, 97, 99, 101]⟩) ([(api_Field.mk (⟨#[120]⟩) 3 (-2))] : List api_Field)), (api_Kind.mk (⟨#[108, 105, 102, 101]⟩) ([(api_Field.mk (⟨#[120]⟩) 8 0)] : List api_Field))] : List api_Kind).length 2)] (by kernel_rfl) ?_
 refine ops_nil (fin_then (st_ret ?_))
 have hq_ := Option.some.inj hp
 have hr0_ := hq_
 subst hr0_
 refine fin_ret [.tmp 0] [.slice (sa g14) ([(api_Kind.mk (⟨#[112, 108, 97, 99, 101]⟩) ([(api_Field.mk (⟨#[120]⟩) 3 (-2))] : List api_Field)), (api_Kind.mk (⟨#[108, 105, 102, 101]⟩) ([(api_Field.mk (⟨#[120]⟩) 8 0)] : List api_Field))] : List api_Kind).length 2] rfl rfl (fun w_ hM => (.tmp rfl .nil)) (fun w_ hM => ?_)
 exact ⟨(sa g14), ([.string (⟨#[112, 108, 97, 99, 101]⟩), .slice (sa g2) ([(api_Field.mk (⟨#[120]⟩) 3 (-2))] : List api_Field).length 1, .string (⟨#[108, 105, 102, 101]⟩), .slice (sa g4) ([(api_Field.mk (⟨#[120]⟩) 8 0)] : List api_Field).length 1]), F9, W10, ⟨h13, (hx7.trans hx11)⟩, rfl, hM⟩
theorem tourlaw3_pair_ok (w0 w : World) (cs : List Chunk) (F : Nat → Prop) (W : World) (hM0 : Mem w0 (Fz F W :: cs) w) (l9002 : List api_Kind) (l9006 : List Int) (l9010 : List api_Item) (hp : tourlaw3_pair = some (l9002, l9006, l9010)) : Calls Tryz.prog 6 #[] w fun e w' => ∃ (A9001 : Option Addr), ∃ (y9003 : List Value), ∃ (A9005 : Option Addr), ∃ (y9007 : List Value), ∃ (A9009 : Option Addr), ∃ (y9011 : List Value), ∃ (F9013 : Nat → Prop), ∃ (W9014 : World), ((RepL R_api_Kind F9013 W9014 l9002 y9003) ∧ (RepL (Rep.int .i64) F9013 W9014 l9006 y9007) ∧ (RepL R_api_Item F9013 W9014 l9010 y9011) ∧ (Ext w0 F W F9013 W9014)) ∧ e = .returned (.agg #[sl A9001 l9002 2, sl A9005 l9006 2, sl A9009 l9010 2]) ∧ Mem w0 (ow A9001 l9002 2 86 2 y9003 :: ow A9005 l9006 2 3 1 y9007 :: ow A9009 l9010 2 61 3 y9011 :: Fz F9013 W9014 :: cs) w' := by
 unfold tourlaw3_pair at hp
 refine sx_calls Tryz.func6 rfl (n := 16) (by kernel_rfl) (l := []) rfl (by rfl) hM0 ?_
 refine st_seq (st_region [oF 0] (by rfl) ?_)
 refine ops_newB (d := some 0) [.slice none 0 0, .slice none 0 0, .slice none 0 0] 26 (fun b1 => ⟨by kernel_rfl⟩) (fun w_ hM hS => trivial) (fun b1 => ?_)
 refine ops_nil (fin_then (st_seq (st_region [oF 0, oF 1, oF 2, oF 3, oF 4, oF 5, oF 6, oF 7, oF 8, oF 9, oF 10, oF 11, oF 12, oF 13, oF 14, oF 15] (by rfl) ?_)))
 obtain ⟨x2, hv3, hp⟩ := obind hp
 refine ops_callI (σ := (Option Addr) × (List Value) × (Nat → Prop) × World) (d := some 1) (f := 39) (args := #[]) (v := (fun x_ => match x_ with | (A4, y5, F6, W7) => sl A4 x2 2)) (I := (fun x_ => match x_ with | (A4, y5, F6, W7) => (RepL R_api_Kind F6 W7 x2 y5) ∧ (Ext w0 F W F6 W7))) (M' := (fun x_ => match x_ with | (A4, y5, F6, W7) => Mem w0 (ow A4 x2 2 86 2 y5 :: .blk b1 [.slice none 0 0, .slice none 0 0, .slice none 0 0] 26 :: Fz F6 W7 :: cs))) ⟨by kernel_rfl⟩ (fun w_ hM hS => (tourlaw3_two_ok w0 w_ (.blk b1 [.slice none 0 0, .slice none 0 0, .slice none 0 0] 26 :: cs) F W  (hM.pick 2 [1, 0] (by kernel_rfl) (by decide) rfl)  x2 hv3).mono (by rintro e w' ⟨A4, y5, F6, W7, ⟨h8, h9⟩, rfl, h'⟩; have h' : Mem w0 (ow A4 x2 2 86 2 y5 :: .blk b1 [.slice none 0 0, .slice none 0 0, .slice none 0 0] 26 :: Fz F6 W7 :: cs) w' := (h'.pick 3 [0, 2, 1] (by kernel_rfl) (by decide) rfl); exact ⟨(A4, y5, F6, W7), ⟨h8, h9⟩, rfl, h', trivial⟩)) ?_
 rintro ⟨A4, y5, F6, W7⟩ ⟨h8, h9⟩
 have h10 : RepL (Rep.int .i64) F6 W7 ([0, 2] : List Int) ([vI 0, vI 2]) := (RepL.cons (R := (Rep.int .i64)) (F := F6) (w := W7) (vs := [vI 0]) (ys := [vI 2]) rfl (RepL.cons (R := (Rep.int .i64)) (F := F6) (w := W7) (vs := [vI 2]) (ys := []) rfl RepL.nil))
 refine ops_new (d := some 2) (o := .cells ([vI 0, vI 2] : List Value).toArray 3) (v := fun g11 => .slice (sa g11) ([0, 2] : List Int).length 2) (M' := fun g11 => Mem w0 (orow (sa g11) ([0, 2] : List Int).length 2 3 1 ([vI 0, vI 2]) :: ow A4 x2 2 86 2 y5 :: .blk b1 [.slice none 0 0, .slice none 0 0, .slice none 0 0] 26 :: Fz F6 W7 :: cs)) (fun g11 => ⟨by kernel_rfl⟩) (fun w_ hM hS => ⟨hM.onew [vI 0, vI 2] 3 2 1 rfl (by decide), trivial⟩) (fun g11 => ?_)
 have h12 : RepL (Rep.int .i64) F6 W7 ([4] : List Int) ([vI 4]) := (RepL.cons (R := (Rep.int .i64)) (F := F6) (w := W7) (vs := [vI 4]) (ys := []) rfl RepL.nil)
 refine ops_new (d := some 3) (o := .cells ([vI 4] : List Value).toArray 3) (v := fun g13 => .slice (sa g13) ([4] : List Int).length 1) (M' := fun g13 => Mem w0 (orow (sa g13) ([4] : List Int).length 1 3 1 ([vI 4]) :: orow (sa g11) ([0, 2] : List Int).length 2 3 1 ([vI 0, vI 2]) :: ow A4 x2 2 86 2 y5 :: .blk b1 [.slice none 0 0, .slice none 0 0, .slice none 0 0] 26 :: Fz F6 W7 :: cs)) (fun g13 => ⟨by kernel_rfl⟩) (fun w_ hM hS => ⟨hM.onew [vI 4] 3 1 1 rfl (by decide), trivial⟩) (fun g13 => ?_)
 refine oQ [oF 3] [(4, .agg #[vI 0, .slice (sa g13) ([4] : List Int).length 1]), (2, .slice (sa g11) ([0, 2] : List Int).length 2), (1, sl A4 x2 2), (0, vP b1 0)] (by kernel_rfl) ?_
 have h14 : RepL (Rep.int .i64) F6 W7 ([9] : List Int) ([vI 9]) := (RepL.cons (R := (Rep.int .i64)) (F := F6) (w := W7) (vs := [vI 9]) (ys := []) rfl RepL.nil)
 refine ops_new (d := some 5) (o := .cells ([vI 9] : List Value).toArray 3) (v := fun g15 => .slice (sa g15) ([9] : List Int).length 1) (M' := fun g15 => Mem w0 (orow (sa g15) ([9] : List Int).length 1 3 1 ([vI 9]) :: orow (sa g13) ([4] : List Int).length 1 3 1 ([vI 4]) :: orow (sa g11) ([0, 2] : List Int).length 2 3 1 ([vI 0, vI 2]) :: ow A4 x2 2 86 2 y5 :: .blk b1 [.slice none 0 0, .slice none 0 0, .slice none 0 0] 26 :: Fz F6 W7 :: cs)) (fun g15 => ⟨by kernel_rfl⟩) (fun w_ hM hS => ⟨hM.onew [vI 9] 3 1 1 rfl (by decide), trivial⟩) (fun g15 => ?_)
 refine oQ [oF 5] [(6, .agg #[vI 1, .slice (sa g15) ([9] : List Int).length 1]), (4, .agg #[vI 0, .slice (sa g13) ([4] : List Int).length 1]), (2, .slice (sa g11) ([0, 2] : List Int).length 2), (1, sl A4 x2 2), (0, vP b1 0)] (by kernel_rfl) ?_
 refine ops_ex (σ := (Nat → Prop) × World) (I := fun x_ => Ext w0 F6 W7 x_.1 x_.2 ∧ RdS (Rep.int .i64) x_.1 x_.2 (sa g13) 1 ([4] : List Int)) (M' := fun x_ => Mem w0 (orow (sa g15) ([9] : List Int).length 1 3 1 ([vI 9]) :: orow (sa g11) ([0, 2] : List Int).length 2 3 1 ([vI 0, vI 2]) :: ow A4 x2 2 86 2 y5 :: .blk b1 [.slice none 0 0, .slice none 0 0, .slice none 0 0] 26 :: Fz x_.1 x_.2 :: cs)) (fun w_ hM => ?_) ?_
 · obtain ⟨F_, h1_, h2_, h3_⟩ := (hM.pick 6 [1, 5, 0, 2, 3, 4] (by kernel_rfl) (by decide) rfl : Mem w0 (orow (sa g13) ([4] : List Int).length 1 3 1 ([vI 4]) :: Fz F6 W7 :: orow (sa g15) ([9] : List Int).length 1 3 1 ([vI 9]) :: orow (sa g11) ([0, 2] : List Int).length 2 3 1 ([vI 0, vI 2]) :: ow A4 x2 2 86 2 y5 :: .blk b1 [.slice none 0 0, .slice none 0 0, .slice none 0 0] 26 :: cs) w_).freeze (z := 1) h12 rfl rfl
   exact ⟨(F_, w_), ⟨h1_, h2_⟩, h3_.pick 5 [1, 2, 3, 4, 0] (by kernel_rfl) (by decide) rfl⟩
 rintro ⟨F16, W17⟩ ⟨hx18, h19⟩
 have hx18 : Ext w0 F6 W7 F16 W17 := hx18
 have h19 : RdS (Rep.int .i64) F16 W17 (sa g13) 1 ([4] : List Int) := h19
 have h14 := h14.ext hx18
 have h10 := h10.ext hx18
 have h8 := h8.ext hx18
 refine ops_ex (σ := (Nat → Prop) × World) (I := fun x_ => Ext w0 F16 W17 x_.1 x_.2 ∧ RdS (Rep.int .i64) x_.1 x_.2 (sa g15) 1 ([9] : List Int)) (M' := fun x_ => Mem w0 (orow (sa g11) ([0, 2] : List Int).length 2 3 1 ([vI 0, vI 2]) :: ow A4 x2 2 86 2 y5 :: .blk b1 [.slice none 0 0, .slice none 0 0, .slice none 0 0] 26 :: Fz x_.1 x_.2 :: cs)) (fun w_ hM => ?_) ?_
 · obtain ⟨F_, h1_, h2_, h3_⟩ := (hM.pick 5 [0, 4, 1, 2, 3] (by kernel_rfl) (by decide) rfl : Mem w0 (orow (sa g15) ([9] : List Int).length 1 3 1 ([vI 9]) :: Fz F16 W17 :: orow (sa g11) ([0, 2] : List Int).length 2 3 1 ([vI 0, vI 2]) :: ow A4 x2 2 86 2 y5 :: .blk b1 [.slice none 0 0, .slice none 0 0, .slice none 0 0] 26 :: cs) w_).freeze (z := 1) h14 rfl rfl
   exact ⟨(F_, w_), ⟨h1_, h2_⟩, h3_.pick 4 [1, 2, 3, 0] (by kernel_rfl) (by decide) rfl⟩
 rintro ⟨F20, W21⟩ ⟨hx22, h23⟩
 have hx22 : Ext w0 F16 W17 F20 W21 := hx22
 have h23 : RdS (Rep.int .i64) F20 W21 (sa g15) 1 ([9] : List Int) := h23
 have h19 := h19.ext hx22
 have h10 := h10.ext hx22
 have h8 := h8.ext hx22
 have h24 : RepL R_api_Comp F20 W21 ([(api_Comp.mk 0 ([4] : List Int)), (api_Comp.mk 1 ([9] : List Int))] : List api_Comp) ([vI 0, .slice (sa g13) ([4] : List Int).length 1, vI 1, .slice (sa g15) ([9] : List Int).length 1]) := (RepL.cons (R := R_api_Comp) (F := F20) (w := W21) (vs := [vI 0, .slice (sa g13) ([4] : List Int).length 1]) (ys := [vI 1, .slice (sa g15) ([9] : List Int).length 1]) (enc_api_Comp h19) (RepL.cons (R := R_api_Comp) (F := F20) (w := W21) (vs := [vI 1, .slice (sa g15) ([9] : List Int).length 1]) (ys := []) (enc_api_Comp h23) RepL.nil))
 refine ops_new (d := some 7) (o := .cells ([vI 0, .slice (sa g13) ([4] : List Int).length 1, vI 1, .slice (sa g15) ([9] : List Int).length 1] : List Value).toArray 42) (v := fun g25 => .slice (sa g25) ([(api_Comp.mk 0 ([4] : List Int)), (api_Comp.mk 1 ([9] : List Int))] : List api_Comp).length 2) (M' := fun g25 => Mem w0 (orow (sa g25) ([(api_Comp.mk 0 ([4] : List Int)), (api_Comp.mk 1 ([9] : List Int))] : List api_Comp).length 2 42 2 ([vI 0, .slice (sa g13) ([4] : List Int).length 1, vI 1, .slice (sa g15) ([9] : List Int).length 1]) :: orow (sa g11) ([0, 2] : List Int).length 2 3 1 ([vI 0, vI 2]) :: ow A4 x2 2 86 2 y5 :: .blk b1 [.slice none 0 0, .slice none 0 0, .slice none 0 0] 26 :: Fz F20 W21 :: cs)) (fun g25 => ⟨by kernel_rfl⟩) (fun w_ hM hS => ⟨hM.onew [vI 0, .slice (sa g13) ([4] : List Int).length 1, vI 1, .slice (sa g15) ([9] : List Int).length 1] 42 2 2 rfl (by decide), trivial⟩) (fun g25 => ?_)
 refine oQ [oF 7, oF 8] [(9, .agg #[vI 1, vI 2]), (8, .agg #[vI 0, vI 0, .slice (sa g25) ([(api_Comp.mk 0 ([4] : List Int)), (api_Comp.mk 1 ([9] : List Int))] : List api_Comp).length 2]), (2, .slice (sa g11) ([0, 2] : List Int).length 2), (1, sl A4 x2 2), (0, vP b1 0)] (by kernel_rfl) ?_
 have h26 : RepL (Rep.int .i64) F20 W21 ([7] : List Int) ([vI 7]) := (RepL.cons (R := (Rep.int .i64)) (F := F20) (w := W21) (vs := [vI 7]) (ys := []) rfl RepL.nil)
 refine ops_new (d := some 10) (o := .cells ([vI 7] : List Value).toArray 3) (v := fun g27 => .slice (sa g27) ([7] : List Int).length 1) (M' := fun g27 => Mem w0 (orow (sa g27) ([7] : List Int).length 1 3 1 ([vI 7]) :: orow (sa g25) ([(api_Comp.mk 0 ([4] : List Int)), (api_Comp.mk 1 ([9] : List Int))] : List api_Comp).length 2 42 2 ([vI 0, .slice (sa g13) ([4] : List Int).length 1, vI 1, .slice (sa g15) ([9] : List Int).length 1]) :: orow (sa g11) ([0, 2] : List Int).length 2 3 1 ([vI 0, vI 2]) :: ow A4 x2 2 86 2 y5 :: .blk b1 [.slice none 0 0, .slice none 0 0, .slice none 0 0] 26 :: Fz F20 W21 :: cs)) (fun g27 => ⟨by kernel_rfl⟩) (fun w_ hM hS => ⟨hM.onew [vI 7] 3 1 1 rfl (by decide), trivial⟩) (fun g27 => ?_)
 refine oQ [oF 10] [(11, .agg #[vI 1, .slice (sa g27) ([7] : List Int).length 1]), (9, .agg #[vI 1, vI 2]), (8, .agg #[vI 0, vI 0, .slice (sa g25) ([(api_Comp.mk 0 ([4] : List Int)), (api_Comp.mk 1 ([9] : List Int))] : List api_Comp).length 2]), (2, .slice (sa g11) ([0, 2] : List Int).length 2), (1, sl A4 x2 2), (0, vP b1 0)] (by kernel_rfl) ?_
 refine ops_ex (σ := (Nat → Prop) × World) (I := fun x_ => Ext w0 F20 W21 x_.1 x_.2 ∧ RdS (Rep.int .i64) x_.1 x_.2 (sa g27) 1 ([7] : List Int)) (M' := fun x_ => Mem w0 (orow (sa g25) ([(api_Comp.mk 0 ([4] : List Int)), (api_Comp.mk 1 ([9] : List Int))] : List api_Comp).length 2 42 2 ([vI 0, .slice (sa g13) ([4] : List Int).length 1, vI 1, .slice (sa g15) ([9] : List Int).length 1]) :: orow (sa g11) ([0, 2] : List Int).length 2 3 1 ([vI 0, vI 2]) :: ow A4 x2 2 86 2 y5 :: .blk b1 [.slice none 0 0, .slice none 0 0, .slice none 0 0] 26 :: Fz x_.1 x_.2 :: cs)) (fun w_ hM => ?_) ?_
 · obtain ⟨F_, h1_, h2_, h3_⟩ := (hM.pick 6 [0, 5, 1, 2, 3, 4] (by kernel_rfl) (by decide) rfl : Mem w0 (orow (sa g27) ([7] : List Int).length 1 3 1 ([vI 7]) :: Fz F20 W21 :: orow (sa g25) ([(api_Comp.mk 0 ([4] : List Int)), (api_Comp.mk 1 ([9] : List Int))] : List api_Comp).length 2 42 2 ([vI 0, .slice (sa g13) ([4] : List Int).length 1, vI 1, .slice (sa g15) ([9] : List Int).length 1]) :: orow (sa g11) ([0, 2] : List Int).length 2 3 1 ([vI 0, vI 2]) :: ow A4 x2 2 86 2 y5 :: .blk b1 [.slice none 0 0, .slice none 0 0, .slice none 0 0] 26 :: cs) w_).freeze (z := 1) h26 rfl rfl
   exact ⟨(F_, w_), ⟨h1_, h2_⟩, h3_.pick 5 [1, 2, 3, 4, 0] (by kernel_rfl) (by decide) rfl⟩
 rintro ⟨F28, W29⟩ ⟨hx30, h31⟩
 have hx30 : Ext w0 F20 W21 F28 W29 := hx30
 have h31 : RdS (Rep.int .i64) F28 W29 (sa g27) 1 ([7] : List Int) := h31
 have h24 := h24.ext hx30
 have h10 := h10.ext hx30
 have h8 := h8.ext hx30
 have h32 : RepL R_api_Comp F28 W29 ([(api_Comp.mk 1 ([7] : List Int))] : List api_Comp) ([vI 1, .slice (sa g27) ([7] : List Int).length 1]) := (RepL.cons (R := R_api_Comp) (F := F28) (w := W29) (vs := [vI 1, .slice (sa g27) ([7] : List Int).length 1]) (ys := []) (enc_api_Comp h31) RepL.nil)
 refine ops_new (d := some 12) (o := .cells ([vI 1, .slice (sa g27) ([7] : List Int).length 1] : List Value).toArray 42) (v := fun g33 => .slice (sa g33) ([(api_Comp.mk 1 ([7] : List Int))] : List api_Comp).length 1) (M' := fun g33 => Mem w0 (orow (sa g33) ([(api_Comp.mk 1 ([7] : List Int))] : List api_Comp).length 1 42 2 ([vI 1, .slice (sa g27) ([7] : List Int).length 1]) :: orow (sa g25) ([(api_Comp.mk 0 ([4] : List Int)), (api_Comp.mk 1 ([9] : List Int))] : List api_Comp).length 2 42 2 ([vI 0, .slice (sa g13) ([4] : List Int).length 1, vI 1, .slice (sa g15) ([9] : List Int).length 1]) :: orow (sa g11) ([0, 2] : List Int).length 2 3 1 ([vI 0, vI 2]) :: ow A4 x2 2 86 2 y5 :: .blk b1 [.slice none 0 0, .slice none 0 0, .slice none 0 0] 26 :: Fz F28 W29 :: cs)) (fun g33 => ⟨by kernel_rfl⟩) (fun w_ hM hS => ⟨hM.onew [vI 1, .slice (sa g27) ([7] : List Int).length 1] 42 1 2 rfl (by decide), trivial⟩) (fun g33 => ?_)
 refine oQ [oF 12] [(13, .agg #[vI 1, vI 2, .slice (sa g33) ([(api_Comp.mk 1 ([7] : List Int))] : List api_Comp).length 1]), (8, .agg #[vI 0, vI 0, .slice (sa g25) ([(api_Comp.mk 0 ([4] : List Int)), (api_Comp.mk 1 ([9] : List Int))] : List api_Comp).length 2]), (2, .slice (sa g11) ([0, 2] : List Int).length 2), (1, sl A4 x2 2), (0, vP b1 0)] (by kernel_rfl) ?_
 refine ops_ex (σ := (Nat → Prop) × World) (I := fun x_ => Ext w0 F28 W29 x_.1 x_.2 ∧ RdS R_api_Comp x_.1 x_.2 (sa g25) 2 ([(api_Comp.mk 0 ([4] : List Int)), (api_Comp.mk 1 ([9] : List Int))] : List api_Comp)) (M' := fun x_ => Mem w0 (orow (sa g33) ([(api_Comp.mk 1 ([7] : List Int))] : List api_Comp).length 1 42 2 ([vI 1, .slice (sa g27) ([7] : List Int).length 1]) :: orow (sa g11) ([0, 2] : List Int).length 2 3 1 ([vI 0, vI 2]) :: ow A4 x2 2 86 2 y5 :: .blk b1 [.slice none 0 0, .slice none 0 0, .slice none 0 0] 26 :: Fz x_.1 x_.2 :: cs)) (fun w_ hM => ?_) ?_
 · obtain ⟨F_, h1_, h2_, h3_⟩ := (hM.pick 6 [1, 5, 0, 2, 3, 4] (by kernel_rfl) (by decide) rfl : Mem w0 (orow (sa g25) ([(api_Comp.mk 0 ([4] : List Int)), (api_Comp.mk 1 ([9] : List Int))] : List api_Comp).length 2 42 2 ([vI 0, .slice (sa g13) ([4] : List Int).length 1, vI 1, .slice (sa g15) ([9] : List Int).length 1]) :: Fz F28 W29 :: orow (sa g33) ([(api_Comp.mk 1 ([7] : List Int))] : List api_Comp).length 1 42 2 ([vI 1, .slice (sa g27) ([7] : List Int).length 1]) :: orow (sa g11) ([0, 2] : List Int).length 2 3 1 ([vI 0, vI 2]) :: ow A4 x2 2 86 2 y5 :: .blk b1 [.slice none 0 0, .slice none 0 0, .slice none 0 0] 26 :: cs) w_).freeze (z := 2) h24 rfl rfl
   exact ⟨(F_, w_), ⟨h1_, h2_⟩, h3_.pick 5 [1, 2, 3, 4, 0] (by kernel_rfl) (by decide) rfl⟩
 rintro ⟨F34, W35⟩ ⟨hx36, h37⟩
 have hx36 : Ext w0 F28 W29 F34 W35 := hx36
 have h37 : RdS R_api_Comp F34 W35 (sa g25) 2 ([(api_Comp.mk 0 ([4] : List Int)), (api_Comp.mk 1 ([9] : List Int))] : List api_Comp) := h37
 have h32 := h32.ext hx36
 have h10 := h10.ext hx36
 have h8 := h8.ext hx36
 refine ops_ex (σ := (Nat → Prop) × World) (I := fun x_ => Ext w0 F34 W35 x_.1 x_.2 ∧ RdS R_api_Comp x_.1 x_.2 (sa g33) 1 ([(api_Comp.mk 1 ([7] : List Int))] : List api_Comp)) (M' := fun x_ => Mem w0 (orow (sa g11) ([0, 2] : List Int).length 2 3 1 ([vI 0, vI 2]) :: ow A4 x2 2 86 2 y5 :: .blk b1 [.slice none 0 0, .slice none 0 0, .slice none 0 0] 26 :: Fz x_.1 x_.2 :: cs)) (fun w_ hM => ?_) ?_
 · obtain ⟨F_, h1_, h2_, h3_⟩ := (hM.pick 5 [0, 4, 1, 2, 3] (by kernel_rfl) (by decide) rfl : Mem w0 (orow (sa g33) ([(api_Comp.mk 1 ([7] : List Int))] : List api_Comp).length 1 42 2 ([vI 1, .slice (sa g27) ([7] : List Int).length 1]) :: Fz F34 W35 :: orow (sa g11) ([0, 2] : List Int).length 2 3 1 ([vI 0, vI 2]) :: ow A4 x2 2 86 2 y5 :: .blk b1 [.slice none 0 0, .slice none 0 0, .slice none 0 0] 26 :: cs) w_).freeze (z := 2) h32 rfl rfl
   exact ⟨(F_, w_), ⟨h1_, h2_⟩, h3_.pick 4 [1, 2, 3, 0] (by kernel_rfl) (by decide) rfl⟩
 rintro ⟨F38, W39⟩ ⟨hx40, h41⟩
 have hx40 : Ext w0 F34 W35 F38 W39 := hx40
 have h41 : RdS R_api_Comp F38 W39 (sa g33) 1 ([(api_Comp.mk 1 ([7] : List Int))] : List api_Comp) := h41
 have h37 := h37.ext hx40
 have h10 := h10.ext hx40
 have h8 := h8.ext hx40
 have h42 : RepL R_api_Item F38 W39 ([(api_Item.mk (api_Ent.mk 0 0) ([(api_Comp.mk 0 ([4] : List Int)), (api_Comp.mk 1 ([9] : List Int))] : List api_Comp)), (api_Item.mk (api_Ent.mk 1 2) ([(api_Comp.mk 1 ([7] : List Int))] : List api_Comp))] : List api_Item) ([vI 0, vI 0, .slice (sa g25) ([(api_Comp.mk 0 ([4] : List Int)), (api_Comp.mk 1 ([9] : List Int))] : List api_Comp).length 2, vI 1, vI 2, .slice (sa g33) ([(api_Comp.mk 1 ([7] : List Int))] : List api_Comp).length 1]) := (RepL.cons (R := R_api_Item) (F := F38) (w := W39) (vs := [vI 0, vI 0, .slice (sa g25) ([(api_Comp.mk 0 ([4] : List Int)), (api_Comp.mk 1 ([9] : List Int))] : List api_Comp).length 2]) (ys := [vI 1, vI 2, .slice (sa g33) ([(api_Comp.mk 1 ([7] : List Int))] : List api_Comp).length 1]) (enc_api_Item h37) (RepL.cons (R := R_api_Item) (F := F38) (w := W39) (vs := [vI 1, vI 2, .slice (sa g33) ([(api_Comp.mk 1 ([7] : List Int))] : List api_Comp).length 1]) (ys := []) (enc_api_Item h41) RepL.nil))
 refine ops_new (d := some 14) (o := .cells ([vI 0, vI 0, .slice (sa g25) ([(api_Comp.mk 0 ([4] : List Int)), (api_Comp.mk 1 ([9] : List Int))] : List api_Comp).length 2, vI 1, vI 2, .slice (sa g33) ([(api_Comp.mk 1 ([7] : List Int))] : List api_Comp).length 1] : List Value).toArray 61) (v := fun g43 => .slice (sa g43) ([(api_Item.mk (api_Ent.mk 0 0) ([(api_Comp.mk 0 ([4] : List Int)), (api_Comp.mk 1 ([9] : List Int))] : List api_Comp)), (api_Item.mk (api_Ent.mk 1 2) ([(api_Comp.mk 1 ([7] : List Int))] : List api_Comp))] : List api_Item).length 2) (M' := fun g43 => Mem w0 (orow (sa g43) ([(api_Item.mk (api_Ent.mk 0 0) ([(api_Comp.mk 0 ([4] : List Int)), (api_Comp.mk 1 ([9] : List Int))] : List api_Comp)), (api_Item.mk (api_Ent.mk 1 2) ([(api_Comp.mk 1 ([7] : List Int))] : List api_Comp))] : List api_Item).length 2 61 3 ([vI 0, vI 0, .slice (sa g25) ([(api_Comp.mk 0 ([4] : List Int)), (api_Comp.mk 1 ([9] : List Int))] : List api_Comp).length 2, vI 1, vI 2, .slice (sa g33) ([(api_Comp.mk 1 ([7] : List Int))] : List api_Comp).length 1]) :: orow (sa g11) ([0, 2] : List Int).length 2 3 1 ([vI 0, vI 2]) :: ow A4 x2 2 86 2 y5 :: .blk b1 [.slice none 0 0, .slice none 0 0, .slice none 0 0] 26 :: Fz F38 W39 :: cs)) (fun g43 => ⟨by kernel_rfl⟩) (fun w_ hM hS => ⟨hM.onew [vI 0, vI 0, .slice (sa g25) ([(api_Comp.mk 0 ([4] : List Int)), (api_Comp.mk 1 ([9] : List Int))] : List api_Comp).length 2, vI 1, vI 2, .slice (sa g33) ([(api_Comp.mk 1 ([7] : List Int))] : List api_Comp).length 1] 61 2 3 rfl (by decide), trivial⟩) (fun g43 => ?_)
 refine oQ [oF 14] [(15, .agg #[sl A4 x2 2, .slice (sa g11) ([0, 2] : List Int).length 2, .slice (sa g43) ([(api_Item.mk (api_Ent.mk 0 0) ([(api_Comp.mk 0 ([4] : List Int)), (api_Comp.mk 1 ([9] : List Int))] : List api_Comp)), (api_Item.mk (api_Ent.mk 1 2) ([(api_Comp.mk 1 ([7] : List Int))] : List api_Comp))] : List api_Item).length 2]), (0, vP b1 0)] (by kernel_rfl) ?_
 refine ops_store (an := []) (evs := [sr b1 0 (sl A4 x2 2), sr b1 1 (.slice (sa g11) ([0, 2] : List Int).length 2), sr b1 2 (.slice (sa g43) ([(api_Item.mk (api_Ent.mk 0 0) ([(api_Comp.mk 0 ([4] : List Int)), (api_Comp.mk 1 ([9] : List Int))] : List api_Comp)), (api_Item.mk (api_Ent.mk 1 2) ([(api_Comp.mk 1 ([7] : List Int))] : List api_Comp))] : List api_Item).length 2)]) ⟨by kernel_rfl⟩ (fun w_ hM hS => let ⟨w', he, h'⟩ := hM.evs_stores [sl A4 x2 2, .slice (sa g11) ([0, 2] : List Int).length 2, .slice (sa g43) ([(api_Item.mk (api_Ent.mk 0 0) ([(api_Comp.mk 0 ([4] : List Int)), (api_Comp.mk 1 ([9] : List Int))] : List api_Comp)), (api_Item.mk (api_Ent.mk 1 2) ([(api_Comp.mk 1 ([7] : List Int))] : List api_Comp))] : List api_Item).length 2] 3 rfl 0 (Nat.le_of_ble_eq_true rfl); ⟨w', he, h', trivial⟩) ?_
 refine ops_nil (fin_then (st_ret ?_))
 have hq_ := Option.some.inj hp
 obtain ⟨hr0_, hq_⟩ := Prod.mk.inj hq_
 obtain ⟨hr1_, hq_⟩ := Prod.mk.inj hq_
 have hr2_ := hq_
 subst hr0_
 subst hr1_
 subst hr2_
 refine fin_ret [.cell 0 26] [.agg #[sl A4 x2 2, .slice (sa g11) ([0, 2] : List Int).length 2, .slice (sa g43) ([(api_Item.mk (api_Ent.mk 0 0) ([(api_Comp.mk 0 ([4] : List Int)), (api_Comp.mk 1 ([9] : List Int))] : List api_Comp)), (api_Item.mk (api_Ent.mk 1 2) ([(api_Comp.mk 1 ([7] : List Int))] : List api_Comp))] : List api_Item).length 2]] rfl rfl (fun w_ hM => (.cell rfl (tr_run _ [.v (sl A4 x2 2), .v (.slice (sa g11) ([0, 2] : List Int).length 2), .v (.slice (sa g43) ([(api_Item.mk (api_Ent.mk 0 0) ([(api_Comp.mk 0 ([4] : List Int)), (api_Comp.mk 1 ([9] : List Int))] : List api_Comp)), (api_Item.mk (api_Ent.mk 1 2) ([(api_Comp.mk 1 ([7] : List Int))] : List api_Comp))] : List api_Item).length 2)] [ld b1 0 (sl A4 x2 2), ld b1 1 (.slice (sa g11) ([0, 2] : List Int).length 2), ld b1 2 (.slice (sa g43) ([(api_Item.mk (api_Ent.mk 0 0) ([(api_Comp.mk 0 ([4] : List Int)), (api_Comp.mk 1 ([9] : List Int))] : List api_Comp)), (api_Item.mk (api_Ent.mk 1 2) ([(api_Comp.mk 1 ([7] : List Int))] : List api_Comp))] : List api_Item).length 2)] (.agg #[sl A4 x2 2, .slice (sa g11) ([0, 2] : List Int).length 2, .slice (sa g43) ([(api_Item.mk (api_Ent.mk 0 0) ([(api_Comp.mk 0 ([4] : List Int)), (api_Comp.mk 1 ([9] : List Int))] : List api_Comp)), (api_Item.mk (api_Ent.mk 1 2) ([(api_Comp.mk 1 ([7] : List Int))] : List api_Comp))] : List api_Item).length 2] : Value) _ _ (by kernel_rfl) ⟨hM.cell 3 rfl rfl, hM.cell 3 rfl rfl, hM.cell 3 rfl rfl, rfl⟩) .nil)) (fun w_ hM => ?_)
 exact ⟨A4, y5, (sa g11), ([vI 0, vI 2]), (sa g43), ([vI 0, vI 0, .slice (sa g25) ([(api_Comp.mk 0 ([4] : List Int)), (api_Comp.mk 1 ([9] : List Int))] : List api_Comp).length 2, vI 1, vI 2, .slice (sa g33) ([(api_Comp.mk 1 ([7] : List Int))] : List api_Comp).length 1]), F38, W39, ⟨h8, h10, h42, (((((h9.trans hx18).trans hx22).trans hx30).trans hx36).trans hx40)⟩, rfl, hM.pick 5 [2, 1, 0, 4] (by kernel_rfl) (by decide) rfl⟩
theorem kind_Name_ok (w0 w : World) (cs : List Chunk) (F : Nat → Prop) (W : World) (s : ByteArray) (hM0 : Mem w0 (Fz F W :: cs) w) (t9001 : Bool) (hp : kind_Name s = some t9001) : Calls Tryz.prog 86 #[.string s] w fun e w' => (True) ∧ e = .returned (.bool t9001) ∧ Mem w0 (Fz F W :: cs) w' := by
 unfold kind_Name at hp
 refine sx_calls Tryz.func86 rfl (n := 41) (by kernel_rfl) (l := [(0, .string s)]) rfl (by rfl) hM0 ?_
 refine st_seq (st_region [oF 0] (by rfl) ?_)
 refine oQ [oF 0] [(0, .string s)] (by kernel_rfl) ?_
 refine ops_nil (fin_then (st_seq (st_seq (st_region [oF 0, oF 1, oF 2, oF 3, oF 4, oF 5, oF 6, oF 7] (by rfl) ?_))))
 refine oQ [oF 0, oF 1, oF 2, oF 3] [(8, .bool ((s.size : Int) == 0)), (0, .string s)] (by kernel_rfl) ?_
 refine ops_bool (t := ((s.size : Int) == 0)) (l1 := [(8, .bool true), (0, .string s)]) (l2 := [(8, .bool false), (0, .string s)]) (fun h => by rw [h]) (fun h => by rw [h]) (fun hc1 => ?_) (fun hc1 => ?_)
 ·
  have hp := cnd_t hc1 hp
  refine oQ [oF 4, oF 5, oF 6, oF 7] [(12, .bool true), (0, .string s)] (by kernel_rfl) ?_
  refine ops_nil (fin_then (st_true rfl (st_seq (st_region [oF 0] (by rfl) ?_))))
  refine oQ [oF 0] [(2, .bool false)] (by kernel_rfl) ?_
  refine ops_nil (fin_then (st_ret (fin_ret_then ?_)))
  have hq_ := Option.some.inj hp
  have hr0_ := hq_
  subst hr0_
  refine fin_ret [.tmp 2] [.bool false] rfl rfl (fun w_ hM => (.tmp rfl .nil)) (fun w_ hM => ?_)
  exact ⟨trivial, rfl, hM⟩
 ·
  have hp := cnd_f hc1 hp
  refine oQ [oF 4, oF 5, oF 6, oF 7] [(12, .bool (decide (16 < (s.size : Int)))), (0, .string s)] (by kernel_rfl) ?_
  refine ops_nil (fin_then ?_)
  refine st_if (b := decide (16 < (s.size : Int))) rfl (fun hc2 => ?_) (fun hc2 => ?_)
  ·
   have hp := cnd_t hc2 hp
   refine st_seq (st_region [oF 0] (by rfl) ?_)
   refine oQ [oF 0] [(2, .bool false)] (by kernel_rfl) ?_
   refine ops_nil (fin_then (st_ret (fin_ret_then ?_)))
   have hq_ := Option.some.inj hp
   have hr0_ := hq_
   subst hr0_
   refine fin_ret [.tmp 2] [.bool false] rfl rfl (fun w_ hM => (.tmp rfl .nil)) (fun w_ hM => ?_)
   exact ⟨trivial, rfl, hM⟩
  ·
   have hp := cnd_f hc2 hp
   refine st_skip (fin_then ?_)
   refine st_join1 (σ := Unit) (L := fun _ => []) (N := fun _ => Mem w0 (Fz F W :: cs)) (I := fun _ => (kind_Name_j1 = some t9001)) ?_ ?_
   ·
    rintro _ hp
    unfold kind_Name_j1 at hp
    refine st_seq (st_region [oF 0] (by rfl) ?_)
    refine oQ [oF 0] [(2, .bool true)] (by kernel_rfl) ?_
    refine ops_nil (fin_then (st_ret ?_))
    have hq_ := Option.some.inj hp
    have hr0_ := hq_
    subst hr0_
    refine fin_ret [.tmp 2] [.bool true] rfl rfl (fun w_ hM => (.tmp rfl .nil)) (fun w_ hM => ?_)
    exact ⟨trivial, rfl, hM⟩
   ·
    intro HJ1
    refine st_seq (st_seq (st_region [oF 0, oF 1, oF 2] (by rfl) ?_))
    refine oQ [oF 0, oF 1, oF 2] [(15, vI 0), (14, vI (s.size : Int)), (0, .string s)] (by kernel_rfl) ?_
    refine ops_nil (fin_then (st_block ?_))
    obtain ⟨r2, hl2, hk2⟩ := obind hp
    refine st_loopP (σ := Int) (ρ := (Bool ⊕ Unit)) (γ := Unit) hl2 () (fun s_ g_ => match s_, g_ with | i3, _ => [(0, .string s), (14, vI (s.size : Int)), (15, vI i3)]) (fun s_ g_ => match s_, g_ with | i3, _ => Mem w0 (Fz F W :: cs)) (fun s_ g_ => match s_, g_ with | i3, _ => True) trivial (look_has ⟨rfl, rfl, rfl, trivial⟩) (fun w_ hM => hM) ?_
    rintro i3 _ o2 - hs_ hd2
    have hp : (kind_Name_l2 s) i3 = some o2 := hs_
    clear hs_
    unfold kind_Name_l2 at hp
    refine st_seq (st_region [oF 0] (by rfl) ?_)
    refine oQ [oF 0] [(16, .bool (decide (i3 < (s.size : Int)))), (0, .string s), (14, vI (s.size : Int)), (15, vI i3)] (by kernel_rfl) ?_
    refine ops_nil (fin_then (st_seq ?_))
    refine st_if (b := decide (i3 < (s.size : Int))) rfl (fun hc4 => ?_) (fun hc4 => ?_)
    ·
     have hp := cnd_t hc4 hp
     refine st_skip (fin_then ?_)
     refine st_join1 (σ := Unit) (L := fun _ => [(0, .string s), (14, vI (s.size : Int)), (15, vI i3)]) (N := fun _ => Mem w0 (Fz F W :: cs)) (I := fun _ => ((kind_Name_j3 i3) = some o2)) ?_ ?_
     ·
      rintro _ hp
      unfold kind_Name_j3 at hp
      refine st_region [oF 0, oF 1] (by rfl) ?_
      refine oQ [oF 0, oF 1] [(15, vI (IntKind.i64.wrap (i3 + 1))), (0, .string s), (14, vI (s.size : Int))] (by kernel_rfl) ?_
      refine ops_nil ?_
      exact fin_again (IntKind.i64.wrap (i3 + 1)) () (Option.some.inj hp).symm trivial (look_has ⟨rfl, rfl, rfl, trivial⟩) (fun w_ hM => hM)
     ·
      intro HJ3
      refine st_seq (st_block (st_seq (st_region [oF 0, oF 1] (by rfl) ?_)))
      refine oQ [oF 0, oF 1] [(3, vI i3), (0, .string s), (14, vI (s.size : Int)), (15, vI i3)] (by kernel_rfl) ?_
      refine ops_nil (fin_then (st_seq (st_region [oF 0, oF 1, oF 2, oF 3] (by rfl) ?_)))
      refine oQ [oF 0, oF 1] [(19, vI i3), (18, .string s), (3, vI i3), (0, .string s), (14, vI (s.size : Int)), (15, vI i3)] (by kernel_rfl) ?_
      obtain ⟨x5, hv6, hp⟩ := obind hp
      refine ops_val (op := (.index 9 (.tmp 18) (.tmp 19))) (d := some 20) (v := .int .u8 x5) ⟨by kernel_rfl⟩ (run_strIdx Tryz.underlying9 rfl rfl hv6) ?_
      refine oQ [oF 3] [(4, .int .u8 x5), (3, vI i3), (0, .string s), (14, vI (s.size : Int)), (15, vI i3)] (by kernel_rfl) ?_
      refine ops_nil (fin_then (st_seq (st_region [oF 0, oF 1, oF 2, oF 3, oF 4, oF 5, oF 6, oF 7, oF 8, oF 9, oF 10, oF 11, oF 12, oF 13, oF 14, oF 15, oF 16, oF 17, oF 18] (by rfl) ?_)))
      refine oQ [oF 0, oF 1, oF 2] [(23, .bool (decide (97 ≤ x5))), (4, .int .u8 x5), (3, vI i3), (0, .string s), (14, vI (s.size : Int)), (15, vI i3)] (by kernel_rfl) ?_
      refine ops_bool (t := decide (97 ≤ x5)) (l1 := [(23, .bool true), (4, .int .u8 x5), (3, vI i3), (0, .string s), (14, vI (s.size : Int)), (15, vI i3)]) (l2 := [(23, .bool false), (4, .int .u8 x5), (3, vI i3), (0, .string s), (14, vI (s.size : Int)), (15, vI i3)]) (fun h => by rw [h]) (fun h => by rw [h]) (fun hc7 => ?_) (fun hc7 => ?_)
      ·
       have hp := cnd_t hc7 hp
       refine oQ [oF 3, oF 4, oF 5, oF 6] [(27, .bool (decide (x5 ≤ 122))), (4, .int .u8 x5), (3, vI i3), (0, .string s), (14, vI (s.size : Int)), (15, vI i3)] (by kernel_rfl) ?_
       refine ops_bool (t := decide (x5 ≤ 122)) (l1 := [(27, .bool true), (4, .int .u8 x5), (3, vI i3), (0, .string s), (14, vI (s.size : Int)), (15, vI i3)]) (l2 := [(27, .bool false), (4, .int .u8 x5), (3, vI i3), (0, .string s), (14, vI (s.size : Int)), (15, vI i3)]) (fun h => by rw [h]) (fun h => by rw [h]) (fun hc8 => ?_) (fun hc8 => ?_)
       ·
        have hp := cnd_t hc8 hp
        refine oQ [oF 7, oF 8, oF 9, oF 10, oF 11, oF 12, oF 13, oF 14, oF 15, oF 16, oF 17, oF 18] [(39, .bool false), (0, .string s), (14, vI (s.size : Int)), (15, vI i3)] (by kernel_rfl) ?_
        refine ops_nil (fin_then (st_false rfl (st_skip (fin_block ?_))))
        exact fin_join HJ3 () hp (look_has ⟨rfl, rfl, rfl, trivial⟩) (fun w_ hM => hM)
       ·
        have hp := cnd_f hc8 hp
        refine oQ [oF 7, oF 8, oF 9] [(30, .bool (decide (0 < i3))), (27, .bool false), (4, .int .u8 x5), (0, .string s), (14, vI (s.size : Int)), (15, vI i3)] (by kernel_rfl) ?_
        refine ops_bool (t := decide (0 < i3)) (l1 := [(30, .bool true), (27, .bool false), (4, .int .u8 x5), (0, .string s), (14, vI (s.size : Int)), (15, vI i3)]) (l2 := [(30, .bool false), (27, .bool false), (4, .int .u8 x5), (0, .string s), (14, vI (s.size : Int)), (15, vI i3)]) (fun h => by rw [h]) (fun h => by rw [h]) (fun hc9 => ?_) (fun hc9 => ?_)
        ·
         have hp := cnd_t hc9 hp
         refine oQ [oF 10, oF 11, oF 12, oF 13] [(34, .bool (decide (48 ≤ x5))), (27, .bool false), (4, .int .u8 x5), (0, .string s), (14, vI (s.size : Int)), (15, vI i3)] (by kernel_rfl) ?_
         refine ops_bool (t := decide (48 ≤ x5)) (l1 := [(34, .bool true), (27, .bool false), (4, .int .u8 x5), (0, .string s), (14, vI (s.size : Int)), (15, vI i3)]) (l2 := [(34, .bool false), (27, .bool false), (4, .int .u8 x5), (0, .string s), (14, vI (s.size : Int)), (15, vI i3)]) (fun h => by rw [h]) (fun h => by rw [h]) (fun hc10 => ?_) (fun hc10 => ?_)
         ·
          have hp := cnd_t hc10 hp
          refine oQ [oF 14, oF 15, oF 16, oF 17, oF 18] [(39, .bool (!(decide (x5 ≤ 57)))), (0, .string s), (14, vI (s.size : Int)), (15, vI i3)] (by kernel_rfl) ?_
          refine ops_nil (fin_then ?_)
          refine st_if (b := !(decide (x5 ≤ 57))) rfl (fun hc11 => ?_) (fun hc11 => ?_)
          ·
           have hp := cnd_t hc11 hp
           refine st_seq (st_region [oF 0] (by rfl) ?_)
           refine oQ [oF 0] [(2, .bool false)] (by kernel_rfl) ?_
           refine ops_nil (fin_then (st_ret (fin_ret_block (fin_ret_then (fin_ret_then (fin_ret_block (fin_ret_then ?_)))))))
           obtain hq_ := Option.some.inj hp
           subst hq_
           obtain hq_ := hd2 _ rfl
           subst hq_
           have hp : some false = some t9001 := hk2
           have hq_ := Option.some.inj hp
           have hr0_ := hq_
           subst hr0_
           refine fin_ret [.tmp 2] [.bool false] rfl rfl (fun w_ hM => (.tmp rfl .nil)) (fun w_ hM => ?_)
           exact ⟨trivial, rfl, hM⟩
          ·
           have hp := cnd_f hc11 hp
           refine st_skip (fin_block ?_)
           exact fin_join HJ3 () hp (look_has ⟨rfl, rfl, rfl, trivial⟩) (fun w_ hM => hM)
         ·
          have hp := cnd_f hc10 hp
          refine oQ [oF 14, oF 15, oF 16, oF 17, oF 18] [(39, .bool true), (0, .string s), (14, vI (s.size : Int)), (15, vI i3)] (by kernel_rfl) ?_
          refine ops_nil (fin_then (st_true rfl (st_seq (st_region [oF 0] (by rfl) ?_))))
          refine oQ [oF 0] [(2, .bool false)] (by kernel_rfl) ?_
          refine ops_nil (fin_then (st_ret (fin_ret_block (fin_ret_then (fin_ret_then (fin_ret_block (fin_ret_then ?_)))))))
          obtain hq_ := Option.some.inj hp
          subst hq_
          obtain hq_ := hd2 _ rfl
          subst hq_
          have hp : some false = some t9001 := hk2
          have hq_ := Option.some.inj hp
          have hr0_ := hq_
          subst hr0_
          refine fin_ret [.tmp 2] [.bool false] rfl rfl (fun w_ hM => (.tmp rfl .nil)) (fun w_ hM => ?_)
          exact ⟨trivial, rfl, hM⟩
        ·
         have hp := cnd_f hc9 hp
         refine oQ [oF 10, oF 11, oF 12, oF 13, oF 14, oF 15, oF 16, oF 17, oF 18] [(39, .bool true), (0, .string s), (14, vI (s.size : Int)), (15, vI i3)] (by kernel_rfl) ?_
         refine ops_nil (fin_then (st_true rfl (st_seq (st_region [oF 0] (by rfl) ?_))))
         refine oQ [oF 0] [(2, .bool false)] (by kernel_rfl) ?_
         refine ops_nil (fin_then (st_ret (fin_ret_block (fin_ret_then (fin_ret_then (fin_ret_block (fin_ret_then ?_)))))))
         obtain hq_ := Option.some.inj hp
         subst hq_
         obtain hq_ := hd2 _ rfl
         subst hq_
         have hp : some false = some t9001 := hk2
         have hq_ := Option.some.inj hp
         have hr0_ := hq_
         subst hr0_
         refine fin_ret [.tmp 2] [.bool false] rfl rfl (fun w_ hM => (.tmp rfl .nil)) (fun w_ hM => ?_)
         exact ⟨trivial, rfl, hM⟩
      ·
       have hp := cnd_f hc7 hp
       refine oQ [oF 3, oF 4, oF 5, oF 6, oF 7, oF 8, oF 9] [(30, .bool (decide (0 < i3))), (27, .bool false), (4, .int .u8 x5), (0, .string s), (14, vI (s.size : Int)), (15, vI i3)] (by kernel_rfl) ?_
       refine ops_bool (t := decide (0 < i3)) (l1 := [(30, .bool true), (27, .bool false), (4, .int .u8 x5), (0, .string s), (14, vI (s.size : Int)), (15, vI i3)]) (l2 := [(30, .bool false), (27, .bool false), (4, .int .u8 x5), (0, .string s), (14, vI (s.size : Int)), (15, vI i3)]) (fun h => by rw [h]) (fun h => by rw [h]) (fun hc12 => ?_) (fun hc12 => ?_)
       ·
        have hp := cnd_t hc12 hp
        refine oQ [oF 10, oF 11, oF 12, oF 13] [(34, .bool (decide (48 ≤ x5))), (27, .bool false), (4, .int .u8 x5), (0, .string s), (14, vI (s.size : Int)), (15, vI i3)] (by kernel_rfl) ?_
        refine ops_bool (t := decide (48 ≤ x5)) (l1 := [(34, .bool true), (27, .bool false), (4, .int .u8 x5), (0, .string s), (14, vI (s.size : Int)), (15, vI i3)]) (l2 := [(34, .bool false), (27, .bool false), (4, .int .u8 x5), (0, .string s), (14, vI (s.size : Int)), (15, vI i3)]) (fun h => by rw [h]) (fun h => by rw [h]) (fun hc13 => ?_) (fun hc13 => ?_)
        ·
         have hp := cnd_t hc13 hp
         refine oQ [oF 14, oF 15, oF 16, oF 17, oF 18] [(39, .bool (!(decide (x5 ≤ 57)))), (0, .string s), (14, vI (s.size : Int)), (15, vI i3)] (by kernel_rfl) ?_
         refine ops_nil (fin_then ?_)
         refine st_if (b := !(decide (x5 ≤ 57))) rfl (fun hc14 => ?_) (fun hc14 => ?_)
         ·
          have hp := cnd_t hc14 hp
          refine st_seq (st_region [oF 0] (by rfl) ?_)
          refine oQ [oF 0] [(2, .bool false)] (by kernel_rfl) ?_
          refine ops_nil (fin_then (st_ret (fin_ret_block (fin_ret_then (fin_ret_then (fin_ret_block (fin_ret_then ?_)))))))
          obtain hq_ := Option.some.inj hp
          subst hq_
          obtain hq_ := hd2 _ rfl
          subst hq_
          have hp : some false = some t9001 := hk2
          have hq_ := Option.some.inj hp
          have hr0_ := hq_
          subst hr0_
          refine fin_ret [.tmp 2] [.bool false] rfl rfl (fun w_ hM => (.tmp rfl .nil)) (fun w_ hM => ?_)
          exact ⟨trivial, rfl, hM⟩
         ·
          have hp := cnd_f hc14 hp
          refine st_skip (fin_block ?_)
          exact fin_join HJ3 () hp (look_has ⟨rfl, rfl, rfl, trivial⟩) (fun w_ hM => hM)
        ·
         have hp := cnd_f hc13 hp
         refine oQ [oF 14, oF 15, oF 16, oF 17, oF 18] [(39, .bool true), (0, .string s), (14, vI (s.size : Int)), (15, vI i3)] (by kernel_rfl) ?_
         refine ops_nil (fin_then (st_true rfl (st_seq (st_region [oF 0] (by rfl) ?_))))
         refine oQ [oF 0] [(2, .bool false)] (by kernel_rfl) ?_
         refine ops_nil (fin_then (st_ret (fin_ret_block (fin_ret_then (fin_ret_then (fin_ret_block (fin_ret_then ?_)))))))
         obtain hq_ := Option.some.inj hp
         subst hq_
         obtain hq_ := hd2 _ rfl
         subst hq_
         have hp : some false = some t9001 := hk2
         have hq_ := Option.some.inj hp
         have hr0_ := hq_
         subst hr0_
         refine fin_ret [.tmp 2] [.bool false] rfl rfl (fun w_ hM => (.tmp rfl .nil)) (fun w_ hM => ?_)
         exact ⟨trivial, rfl, hM⟩
       ·
        have hp := cnd_f hc12 hp
        refine oQ [oF 10, oF 11, oF 12, oF 13, oF 14, oF 15, oF 16, oF 17, oF 18] [(39, .bool true), (0, .string s), (14, vI (s.size : Int)), (15, vI i3)] (by kernel_rfl) ?_
        refine ops_nil (fin_then (st_true rfl (st_seq (st_region [oF 0] (by rfl) ?_))))
        refine oQ [oF 0] [(2, .bool false)] (by kernel_rfl) ?_
        refine ops_nil (fin_then (st_ret (fin_ret_block (fin_ret_then (fin_ret_then (fin_ret_block (fin_ret_then ?_)))))))
        obtain hq_ := Option.some.inj hp
        subst hq_
        obtain hq_ := hd2 _ rfl
        subst hq_
        have hp : some false = some t9001 := hk2
        have hq_ := Option.some.inj hp
        have hr0_ := hq_
        subst hr0_
        refine fin_ret [.tmp 2] [.bool false] rfl rfl (fun w_ hM => (.tmp rfl .nil)) (fun w_ hM => ?_)
        exact ⟨trivial, rfl, hM⟩
    ·
     have hp := cnd_f hc4 hp
     refine st_exit (fin_exit_then (fin_exit_then (fin_exit ?_)))
     obtain hq_ := Option.some.inj hp
     subst hq_
     obtain hq_ := hd2 _ rfl
     subst hq_
     have hp : kind_Name_j1 = some t9001 := hk2
     exact fin_join HJ1 () hp (look_has trivial) (fun w_ hM => hM)
theorem kind_field_ok (w0 w : World) (cs : List Chunk) (F : Nat → Prop) (W : World) (f_0 : ByteArray) (f_1 : Int) (f_2 : Int) (hM0 : Mem w0 (Fz F W :: cs) w) (i9001 : Int) (hp : kind_field f_0 f_1 f_2 = some i9001) : Calls Tryz.prog 87 #[.agg #[.string f_0, vI f_1, vI f_2]] w fun e w' => (True) ∧ e = .returned (vI i9001) ∧ Mem w0 (Fz F W :: cs) w' := by
 unfold kind_field at hp
 refine sx_calls Tryz.func87 rfl (n := 27) (by kernel_rfl) (l := [(0, .agg #[.string f_0, vI f_1, vI f_2])]) rfl (by rfl) hM0 ?_
 refine st_seq (st_region [oF 0, oF 1] (by rfl) ?_)
 refine ops_newB (d := some 1) [.string f_0, vI f_1, vI f_2] 99 (fun b1 => ⟨by kernel_rfl⟩) (fun w_ hM hS => trivial) (fun b1 => ?_)
 refine oQ [oF 1] [(1, vP b1 0)] (by kernel_rfl) ?_
 refine ops_nil (fin_then (st_seq (st_seq (st_region [oF 0, oF 1, oF 2, oF 3, oF 4, oF 5, oF 6, oF 7, oF 8, oF 9, oF 10, oF 11, oF 12, oF 13, oF 14, oF 15, oF 16, oF 17, oF 18, oF 19, oF 20, oF 21, oF 22, oF 23] (by rfl) ?_))))
 refine oQ [oF 0] [(3, vP b1 0), (1, vP b1 0)] (by kernel_rfl) ?_
 refine ops_mem (d := some 4) (an := [.v (.string f_0)]) (evs := [ld b1 0 (.string f_0)]) (v := .string f_0) ⟨by kernel_rfl⟩ (fun w_ hM hS => ⟨w_, ⟨hM.cell 0 rfl rfl, rfl⟩, hM, trivial⟩) ?_
 obtain ⟨x2, hv3, hp⟩ := obind hp
 refine ops_callI (σ := Unit) (d := some 5) (f := 86) (args := #[.string f_0]) (v := (fun _ => .bool x2)) (I := (fun _ => True)) (M' := (fun _ => Mem w0 (.blk b1 [.string f_0, vI f_1, vI f_2] 99 :: Fz F W :: cs))) ⟨by kernel_rfl⟩ (fun w_ hM hS => (kind_Name_ok w0 w_ (.blk b1 [.string f_0, vI f_1, vI f_2] 99 :: cs) F W f_0 (hM.pick 2 [1, 0] (by kernel_rfl) (by decide) rfl)  x2 hv3).mono (by rintro e w' ⟨-, rfl, h'⟩; have h' : Mem w0 (.blk b1 [.string f_0, vI f_1, vI f_2] 99 :: Fz F W :: cs) w' := (h'.pick 2 [1, 0] (by kernel_rfl) (by decide) rfl); exact ⟨(), trivial, rfl, h', trivial⟩)) ?_
 rintro _ -
 refine oQ [oF 3, oF 4] [(7, .bool (!x2)), (1, vP b1 0)] (by kernel_rfl) ?_
 refine ops_bool (t := !x2) (l1 := [(7, .bool true), (1, vP b1 0)]) (l2 := [(7, .bool false), (1, vP b1 0)]) (fun h => by rw [h]) (fun h => by rw [h]) (fun hc4 => ?_) (fun hc4 => ?_)
 ·
  have hp := cnd_t hc4 hp
  refine oQ [oF 5, oF 6, oF 7, oF 8, oF 9, oF 10, oF 11, oF 12, oF 13, oF 14, oF 15, oF 16, oF 17, oF 18, oF 19, oF 20, oF 21, oF 22, oF 23] [(26, .bool true)] (by kernel_rfl) ?_
  refine ops_nil (fin_then (st_true rfl (st_seq (st_region [oF 0] (by rfl) ?_))))
  refine oQ [oF 0] [(2, vI 3)] (by kernel_rfl) ?_
  refine ops_nil (fin_then (st_ret (fin_ret_then ?_)))
  have hq_ := Option.some.inj hp
  have hr0_ := hq_
  subst hr0_
  refine fin_ret [.tmp 2] [vI 3] rfl rfl (fun w_ hM => (.tmp rfl .nil)) (fun w_ hM => ?_)
  exact ⟨trivial, rfl, hM.pick 2 [1] (by kernel_rfl) (by decide) rfl⟩
 ·
  have hp := cnd_f hc4 hp
  refine oQ [oF 5] [(8, vP b1 1), (7, .bool false), (1, vP b1 0)] (by kernel_rfl) ?_
  refine ops_mem (d := some 9) (an := [.v (vI f_1)]) (evs := [ld b1 1 (vI f_1)]) (v := vI f_1) ⟨by kernel_rfl⟩ (fun w_ hM hS => ⟨w_, ⟨hM.cell 0 rfl rfl, rfl⟩, hM, trivial⟩) ?_
  refine oQ [oF 7, oF 8, oF 9] [(12, .bool (decide (f_1 < 1))), (1, vP b1 0)] (by kernel_rfl) ?_
  refine ops_bool (t := decide (f_1 < 1)) (l1 := [(12, .bool true), (1, vP b1 0)]) (l2 := [(12, .bool false), (1, vP b1 0)]) (fun h => by rw [h]) (fun h => by rw [h]) (fun hc5 => ?_) (fun hc5 => ?_)
  ·
   have hp := cnd_t hc5 hp
   refine oQ [oF 10, oF 11, oF 12, oF 13, oF 14, oF 15, oF 16, oF 17, oF 18, oF 19, oF 20, oF 21, oF 22, oF 23] [(26, .bool true)] (by kernel_rfl) ?_
   refine ops_nil (fin_then (st_true rfl (st_seq (st_region [oF 0] (by rfl) ?_))))
   refine oQ [oF 0] [(2, vI 3)] (by kernel_rfl) ?_
   refine ops_nil (fin_then (st_ret (fin_ret_then ?_)))
   have hq_ := Option.some.inj hp
   have hr0_ := hq_
   subst hr0_
   refine fin_ret [.tmp 2] [vI 3] rfl rfl (fun w_ hM => (.tmp rfl .nil)) (fun w_ hM => ?_)
   exact ⟨trivial, rfl, hM.pick 2 [1] (by kernel_rfl) (by decide) rfl⟩
  ·
   have hp := cnd_f hc5 hp
   refine oQ [oF 10] [(13, vP b1 1), (12, .bool false), (1, vP b1 0)] (by kernel_rfl) ?_
   refine ops_mem (d := some 14) (an := [.v (vI f_1)]) (evs := [ld b1 1 (vI f_1)]) (v := vI f_1) ⟨by kernel_rfl⟩ (fun w_ hM hS => ⟨w_, ⟨hM.cell 0 rfl rfl, rfl⟩, hM, trivial⟩) ?_
   refine oQ [oF 12, oF 13, oF 14] [(17, .bool (decide (32 < f_1))), (1, vP b1 0)] (by kernel_rfl) ?_
   refine ops_bool (t := decide (32 < f_1)) (l1 := [(17, .bool true), (1, vP b1 0)]) (l2 := [(17, .bool false), (1, vP b1 0)]) (fun h => by rw [h]) (fun h => by rw [h]) (fun hc6 => ?_) (fun hc6 => ?_)
   ·
    have hp := cnd_t hc6 hp
    refine oQ [oF 15, oF 16, oF 17, oF 18, oF 19, oF 20, oF 21, oF 22, oF 23] [(26, .bool true)] (by kernel_rfl) ?_
    refine ops_nil (fin_then (st_true rfl (st_seq (st_region [oF 0] (by rfl) ?_))))
    refine oQ [oF 0] [(2, vI 3)] (by kernel_rfl) ?_
    refine ops_nil (fin_then (st_ret (fin_ret_then ?_)))
    have hq_ := Option.some.inj hp
    have hr0_ := hq_
    subst hr0_
    refine fin_ret [.tmp 2] [vI 3] rfl rfl (fun w_ hM => (.tmp rfl .nil)) (fun w_ hM => ?_)
    exact ⟨trivial, rfl, hM.pick 2 [1] (by kernel_rfl) (by decide) rfl⟩
   ·
    have hp := cnd_f hc6 hp
    refine oQ [oF 15] [(18, vP b1 2), (17, .bool false), (1, vP b1 0)] (by kernel_rfl) ?_
    refine ops_mem (d := some 19) (an := [.v (vI f_2)]) (evs := [ld b1 2 (vI f_2)]) (v := vI f_2) ⟨by kernel_rfl⟩ (fun w_ hM hS => ⟨w_, ⟨hM.cell 0 rfl rfl, rfl⟩, hM, trivial⟩) ?_
    refine oQ [oF 17, oF 18, oF 19] [(22, .bool (decide (f_2 < (-4294967296)))), (1, vP b1 0)] (by kernel_rfl) ?_
    refine ops_bool (t := decide (f_2 < (-4294967296))) (l1 := [(22, .bool true), (1, vP b1 0)]) (l2 := [(22, .bool false), (1, vP b1 0)]) (fun h => by rw [h]) (fun h => by rw [h]) (fun hc7 => ?_) (fun hc7 => ?_)
    ·
     have hp := cnd_t hc7 hp
     refine oQ [oF 20, oF 21, oF 22, oF 23] [(26, .bool true)] (by kernel_rfl) ?_
     refine ops_nil (fin_then (st_true rfl (st_seq (st_region [oF 0] (by rfl) ?_))))
     refine oQ [oF 0] [(2, vI 3)] (by kernel_rfl) ?_
     refine ops_nil (fin_then (st_ret (fin_ret_then ?_)))
     have hq_ := Option.some.inj hp
     have hr0_ := hq_
     subst hr0_
     refine fin_ret [.tmp 2] [vI 3] rfl rfl (fun w_ hM => (.tmp rfl .nil)) (fun w_ hM => ?_)
     exact ⟨trivial, rfl, hM.pick 2 [1] (by kernel_rfl) (by decide) rfl⟩
    ·
     have hp := cnd_f hc7 hp
     refine oQ [oF 20] [(23, vP b1 2), (22, .bool false)] (by kernel_rfl) ?_
     refine ops_mem (d := some 24) (an := [.v (vI f_2)]) (evs := [ld b1 2 (vI f_2)]) (v := vI f_2) ⟨by kernel_rfl⟩ (fun w_ hM hS => ⟨w_, ⟨hM.cell 0 rfl rfl, rfl⟩, hM, trivial⟩) ?_
     refine oQ [oF 22, oF 23] [(26, .bool (decide (4294967296 < f_2)))] (by kernel_rfl) ?_
     refine ops_nil (fin_then ?_)
     refine st_if (b := decide (4294967296 < f_2)) rfl (fun hc8 => ?_) (fun hc8 => ?_)
     ·
      have hp := cnd_t hc8 hp
      refine st_seq (st_region [oF 0] (by rfl) ?_)
      refine oQ [oF 0] [(2, vI 3)] (by kernel_rfl) ?_
      refine ops_nil (fin_then (st_ret (fin_ret_then ?_)))
      have hq_ := Option.some.inj hp
      have hr0_ := hq_
      subst hr0_
      refine fin_ret [.tmp 2] [vI 3] rfl rfl (fun w_ hM => (.tmp rfl .nil)) (fun w_ hM => ?_)
      exact ⟨trivial, rfl, hM.pick 2 [1] (by kernel_rfl) (by decide) rfl⟩
     ·
      have hp := cnd_f hc8 hp
      refine st_skip (fin_then (st_seq (st_region [oF 0] (by rfl) ?_)))
      refine oQ [oF 0] [(2, vI 0)] (by kernel_rfl) ?_
      refine ops_nil (fin_then (st_ret ?_))
      have hq_ := Option.some.inj hp
      have hr0_ := hq_
      subst hr0_
      refine fin_ret [.tmp 2] [vI 0] rfl rfl (fun w_ hM => (.tmp rfl .nil)) (fun w_ hM => ?_)
      exact ⟨trivial, rfl, hM.pick 2 [1] (by kernel_rfl) (by decide) rfl⟩
theorem kind_One_ok (w0 w : World) (cs : List Chunk) (F : Nat → Prop) (W : World) (k_0 : ByteArray) (A_k_1 : Option Addr) (c_k_1 : Nat) (k_1 : List api_Field) (hM0 : Mem w0 (Fz F W :: cs) w) (h_k_1 : RdS R_api_Field F W A_k_1 c_k_1 k_1) (i9001 : Int) (hp : kind_One k_0 k_1 = some i9001) : Calls Tryz.prog 66 #[.agg #[.string k_0, sl A_k_1 k_1 c_k_1]] w fun e w' => (True) ∧ e = .returned (vI i9001) ∧ Mem w0 (Fz F W :: cs) w' := by
 unfold kind_One at hp
 refine sx_calls Tryz.func66 rfl (n := 45) (by kernel_rfl) (l := [(0, .agg #[.string k_0, sl A_k_1 k_1 c_k_1])]) rfl (by rfl) hM0 ?_
 refine st_seq (st_region [oF 0, oF 1] (by rfl) ?_)
 refine ops_newB (d := some 1) [.string k_0, sl A_k_1 k_1 c_k_1] 86 (fun b1 => ⟨by kernel_rfl⟩) (fun w_ hM hS => trivial) (fun b1 => ?_)
 refine oQ [oF 1] [(1, vP b1 0)] (by kernel_rfl) ?_
 refine ops_nil (fin_then (st_seq (st_seq (st_region [oF 0, oF 1, oF 2, oF 3] (by rfl) ?_))))
 refine oQ [oF 0] [(8, vP b1 0), (1, vP b1 0)] (by kernel_rfl) ?_
 refine ops_mem (d := some 9) (an := [.v (.string k_0)]) (evs := [ld b1 0 (.string k_0)]) (v := .string k_0) ⟨by kernel_rfl⟩ (fun w_ hM hS => ⟨w_, ⟨hM.cell 0 rfl rfl, rfl⟩, hM, trivial⟩) ?_
 obtain ⟨x2, hv3, hp⟩ := obind hp
 refine ops_callI (σ := Unit) (d := some 10) (f := 86) (args := #[.string k_0]) (v := (fun _ => .bool x2)) (I := (fun _ => True)) (M' := (fun _ => Mem w0 (.blk b1 [.string k_0, sl A_k_1 k_1 c_k_1] 86 :: Fz F W :: cs))) ⟨by kernel_rfl⟩ (fun w_ hM hS => (kind_Name_ok w0 w_ (.blk b1 [.string k_0, sl A_k_1 k_1 c_k_1] 86 :: cs) F W k_0 (hM.pick 2 [1, 0] (by kernel_rfl) (by decide) rfl)  x2 hv3).mono (by rintro e w' ⟨-, rfl, h'⟩; have h' : Mem w0 (.blk b1 [.string k_0, sl A_k_1 k_1 c_k_1] 86 :: Fz F W :: cs) w' := (h'.pick 2 [1, 0] (by kernel_rfl) (by decide) rfl); exact ⟨(), trivial, rfl, h', trivial⟩)) ?_
 rintro _ -
 refine oQ [oF 3] [(11, .bool (!x2)), (1, vP b1 0)] (by kernel_rfl) ?_
 refine ops_nil (fin_then ?_)
 refine st_if (b := !x2) rfl (fun hc4 => ?_) (fun hc4 => ?_)
 ·
  have hp := cnd_t hc4 hp
  refine st_seq (st_region [oF 0] (by rfl) ?_)
  refine oQ [oF 0] [(2, vI 3)] (by kernel_rfl) ?_
  refine ops_nil (fin_then (st_ret (fin_ret_then ?_)))
  have hq_ := Option.some.inj hp
  have hr0_ := hq_
  subst hr0_
  refine fin_ret [.tmp 2] [vI 3] rfl rfl (fun w_ hM => (.tmp rfl .nil)) (fun w_ hM => ?_)
  exact ⟨trivial, rfl, hM.pick 2 [1] (by kernel_rfl) (by decide) rfl⟩
 ·
  have hp := cnd_f hc4 hp
  refine st_skip (fin_then (st_seq (st_seq (st_region [oF 0, oF 1, oF 2, oF 3] (by rfl) ?_))))
  refine oQ [oF 0] [(12, vP b1 1), (1, vP b1 0)] (by kernel_rfl) ?_
  refine ops_mem (d := some 13) (an := [.v (sl A_k_1 k_1 c_k_1)]) (evs := [ld b1 1 (sl A_k_1 k_1 c_k_1)]) (v := sl A_k_1 k_1 c_k_1) ⟨by kernel_rfl⟩ (fun w_ hM hS => ⟨w_, ⟨hM.cell 0 rfl rfl, rfl⟩, hM, trivial⟩) ?_
  refine oQ [oF 2, oF 3] [(15, .bool (decide (8 < (k_1.length : Int)))), (1, vP b1 0)] (by kernel_rfl) ?_
  refine ops_nil (fin_then ?_)
  refine st_if (b := decide (8 < (k_1.length : Int))) rfl (fun hc5 => ?_) (fun hc5 => ?_)
  ·
   have hp := cnd_t hc5 hp
   refine st_seq (st_region [oF 0] (by rfl) ?_)
   refine oQ [oF 0] [(2, vI 2)] (by kernel_rfl) ?_
   refine ops_nil (fin_then (st_ret (fin_ret_then ?_)))
   have hq_ := Option.some.inj hp
   have hr0_ := hq_
   subst hr0_
   refine fin_ret [.tmp 2] [vI 2] rfl rfl (fun w_ hM => (.tmp rfl .nil)) (fun w_ hM => ?_)
   exact ⟨trivial, rfl, hM.pick 2 [1] (by kernel_rfl) (by decide) rfl⟩
  ·
   have hp := cnd_f hc5 hp
   refine st_skip (fin_then ?_)
   refine st_join1 (σ := Unit) (L := fun _ => []) (N := fun _ => Mem w0 (Fz F W :: cs)) (I := fun _ => (kind_One_j1 = some i9001)) ?_ ?_
   ·
    rintro _ hp
    unfold kind_One_j1 at hp
    refine st_seq (st_region [oF 0] (by rfl) ?_)
    refine oQ [oF 0] [(2, vI 0)] (by kernel_rfl) ?_
    refine ops_nil (fin_then (st_ret ?_))
    have hq_ := Option.some.inj hp
    have hr0_ := hq_
    subst hr0_
    refine fin_ret [.tmp 2] [vI 0] rfl rfl (fun w_ hM => (.tmp rfl .nil)) (fun w_ hM => ?_)
    exact ⟨trivial, rfl, hM⟩
   ·
    intro HJ1
    refine st_seq (st_seq (st_region [oF 0, oF 1, oF 2, oF 3] (by rfl) ?_))
    refine oQ [oF 0] [(16, vP b1 1), (1, vP b1 0)] (by kernel_rfl) ?_
    refine ops_mem (d := some 17) (an := [.v (sl A_k_1 k_1 c_k_1)]) (evs := [ld b1 1 (sl A_k_1 k_1 c_k_1)]) (v := sl A_k_1 k_1 c_k_1) ⟨by kernel_rfl⟩ (fun w_ hM hS => ⟨w_, ⟨hM.cell 0 rfl rfl, rfl⟩, hM, trivial⟩) ?_
    refine oQ [oF 2, oF 3] [(19, vI 0), (18, vI (k_1.length : Int)), (17, sl A_k_1 k_1 c_k_1), (1, vP b1 0)] (by kernel_rfl) ?_
    refine ops_nil (fin_then (st_block ?_))
    obtain ⟨r2, hl2, hk2⟩ := obind hp
    refine st_loopP (σ := Int) (ρ := (Int ⊕ Unit)) (γ := Unit) hl2 () (fun s_ g_ => match s_, g_ with | i6, _ => [(1, vP b1 0), (17, sl A_k_1 k_1 c_k_1), (18, vI (k_1.length : Int)), (19, vI i6)]) (fun s_ g_ => match s_, g_ with | i6, _ => Mem w0 (.blk b1 [.string k_0, sl A_k_1 k_1 c_k_1] 86 :: Fz F W :: cs)) (fun s_ g_ => match s_, g_ with | i6, _ => True) trivial (look_has ⟨rfl, rfl, rfl, rfl, trivial⟩) (fun w_ hM => hM) ?_
    rintro i6 _ o2 - hs_ hd2
    have hp : (kind_One_l2 k_1) i6 = some o2 := hs_
    clear hs_
    unfold kind_One_l2 at hp
    refine st_seq (st_region [oF 0] (by rfl) ?_)
    refine oQ [oF 0] [(20, .bool (decide (i6 < (k_1.length : Int)))), (1, vP b1 0), (17, sl A_k_1 k_1 c_k_1), (18, vI (k_1.length : Int)), (19, vI i6)] (by kernel_rfl) ?_
    refine ops_nil (fin_then (st_seq ?_))
    refine st_if (b := decide (i6 < (k_1.length : Int))) rfl (fun hc7 => ?_) (fun hc7 => ?_)
    ·
     have hp := cnd_t hc7 hp
     refine st_skip (fin_then ?_)
     refine st_join1 (σ := Unit) (L := fun _ => [(1, vP b1 0), (17, sl A_k_1 k_1 c_k_1), (18, vI (k_1.length : Int)), (19, vI i6)]) (N := fun _ => Mem w0 (.blk b1 [.string k_0, sl A_k_1 k_1 c_k_1] 86 :: Fz F W :: cs)) (I := fun _ => ((kind_One_j3 i6) = some o2)) ?_ ?_
     ·
      rintro _ hp
      unfold kind_One_j3 at hp
      refine st_region [oF 0, oF 1] (by rfl) ?_
      refine oQ [oF 0, oF 1] [(19, vI (IntKind.i64.wrap (i6 + 1))), (1, vP b1 0), (17, sl A_k_1 k_1 c_k_1), (18, vI (k_1.length : Int))] (by kernel_rfl) ?_
      refine ops_nil ?_
      exact fin_again (IntKind.i64.wrap (i6 + 1)) () (Option.some.inj hp).symm trivial (look_has ⟨rfl, rfl, rfl, rfl, trivial⟩) (fun w_ hM => hM)
     ·
      intro HJ3
      refine st_seq (st_block (st_seq (st_region [oF 0, oF 1, oF 2, oF 3, oF 4, oF 5] (by rfl) ?_)))
      refine oQ [oF 0] [(21, vI i6), (1, vP b1 0), (17, sl A_k_1 k_1 c_k_1), (18, vI (k_1.length : Int)), (19, vI i6)] (by kernel_rfl) ?_
      obtain ⟨x8, hv9, hp⟩ := obind hp
      obtain ⟨m10, hm11, hx12⟩ := idx_some hv9
      have hl15 := (List.getElem?_eq_some_iff.1 hx12).1
      obtain ⟨ad16, vs13, hA17, hr14, hq18⟩ := RdS.el h_k_1 hx12
      obtain rfl := dec_api_Field hr14
      refine ops_val (op := (.indexAddr 84 (.tmp 17) (.tmp 19))) (d := some 22) (v := .pointer (some (ad16.add (m10 * 3)))) ⟨by kernel_rfl⟩ (run_indexA hA17 Tryz.underlying84 (z := 3) (by kernel_rfl) rfl rfl hm11 hl15) ?_
      refine ops_mem (d := some 23) (an := [.v (.string x8.Name), .v (vI x8.Bits), .v (vI x8.Low)]) (evs := [.load (ad16.add (m10 * 3)) (.string x8.Name), .load ((ad16.add (m10 * 3)).add 1) (vI x8.Bits), .load ((ad16.add (m10 * 3)).add 2) (vI x8.Low)]) (v := .agg #[.string x8.Name, vI x8.Bits, vI x8.Low]) ⟨by kernel_rfl⟩ (fun w_ hM hS => ⟨w_, ⟨hM.elcell 1 rfl hq18 0 rfl, hM.elcell 1 rfl hq18 1 rfl, hM.elcell 1 rfl hq18 2 rfl, rfl⟩, hM, trivial⟩) ?_
      refine ops_newB (d := some 4) [.string ByteArray.empty, vI 0, vI 0] 99 (fun b19 => ⟨by kernel_rfl⟩) (fun w_ hM hS => trivial) (fun b19 => ?_)
      refine oQ [oF 4] [(3, vI i6), (4, vP b19 0), (23, .agg #[.string x8.Name, vI x8.Bits, vI x8.Low]), (1, vP b1 0), (17, sl A_k_1 k_1 c_k_1), (18, vI (k_1.length : Int)), (19, vI i6)] (by kernel_rfl) ?_
      refine ops_store (an := []) (evs := [sr b19 0 (.string x8.Name), sr b19 1 (vI x8.Bits), sr b19 2 (vI x8.Low)]) ⟨by kernel_rfl⟩ (fun w_ hM hS => let ⟨w', he, h'⟩ := hM.evs_stores [.string x8.Name, vI x8.Bits, vI x8.Low] 0 rfl 0 (Nat.le_of_ble_eq_true rfl); ⟨w', he, h', trivial⟩) ?_
      refine ops_nil (fin_then (st_seq (st_seq (st_region [oF 0, oF 1, oF 2] (by rfl) ?_))))
      refine ops_mem (d := some 24) (an := [.v (.string x8.Name), .v (vI x8.Bits), .v (vI x8.Low)]) (evs := [ld b19 0 (.string x8.Name), ld b19 1 (vI x8.Bits), ld b19 2 (vI x8.Low)]) (v := .agg #[.string x8.Name, vI x8.Bits, vI x8.Low]) ⟨by kernel_rfl⟩ (fun w_ hM hS => ⟨w_, ⟨hM.cell 0 rfl rfl, hM.cell 0 rfl rfl, hM.cell 0 rfl rfl, rfl⟩, hM, trivial⟩) ?_
      obtain ⟨x20, hv21, hp⟩ := obind hp
      refine ops_callI (σ := Unit) (d := some 25) (f := 87) (args := #[.agg #[.string x8.Name, vI x8.Bits, vI x8.Low]]) (v := (fun _ => vI x20)) (I := (fun _ => True)) (M' := (fun _ => Mem w0 (.blk b19 [.string x8.Name, vI x8.Bits, vI x8.Low] 99 :: .blk b1 [.string k_0, sl A_k_1 k_1 c_k_1] 86 :: Fz F W :: cs))) ⟨by kernel_rfl⟩ (fun w_ hM hS => (kind_field_ok w0 w_ (.blk b19 [.string x8.Name, vI x8.Bits, vI x8.Low] 99 :: .blk b1 [.string k_0, sl A_k_1 k_1 c_k_1] 86 :: cs) F W x8.Name x8.Bits x8.Low (hM.pick 3 [2, 0, 1] (by kernel_rfl) (by decide) rfl)  x20 hv21).mono (by rintro e w' ⟨-, rfl, h'⟩; have h' : Mem w0 (.blk b19 [.string x8.Name, vI x8.Bits, vI x8.Low] 99 :: .blk b1 [.string k_0, sl A_k_1 k_1 c_k_1] 86 :: Fz F W :: cs) w' := (h'.pick 3 [1, 2, 0] (by kernel_rfl) (by decide) rfl); exact ⟨(), trivial, rfl, h', trivial⟩)) ?_
      rintro _ -
      refine oQ [oF 2] [(5, vI x20), (3, vI i6), (4, vP b19 0), (1, vP b1 0), (17, sl A_k_1 k_1 c_k_1), (18, vI (k_1.length : Int)), (19, vI i6)] (by kernel_rfl) ?_
      refine ops_nil (fin_then (st_seq (st_region [oF 0, oF 1] (by rfl) ?_)))
      refine oQ [oF 0, oF 1] [(27, .bool (!(x20 == 0))), (5, vI x20), (3, vI i6), (4, vP b19 0), (1, vP b1 0), (17, sl A_k_1 k_1 c_k_1), (18, vI (k_1.length : Int)), (19, vI i6)] (by kernel_rfl) ?_
      refine ops_nil (fin_then ?_)
      refine st_if (b := !(x20 == 0)) rfl (fun hc22 => ?_) (fun hc22 => ?_)
      ·
       have hp := cnd_t hc22 hp
       refine st_seq (st_region [oF 0, oF 1] (by rfl) ?_)
       refine oQ [oF 0, oF 1] [(2, vI x20)] (by kernel_rfl) ?_
       refine ops_nil (fin_then (st_ret (fin_ret_then (fin_ret_block (fin_ret_then (fin_ret_then (fin_ret_block (fin_ret_then ?_))))))))
       obtain hq_ := Option.some.inj hp
       subst hq_
       obtain hq_ := hd2 _ rfl
       subst hq_
       have hp : some x20 = some i9001 := hk2
       have hq_ := Option.some.inj hp
       have hr0_ := hq_
       subst hr0_
       refine fin_ret [.tmp 2] [vI x20] rfl rfl (fun w_ hM => (.tmp rfl .nil)) (fun w_ hM => ?_)
       exact ⟨trivial, rfl, hM.pick 3 [2] (by kernel_rfl) (by decide) rfl⟩
      ·
       have hp := cnd_f hc22 hp
       refine st_skip (fin_then (st_seq (st_region [oF 0, oF 1, oF 2, oF 3, oF 4, oF 5] (by rfl) ?_)))
       refine oQ [oF 0] [(29, vP b1 1), (3, vI i6), (4, vP b19 0), (1, vP b1 0), (17, sl A_k_1 k_1 c_k_1), (18, vI (k_1.length : Int)), (19, vI i6)] (by kernel_rfl) ?_
       refine ops_mem (d := some 30) (an := [.v (sl A_k_1 k_1 c_k_1)]) (evs := [ld b1 1 (sl A_k_1 k_1 c_k_1)]) (v := sl A_k_1 k_1 c_k_1) ⟨by kernel_rfl⟩ (fun w_ hM hS => ⟨w_, ⟨hM.cell 1 rfl rfl, rfl⟩, hM, trivial⟩) ?_
       refine oQ [oF 2] [(31, vI i6), (30, sl A_k_1 k_1 c_k_1), (4, vP b19 0), (1, vP b1 0), (17, sl A_k_1 k_1 c_k_1), (18, vI (k_1.length : Int)), (19, vI i6)] (by kernel_rfl) ?_
       obtain ⟨l23, hv24, hp⟩ := obind hp
       obtain ⟨m25, n26, hm27, hn28, h29, h30, he31⟩ := cut_some hv24
       have hl32 := cut_len he31 h29 h30
       have h33 : RdS R_api_Field F W A_k_1 c_k_1 l23 := by have h_ := h_k_1.cut h29 h30; rw [← he31] at h_; rw [show m25 = 0 by omega, cutA_zero, Nat.sub_zero] at h_; exact h_
       refine ops_val (op := (.slice 84 (.tmp 30) none (some (.tmp 31)) none)) (d := some 32) (v := sl A_k_1 l23 c_k_1) ⟨by kernel_rfl⟩ (run_cutH0 (by kernel_rfl) (z := 3) (by kernel_rfl) rfl rfl hn28 (Nat.le_trans h30 h_k_1.cap) (by omega)) ?_
       refine oQ [oF 4, oF 5] [(34, vI 0), (33, vI (l23.length : Int)), (32, sl A_k_1 l23 c_k_1), (4, vP b19 0), (1, vP b1 0), (17, sl A_k_1 k_1 c_k_1), (18, vI (k_1.length : Int)), (19, vI i6)] (by kernel_rfl) ?_
       refine ops_nil (fin_then (st_block ?_))
       obtain ⟨r4, hl4, hk4⟩ := obind hp
       refine st_loopP (σ := Int) (ρ := (Int ⊕ Unit)) (γ := Unit) hl4 () (fun s_ g_ => match s_, g_ with | i34, _ => [(1, vP b1 0), (4, vP b19 0), (17, sl A_k_1 k_1 c_k_1), (18, vI (k_1.length : Int)), (19, vI i6), (32, sl A_k_1 l23 c_k_1), (33, vI (l23.length : Int)), (34, vI i34)]) (fun s_ g_ => match s_, g_ with | i34, _ => Mem w0 (.blk b1 [.string k_0, sl A_k_1 k_1 c_k_1] 86 :: .blk b19 [.string x8.Name, vI x8.Bits, vI x8.Low] 99 :: Fz F W :: cs)) (fun s_ g_ => match s_, g_ with | i34, _ => True) trivial (look_has ⟨rfl, rfl, rfl, rfl, rfl, rfl, rfl, rfl, trivial⟩) (fun w_ hM => hM.pick 3 [1, 0, 2] (by kernel_rfl) (by decide) rfl) ?_
       rintro i34 _ o4 - hs_ hd4
       have hp : (kind_One_l4 l23 x8) i34 = some o4 := hs_
       clear hs_
       unfold kind_One_l4 at hp
       refine st_seq (st_region [oF 0] (by rfl) ?_)
       refine oQ [oF 0] [(35, .bool (decide (i34 < (l23.length : Int)))), (1, vP b1 0), (4, vP b19 0), (17, sl A_k_1 k_1 c_k_1), (18, vI (k_1.length : Int)), (19, vI i6), (32, sl A_k_1 l23 c_k_1), (33, vI (l23.length : Int)), (34, vI i34)] (by kernel_rfl) ?_
       refine ops_nil (fin_then (st_seq ?_))
       refine st_if (b := decide (i34 < (l23.length : Int))) rfl (fun hc35 => ?_) (fun hc35 => ?_)
       ·
        have hp := cnd_t hc35 hp
        refine st_skip (fin_then (st_seq (st_block (st_seq (st_region [oF 0, oF 1, oF 2, oF 3] (by rfl) ?_)))))
        obtain ⟨x36, hv37, hp⟩ := obind hp
        obtain ⟨m38, hm39, hx40⟩ := idx_some hv37
        have hl43 := (List.getElem?_eq_some_iff.1 hx40).1
        obtain ⟨ad44, vs41, hA45, hr42, hq46⟩ := RdS.el h33 hx40
        obtain rfl := dec_api_Field hr42
        refine ops_val (op := (.indexAddr 84 (.tmp 32) (.tmp 34))) (d := some 36) (v := .pointer (some (ad44.add (m38 * 3)))) ⟨by kernel_rfl⟩ (run_indexA hA45 Tryz.underlying84 (z := 3) (by kernel_rfl) rfl rfl hm39 hl43) ?_
        refine ops_mem (d := some 37) (an := [.v (.string x36.Name), .v (vI x36.Bits), .v (vI x36.Low)]) (evs := [.load (ad44.add (m38 * 3)) (.string x36.Name), .load ((ad44.add (m38 * 3)).add 1) (vI x36.Bits), .load ((ad44.add (m38 * 3)).add 2) (vI x36.Low)]) (v := .agg #[.string x36.Name, vI x36.Bits, vI x36.Low]) ⟨by kernel_rfl⟩ (fun w_ hM hS => ⟨w_, ⟨hM.elcell 2 rfl hq46 0 rfl, hM.elcell 2 rfl hq46 1 rfl, hM.elcell 2 rfl hq46 2 rfl, rfl⟩, hM, trivial⟩) ?_
        refine ops_newB (d := some 7) [.string ByteArray.empty, vI 0, vI 0] 99 (fun b47 => ⟨by kernel_rfl⟩) (fun w_ hM hS => trivial) (fun b47 => ?_)
        refine ops_store (an := []) (evs := [sr b47 0 (.string x36.Name), sr b47 1 (vI x36.Bits), sr b47 2 (vI x36.Low)]) ⟨by kernel_rfl⟩ (fun w_ hM hS => let ⟨w', he, h'⟩ := hM.evs_stores [.string x36.Name, vI x36.Bits, vI x36.Low] 0 rfl 0 (Nat.le_of_ble_eq_true rfl); ⟨w', he, h', trivial⟩) ?_
        refine ops_nil (fin_then (st_seq (st_region [oF 0, oF 1, oF 2, oF 3, oF 4] (by rfl) ?_)))
        refine oQ [oF 0] [(38, vP b47 0), (1, vP b1 0), (4, vP b19 0), (17, sl A_k_1 k_1 c_k_1), (18, vI (k_1.length : Int)), (19, vI i6), (32, sl A_k_1 l23 c_k_1), (33, vI (l23.length : Int)), (34, vI i34)] (by kernel_rfl) ?_
        refine ops_mem (d := some 39) (an := [.v (.string x36.Name)]) (evs := [ld b47 0 (.string x36.Name)]) (v := .string x36.Name) ⟨by kernel_rfl⟩ (fun w_ hM hS => ⟨w_, ⟨hM.cell 0 rfl rfl, rfl⟩, hM, trivial⟩) ?_
        refine oQ [oF 2] [(40, vP b19 0), (39, .string x36.Name), (1, vP b1 0), (4, vP b19 0), (17, sl A_k_1 k_1 c_k_1), (18, vI (k_1.length : Int)), (19, vI i6), (32, sl A_k_1 l23 c_k_1), (33, vI (l23.length : Int)), (34, vI i34)] (by kernel_rfl) ?_
        refine ops_mem (d := some 41) (an := [.v (.string x8.Name)]) (evs := [ld b19 0 (.string x8.Name)]) (v := .string x8.Name) ⟨by kernel_rfl⟩ (fun w_ hM hS => ⟨w_, ⟨hM.cell 2 rfl rfl, rfl⟩, hM, trivial⟩) ?_
        refine oQ [oF 4] [(42, .bool (x36.Name.toList == x8.Name.toList)), (1, vP b1 0), (4, vP b19 0), (17, sl A_k_1 k_1 c_k_1), (18, vI (k_1.length : Int)), (19, vI i6), (32, sl A_k_1 l23 c_k_1), (33, vI (l23.length : Int)), (34, vI i34)] (by kernel_rfl) ?_
        refine ops_nil (fin_then ?_)
        refine st_if (b := (x36.Name.toList == x8.Name.toList)) rfl (fun hc48 => ?_) (fun hc48 => ?_)
        ·
         have hp := cnd_t hc48 hp
         refine st_seq (st_region [oF 0] (by rfl) ?_)
         refine oQ [oF 0] [(2, vI 5)] (by kernel_rfl) ?_
         refine ops_nil (fin_then (st_ret (fin_ret_block (fin_ret_then (fin_ret_then (fin_ret_block (fin_ret_block (fin_ret_then (fin_ret_then (fin_ret_block (fin_ret_then ?_)))))))))))
         obtain hq_ := Option.some.inj hp
         subst hq_
         obtain hq_ := hd4 _ rfl
         subst hq_
         have hp : some (.inr (.inl 5)) = some o2 := hk4
         obtain hq_ := Option.some.inj hp
         subst hq_
         obtain hq_ := hd2 _ rfl
         subst hq_
         have hp : some 5 = some i9001 := hk2
         have hq_ := Option.some.inj hp
         have hr0_ := hq_
         subst hr0_
         refine fin_ret [.tmp 2] [vI 5] rfl rfl (fun w_ hM => (.tmp rfl .nil)) (fun w_ hM => ?_)
         exact ⟨trivial, rfl, hM.pick 4 [3] (by kernel_rfl) (by decide) rfl⟩
        ·
         have hp := cnd_f hc48 hp
         refine st_skip (fin_block (fin_then (st_region [oF 0, oF 1] (by rfl) ?_)))
         refine oQ [oF 0, oF 1] [(34, vI (IntKind.i64.wrap (i34 + 1))), (1, vP b1 0), (4, vP b19 0), (17, sl A_k_1 k_1 c_k_1), (18, vI (k_1.length : Int)), (19, vI i6), (32, sl A_k_1 l23 c_k_1), (33, vI (l23.length : Int))] (by kernel_rfl) ?_
         refine ops_nil ?_
         exact fin_again (IntKind.i64.wrap (i34 + 1)) () (Option.some.inj hp).symm trivial (look_has ⟨rfl, rfl, rfl, rfl, rfl, rfl, rfl, rfl, trivial⟩) (fun w_ hM => hM.pick 4 [1, 2, 3] (by kernel_rfl) (by decide) rfl)
       ·
        have hp := cnd_f hc35 hp
        refine st_exit (fin_exit_then (fin_exit_then (fin_exit (fin_block ?_))))
        obtain hq_ := Option.some.inj hp
        subst hq_
        obtain hq_ := hd4 _ rfl
        subst hq_
        have hp : (kind_One_j3 i6) = some o2 := hk4
        exact fin_join HJ3 () hp (look_has ⟨rfl, rfl, rfl, rfl, trivial⟩) (fun w_ hM => hM.pick 3 [0, 2] (by kernel_rfl) (by decide) rfl)
    ·
     have hp := cnd_f hc7 hp
     refine st_exit (fin_exit_then (fin_exit_then (fin_exit ?_)))
     obtain hq_ := Option.some.inj hp
     subst hq_
     obtain hq_ := hd2 _ rfl
     subst hq_
     have hp : kind_One_j1 = some i9001 := hk2
     exact fin_join HJ1 () hp (look_has trivial) (fun w_ hM => hM.pick 2 [1] (by kernel_rfl) (by decide) rfl)
theorem kind_Find_ok (w0 w : World) (cs : List Chunk) (F : Nat → Prop) (W : World) (A_l : Option Addr) (c_l : Nat) (l : List api_Kind) (name : ByteArray) (hM0 : Mem w0 (Fz F W :: cs) w) (h_l : RdS R_api_Kind F W A_l c_l l) (i9001 : Int) (hp : kind_Find l name = some i9001) : Calls Tryz.prog 67 #[sl A_l l c_l, .string name] w fun e w' => (True) ∧ e = .returned (vI i9001) ∧ Mem w0 (Fz F W :: cs) w' := by
 unfold kind_Find at hp
 refine sx_calls Tryz.func67 rfl (n := 20) (by kernel_rfl) (l := [(0, sl A_l l c_l), (1, .string name)]) rfl (by rfl) hM0 ?_
 refine st_seq (st_region [oF 0] (by rfl) ?_)
 refine oQ [oF 0] [(0, sl A_l l c_l), (1, .string name)] (by kernel_rfl) ?_
 refine ops_nil (fin_then ?_)
 refine st_join1 (σ := Unit) (L := fun _ => []) (N := fun _ => Mem w0 (Fz F W :: cs)) (I := fun _ => (kind_Find_j1 = some i9001)) ?_ ?_
 ·
  rintro _ hp
  unfold kind_Find_j1 at hp
  refine st_seq (st_region [oF 0] (by rfl) ?_)
  refine oQ [oF 0] [(4, vI (-1))] (by kernel_rfl) ?_
  refine ops_nil (fin_then (st_ret ?_))
  have hq_ := Option.some.inj hp
  have hr0_ := hq_
  subst hr0_
  refine fin_ret [.tmp 4] [vI (-1)] rfl rfl (fun w_ hM => (.tmp rfl .nil)) (fun w_ hM => ?_)
  exact ⟨trivial, rfl, hM⟩
 ·
  intro HJ1
  refine st_seq (st_seq (st_region [oF 0, oF 1, oF 2] (by rfl) ?_))
  refine oQ [oF 0, oF 1, oF 2] [(9, vI 0), (8, vI (l.length : Int)), (7, sl A_l l c_l), (1, .string name)] (by kernel_rfl) ?_
  refine ops_nil (fin_then (st_block ?_))
  obtain ⟨r2, hl2, hk2⟩ := obind hp
  refine st_loopP (σ := Int) (ρ := (Int ⊕ Unit)) (γ := Unit) hl2 () (fun s_ g_ => match s_, g_ with | i1, _ => [(1, .string name), (7, sl A_l l c_l), (8, vI (l.length : Int)), (9, vI i1)]) (fun s_ g_ => match s_, g_ with | i1, _ => Mem w0 (Fz F W :: cs)) (fun s_ g_ => match s_, g_ with | i1, _ => True) trivial (look_has ⟨rfl, rfl, rfl, rfl, trivial⟩) (fun w_ hM => hM) ?_
  rintro i1 _ o2 - hs_ hd2
  have hp : (kind_Find_l2 l name) i1 = some o2 := hs_
  clear hs_
  unfold kind_Find_l2 at hp
  refine st_seq (st_region [oF 0] (by rfl) ?_)
  refine oQ [oF 0] [(10, .bool (decide (i1 < (l.length : Int)))), (1, .string name), (7, sl A_l l c_l), (8, vI (l.length : Int)), (9, vI i1)] (by kernel_rfl) ?_
  refine ops_nil (fin_then (st_seq ?_))
  refine st_if (b := decide (i1 < (l.length : Int))) rfl (fun hc2 => ?_) (fun hc2 => ?_)
  ·
   have hp := cnd_t hc2 hp
   refine st_skip (fin_then (st_seq (st_block (st_seq (st_region [oF 0, oF 1, oF 2, oF 3, oF 4, oF 5] (by rfl) ?_)))))
   refine oQ [oF 0] [(11, vI i1), (1, .string name), (7, sl A_l l c_l), (8, vI (l.length : Int)), (9, vI i1)] (by kernel_rfl) ?_
   obtain ⟨x3, hv4, hp⟩ := obind hp
   obtain ⟨m5, hm6, hx7⟩ := idx_some hv4
   have hl10 := (List.getElem?_eq_some_iff.1 hx7).1
   obtain ⟨ad11, vs8, hA12, hr9, hq13⟩ := RdS.el h_l hx7
   obtain ⟨A14, c15, rfl, h16⟩ := dec_api_Kind hr9
   refine ops_val (op := (.indexAddr 22 (.tmp 7) (.tmp 9))) (d := some 12) (v := .pointer (some (ad11.add (m5 * 2)))) ⟨by kernel_rfl⟩ (run_indexA hA12 Tryz.underlying22 (z := 2) (by kernel_rfl) rfl rfl hm6 hl10) ?_
   refine ops_mem (d := some 13) (an := [.v (.string x3.Name), .v (sl A14 x3.Fields c15)]) (evs := [.load (ad11.add (m5 * 2)) (.string x3.Name), .load ((ad11.add (m5 * 2)).add 1) (sl A14 x3.Fields c15)]) (v := .agg #[.string x3.Name, sl A14 x3.Fields c15]) ⟨by kernel_rfl⟩ (fun w_ hM hS => ⟨w_, ⟨hM.elcell 0 rfl hq13 0 rfl, hM.elcell 0 rfl hq13 1 rfl, rfl⟩, hM, trivial⟩) ?_
   refine ops_newB (d := some 6) [.string ByteArray.empty, .slice none 0 0] 86 (fun b17 => ⟨by kernel_rfl⟩) (fun w_ hM hS => trivial) (fun b17 => ?_)
   refine oQ [oF 4] [(5, vI i1), (6, vP b17 0), (13, .agg #[.string x3.Name, sl A14 x3.Fields c15]), (1, .string name), (7, sl A_l l c_l), (8, vI (l.length : Int)), (9, vI i1)] (by kernel_rfl) ?_
   refine ops_store (an := []) (evs := [sr b17 0 (.string x3.Name), sr b17 1 (sl A14 x3.Fields c15)]) ⟨by kernel_rfl⟩ (fun w_ hM hS => let ⟨w', he, h'⟩ := hM.evs_stores [.string x3.Name, sl A14 x3.Fields c15] 0 rfl 0 (Nat.le_of_ble_eq_true rfl); ⟨w', he, h', trivial⟩) ?_
   refine ops_nil (fin_then (st_seq (st_region [oF 0, oF 1, oF 2, oF 3] (by rfl) ?_)))
   refine oQ [oF 0] [(14, vP b17 0), (5, vI i1), (1, .string name), (7, sl A_l l c_l), (8, vI (l.length : Int)), (9, vI i1)] (by kernel_rfl) ?_
   refine ops_mem (d := some 15) (an := [.v (.string x3.Name)]) (evs := [ld b17 0 (.string x3.Name)]) (v := .string x3.Name) ⟨by kernel_rfl⟩ (fun w_ hM hS => ⟨w_, ⟨hM.cell 0 rfl rfl, rfl⟩, hM, trivial⟩) ?_
   refine oQ [oF 2, oF 3] [(17, .bool (x3.Name.toList == name.toList)), (5, vI i1), (1, .string name), (7, sl A_l l c_l), (8, vI (l.length : Int)), (9, vI i1)] (by kernel_rfl) ?_
   refine ops_nil (fin_then ?_)
   refine st_if (b := (x3.Name.toList == name.toList)) rfl (fun hc18 => ?_) (fun hc18 => ?_)
   ·
    have hp := cnd_t hc18 hp
    refine st_seq (st_region [oF 0, oF 1] (by rfl) ?_)
    refine oQ [oF 0, oF 1] [(4, vI i1)] (by kernel_rfl) ?_
    refine ops_nil (fin_then (st_ret (fin_ret_block (fin_ret_then (fin_ret_then (fin_ret_block (fin_ret_then ?_)))))))
    obtain hq_ := Option.some.inj hp
    subst hq_
    obtain hq_ := hd2 _ rfl
    subst hq_
    have hp : some i1 = some i9001 := hk2
    have hq_ := Option.some.inj hp
    have hr0_ := hq_
    subst hr0_
    refine fin_ret [.tmp 4] [vI i1] rfl rfl (fun w_ hM => (.tmp rfl .nil)) (fun w_ hM => ?_)
    exact ⟨trivial, rfl, hM.pick 2 [1] (by kernel_rfl) (by decide) rfl⟩
   ·
    have hp := cnd_f hc18 hp
    refine st_skip (fin_block (fin_then (st_region [oF 0, oF 1] (by rfl) ?_)))
    refine oQ [oF 0, oF 1] [(9, vI (IntKind.i64.wrap (i1 + 1))), (1, .string name), (7, sl A_l l c_l), (8, vI (l.length : Int))] (by kernel_rfl) ?_
    refine ops_nil ?_
    exact fin_again (IntKind.i64.wrap (i1 + 1)) () (Option.some.inj hp).symm trivial (look_has ⟨rfl, rfl, rfl, rfl, trivial⟩) (fun w_ hM => hM.pick 2 [1] (by kernel_rfl) (by decide) rfl)
  ·
   have hp := cnd_f hc2 hp
   refine st_exit (fin_exit_then (fin_exit_then (fin_exit ?_)))
   obtain hq_ := Option.some.inj hp
   subst hq_
   obtain hq_ := hd2 _ rfl
   subst hq_
   have hp : kind_Find_j1 = some i9001 := hk2
   exact fin_join HJ1 () hp (look_has trivial) (fun w_ hM => hM)
theorem kind_Check_ok (w0 w : World) (cs : List Chunk) (F : Nat → Prop) (W : World) (A_l : Option Addr) (c_l : Nat) (l : List api_Kind) (hM0 : Mem w0 (Fz F W :: cs) w) (h_l : RdS R_api_Kind F W A_l c_l l) (i9001 : Int) (hp : kind_Check l = some i9001) : Calls Tryz.prog 40 #[sl A_l l c_l] w fun e w' => (True) ∧ e = .returned (vI i9001) ∧ Mem w0 (Fz F W :: cs) w' := by
 unfold kind_Check at hp
 refine sx_calls Tryz.func40 rfl (n := 29) (by kernel_rfl) (l := [(0, sl A_l l c_l)]) rfl (by rfl) hM0 ?_
 refine st_seq (st_region [oF 0] (by rfl) ?_)
 refine oQ [oF 0] [(0, sl A_l l c_l)] (by kernel_rfl) ?_
 refine ops_nil (fin_then (st_seq (st_seq (st_region [oF 0, oF 1, oF 2] (by rfl) ?_))))
 refine oQ [oF 0, oF 1, oF 2] [(8, .bool (decide (16 < (l.length : Int)))), (0, sl A_l l c_l)] (by kernel_rfl) ?_
 refine ops_nil (fin_then ?_)
 refine st_if (b := decide (16 < (l.length : Int))) rfl (fun hc1 => ?_) (fun hc1 => ?_)
 ·
  have hp := cnd_t hc1 hp
  refine st_seq (st_region [oF 0] (by rfl) ?_)
  refine oQ [oF 0] [(2, vI 2)] (by kernel_rfl) ?_
  refine ops_nil (fin_then (st_ret (fin_ret_then ?_)))
  have hq_ := Option.some.inj hp
  have hr0_ := hq_
  subst hr0_
  refine fin_ret [.tmp 2] [vI 2] rfl rfl (fun w_ hM => (.tmp rfl .nil)) (fun w_ hM => ?_)
  exact ⟨trivial, rfl, hM⟩
 ·
  have hp := cnd_f hc1 hp
  refine st_skip (fin_then ?_)
  refine st_join1 (σ := Unit) (L := fun _ => []) (N := fun _ => Mem w0 (Fz F W :: cs)) (I := fun _ => (kind_Check_j1 = some i9001)) ?_ ?_
  ·
   rintro _ hp
   unfold kind_Check_j1 at hp
   refine st_seq (st_region [oF 0] (by rfl) ?_)
   refine oQ [oF 0] [(2, vI 0)] (by kernel_rfl) ?_
   refine ops_nil (fin_then (st_ret ?_))
   have hq_ := Option.some.inj hp
   have hr0_ := hq_
   subst hr0_
   refine fin_ret [.tmp 2] [vI 0] rfl rfl (fun w_ hM => (.tmp rfl .nil)) (fun w_ hM => ?_)
   exact ⟨trivial, rfl, hM⟩
  ·
   intro HJ1
   refine st_seq (st_seq (st_region [oF 0, oF 1, oF 2] (by rfl) ?_))
   refine oQ [oF 0, oF 1, oF 2] [(11, vI 0), (10, vI (l.length : Int)), (9, sl A_l l c_l), (0, sl A_l l c_l)] (by kernel_rfl) ?_
   refine ops_nil (fin_then (st_block ?_))
   obtain ⟨r2, hl2, hk2⟩ := obind hp
   refine st_loopP (σ := Int) (ρ := (Int ⊕ Unit)) (γ := Unit) hl2 () (fun s_ g_ => match s_, g_ with | i2, _ => [(0, sl A_l l c_l), (9, sl A_l l c_l), (10, vI (l.length : Int)), (11, vI i2)]) (fun s_ g_ => match s_, g_ with | i2, _ => Mem w0 (Fz F W :: cs)) (fun s_ g_ => match s_, g_ with | i2, _ => True) trivial (look_has ⟨rfl, rfl, rfl, rfl, trivial⟩) (fun w_ hM => hM) ?_
   rintro i2 _ o2 - hs_ hd2
   have hp : (kind_Check_l2 l) i2 = some o2 := hs_
   clear hs_
   unfold kind_Check_l2 at hp
   refine st_seq (st_region [oF 0] (by rfl) ?_)
   refine oQ [oF 0] [(12, .bool (decide (i2 < (l.length : Int)))), (0, sl A_l l c_l), (9, sl A_l l c_l), (10, vI (l.length : Int)), (11, vI i2)] (by kernel_rfl) ?_
   refine ops_nil (fin_then (st_seq ?_))
   refine st_if (b := decide (i2 < (l.length : Int))) rfl (fun hc3 => ?_) (fun hc3 => ?_)
   ·
    have hp := cnd_t hc3 hp
    refine st_skip (fin_then (st_seq (st_block (st_seq (st_region [oF 0, oF 1, oF 2, oF 3, oF 4, oF 5] (by rfl) ?_)))))
    refine oQ [oF 0] [(13, vI i2), (0, sl A_l l c_l), (9, sl A_l l c_l), (10, vI (l.length : Int)), (11, vI i2)] (by kernel_rfl) ?_
    obtain ⟨x4, hv5, hp⟩ := obind hp
    obtain ⟨m6, hm7, hx8⟩ := idx_some hv5
    have hl11 := (List.getElem?_eq_some_iff.1 hx8).1
    obtain ⟨ad12, vs9, hA13, hr10, hq14⟩ := RdS.el h_l hx8
    obtain ⟨A15, c16, rfl, h17⟩ := dec_api_Kind hr10
    refine ops_val (op := (.indexAddr 22 (.tmp 9) (.tmp 11))) (d := some 14) (v := .pointer (some (ad12.add (m6 * 2)))) ⟨by kernel_rfl⟩ (run_indexA hA13 Tryz.underlying22 (z := 2) (by kernel_rfl) rfl rfl hm7 hl11) ?_
    refine ops_mem (d := some 15) (an := [.v (.string x4.Name), .v (sl A15 x4.Fields c16)]) (evs := [.load (ad12.add (m6 * 2)) (.string x4.Name), .load ((ad12.add (m6 * 2)).add 1) (sl A15 x4.Fields c16)]) (v := .agg #[.string x4.Name, sl A15 x4.Fields c16]) ⟨by kernel_rfl⟩ (fun w_ hM hS => ⟨w_, ⟨hM.elcell 0 rfl hq14 0 rfl, hM.elcell 0 rfl hq14 1 rfl, rfl⟩, hM, trivial⟩) ?_
    refine ops_newB (d := some 4) [.string ByteArray.empty, .slice none 0 0] 86 (fun b18 => ⟨by kernel_rfl⟩) (fun w_ hM hS => trivial) (fun b18 => ?_)
    refine oQ [oF 4] [(3, vI i2), (4, vP b18 0), (15, .agg #[.string x4.Name, sl A15 x4.Fields c16]), (0, sl A_l l c_l), (9, sl A_l l c_l), (10, vI (l.length : Int)), (11, vI i2)] (by kernel_rfl) ?_
    refine ops_store (an := []) (evs := [sr b18 0 (.string x4.Name), sr b18 1 (sl A15 x4.Fields c16)]) ⟨by kernel_rfl⟩ (fun w_ hM hS => let ⟨w', he, h'⟩ := hM.evs_stores [.string x4.Name, sl A15 x4.Fields c16] 0 rfl 0 (Nat.le_of_ble_eq_true rfl); ⟨w', he, h', trivial⟩) ?_
    refine ops_nil (fin_then (st_seq (st_seq (st_region [oF 0, oF 1, oF 2] (by rfl) ?_))))
    refine ops_mem (d := some 16) (an := [.v (.string x4.Name), .v (sl A15 x4.Fields c16)]) (evs := [ld b18 0 (.string x4.Name), ld b18 1 (sl A15 x4.Fields c16)]) (v := .agg #[.string x4.Name, sl A15 x4.Fields c16]) ⟨by kernel_rfl⟩ (fun w_ hM hS => ⟨w_, ⟨hM.cell 0 rfl rfl, hM.cell 0 rfl rfl, rfl⟩, hM, trivial⟩) ?_
    obtain ⟨x19, hv20, hp⟩ := obind hp
    refine ops_callI (σ := Unit) (d := some 17) (f := 66) (args := #[.agg #[.string x4.Name, sl A15 x4.Fields c16]]) (v := (fun _ => vI x19)) (I := (fun _ => True)) (M' := (fun _ => Mem w0 (.blk b18 [.string x4.Name, sl A15 x4.Fields c16] 86 :: Fz F W :: cs))) ⟨by kernel_rfl⟩ (fun w_ hM hS => (kind_One_ok w0 w_ (.blk b18 [.string x4.Name, sl A15 x4.Fields c16] 86 :: cs) F W x4.Name A15 c16 x4.Fields (hM.pick 2 [1, 0] (by kernel_rfl) (by decide) rfl) h17 x19 hv20).mono (by rintro e w' ⟨-, rfl, h'⟩; have h' : Mem w0 (.blk b18 [.string x4.Name, sl A15 x4.Fields c16] 86 :: Fz F W :: cs) w' := (h'.pick 2 [1, 0] (by kernel_rfl) (by decide) rfl); exact ⟨(), trivial, rfl, h', trivial⟩)) ?_
    rintro _ -
    refine oQ [oF 2] [(5, vI x19), (3, vI i2), (4, vP b18 0), (0, sl A_l l c_l), (9, sl A_l l c_l), (10, vI (l.length : Int)), (11, vI i2)] (by kernel_rfl) ?_
    refine ops_nil (fin_then (st_seq (st_region [oF 0, oF 1] (by rfl) ?_)))
    refine oQ [oF 0, oF 1] [(19, .bool (!(x19 == 0))), (5, vI x19), (3, vI i2), (4, vP b18 0), (0, sl A_l l c_l), (9, sl A_l l c_l), (10, vI (l.length : Int)), (11, vI i2)] (by kernel_rfl) ?_
    refine ops_nil (fin_then ?_)
    refine st_if (b := !(x19 == 0)) rfl (fun hc21 => ?_) (fun hc21 => ?_)
    ·
     have hp := cnd_t hc21 hp
     refine st_seq (st_region [oF 0, oF 1] (by rfl) ?_)
     refine oQ [oF 0, oF 1] [(2, vI x19)] (by kernel_rfl) ?_
     refine ops_nil (fin_then (st_ret (fin_ret_then (fin_ret_block (fin_ret_then (fin_ret_then (fin_ret_block (fin_ret_then ?_))))))))
     obtain hq_ := Option.some.inj hp
     subst hq_
     obtain hq_ := hd2 _ rfl
     subst hq_
     have hp : some x19 = some i9001 := hk2
     have hq_ := Option.some.inj hp
     have hr0_ := hq_
     subst hr0_
     refine fin_ret [.tmp 2] [vI x19] rfl rfl (fun w_ hM => (.tmp rfl .nil)) (fun w_ hM => ?_)
     exact ⟨trivial, rfl, hM.pick 2 [1] (by kernel_rfl) (by decide) rfl⟩
    ·
     have hp := cnd_f hc21 hp
     refine st_skip (fin_then (st_seq ?_))
     refine st_region_draw [oT 0, oT 1, oT 3, oT 4, oF 2, oF 5, oT 6] (Mem w0 (.blk b18 [.string x4.Name, sl A15 x4.Fields c16] 86 :: Fz F W :: cs)) (by kernel_rfl) (by kernel_rfl) (by kernel_rfl) (fun _ d _ _ _ h => by cases d <;> exact h) (M' := Mem w0 (.blk b18 [.string x4.Name, sl A15 x4.Fields c16] 86 :: Fz F W :: cs)) (fun w_ hM => ⟨hM.drew, hM.drew.sub (.cons_cons _ (.cons_cons _ (.refl _)))⟩) ?_
     refine oQ [oT 0, oT 1, oT 3] [(24, vP b18 0), (22, vI i2), (21, sl A_l l c_l), (0, sl A_l l c_l), (9, sl A_l l c_l), (10, vI (l.length : Int)), (11, vI i2)] (by kernel_rfl) ?_
     refine ops_load (d := some 25) (an := [.v (.string x4.Name)]) (evs := [ld b18 0 (.string x4.Name)]) (v := .string x4.Name) ⟨by kernel_rfl⟩ (fun w_ hM => ⟨hM.cell 0 rfl rfl, rfl⟩) ?_
     obtain ⟨l22, hv23, hp⟩ := obind hp
     obtain ⟨m24, n25, hm26, hn27, h28, h29, he30⟩ := cut_some hv23
     have hl31 := cut_len he30 h28 h29
     have h32 : RdS R_api_Kind F W A_l c_l l22 := by have h_ := h_l.cut h28 h29; rw [← he30] at h_; rw [show m24 = 0 by omega, cutA_zero, Nat.sub_zero] at h_; exact h_
     refine ops_val (op := (.slice 22 (.tmp 21) none (some (.tmp 22)) none)) (d := some 23) (v := sl A_l l22 c_l) ⟨by kernel_rfl⟩ (run_cutH0 (by kernel_rfl) (z := 2) (by kernel_rfl) rfl rfl hn27 (Nat.le_trans h29 h_l.cap) (by omega)) ?_
     obtain ⟨x33, hv34, hp⟩ := obind hp
     refine ops_callI (σ := Unit) (d := some 26) (f := 67) (args := #[sl A_l l22 c_l, .string x4.Name]) (v := (fun _ => vI x33)) (I := (fun _ => True)) (M' := (fun _ => Mem w0 (.blk b18 [.string x4.Name, sl A15 x4.Fields c16] 86 :: Fz F W :: cs))) ⟨by kernel_rfl⟩ (fun w_ hM hS => (kind_Find_ok w0 w_ (.blk b18 [.string x4.Name, sl A15 x4.Fields c16] 86 :: cs) F W A_l c_l l22 x4.Name (hM.pick 2 [1, 0] (by kernel_rfl) (by decide) rfl) h32 x33 hv34).mono (by rintro e w' ⟨-, rfl, h'⟩; have h' : Mem w0 (.blk b18 [.string x4.Name, sl A15 x4.Fields c16] 86 :: Fz F W :: cs) w' := (h'.pick 2 [1, 0] (by kernel_rfl) (by decide) rfl); exact ⟨(), trivial, rfl, h', (by exact h'.sub (.cons_cons _ (.cons_cons _ (.refl _))))⟩)) ?_
     rintro _ -
     refine oQ [oT 6] [(27, .bool (decide (0 ≤ x33))), (0, sl A_l l c_l), (9, sl A_l l c_l), (10, vI (l.length : Int)), (11, vI i2)] (by kernel_rfl) ?_
     refine ops_nil (fin_then ?_)
     refine st_if (b := decide (0 ≤ x33)) rfl (fun hc35 => ?_) (fun hc35 => ?_)
     ·
      have hp := cnd_t hc35 hp
      refine st_seq (st_region [oF 0] (by rfl) ?_)
      refine oQ [oF 0] [(2, vI 5)] (by kernel_rfl) ?_
      refine ops_nil (fin_then (st_ret (fin_ret_block (fin_ret_then (fin_ret_then (fin_ret_block (fin_ret_then ?_)))))))
      obtain hq_ := Option.some.inj hp
      subst hq_
      obtain hq_ := hd2 _ rfl
      subst hq_
      have hp : some 5 = some i9001 := hk2
      have hq_ := Option.some.inj hp
      have hr0_ := hq_
      subst hr0_
      refine fin_ret [.tmp 2] [vI 5] rfl rfl (fun w_ hM => (.tmp rfl .nil)) (fun w_ hM => ?_)
      exact ⟨trivial, rfl, hM.pick 2 [1] (by kernel_rfl) (by decide) rfl⟩
     ·
      have hp := cnd_f hc35 hp
      refine st_skip (fin_block (fin_then (st_region [oF 0, oF 1] (by rfl) ?_)))
      refine oQ [oF 0, oF 1] [(11, vI (IntKind.i64.wrap (i2 + 1))), (0, sl A_l l c_l), (9, sl A_l l c_l), (10, vI (l.length : Int))] (by kernel_rfl) ?_
      refine ops_nil ?_
      exact fin_again (IntKind.i64.wrap (i2 + 1)) () (Option.some.inj hp).symm trivial (look_has ⟨rfl, rfl, rfl, rfl, trivial⟩) (fun w_ hM => hM.pick 2 [1] (by kernel_rfl) (by decide) rfl)
   ·
    have hp := cnd_f hc3 hp
    refine st_exit (fin_exit_then (fin_exit_then (fin_exit ?_)))
    obtain hq_ := Option.some.inj hp
    subst hq_
    obtain hq_ := hd2 _ rfl
    subst hq_
    have hp : kind_Check_j1 = some i9001 := hk2
    exact fin_join HJ1 () hp (look_has trivial) (fun w_ hM => hM)
end Go.Proofs.YtbfndcookgijfaaGreatDoor.W
