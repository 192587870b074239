/- The Go functions come to what the plain functions tell. No condition. -/
import Derived.Test.YthcniadbdjoecaaProg
import Derived.Test.YthcniadbdjoecaaFnQ
namespace Go.Proofs.Ythcniadbdjoecaa.Q
open Go Go.RowKit Go.Proofs.Ythcniadbdjoecaa.Sx
set_option linter.unusedVariables false
set_option maxHeartbeats 4000000
set_option maxRecDepth 100000
theorem tourlaw3_two_ok (w0 w : World) (cs : List Chunk) (F : Nat → Prop) (W : World) (hM0 : Mem w0 (Fz F W :: cs) w) (l9002 : List api_Kind) (hp : tourlaw3_two = some l9002) : Calls Try.prog 56 #[] w fun e w' => ∃ (A9001 : Option Addr), ∃ (y9003 : List Value), ∃ (F9005 : Nat → Prop), ∃ (W9006 : World), ((RepL R_api_Kind F9005 W9006 l9002 y9003) ∧ (Ext w0 F W F9005 W9006)) ∧ e = .returned (sl A9001 l9002 2) ∧ Mem w0 (ow A9001 l9002 2 143 2 y9003 :: Fz F9005 W9006 :: cs) w' := by
 unfold tourlaw3_two at hp
 refine sx_calls Try.func56 rfl (n := 8) (by kernel_rfl) (l := []) rfl (by rfl) hM0 ?_
 refine st_seq (st_region [oF 0] (by rfl) ?_)
 refine oQ [oF 0] [] (by kernel_rfl) ?_
 refine ops_nil (fin_then (st_seq (st_region [oF 0, oF 1, oF 2, oF 3, oF 4, oF 5, oF 6, oF 7] (by rfl) ?_)))
 refine oQ [oF 0] [(1, .agg #[.string (⟨#[120]⟩), vI 3, vI (-2)])] (by kernel_rfl) ?_
 have h1 : RepL R_api_Field F W ([(api_Field.mk (⟨#[120]⟩) 3 (-2))] : List api_Field) ([.string (⟨#[120]⟩), vI 3, vI (-2)]) := (RepL.cons (R := R_api_Field) (F := F) (w := W) (vs := [.string (⟨#[120]⟩), vI 3, vI (-2)]) (ys := []) (enc_api_Field) RepL.nil)
 refine ops_new (d := some 2) (o := .cells ([.string (⟨#[120]⟩), vI 3, vI (-2)] : List Value).toArray 140) (v := fun g2 => .slice (sa g2) ([(api_Field.mk (⟨#[120]⟩) 3 (-2))] : List api_Field).length 1) (M' := fun g2 => Mem w0 (orow (sa g2) ([(api_Field.mk (⟨#[120]⟩) 3 (-2))] : List api_Field).length 1 140 3 ([.string (⟨#[120]⟩), vI 3, vI (-2)]) :: Fz F W :: cs)) (fun g2 => ⟨by kernel_rfl⟩) (fun w_ hM hS => ⟨hM.onew [.string (⟨#[120]⟩), vI 3, vI (-2)] 140 1 3 rfl (by decide), trivial⟩) (fun g2 => ?_)
 refine oQ [oF 2, oF 3] [(4, .agg #[.string (⟨#[120]⟩), vI 8, vI 0]), (3, .agg #[.string (⟨#[112, 108, 97, 99, 101]⟩), .slice (sa g2) ([(api_Field.mk (⟨#[120]⟩) 3 (-2))] : List api_Field).length 1])] (by kernel_rfl) ?_
 have h3 : RepL R_api_Field F W ([(api_Field.mk (⟨#[120]⟩) 8 0)] : List api_Field) ([.string (⟨#[120]⟩), vI 8, vI 0]) := (RepL.cons (R := R_api_Field) (F := F) (w := W) (vs := [.string (⟨#[120]⟩), vI 8, vI 0]) (ys := []) (enc_api_Field) RepL.nil)
 refine ops_new (d := some 5) (o := .cells ([.string (⟨#[120]⟩), vI 8, vI 0] : List Value).toArray 140) (v := fun g4 => .slice (sa g4) ([(api_Field.mk (⟨#[120]⟩) 8 0)] : List api_Field).length 1) (M' := fun g4 => Mem w0 (orow (sa g4) ([(api_Field.mk (⟨#[120]⟩) 8 0)] : List api_Field).length 1 140 3 ([.string (⟨#[120]⟩), vI 8, vI 0]) :: orow (sa g2) ([(api_Field.mk (⟨#[120]⟩) 3 (-2))] : List api_Field).length 1 140 3 ([.string (⟨#[120]⟩), vI 3, vI (-2)]) :: Fz F W :: cs)) (fun g4 => ⟨by kernel_rfl⟩) (fun w_ hM hS => ⟨hM.onew [.string (⟨#[120]⟩), vI 8, vI 0] 140 1 3 rfl (by decide), trivial⟩) (fun g4 => ?_)
 refine oQ [oF 5] [(6, .agg #[.string (⟨#[108, 105, 102, 101]⟩), .slice (sa g4) ([(api_Field.mk (⟨#[120]⟩) 8 0)] : List api_Field).length 1]), (3, .agg #[.string (⟨#[112, 108, 97, 99, 101]⟩), .slice (sa g2) ([(api_Field.mk (⟨#[120]⟩) 3 (-2))] : List api_Field).length 1])] (by kernel_rfl) ?_
 refine ops_ex (σ := (Nat → Prop) × World) (I := fun x_ => Ext w0 F W x_.1 x_.2 ∧ RdS R_api_Field x_.1 x_.2 (sa g2) 1 ([(api_Field.mk (⟨#[120]⟩) 3 (-2))] : List api_Field)) (M' := fun x_ => Mem w0 (orow (sa g4) ([(api_Field.mk (⟨#[120]⟩) 8 0)] : List api_Field).length 1 140 3 ([.string (⟨#[120]⟩), vI 8, vI 0]) :: Fz x_.1 x_.2 :: cs)) (fun w_ hM => ?_) ?_
 · obtain ⟨F_, h1_, h2_, h3_⟩ := (hM.pick 3 [1, 2, 0] (by kernel_rfl) (by decide) rfl : Mem w0 (orow (sa g2) ([(api_Field.mk (⟨#[120]⟩) 3 (-2))] : List api_Field).length 1 140 3 ([.string (⟨#[120]⟩), vI 3, vI (-2)]) :: Fz F W :: orow (sa g4) ([(api_Field.mk (⟨#[120]⟩) 8 0)] : List api_Field).length 1 140 3 ([.string (⟨#[120]⟩), vI 8, vI 0]) :: cs) w_).freeze (z := 3) h1 rfl rfl
   exact ⟨(F_, w_), ⟨h1_, h2_⟩, h3_.pick 2 [1, 0] (by kernel_rfl) (by decide) rfl⟩
 rintro ⟨F5, W6⟩ ⟨hx7, h8⟩
 have hx7 : Ext w0 F W F5 W6 := hx7
 have h8 : RdS R_api_Field F5 W6 (sa g2) 1 ([(api_Field.mk (⟨#[120]⟩) 3 (-2))] : List api_Field) := h8
 have h3 := h3.ext hx7
 refine ops_ex (σ := (Nat → Prop) × World) (I := fun x_ => Ext w0 F5 W6 x_.1 x_.2 ∧ RdS R_api_Field x_.1 x_.2 (sa g4) 1 ([(api_Field.mk (⟨#[120]⟩) 8 0)] : List api_Field)) (M' := fun x_ => Mem w0 (Fz x_.1 x_.2 :: cs)) (fun w_ hM => ?_) ?_
 · obtain ⟨F_, h1_, h2_, h3_⟩ := (hM.pick 2 [0, 1] (by kernel_rfl) (by decide) rfl : Mem w0 (orow (sa g4) ([(api_Field.mk (⟨#[120]⟩) 8 0)] : List api_Field).length 1 140 3 ([.string (⟨#[120]⟩), vI 8, vI 0]) :: Fz F5 W6 :: cs) w_).freeze (z := 3) h3 rfl rfl
   exact ⟨(F_, w_), ⟨h1_, h2_⟩, h3_.pick 1 [0] (by kernel_rfl) (by decide) rfl⟩
 rintro ⟨F9, W10⟩ ⟨hx11, h12⟩
 have hx11 : Ext w0 F5 W6 F9 W10 := hx11
 have h12 : RdS R_api_Field F9 W10 (sa g4) 1 ([(api_Field.mk (⟨#[120]⟩) 8 0)] : List api_Field) := h12
 have h8 := h8.ext hx11
 have h13 : RepL R_api_Kind F9 W10 ([(api_Kind.mk (⟨#[112, 108, 97, 99, 101]⟩) ([(api_Field.mk (⟨#[120]⟩) 3 (-2))] : List api_Field)), (api_Kind.mk (⟨#[108, 105, 102, 101]⟩) ([(api_Field.mk (⟨#[120]⟩) 8 0)] : List api_Field))] : List api_Kind) ([.string (⟨#[112, 108, 97, 99, 101]⟩), .slice (sa g2) ([(api_Field.mk (⟨#[120]⟩) 3 (-2))] : List api_Field).length 1, .string (⟨#[108, 105, 102, 101]⟩), .slice (sa g4) ([(api_Field.mk (⟨#[120]⟩) 8 0)] : List api_Field).length 1]) := (RepL.cons (R := R_api_Kind) (F := F9) (w := W10) (vs := [.string (⟨#[112, 108, 97, 99, 101]⟩), .slice (sa g2) ([(api_Field.mk (⟨#[120]⟩) 3 (-2))] : List api_Field).length 1]) (ys := [.string (⟨#[108, 105, 102, 101]⟩), .slice (sa g4) ([(api_Field.mk (⟨#[120]⟩) 8 0)] : List api_Field).length 1]) (enc_api_Kind h8) (RepL.cons (R := R_api_Kind) (F := F9) (w := W10) (vs := [.string (⟨#[108, 105, 102, 101]⟩), .slice (sa g4) ([(api_Field.mk (⟨#[120]⟩) 8 0)] : List api_Field).length 1]) (ys := []) (enc_api_Kind h12) RepL.nil))
 refine ops_new (d := some 7) (o := .cells ([.string (⟨#[112, 108, 97, 99, 101]⟩), .slice (sa g2) ([(api_Field.mk (⟨#[120]⟩) 3 (-2))] : List api_Field).length 1, .string (⟨#[108, 105, 102, 101]⟩), .slice (sa g4) ([(api_Field.mk (⟨#[120]⟩) 8 0)] : List api_Field).length 1] : List Value).toArray 143) (v := fun g14 => .slice (sa g14) ([(api_Kind.mk (⟨#[112, 108, 97, 99, 101]⟩) ([(api_Field.mk (⟨#[120]⟩) 3 (-2))] : List api_Field)), (api_Kind.mk (⟨#[108, 105, 102, 101]⟩) ([(api_Field.mk (⟨#[120]⟩) 8 0)] : List api_Field))] : List api_Kind).length 2) (M' := fun g14 => Mem w0 (orow (sa g14) ([(api_Kind.mk (⟨#[112, 108, 97, 99, 101]⟩) ([(api_Field.mk (⟨#[120]⟩) 3 (-2))] : List api_Field)), (api_Kind.mk (⟨#[108, 105, 102, 101]⟩) ([(api_Field.mk (⟨#[120]⟩) 8 0)] : List api_Field))] : List api_Kind).length 2 143 2 ([.string (⟨#[112, 108, 97, 99, 101]⟩), .slice (sa g2) ([(api_Field.mk (⟨#[120]⟩) 3 (-2))] : List api_Field).length 1, .string (⟨#[108, 105, 102, 101]⟩), .slice (sa g4) ([(api_Field.mk (⟨#[120]⟩) 8 0)] : List api_Field).length 1]) :: Fz F9 W10 :: cs)) (fun g14 => ⟨by kernel_rfl⟩) (fun w_ hM hS => ⟨hM.onew [.string (⟨#[112, 108, 97, 99, 101]⟩), .slice (sa g2) ([(api_Field.mk (⟨#[120]⟩) 3 (-2))] : List api_Field).length 1, .string (⟨#[108, 105, 102, 101]⟩), .slice (sa g4) ([(api_Field.mk (⟨#[120]⟩) 8 0)] : List api_Field).length 1] 143 2 2 rfl (by decide), trivial⟩) (fun g14 => ?_)
 refine oQ [oF 7] [(0, .slice (sa g14) ([(api_Kind.mk (⟨#[112, 108, 97, 99, 101]⟩) ([(api_Field.mk (⟨#[120]⟩) 3 (-2))] : List api_Field)), (api_Kind.mk (⟨#[108, 105, 102, 101]⟩) ([(api_Field.mk (⟨#[120]⟩) 8 0)] : List api_Field))] : List api_Kind).length 2)] (by kernel_rfl) ?_
 refine ops_nil (fin_then (st_ret ?_))
 have hq_ := Option.some.inj hp
 have hr0_ := hq_
 subst hr0_
 refine fin_ret [.tmp 0] [.slice (sa g14) ([(api_Kind.mk (⟨#[112, 108, 97, 99, 101]⟩) ([(api_Field.mk (⟨#[120]⟩) 3 (-2))] : List api_Field)), (api_Kind.mk (⟨#[108, 105, 102, 101]⟩) ([(api_Field.mk (⟨#[120]⟩) 8 0)] : List api_Field))] : List api_Kind).length 2] rfl rfl (fun w_ hM => (.tmp rfl .nil)) (fun w_ hM => ?_)
 exact ⟨(sa g14), ([.string (⟨#[112, 108, 97, 99, 101]⟩), .slice (sa g2) ([(api_Field.mk (⟨#[120]⟩) 3 (-2))] : List api_Field).length 1, .string (⟨#[108, 105, 102, 101]⟩), .slice (sa g4) ([(api_Field.mk (⟨#[120]⟩) 8 0)] : List api_Field).length 1]), F9, W10, ⟨h13, (hx7.trans hx11)⟩, rfl, hM⟩
theorem tourlaw3_pair_ok (w0 w : World) (cs : List Chunk) (F : Nat → Prop) (W : World) (hM0 : Mem w0 (Fz F W :: cs) w) (l9002 : List api_Kind) (l9006 : List Int) (l9010 : List api_Item) (hp : tourlaw3_pair = some (l9002, l9006, l9010)) : Calls Try.prog 8 #[] w fun e w' => ∃ (A9001 : Option Addr), ∃ (y9003 : List Value), ∃ (A9005 : Option Addr), ∃ (y9007 : List Value), ∃ (A9009 : Option Addr), ∃ (y9011 : List Value), ∃ (F9013 : Nat → Prop), ∃ (W9014 : World), ((RepL R_api_Kind F9013 W9014 l9002 y9003) ∧ (RepL (Rep.int .i64) F9013 W9014 l9006 y9007) ∧ (RepL R_api_Item F9013 W9014 l9010 y9011) ∧ (Ext w0 F W F9013 W9014)) ∧ e = .returned (.agg #[sl A9001 l9002 2, sl A9005 l9006 2, sl A9009 l9010 2]) ∧ Mem w0 (ow A9001 l9002 2 143 2 y9003 :: ow A9005 l9006 2 3 1 y9007 :: ow A9009 l9010 2 38 3 y9011 :: Fz F9013 W9014 :: cs) w' := by
 unfold tourlaw3_pair at hp
 refine sx_calls Try.func8 rfl (n := 16) (by kernel_rfl) (l := []) rfl (by rfl) hM0 ?_
 refine st_seq (st_region [oF 0] (by rfl) ?_)
 refine ops_newB (d := some 0) [.slice none 0 0, .slice none 0 0, .slice none 0 0] 26 (fun b1 => ⟨by kernel_rfl⟩) (fun w_ hM hS => trivial) (fun b1 => ?_)
 refine ops_nil (fin_then (st_seq (st_region [oF 0, oF 1, oF 2, oF 3, oF 4, oF 5, oF 6, oF 7, oF 8, oF 9, oF 10, oF 11, oF 12, oF 13, oF 14, oF 15] (by rfl) ?_)))
 obtain ⟨x2, hv3, hp⟩ := obind hp
 refine ops_callI (σ := (Option Addr) × (List Value) × (Nat → Prop) × World) (d := some 1) (f := 56) (args := #[]) (v := (fun x_ => match x_ with | (A4, y5, F6, W7) => sl A4 x2 2)) (I := (fun x_ => match x_ with | (A4, y5, F6, W7) => (RepL R_api_Kind F6 W7 x2 y5) ∧ (Ext w0 F W F6 W7))) (M' := (fun x_ => match x_ with | (A4, y5, F6, W7) => Mem w0 (ow A4 x2 2 143 2 y5 :: .blk b1 [.slice none 0 0, .slice none 0 0, .slice none 0 0] 26 :: Fz F6 W7 :: cs))) ⟨by kernel_rfl⟩ (fun w_ hM hS => (tourlaw3_two_ok w0 w_ (.blk b1 [.slice none 0 0, .slice none 0 0, .slice none 0 0] 26 :: cs) F W  (hM.pick 2 [1, 0] (by kernel_rfl) (by decide) rfl)  x2 hv3).mono (by rintro e w' ⟨A4, y5, F6, W7, ⟨h8, h9⟩, rfl, h'⟩; have h' : Mem w0 (ow A4 x2 2 143 2 y5 :: .blk b1 [.slice none 0 0, .slice none 0 0, .slice none 0 0] 26 :: Fz F6 W7 :: cs) w' := (h'.pick 3 [0, 2, 1] (by kernel_rfl) (by decide) rfl); exact ⟨(A4, y5, F6, W7), ⟨h8, h9⟩, rfl, h', trivial⟩)) ?_
 rintro ⟨A4, y5, F6, W7⟩ ⟨h8, h9⟩
 have h10 : RepL (Rep.int .i64) F6 W7 ([0, 2] : List Int) ([vI 0, vI 2]) := (RepL.cons (R := (Rep.int .i64)) (F := F6) (w := W7) (vs := [vI 0]) (ys := [vI 2]) rfl (RepL.cons (R := (Rep.int .i64)) (F := F6) (w := W7) (vs := [vI 2]) (ys := []) rfl RepL.nil))
 refine ops_new (d := some 2) (o := .cells ([vI 0, vI 2] : List Value).toArray 3) (v := fun g11 => .slice (sa g11) ([0, 2] : List Int).length 2) (M' := fun g11 => Mem w0 (orow (sa g11) ([0, 2] : List Int).length 2 3 1 ([vI 0, vI 2]) :: ow A4 x2 2 143 2 y5 :: .blk b1 [.slice none 0 0, .slice none 0 0, .slice none 0 0] 26 :: Fz F6 W7 :: cs)) (fun g11 => ⟨by kernel_rfl⟩) (fun w_ hM hS => ⟨hM.onew [vI 0, vI 2] 3 2 1 rfl (by decide), trivial⟩) (fun g11 => ?_)
 have h12 : RepL (Rep.int .i64) F6 W7 ([4] : List Int) ([vI 4]) := (RepL.cons (R := (Rep.int .i64)) (F := F6) (w := W7) (vs := [vI 4]) (ys := []) rfl RepL.nil)
 refine ops_new (d := some 3) (o := .cells ([vI 4] : List Value).toArray 3) (v := fun g13 => .slice (sa g13) ([4] : List Int).length 1) (M' := fun g13 => Mem w0 (orow (sa g13) ([4] : List Int).length 1 3 1 ([vI 4]) :: orow (sa g11) ([0, 2] : List Int).length 2 3 1 ([vI 0, vI 2]) :: ow A4 x2 2 143 2 y5 :: .blk b1 [.slice none 0 0, .slice none 0 0, .slice none 0 0] 26 :: Fz F6 W7 :: cs)) (fun g13 => ⟨by kernel_rfl⟩) (fun w_ hM hS => ⟨hM.onew [vI 4] 3 1 1 rfl (by decide), trivial⟩) (fun g13 => ?_)
 refine oQ [oF 3] [(4, .agg #[vI 0, .slice (sa g13) ([4] : List Int).length 1]), (2, .slice (sa g11) ([0, 2] : List Int).length 2), (1, sl A4 x2 2), (0, vP b1 0)] (by kernel_rfl) ?_
 have h14 : RepL (Rep.int .i64) F6 W7 ([9] : List Int) ([vI 9]) := (RepL.cons (R := (Rep.int .i64)) (F := F6) (w := W7) (vs := [vI 9]) (ys := []) rfl RepL.nil)
 refine ops_new (d := some 5) (o := .cells ([vI 9] : List Value).toArray 3) (v := fun g15 => .slice (sa g15) ([9] : List Int).length 1) (M' := fun g15 => Mem w0 (orow (sa g15) ([9] : List Int).length 1 3 1 ([vI 9]) :: orow (sa g13) ([4] : List Int).length 1 3 1 ([vI 4]) :: orow (sa g11) ([0, 2] : List Int).length 2 3 1 ([vI 0, vI 2]) :: ow A4 x2 2 143 2 y5 :: .blk b1 [.slice none 0 0, .slice none 0 0, .slice none 0 0] 26 :: Fz F6 W7 :: cs)) (fun g15 => ⟨by kernel_rfl⟩) (fun w_ hM hS => ⟨hM.onew [vI 9] 3 1 1 rfl (by decide), trivial⟩) (fun g15 => ?_)
 refine oQ [oF 5] [(6, .agg #[vI 1, .slice (sa g15) ([9] : List Int).length 1]), (4, .agg #[vI 0, .slice (sa g13) ([4] : List Int).length 1]), (2, .slice (sa g11) ([0, 2] : List Int).length 2), (1, sl A4 x2 2), (0, vP b1 0)] (by kernel_rfl) ?_
 refine ops_ex (σ := (Nat → Prop) × World) (I := fun x_ => Ext w0 F6 W7 x_.1 x_.2 ∧ RdS (Rep.int .i64) x_.1 x_.2 (sa g13) 1 ([4] : List Int)) (M' := fun x_ => Mem w0 (orow (sa g15) ([9] : List Int).length 1 3 1 ([vI 9]) :: orow (sa g11) ([0, 2] : List Int).length 2 3 1 ([vI 0, vI 2]) :: ow A4 x2 2 143 2 y5 :: .blk b1 [.slice none 0 0, .slice none 0 0, .slice none 0 0] 26 :: Fz x_.1 x_.2 :: cs)) (fun w_ hM => ?_) ?_
 · obtain ⟨F_, h1_, h2_, h3_⟩ := (hM.pick 6 [1, 5, 0, 2, 3, 4] (by kernel_rfl) (by decide) rfl : Mem w0 (orow (sa g13) ([4] : List Int).length 1 3 1 ([vI 4]) :: Fz F6 W7 :: orow (sa g15) ([9] : List Int).length 1 3 1 ([vI 9]) :: orow (sa g11) ([0, 2] : List Int).length 2 3 1 ([vI 0, vI 2]) :: ow A4 x2 2 143 2 y5 :: .blk b1 [.slice none 0 0, .slice none 0 0, .slice none 0 0] 26 :: cs) w_).freeze (z := 1) h12 rfl rfl
   exact ⟨(F_, w_), ⟨h1_, h2_⟩, h3_.pick 5 [1, 2, 3, 4, 0] (by kernel_rfl) (by decide) rfl⟩
 rintro ⟨F16, W17⟩ ⟨hx18, h19⟩
 have hx18 : Ext w0 F6 W7 F16 W17 := hx18
 have h19 : RdS (Rep.int .i64) F16 W17 (sa g13) 1 ([4] : List Int) := h19
 have h14 := h14.ext hx18
 have h10 := h10.ext hx18
 have h8 := h8.ext hx18
 refine ops_ex (σ := (Nat → Prop) × World) (I := fun x_ => Ext w0 F16 W17 x_.1 x_.2 ∧ RdS (Rep.int .i64) x_.1 x_.2 (sa g15) 1 ([9] : List Int)) (M' := fun x_ => Mem w0 (orow (sa g11) ([0, 2] : List Int).length 2 3 1 ([vI 0, vI 2]) :: ow A4 x2 2 143 2 y5 :: .blk b1 [.slice none 0 0, .slice none 0 0, .slice none 0 0] 26 :: Fz x_.1 x_.2 :: cs)) (fun w_ hM => ?_) ?_
 · obtain ⟨F_, h1_, h2_, h3_⟩ := (hM.pick 5 [0, 4, 1, 2, 3] (by kernel_rfl) (by decide) rfl : Mem w0 (orow (sa g15) ([9] : List Int).length 1 3 1 ([vI 9]) :: Fz F16 W17 :: orow (sa g11) ([0, 2] : List Int).length 2 3 1 ([vI 0, vI 2]) :: ow A4 x2 2 143 2 y5 :: .blk b1 [.slice none 0 0, .slice none 0 0, .slice none 0 0] 26 :: cs) w_).freeze (z := 1) h14 rfl rfl
   exact ⟨(F_, w_), ⟨h1_, h2_⟩, h3_.pick 4 [1, 2, 3, 0] (by kernel_rfl) (by decide) rfl⟩
 rintro ⟨F20, W21⟩ ⟨hx22, h23⟩
 have hx22 : Ext w0 F16 W17 F20 W21 := hx22
 have h23 : RdS (Rep.int .i64) F20 W21 (sa g15) 1 ([9] : List Int) := h23
 have h19 := h19.ext hx22
 have h10 := h10.ext hx22
 have h8 := h8.ext hx22
 have h24 : RepL R_api_Comp F20 W21 ([(api_Comp.mk 0 ([4] : List Int)), (api_Comp.mk 1 ([9] : List Int))] : List api_Comp) ([vI 0, .slice (sa g13) ([4] : List Int).length 1, vI 1, .slice (sa g15) ([9] : List Int).length 1]) := (RepL.cons (R := R_api_Comp) (F := F20) (w := W21) (vs := [vI 0, .slice (sa g13) ([4] : List Int).length 1]) (ys := [vI 1, .slice (sa g15) ([9] : List Int).length 1]) (enc_api_Comp h19) (RepL.cons (R := R_api_Comp) (F := F20) (w := W21) (vs := [vI 1, .slice (sa g15) ([9] : List Int).length 1]) (ys := []) (enc_api_Comp h23) RepL.nil))
 refine ops_new (d := some 7) (o := .cells ([vI 0, .slice (sa g13) ([4] : List Int).length 1, vI 1, .slice (sa g15) ([9] : List Int).length 1] : List Value).toArray 43) (v := fun g25 => .slice (sa g25) ([(api_Comp.mk 0 ([4] : List Int)), (api_Comp.mk 1 ([9] : List Int))] : List api_Comp).length 2) (M' := fun g25 => Mem w0 (orow (sa g25) ([(api_Comp.mk 0 ([4] : List Int)), (api_Comp.mk 1 ([9] : List Int))] : List api_Comp).length 2 43 2 ([vI 0, .slice (sa g13) ([4] : List Int).length 1, vI 1, .slice (sa g15) ([9] : List Int).length 1]) :: orow (sa g11) ([0, 2] : List Int).length 2 3 1 ([vI 0, vI 2]) :: ow A4 x2 2 143 2 y5 :: .blk b1 [.slice none 0 0, .slice none 0 0, .slice none 0 0] 26 :: Fz F20 W21 :: cs)) (fun g25 => ⟨by kernel_rfl⟩) (fun w_ hM hS => ⟨hM.onew [vI 0, .slice (sa g13) ([4] : List Int).length 1, vI 1, .slice (sa g15) ([9] : List Int).length 1] 43 2 2 rfl (by decide), trivial⟩) (fun g25 => ?_)
 refine oQ [oF 7, oF 8] [(9, .agg #[vI 1, vI 2]), (8, .agg #[vI 0, vI 0, .slice (sa g25) ([(api_Comp.mk 0 ([4] : List Int)), (api_Comp.mk 1 ([9] : List Int))] : List api_Comp).length 2]), (2, .slice (sa g11) ([0, 2] : List Int).length 2), (1, sl A4 x2 2), (0, vP b1 0)] (by kernel_rfl) ?_
 have h26 : RepL (Rep.int .i64) F20 W21 ([7] : List Int) ([vI 7]) := (RepL.cons (R := (Rep.int .i64)) (F := F20) (w := W21) (vs := [vI 7]) (ys := []) rfl RepL.nil)
 refine ops_new (d := some 10) (o := .cells ([vI 7] : List Value).toArray 3) (v := fun g27 => .slice (sa g27) ([7] : List Int).length 1) (M' := fun g27 => Mem w0 (orow (sa g27) ([7] : List Int).length 1 3 1 ([vI 7]) :: orow (sa g25) ([(api_Comp.mk 0 ([4] : List Int)), (api_Comp.mk 1 ([9] : List Int))] : List api_Comp).length 2 43 2 ([vI 0, .slice (sa g13) ([4] : List Int).length 1, vI 1, .slice (sa g15) ([9] : List Int).length 1]) :: orow (sa g11) ([0, 2] : List Int).length 2 3 1 ([vI 0, vI 2]) :: ow A4 x2 2 143 2 y5 :: .blk b1 [.slice none 0 0, .slice none 0 0, .slice none 0 0] 26 :: Fz F20 W21 :: cs)) (fun g27 => ⟨by kernel_rfl⟩) (fun w_ hM hS => ⟨hM.onew [vI 7] 3 1 1 rfl (by decide), trivial⟩) (fun g27 => ?_)
 refine oQ [oF 10] [(11, .agg #[vI 1, .slice (sa g27) ([7] : List Int).length 1]), (9, .agg #[vI 1, vI 2]), (8, .agg #[vI 0, vI 0, .slice (sa g25) ([(api_Comp.mk 0 ([4] : List Int)), (api_Comp.mk 1 ([9] : List Int))] : List api_Comp).length 2]), (2, .slice (sa g11) ([0, 2] : List Int).length 2), (1, sl A4 x2 2), (0, vP b1 0)] (by kernel_rfl) ?_
 refine ops_ex (σ := (Nat → Prop) × World) (I := fun x_ => Ext w0 F20 W21 x_.1 x_.2 ∧ RdS (Rep.int .i64) x_.1 x_.2 (sa g27) 1 ([7] : List Int)) (M' := fun x_ => Mem w0 (orow (sa g25) ([(api_Comp.mk 0 ([4] : List Int)), (api_Comp.mk 1 ([9] : List Int))] : List api_Comp).length 2 43 2 ([vI 0, .slice (sa g13) ([4] : List Int).length 1, vI 1, .slice (sa g15) ([9] : List Int).length 1]) :: orow (sa g11) ([0, 2] : List Int).length 2 3 1 ([vI 0, vI 2]) :: ow A4 x2 2 143 2 y5 :: .blk b1 [.slice none 0 0, .slice none 0 0, .slice none 0 0] 26 :: Fz x_.1 x_.2 :: cs)) (fun w_ hM => ?_) ?_
 · obtain ⟨F_, h1_, h2_, h3_⟩ := (hM.pick 6 [0, 5, 1, 2, 3, 4] (by kernel_rfl) (by decide) rfl : Mem w0 (orow (sa g27) ([7] : List Int).length 1 3 1 ([vI 7]) :: Fz F20 W21 :: orow (sa g25) ([(api_Comp.mk 0 ([4] : List Int)), (api_Comp.mk 1 ([9] : List Int))] : List api_Comp).length 2 43 2 ([vI 0, .slice (sa g13) ([4] : List Int).length 1, vI 1, .slice (sa g15) ([9] : List Int).length 1]) :: orow (sa g11) ([0, 2] : List Int).length 2 3 1 ([vI 0, vI 2]) :: ow A4 x2 2 143 2 y5 :: .blk b1 [.slice none 0 0, .slice none 0 0, .slice none 0 0] 26 :: cs) w_).freeze (z := 1) h26 rfl rfl
   exact ⟨(F_, w_), ⟨h1_, h2_⟩, h3_.pick 5 [1, 2, 3, 4, 0] (by kernel_rfl) (by decide) rfl⟩
 rintro ⟨F28, W29⟩ ⟨hx30, h31⟩
 have hx30 : Ext w0 F20 W21 F28 W29 := hx30
 have h31 : RdS (Rep.int .i64) F28 W29 (sa g27) 1 ([7] : List Int) := h31
 have h24 := h24.ext hx30
 have h10 := h10.ext hx30
 have h8 := h8.ext hx30
 have h32 : RepL R_api_Comp F28 W29 ([(api_Comp.mk 1 ([7] : List Int))] : List api_Comp) ([vI 1, .slice (sa g27) ([7] : List Int).length 1]) := (RepL.cons (R := R_api_Comp) (F := F28) (w := W29) (vs := [vI 1, .slice (sa g27) ([7] : List Int).length 1]) (ys := []) (enc_api_Comp h31) RepL.nil)
 refine ops_new (d := some 12) (o := .cells ([vI 1, .slice (sa g27) ([7] : List Int).length 1] : List Value).toArray 43) (v := fun g33 => .slice (sa g33) ([(api_Comp.mk 1 ([7] : List Int))] : List api_Comp).length 1) (M' := fun g33 => Mem w0 (orow (sa g33) ([(api_Comp.mk 1 ([7] : List Int))] : List api_Comp).length 1 43 2 ([vI 1, .slice (sa g27) ([7] : List Int).length 1]) :: orow (sa g25) ([(api_Comp.mk 0 ([4] : List Int)), (api_Comp.mk 1 ([9] : List Int))] : List api_Comp).length 2 43 2 ([vI 0, .slice (sa g13) ([4] : List Int).length 1, vI 1, .slice (sa g15) ([9] : List Int).length 1]) :: orow (sa g11) ([0, 2] : List Int).length 2 3 1 ([vI 0, vI 2]) :: ow A4 x2 2 143 2 y5 :: .blk b1 [.slice none 0 0, .slice none 0 0, .slice none 0 0] 26 :: Fz F28 W29 :: cs)) (fun g33 => ⟨by kernel_rfl⟩) (fun w_ hM hS => ⟨hM.onew [vI 1, .slice (sa g27) ([7] : List Int).length 1] 43 1 2 rfl (by decide), trivial⟩) (fun g33 => ?_)
 refine oQ [oF 12] [(13, .agg #[vI 1, vI 2, .slice (sa g33) ([(api_Comp.mk 1 ([7] : List Int))] : List api_Comp).length 1]), (8, .agg #[vI 0, vI 0, .slice (sa g25) ([(api_Comp.mk 0 ([4] : List Int)), (api_Comp.mk 1 ([9] : List Int))] : List api_Comp).length 2]), (2, .slice (sa g11) ([0, 2] : List Int).length 2), (1, sl A4 x2 2), (0, vP b1 0)] (by kernel_rfl) ?_
 refine ops_ex (σ := (Nat → Prop) × World) (I := fun x_ => Ext w0 F28 W29 x_.1 x_.2 ∧ RdS R_api_Comp x_.1 x_.2 (sa g25) 2 ([(api_Comp.mk 0 ([4] : List Int)), (api_Comp.mk 1 ([9] : List Int))] : List api_Comp)) (M' := fun x_ => Mem w0 (orow (sa g33) ([(api_Comp.mk 1 ([7] : List Int))] : List api_Comp).length 1 43 2 ([vI 1, .slice (sa g27) ([7] : List Int).length 1]) :: orow (sa g11) ([0, 2] : List Int).length 2 3 1 ([vI 0, vI 2]) :: ow A4 x2 2 143 2 y5 :: .blk b1 [.slice none 0 0, .slice none 0 0, .slice none 0 0] 26 :: Fz x_.1 x_.2 :: cs)) (fun w_ hM => ?_) ?_
 · obtain ⟨F_, h1_, h2_, h3_⟩ := (hM.pick 6 [1, 5, 0, 2, 3, 4] (by kernel_rfl) (by decide) rfl : Mem w0 (orow (sa g25) ([(api_Comp.mk 0 ([4] : List Int)), (api_Comp.mk 1 ([9] : List Int))] : List api_Comp).length 2 43 2 ([vI 0, .slice (sa g13) ([4] : List Int).length 1, vI 1, .slice (sa g15) ([9] : List Int).length 1]) :: Fz F28 W29 :: orow (sa g33) ([(api_Comp.mk 1 ([7] : List Int))] : List api_Comp).length 1 43 2 ([vI 1, .slice (sa g27) ([7] : List Int).length 1]) :: orow (sa g11) ([0, 2] : List Int).length 2 3 1 ([vI 0, vI 2]) :: ow A4 x2 2 143 2 y5 :: .blk b1 [.slice none 0 0, .slice none 0 0, .slice none 0 0] 26 :: cs) w_).freeze (z := 2) h24 rfl rfl
   exact ⟨(F_, w_), ⟨h1_, h2_⟩, h3_.pick 5 [1, 2, 3, 4, 0] (by kernel_rfl) (by decide) rfl⟩
 rintro ⟨F34, W35⟩ ⟨hx36, h37⟩
 have hx36 : Ext w0 F28 W29 F34 W35 := hx36
 have h37 : RdS R_api_Comp F34 W35 (sa g25) 2 ([(api_Comp.mk 0 ([4] : List Int)), (api_Comp.mk 1 ([9] : List Int))] : List api_Comp) := h37
 have h32 := h32.ext hx36
 have h10 := h10.ext hx36
 have h8 := h8.ext hx36
 refine ops_ex (σ := (Nat → Prop) × World) (I := fun x_ => Ext w0 F34 W35 x_.1 x_.2 ∧ RdS R_api_Comp x_.1 x_.2 (sa g33) 1 ([(api_Comp.mk 1 ([7] : List Int))] : List api_Comp)) (M' := fun x_ => Mem w0 (orow (sa g11) ([0, 2] : List Int).length 2 3 1 ([vI 0, vI 2]) :: ow A4 x2 2 143 2 y5 :: .blk b1 [.slice none 0 0, .slice none 0 0, .slice none 0 0] 26 :: Fz x_.1 x_.2 :: cs)) (fun w_ hM => ?_) ?_
 · obtain ⟨F_, h1_, h2_, h3_⟩ := (hM.pick 5 [0, 4, 1, 2, 3] (by kernel_rfl) (by decide) rfl : Mem w0 (orow (sa g33) ([(api_Comp.mk 1 ([7] : List Int))] : List api_Comp).length 1 43 2 ([vI 1, .slice (sa g27) ([7] : List Int).length 1]) :: Fz F34 W35 :: orow (sa g11) ([0, 2] : List Int).length 2 3 1 ([vI 0, vI 2]) :: ow A4 x2 2 143 2 y5 :: .blk b1 [.slice none 0 0, .slice none 0 0, .slice none 0 0] 26 :: cs) w_).freeze (z := 2) h32 rfl rfl
   exact ⟨(F_, w_), ⟨h1_, h2_⟩, h3_.pick 4 [1, 2, 3, 0] (by kernel_rfl) (by decide) rfl⟩
 rintro ⟨F38, W39⟩ ⟨hx40, h41⟩
 have hx40 : Ext w0 F34 W35 F38 W39 := hx40
 have h41 : RdS R_api_Comp F38 W39 (sa g33) 1 ([(api_Comp.mk 1 ([7] : List Int))] : List api_Comp) := h41
 have h37 := h37.ext hx40
 have h10 := h10.ext hx40
 have h8 := h8.ext hx40
 have h42 : RepL R_api_Item F38 W39 ([(api_Item.mk (api_Ent.mk 0 0) ([(api_Comp.mk 0 ([4] : List Int)), (api_Comp.mk 1 ([9] : List Int))] : List api_Comp)), (api_Item.mk (api_Ent.mk 1 2) ([(api_Comp.mk 1 ([7] : List Int))] : List api_Comp))] : List api_Item) ([vI 0, vI 0, .slice (sa g25) ([(api_Comp.mk 0 ([4] : List Int)), (api_Comp.mk 1 ([9] : List Int))] : List api_Comp).length 2, vI 1, vI 2, .slice (sa g33) ([(api_Comp.mk 1 ([7] : List Int))] : List api_Comp).length 1]) := (RepL.cons (R := R_api_Item) (F := F38) (w := W39) (vs := [vI 0, vI 0, .slice (sa g25) ([(api_Comp.mk 0 ([4] : List Int)), (api_Comp.mk 1 ([9] : List Int))] : List api_Comp).length 2]) (ys := [vI 1, vI 2, .slice (sa g33) ([(api_Comp.mk 1 ([7] : List Int))] : List api_Comp).length 1]) (enc_api_Item h37) (RepL.cons (R := R_api_Item) (F := F38) (w := W39) (vs := [vI 1, vI 2, .slice (sa g33) ([(api_Comp.mk 1 ([7] : List Int))] : List api_Comp).length 1]) (ys := []) (enc_api_Item h41) RepL.nil))
 refine ops_new (d := some 14) (o := .cells ([vI 0, vI 0, .slice (sa g25) ([(api_Comp.mk 0 ([4] : List Int)), (api_Comp.mk 1 ([9] : List Int))] : List api_Comp).length 2, vI 1, vI 2, .slice (sa g33) ([(api_Comp.mk 1 ([7] : List Int))] : List api_Comp).length 1] : List Value).toArray 38) (v := fun g43 => .slice (sa g43) ([(api_Item.mk (api_Ent.mk 0 0) ([(api_Comp.mk 0 ([4] : List Int)), (api_Comp.mk 1 ([9] : List Int))] : List api_Comp)), (api_Item.mk (api_Ent.mk 1 2) ([(api_Comp.mk 1 ([7] : List Int))] : List api_Comp))] : List api_Item).length 2) (M' := fun g43 => Mem w0 (orow (sa g43) ([(api_Item.mk (api_Ent.mk 0 0) ([(api_Comp.mk 0 ([4] : List Int)), (api_Comp.mk 1 ([9] : List Int))] : List api_Comp)), (api_Item.mk (api_Ent.mk 1 2) ([(api_Comp.mk 1 ([7] : List Int))] : List api_Comp))] : List api_Item).length 2 38 3 ([vI 0, vI 0, .slice (sa g25) ([(api_Comp.mk 0 ([4] : List Int)), (api_Comp.mk 1 ([9] : List Int))] : List api_Comp).length 2, vI 1, vI 2, .slice (sa g33) ([(api_Comp.mk 1 ([7] : List Int))] : List api_Comp).length 1]) :: orow (sa g11) ([0, 2] : List Int).length 2 3 1 ([vI 0, vI 2]) :: ow A4 x2 2 143 2 y5 :: .blk b1 [.slice none 0 0, .slice none 0 0, .slice none 0 0] 26 :: Fz F38 W39 :: cs)) (fun g43 => ⟨by kernel_rfl⟩) (fun w_ hM hS => ⟨hM.onew [vI 0, vI 0, .slice (sa g25) ([(api_Comp.mk 0 ([4] : List Int)), (api_Comp.mk 1 ([9] : List Int))] : List api_Comp).length 2, vI 1, vI 2, .slice (sa g33) ([(api_Comp.mk 1 ([7] : List Int))] : List api_Comp).length 1] 38 2 3 rfl (by decide), trivial⟩) (fun g43 => ?_)
 refine oQ [oF 14] [(15, .agg #[sl A4 x2 2, .slice (sa g11) ([0, 2] : List Int).length 2, .slice (sa g43) ([(api_Item.mk (api_Ent.mk 0 0) ([(api_Comp.mk 0 ([4] : List Int)), (api_Comp.mk 1 ([9] : List Int))] : List api_Comp)), (api_Item.mk (api_Ent.mk 1 2) ([(api_Comp.mk 1 ([7] : List Int))] : List api_Comp))] : List api_Item).length 2]), (0, vP b1 0)] (by kernel_rfl) ?_
 refine ops_store (an := []) (evs := [sr b1 0 (sl A4 x2 2), sr b1 1 (.slice (sa g11) ([0, 2] : List Int).length 2), sr b1 2 (.slice (sa g43) ([(api_Item.mk (api_Ent.mk 0 0) ([(api_Comp.mk 0 ([4] : List Int)), (api_Comp.mk 1 ([9] : List Int))] : List api_Comp)), (api_Item.mk (api_Ent.mk 1 2) ([(api_Comp.mk 1 ([7] : List Int))] : List api_Comp))] : List api_Item).length 2)]) ⟨by kernel_rfl⟩ (fun w_ hM hS => let ⟨w', he, h'⟩ := hM.evs_stores [sl A4 x2 2, .slice (sa g11) ([0, 2] : List Int).length 2, .slice (sa g43) ([(api_Item.mk (api_Ent.mk 0 0) ([(api_Comp.mk 0 ([4] : List Int)), (api_Comp.mk 1 ([9] : List Int))] : List api_Comp)), (api_Item.mk (api_Ent.mk 1 2) ([(api_Comp.mk 1 ([7] : List Int))] : List api_Comp))] : List api_Item).length 2] 3 rfl 0 (Nat.le_of_ble_eq_true rfl); ⟨w', he, h', trivial⟩) ?_
 refine ops_nil (fin_then (st_ret ?_))
 have hq_ := Option.some.inj hp
 obtain ⟨hr0_, hq_⟩ := Prod.mk.inj hq_
 obtain ⟨hr1_, hq_⟩ := Prod.mk.inj hq_
 have hr2_ := hq_
 subst hr0_
 subst hr1_
 subst hr2_
 refine fin_ret [.cell 0 26] [.agg #[sl A4 x2 2, .slice (sa g11) ([0, 2] : List Int).length 2, .slice (sa g43) ([(api_Item.mk (api_Ent.mk 0 0) ([(api_Comp.mk 0 ([4] : List Int)), (api_Comp.mk 1 ([9] : List Int))] : List api_Comp)), (api_Item.mk (api_Ent.mk 1 2) ([(api_Comp.mk 1 ([7] : List Int))] : List api_Comp))] : List api_Item).length 2]] rfl rfl (fun w_ hM => (.cell rfl (tr_run _ [.v (sl A4 x2 2), .v (.slice (sa g11) ([0, 2] : List Int).length 2), .v (.slice (sa g43) ([(api_Item.mk (api_Ent.mk 0 0) ([(api_Comp.mk 0 ([4] : List Int)), (api_Comp.mk 1 ([9] : List Int))] : List api_Comp)), (api_Item.mk (api_Ent.mk 1 2) ([(api_Comp.mk 1 ([7] : List Int))] : List api_Comp))] : List api_Item).length 2)] [ld b1 0 (sl A4 x2 2), ld b1 1 (.slice (sa g11) ([0, 2] : List Int).length 2), ld b1 2 (.slice (sa g43) ([(api_Item.mk (api_Ent.mk 0 0) ([(api_Comp.mk 0 ([4] : List Int)), (api_Comp.mk 1 ([9] : List Int))] : List api_Comp)), (api_Item.mk (api_Ent.mk 1 2) ([(api_Comp.mk 1 ([7] : List Int))] : List api_Comp))] : List api_Item).length 2)] (.agg #[sl A4 x2 2, .slice (sa g11) ([0, 2] : List Int).length 2, .slice (sa g43) ([(api_Item.mk (api_Ent.mk 0 0) ([(api_Comp.mk 0 ([4] : List Int)), (api_Comp.mk 1 ([9] : List Int))] : List api_Comp)), (api_Item.mk (api_Ent.mk 1 2) ([(api_Comp.mk 1 ([7] : List Int))] : List api_Comp))] : List api_Item).length 2] : Value) _ _ (by kernel_rfl) ⟨hM.cell 3 rfl rfl, hM.cell 3 rfl rfl, hM.cell 3 rfl rfl, rfl⟩) .nil)) (fun w_ hM => ?_)
 exact ⟨A4, y5, (sa g11), ([vI 0, vI 2]), (sa g43), ([vI 0, vI 0, .slice (sa g25) ([(api_Comp.mk 0 ([4] : List Int)), (api_Comp.mk 1 ([9] : List Int))] : List api_Comp).length 2, vI 1, vI 2, .slice (sa g33) ([(api_Comp.mk 1 ([7] : List Int))] : List api_Comp).length 1]), F38, W39, ⟨h8, h10, h42, (((((h9.trans hx18).trans hx22).trans hx30).trans hx36).trans hx40)⟩, rfl, hM.pick 5 [2, 1, 0, 4] (by kernel_rfl) (by decide) rfl⟩
theorem query_Match_1_1_ok (w0 w : World) (cs : List Chunk) (F : Nat → Prop) (W : World) (c_0 : Int) (A_c_1 : Option Addr) (c_c_1 : Nat) (c_1 : List Int) (b_p1 : Nat) (p1_0 : Int) (hM0 : Mem w0 (.blk b_p1 [vI p1_0] 3 :: Fz F W :: cs) w) (h_c_1 : RdS (Rep.int .i64) F W A_c_1 c_c_1 c_1) (t9001 : Bool) (hp : query_Match_1_1 c_0 c_1 p1_0 = some t9001) : Calls Try.prog 63 #[.agg #[vI c_0, sl A_c_1 c_1 c_c_1], vP b_p1 0] w fun e w' => (True) ∧ e = .returned (.bool t9001) ∧ Mem w0 (.blk b_p1 [vI p1_0] 3 :: Fz F W :: cs) w' := by
 unfold query_Match_1_1 at hp
 refine sx_calls Try.func63 rfl (n := 8) (by kernel_rfl) (l := [(0, .agg #[vI c_0, sl A_c_1 c_1 c_c_1]), (1, vP b_p1 0)]) rfl (by rfl) hM0 ?_
 refine st_seq (st_region [oF 0, oF 1] (by rfl) ?_)
 refine ops_newB (d := some 2) [vI c_0, sl A_c_1 c_1 c_c_1] 43 (fun b1 => ⟨by kernel_rfl⟩) (fun w_ hM hS => trivial) (fun b1 => ?_)
 refine oQ [oF 1] [(2, vP b1 0), (1, vP b_p1 0)] (by kernel_rfl) ?_
 refine ops_nil (fin_then (st_seq (st_region [oF 0, oF 1, oF 2, oF 3, oF 4] (by rfl) ?_)))
 refine oQ [oF 0] [(4, vP b1 0), (1, vP b_p1 0)] (by kernel_rfl) ?_
 refine ops_mem (d := some 5) (an := [.v (vI c_0)]) (evs := [ld b1 0 (vI c_0)]) (v := vI c_0) ⟨by kernel_rfl⟩ (fun w_ hM hS => ⟨w_, ⟨hM.cell 0 rfl rfl, rfl⟩, hM, trivial⟩) ?_
 refine ops_mem (d := some 6) (an := [.v (vI p1_0)]) (evs := [ld b_p1 0 (vI p1_0)]) (v := vI p1_0) ⟨by kernel_rfl⟩ (fun w_ hM hS => ⟨w_, ⟨hM.cell 1 rfl rfl, rfl⟩, hM, trivial⟩) ?_
 refine oQ [oF 3, oF 4] [(3, .bool (c_0 == p1_0))] (by kernel_rfl) ?_
 refine ops_nil (fin_then (st_ret ?_))
 have hq_ := Option.some.inj hp
 have hr0_ := hq_
 subst hr0_
 refine fin_ret [.tmp 3] [.bool (c_0 == p1_0)] rfl rfl (fun w_ hM => (.tmp rfl .nil)) (fun w_ hM => ?_)
 exact ⟨trivial, rfl, hM.pick 3 [1, 2] (by kernel_rfl) (by decide) rfl⟩
theorem slices_IndexFunc_api_Comp_api_Comp_ok (w0 w : World) (cs : List Chunk) (F : Nat → Prop) (W : World) (A_s : Option Addr) (c_s : Nat) (s : List api_Comp) (b_f_c0 : Nat) (f_c0_0 : Int) (hM0 : Mem w0 (.blk b_f_c0 [vI f_c0_0] 3 :: Fz F W :: cs) w) (h_s : RdS R_api_Comp F W A_s c_s s) (i9001 : Int) (hp : slices_IndexFunc_api_Comp_api_Comp s f_c0_0 = some i9001) : Calls Try.prog 87 #[sl A_s s c_s, .func (.func 63) #[] #[vP b_f_c0 0]] w fun e w' => (True) ∧ e = .returned (vI i9001) ∧ Mem w0 (.blk b_f_c0 [vI f_c0_0] 3 :: Fz F W :: cs) w' := by
 unfold slices_IndexFunc_api_Comp_api_Comp at hp
 refine sx_calls Try.func87 rfl (n := 19) (by kernel_rfl) (l := [(0, sl A_s s c_s), (1, .func (.func 63) #[] #[vP b_f_c0 0])]) rfl (by rfl) hM0 ?_
 refine st_seq (st_region [oF 0] (by rfl) ?_)
 refine oQ [oF 0] [(0, sl A_s s c_s), (1, .func (.func 63) #[] #[vP b_f_c0 0])] (by kernel_rfl) ?_
 refine ops_nil (fin_then ?_)
 refine st_join1 (σ := Unit) (L := fun _ => []) (N := fun _ => Mem w0 (.blk b_f_c0 [vI f_c0_0] 3 :: Fz F W :: cs)) (I := fun _ => (slices_IndexFunc_api_Comp_api_Comp_j1 = some i9001)) ?_ ?_
 ·
  rintro _ hp
  unfold slices_IndexFunc_api_Comp_api_Comp_j1 at hp
  refine st_seq (st_region [oF 0] (by rfl) ?_)
  refine oQ [oF 0] [(4, vI (-1))] (by kernel_rfl) ?_
  refine ops_nil (fin_then (st_ret ?_))
  have hq_ := Option.some.inj hp
  have hr0_ := hq_
  subst hr0_
  refine fin_ret [.tmp 4] [vI (-1)] rfl rfl (fun w_ hM => (.tmp rfl .nil)) (fun w_ hM => ?_)
  exact ⟨trivial, rfl, hM⟩
 ·
  intro HJ1
  refine st_seq (st_seq (st_region [oF 0, oF 1, oF 2] (by rfl) ?_))
  refine oQ [oF 0, oF 1, oF 2] [(8, vI 0), (7, vI (s.length : Int)), (0, sl A_s s c_s), (1, .func (.func 63) #[] #[vP b_f_c0 0])] (by kernel_rfl) ?_
  refine ops_nil (fin_then (st_block ?_))
  obtain ⟨r2, hl2, hk2⟩ := obind hp
  refine st_loopP (σ := Int) (ρ := (Int ⊕ Unit)) (γ := Unit) hl2 () (fun s_ g_ => match s_, g_ with | i1, _ => [(0, sl A_s s c_s), (1, .func (.func 63) #[] #[vP b_f_c0 0]), (7, vI (s.length : Int)), (8, vI i1)]) (fun s_ g_ => match s_, g_ with | i1, _ => Mem w0 (.blk b_f_c0 [vI f_c0_0] 3 :: Fz F W :: cs)) (fun s_ g_ => match s_, g_ with | i1, _ => True) trivial (look_has ⟨rfl, rfl, rfl, rfl, trivial⟩) (fun w_ hM => hM) ?_
  rintro i1 _ o2 - hs_ hd2
  have hp : (slices_IndexFunc_api_Comp_api_Comp_l2 s f_c0_0) i1 = some o2 := hs_
  clear hs_
  unfold slices_IndexFunc_api_Comp_api_Comp_l2 at hp
  refine st_seq (st_region [oF 0] (by rfl) ?_)
  refine oQ [oF 0] [(9, .bool (decide (i1 < (s.length : Int)))), (0, sl A_s s c_s), (1, .func (.func 63) #[] #[vP b_f_c0 0]), (7, vI (s.length : Int)), (8, vI i1)] (by kernel_rfl) ?_
  refine ops_nil (fin_then (st_seq ?_))
  refine st_if (b := decide (i1 < (s.length : Int))) rfl (fun hc2 => ?_) (fun hc2 => ?_)
  ·
   have hp := cnd_t hc2 hp
   refine st_skip (fin_then (st_seq (st_block (st_seq (st_region [oF 0, oF 1] (by rfl) ?_)))))
   refine oQ [oF 0, oF 1] [(5, vI i1), (0, sl A_s s c_s), (1, .func (.func 63) #[] #[vP b_f_c0 0]), (7, vI (s.length : Int)), (8, vI i1)] (by kernel_rfl) ?_
   refine ops_nil (fin_then (st_seq (st_region [oF 0, oF 1, oF 2, oF 3, oF 4, oF 5] (by rfl) ?_)))
   refine oQ [oF 0, oF 1, oF 2] [(13, vI i1), (12, sl A_s s c_s), (11, .func (.func 63) #[] #[vP b_f_c0 0]), (5, vI i1), (0, sl A_s s c_s), (1, .func (.func 63) #[] #[vP b_f_c0 0]), (7, vI (s.length : Int)), (8, vI i1)] (by kernel_rfl) ?_
   obtain ⟨x3, hv4, hp⟩ := obind hp
   obtain ⟨m5, hm6, hx7⟩ := idx_some hv4
   have hl10 := (List.getElem?_eq_some_iff.1 hx7).1
   obtain ⟨ad11, vs8, hA12, hr9, hq13⟩ := RdS.el h_s hx7
   obtain ⟨A14, c15, rfl, h16⟩ := dec_api_Comp hr9
   refine ops_val (op := (.indexAddr 36 (.tmp 12) (.tmp 13))) (d := some 14) (v := .pointer (some (ad11.add (m5 * 2)))) ⟨by kernel_rfl⟩ (run_indexA hA12 Try.underlying36 (z := 2) (by kernel_rfl) rfl rfl hm6 hl10) ?_
   refine ops_mem (d := some 15) (an := [.v (vI x3.Kind), .v (sl A14 x3.Vals c15)]) (evs := [.load (ad11.add (m5 * 2)) (vI x3.Kind), .load ((ad11.add (m5 * 2)).add 1) (sl A14 x3.Vals c15)]) (v := .agg #[vI x3.Kind, sl A14 x3.Vals c15]) ⟨by kernel_rfl⟩ (fun w_ hM hS => ⟨w_, ⟨hM.elcell 1 rfl hq13 0 rfl, hM.elcell 1 rfl hq13 1 rfl, rfl⟩, hM, trivial⟩) ?_
   obtain ⟨x17, hv18, hp⟩ := obind hp
   refine ops_callI (σ := Unit) (d := some 16) (f := 63) (args := #[.agg #[vI x3.Kind, sl A14 x3.Vals c15], vP b_f_c0 0]) (v := (fun _ => .bool x17)) (I := (fun _ => True)) (M' := (fun _ => Mem w0 (.blk b_f_c0 [vI f_c0_0] 3 :: Fz F W :: cs))) ⟨by kernel_rfl⟩ (fun w_ hM hS => (query_Match_1_1_ok w0 w_ (cs) F W x3.Kind A14 c15 x3.Vals b_f_c0 f_c0_0 hM h16 x17 hv18).mono (by rintro e w' ⟨-, rfl, h'⟩; have h' : Mem w0 (.blk b_f_c0 [vI f_c0_0] 3 :: Fz F W :: cs) w' := h'; exact ⟨(), trivial, rfl, h', trivial⟩)) ?_
   rintro _ -
   refine ops_nil (fin_then ?_)
   refine st_if (b := x17) rfl (fun hc19 => ?_) (fun hc19 => ?_)
   ·
    have hp := cnd_t hc19 hp
    refine st_seq (st_region [oF 0, oF 1] (by rfl) ?_)
    refine oQ [oF 0, oF 1] [(4, vI i1)] (by kernel_rfl) ?_
    refine ops_nil (fin_then (st_ret (fin_ret_block (fin_ret_then (fin_ret_then (fin_ret_block (fin_ret_then ?_)))))))
    obtain hq_ := Option.some.inj hp
    subst hq_
    obtain hq_ := hd2 _ rfl
    subst hq_
    have hp : some i1 = some i9001 := hk2
    have hq_ := Option.some.inj hp
    have hr0_ := hq_
    subst hr0_
    refine fin_ret [.tmp 4] [vI i1] rfl rfl (fun w_ hM => (.tmp rfl .nil)) (fun w_ hM => ?_)
    exact ⟨trivial, rfl, hM⟩
   ·
    have hp := cnd_f hc19 hp
    refine st_skip (fin_block (fin_then (st_region [oF 0, oF 1] (by rfl) ?_)))
    refine oQ [oF 0, oF 1] [(8, vI (IntKind.i64.wrap (i1 + 1))), (0, sl A_s s c_s), (1, .func (.func 63) #[] #[vP b_f_c0 0]), (7, vI (s.length : Int))] (by kernel_rfl) ?_
    refine ops_nil ?_
    exact fin_again (IntKind.i64.wrap (i1 + 1)) () (Option.some.inj hp).symm trivial (look_has ⟨rfl, rfl, rfl, rfl, trivial⟩) (fun w_ hM => hM)
  ·
   have hp := cnd_f hc2 hp
   refine st_exit (fin_exit_then (fin_exit_then (fin_exit ?_)))
   obtain hq_ := Option.some.inj hp
   subst hq_
   obtain hq_ := hd2 _ rfl
   subst hq_
   have hp : slices_IndexFunc_api_Comp_api_Comp_j1 = some i9001 := hk2
   exact fin_join HJ1 () hp (look_has trivial) (fun w_ hM => hM)
theorem slices_ContainsFunc_api_Comp_api_Comp_ok (w0 w : World) (cs : List Chunk) (F : Nat → Prop) (W : World) (A_s : Option Addr) (c_s : Nat) (s : List api_Comp) (b_f_c0 : Nat) (f_c0_0 : Int) (hM0 : Mem w0 (.blk b_f_c0 [vI f_c0_0] 3 :: Fz F W :: cs) w) (h_s : RdS R_api_Comp F W A_s c_s s) (t9001 : Bool) (hp : slices_ContainsFunc_api_Comp_api_Comp s f_c0_0 = some t9001) : Calls Try.prog 62 #[sl A_s s c_s, .func (.func 63) #[] #[vP b_f_c0 0]] w fun e w' => (True) ∧ e = .returned (.bool t9001) ∧ Mem w0 (.blk b_f_c0 [vI f_c0_0] 3 :: Fz F W :: cs) w' := by
 unfold slices_ContainsFunc_api_Comp_api_Comp at hp
 refine sx_calls Try.func62 rfl (n := 9) (by kernel_rfl) (l := [(0, sl A_s s c_s), (1, .func (.func 63) #[] #[vP b_f_c0 0])]) rfl (by rfl) hM0 ?_
 refine st_seq (st_region [oF 0] (by rfl) ?_)
 refine oQ [oF 0] [(0, sl A_s s c_s), (1, .func (.func 63) #[] #[vP b_f_c0 0])] (by kernel_rfl) ?_
 refine ops_nil (fin_then (st_seq (st_region [oF 0, oF 1, oF 2, oF 3, oF 4] (by rfl) ?_)))
 refine oQ [oF 0, oF 1] [(6, .func (.func 63) #[] #[vP b_f_c0 0]), (5, sl A_s s c_s)] (by kernel_rfl) ?_
 obtain ⟨x1, hv2, hp⟩ := obind hp
 refine ops_callI (σ := Unit) (d := some 7) (f := 87) (args := #[sl A_s s c_s, .func (.func 63) #[] #[vP b_f_c0 0]]) (v := (fun _ => vI x1)) (I := (fun _ => True)) (M' := (fun _ => Mem w0 (.blk b_f_c0 [vI f_c0_0] 3 :: Fz F W :: cs))) ⟨by kernel_rfl⟩ (fun w_ hM hS => (slices_IndexFunc_api_Comp_api_Comp_ok w0 w_ (cs) F W A_s c_s s b_f_c0 f_c0_0 hM h_s x1 hv2).mono (by rintro e w' ⟨-, rfl, h'⟩; have h' : Mem w0 (.blk b_f_c0 [vI f_c0_0] 3 :: Fz F W :: cs) w' := h'; exact ⟨(), trivial, rfl, h', trivial⟩)) ?_
 rintro _ -
 refine oQ [oF 3, oF 4] [(4, .bool (decide (0 ≤ x1)))] (by kernel_rfl) ?_
 refine ops_nil (fin_then (st_ret ?_))
 have hq_ := Option.some.inj hp
 have hr0_ := hq_
 subst hr0_
 refine fin_ret [.tmp 4] [.bool (decide (0 ≤ x1))] rfl rfl (fun w_ hM => (.tmp rfl .nil)) (fun w_ hM => ?_)
 exact ⟨trivial, rfl, hM⟩
theorem query_Match_1_ok (w0 w : World) (cs : List Chunk) (F : Nat → Prop) (W : World) (k : Int) (b_p1 : Nat) (p1_0 : Int) (p1_1 : Int) (A_p1_2 : Option Addr) (c_p1_2 : Nat) (p1_2 : List api_Comp) (hM0 : Mem w0 (.blk b_p1 [vI p1_0, vI p1_1, sl A_p1_2 p1_2 c_p1_2] 38 :: Fz F W :: cs) w) (h_p1_2 : RdS R_api_Comp F W A_p1_2 c_p1_2 p1_2) (t9001 : Bool) (hp : query_Match_1 k p1_0 p1_1 p1_2 = some t9001) : Calls Try.prog 61 #[vI k, vP b_p1 0] w fun e w' => ((RdS R_api_Comp F W A_p1_2 c_p1_2 p1_2)) ∧ e = .returned (.bool t9001) ∧ Mem w0 (.blk b_p1 [vI p1_0, vI p1_1, sl A_p1_2 p1_2 c_p1_2] 38 :: Fz F W :: cs) w' := by
 unfold query_Match_1 at hp
 refine sx_calls Try.func61 rfl (n := 8) (by kernel_rfl) (l := [(0, vI k), (1, vP b_p1 0)]) rfl (by rfl) hM0 ?_
 refine st_seq (st_region [oF 0, oF 1] (by rfl) ?_)
 refine ops_newB (d := some 2) [vI k] 3 (fun b1 => ⟨by kernel_rfl⟩) (fun w_ hM hS => trivial) (fun b1 => ?_)
 refine oQ [oF 1] [(2, vP b1 0), (1, vP b_p1 0)] (by kernel_rfl) ?_
 refine ops_nil (fin_then (st_seq (st_region [oF 0, oF 1, oF 2, oF 3, oF 4] (by rfl) ?_)))
 refine oQ [oF 0] [(4, vP b_p1 2), (2, vP b1 0)] (by kernel_rfl) ?_
 refine ops_mem (d := some 5) (an := [.v (sl A_p1_2 p1_2 c_p1_2)]) (evs := [ld b_p1 2 (sl A_p1_2 p1_2 c_p1_2)]) (v := sl A_p1_2 p1_2 c_p1_2) ⟨by kernel_rfl⟩ (fun w_ hM hS => ⟨w_, ⟨hM.cell 1 rfl rfl, rfl⟩, hM, trivial⟩) ?_
 refine oQ [oF 2] [(6, .func (.func 63) #[] #[vP b1 0]), (5, sl A_p1_2 p1_2 c_p1_2)] (by kernel_rfl) ?_
 obtain ⟨x2, hv3, hp⟩ := obind hp
 refine ops_callI (σ := Unit) (d := some 7) (f := 62) (args := #[sl A_p1_2 p1_2 c_p1_2, .func (.func 63) #[] #[vP b1 0]]) (v := (fun _ => .bool x2)) (I := (fun _ => True)) (M' := (fun _ => Mem w0 (.blk b1 [vI k] 3 :: .blk b_p1 [vI p1_0, vI p1_1, sl A_p1_2 p1_2 c_p1_2] 38 :: Fz F W :: cs))) ⟨by kernel_rfl⟩ (fun w_ hM hS => (slices_ContainsFunc_api_Comp_api_Comp_ok w0 w_ (.blk b_p1 [vI p1_0, vI p1_1, sl A_p1_2 p1_2 c_p1_2] 38 :: cs) F W A_p1_2 c_p1_2 p1_2 b1 k (hM.pick 3 [0, 2, 1] (by kernel_rfl) (by decide) rfl) h_p1_2 x2 hv3).mono (by rintro e w' ⟨-, rfl, h'⟩; have h' : Mem w0 (.blk b1 [vI k] 3 :: .blk b_p1 [vI p1_0, vI p1_1, sl A_p1_2 p1_2 c_p1_2] 38 :: Fz F W :: cs) w' := (h'.pick 3 [0, 2, 1] (by kernel_rfl) (by decide) rfl); exact ⟨(), trivial, rfl, h', trivial⟩)) ?_
 rintro _ -
 refine oQ [oF 4] [(3, .bool x2)] (by kernel_rfl) ?_
 refine ops_nil (fin_then (st_ret ?_))
 have hq_ := Option.some.inj hp
 have hr0_ := hq_
 subst hr0_
 refine fin_ret [.tmp 3] [.bool x2] rfl rfl (fun w_ hM => (.tmp rfl .nil)) (fun w_ hM => ?_)
 exact ⟨h_p1_2, rfl, hM.pick 3 [1, 2] (by kernel_rfl) (by decide) rfl⟩
theorem query_Match_2_ok (w0 w : World) (cs : List Chunk) (F : Nat → Prop) (W : World) (k : Int) (b_p1 : Nat) (b_p1_0_c0 : Nat) (p1_0_c0_0 : Int) (p1_0_c0_1 : Int) (A_p1_0_c0_2 : Option Addr) (c_p1_0_c0_2 : Nat) (p1_0_c0_2 : List api_Comp) (hM0 : Mem w0 (.blk b_p1 [.func (.func 61) #[] #[vP b_p1_0_c0 0]] 55 :: .blk b_p1_0_c0 [vI p1_0_c0_0, vI p1_0_c0_1, sl A_p1_0_c0_2 p1_0_c0_2 c_p1_0_c0_2] 38 :: Fz F W :: cs) w) (h_p1_0_c0_2 : RdS R_api_Comp F W A_p1_0_c0_2 c_p1_0_c0_2 p1_0_c0_2) (t9001 : Bool) (hp : query_Match_2 k p1_0_c0_0 p1_0_c0_1 p1_0_c0_2 = some t9001) : Calls Try.prog 65 #[vI k, vP b_p1 0] w fun e w' => ((RdS R_api_Comp F W A_p1_0_c0_2 c_p1_0_c0_2 p1_0_c0_2)) ∧ e = .returned (.bool t9001) ∧ Mem w0 (.blk b_p1 [.func (.func 61) #[] #[vP b_p1_0_c0 0]] 55 :: .blk b_p1_0_c0 [vI p1_0_c0_0, vI p1_0_c0_1, sl A_p1_0_c0_2 p1_0_c0_2 c_p1_0_c0_2] 38 :: Fz F W :: cs) w' := by
 unfold query_Match_2 at hp
 refine sx_calls Try.func65 rfl (n := 8) (by kernel_rfl) (l := [(0, vI k), (1, vP b_p1 0)]) rfl (by rfl) hM0 ?_
 refine st_seq (st_region [oF 0] (by rfl) ?_)
 refine oQ [oF 0] [(0, vI k), (1, vP b_p1 0)] (by kernel_rfl) ?_
 refine ops_nil (fin_then (st_seq (st_region [oF 0, oF 1, oF 2, oF 3, oF 4] (by rfl) ?_)))
 refine ops_mem (d := some 4) (an := [.v (.func (.func 61) #[] #[vP b_p1_0_c0 0])]) (evs := [ld b_p1 0 (.func (.func 61) #[] #[vP b_p1_0_c0 0])]) (v := .func (.func 61) #[] #[vP b_p1_0_c0 0]) ⟨by kernel_rfl⟩ (fun w_ hM hS => ⟨w_, ⟨hM.cell 0 rfl rfl, rfl⟩, hM, trivial⟩) ?_
 refine oQ [oF 1] [(5, vI k), (4, .func (.func 61) #[] #[vP b_p1_0_c0 0])] (by kernel_rfl) ?_
 obtain ⟨x1, hv2, hp⟩ := obind hp
 refine ops_callI (σ := Unit) (d := some 6) (f := 61) (args := #[vI k, vP b_p1_0_c0 0]) (v := (fun _ => .bool x1)) (I := (fun _ => (RdS R_api_Comp F W A_p1_0_c0_2 c_p1_0_c0_2 p1_0_c0_2))) (M' := (fun _ => Mem w0 (.blk b_p1 [.func (.func 61) #[] #[vP b_p1_0_c0 0]] 55 :: .blk b_p1_0_c0 [vI p1_0_c0_0, vI p1_0_c0_1, sl A_p1_0_c0_2 p1_0_c0_2 c_p1_0_c0_2] 38 :: Fz F W :: cs))) ⟨by kernel_rfl⟩ (fun w_ hM hS => (query_Match_1_ok w0 w_ (.blk b_p1 [.func (.func 61) #[] #[vP b_p1_0_c0 0]] 55 :: cs) F W k b_p1_0_c0 p1_0_c0_0 p1_0_c0_1 A_p1_0_c0_2 c_p1_0_c0_2 p1_0_c0_2 (hM.pick 3 [1, 2, 0] (by kernel_rfl) (by decide) rfl) h_p1_0_c0_2 x1 hv2).mono (by rintro e w' ⟨h3, rfl, h'⟩; have h' : Mem w0 (.blk b_p1 [.func (.func 61) #[] #[vP b_p1_0_c0 0]] 55 :: .blk b_p1_0_c0 [vI p1_0_c0_0, vI p1_0_c0_1, sl A_p1_0_c0_2 p1_0_c0_2 c_p1_0_c0_2] 38 :: Fz F W :: cs) w' := (h'.pick 3 [2, 0, 1] (by kernel_rfl) (by decide) rfl); exact ⟨(), h3, rfl, h', trivial⟩)) ?_
 rintro _ h3
 refine oQ [oF 3, oF 4] [(3, .bool (!x1))] (by kernel_rfl) ?_
 refine ops_nil (fin_then (st_ret ?_))
 refine fin_conv (l' := [(3, .bool (!x1))]) (M' := Mem w0 (.blk b_p1 [.func (.func 61) #[] #[vP b_p1_0_c0 0]] 55 :: .blk b_p1_0_c0 [vI p1_0_c0_0, vI p1_0_c0_1, sl A_p1_0_c0_2 p1_0_c0_2 c_p1_0_c0_2] 38 :: Fz F W :: cs)) rfl (fun _ h => h) ?_
 have hq_ := Option.some.inj hp
 have hr0_ := hq_
 subst hr0_
 refine fin_ret [.tmp 3] [.bool (!x1)] rfl rfl (fun w_ hM => (.tmp rfl .nil)) (fun w_ hM => ?_)
 exact ⟨h3, rfl, hM⟩
theorem slices_IndexFunc_int_int_ok (w0 w : World) (cs : List Chunk) (F : Nat → Prop) (W : World) (A_s : Option Addr) (c_s : Nat) (s : List Int) (b_f_c0 : Nat) (b_f_c0_0_c0 : Nat) (f_c0_0_c0_0 : Int) (f_c0_0_c0_1 : Int) (A_f_c0_0_c0_2 : Option Addr) (c_f_c0_0_c0_2 : Nat) (f_c0_0_c0_2 : List api_Comp) (hM0 : Mem w0 (.blk b_f_c0 [.func (.func 61) #[] #[vP b_f_c0_0_c0 0]] 55 :: .blk b_f_c0_0_c0 [vI f_c0_0_c0_0, vI f_c0_0_c0_1, sl A_f_c0_0_c0_2 f_c0_0_c0_2 c_f_c0_0_c0_2] 38 :: Fz F W :: cs) w) (h_s : RdS (Rep.int .i64) F W A_s c_s s) (h_f_c0_0_c0_2 : RdS R_api_Comp F W A_f_c0_0_c0_2 c_f_c0_0_c0_2 f_c0_0_c0_2) (i9001 : Int) (hp : slices_IndexFunc_int_int s f_c0_0_c0_0 f_c0_0_c0_1 f_c0_0_c0_2 = some i9001) : Calls Try.prog 88 #[sl A_s s c_s, .func (.func 65) #[] #[vP b_f_c0 0]] w fun e w' => ((RdS R_api_Comp F W A_f_c0_0_c0_2 c_f_c0_0_c0_2 f_c0_0_c0_2)) ∧ e = .returned (vI i9001) ∧ Mem w0 (.blk b_f_c0 [.func (.func 61) #[] #[vP b_f_c0_0_c0 0]] 55 :: .blk b_f_c0_0_c0 [vI f_c0_0_c0_0, vI f_c0_0_c0_1, sl A_f_c0_0_c0_2 f_c0_0_c0_2 c_f_c0_0_c0_2] 38 :: Fz F W :: cs) w' := by
 unfold slices_IndexFunc_int_int at hp
 refine sx_calls Try.func88 rfl (n := 19) (by kernel_rfl) (l := [(0, sl A_s s c_s), (1, .func (.func 65) #[] #[vP b_f_c0 0])]) rfl (by rfl) hM0 ?_
 refine st_seq (st_region [oF 0] (by rfl) ?_)
 refine oQ [oF 0] [(0, sl A_s s c_s), (1, .func (.func 65) #[] #[vP b_f_c0 0])] (by kernel_rfl) ?_
 refine ops_nil (fin_then ?_)
 refine st_join1 (σ := Unit) (L := fun _ => []) (N := fun _ => Mem w0 (.blk b_f_c0 [.func (.func 61) #[] #[vP b_f_c0_0_c0 0]] 55 :: .blk b_f_c0_0_c0 [vI f_c0_0_c0_0, vI f_c0_0_c0_1, sl A_f_c0_0_c0_2 f_c0_0_c0_2 c_f_c0_0_c0_2] 38 :: Fz F W :: cs)) (I := fun _ => (slices_IndexFunc_int_int_j1 = some i9001) ∧ (RdS R_api_Comp F W A_f_c0_0_c0_2 c_f_c0_0_c0_2 f_c0_0_c0_2)) ?_ ?_
 ·
  rintro _ ⟨hp, h1⟩
  unfold slices_IndexFunc_int_int_j1 at hp
  refine st_seq (st_region [oF 0] (by rfl) ?_)
  refine oQ [oF 0] [(4, vI (-1))] (by kernel_rfl) ?_
  refine ops_nil (fin_then (st_ret ?_))
  refine fin_conv (l' := [(4, vI (-1))]) (M' := Mem w0 (.blk b_f_c0 [.func (.func 61) #[] #[vP b_f_c0_0_c0 0]] 55 :: .blk b_f_c0_0_c0 [vI f_c0_0_c0_0, vI f_c0_0_c0_1, sl A_f_c0_0_c0_2 f_c0_0_c0_2 c_f_c0_0_c0_2] 38 :: Fz F W :: cs)) rfl (fun _ h => h) ?_
  have hq_ := Option.some.inj hp
  have hr0_ := hq_
  subst hr0_
  refine fin_ret [.tmp 4] [vI (-1)] rfl rfl (fun w_ hM => (.tmp rfl .nil)) (fun w_ hM => ?_)
  exact ⟨h1, rfl, hM⟩
 ·
  intro HJ1
  refine st_seq (st_seq (st_region [oF 0, oF 1, oF 2] (by rfl) ?_))
  refine oQ [oF 0, oF 1, oF 2] [(8, vI 0), (7, vI (s.length : Int)), (0, sl A_s s c_s), (1, .func (.func 65) #[] #[vP b_f_c0 0])] (by kernel_rfl) ?_
  refine ops_nil (fin_then (st_block ?_))
  obtain ⟨r2, hl2, hk2⟩ := obind hp
  refine st_loopP (σ := Int) (ρ := (Int ⊕ Unit)) (γ := Unit) hl2 () (fun s_ g_ => match s_, g_ with | i3, _ => [(0, sl A_s s c_s), (1, .func (.func 65) #[] #[vP b_f_c0 0]), (7, vI (s.length : Int)), (8, vI i3)]) (fun s_ g_ => match s_, g_ with | i3, _ => Mem w0 (.blk b_f_c0 [.func (.func 61) #[] #[vP b_f_c0_0_c0 0]] 55 :: .blk b_f_c0_0_c0 [vI f_c0_0_c0_0, vI f_c0_0_c0_1, sl A_f_c0_0_c0_2 f_c0_0_c0_2 c_f_c0_0_c0_2] 38 :: Fz F W :: cs)) (fun s_ g_ => match s_, g_ with | i3, _ => (RdS R_api_Comp F W A_f_c0_0_c0_2 c_f_c0_0_c0_2 f_c0_0_c0_2)) h_f_c0_0_c0_2 (look_has ⟨rfl, rfl, rfl, rfl, trivial⟩) (fun w_ hM => hM) ?_
  rintro i3 _ o2 h2 hs_ hd2
  have hp : (slices_IndexFunc_int_int_l2 s f_c0_0_c0_0 f_c0_0_c0_1 f_c0_0_c0_2) i3 = some o2 := hs_
  clear hs_
  unfold slices_IndexFunc_int_int_l2 at hp
  refine st_seq (st_region [oF 0] (by rfl) ?_)
  refine oQ [oF 0] [(9, .bool (decide (i3 < (s.length : Int)))), (0, sl A_s s c_s), (1, .func (.func 65) #[] #[vP b_f_c0 0]), (7, vI (s.length : Int)), (8, vI i3)] (by kernel_rfl) ?_
  refine ops_nil (fin_then (st_seq ?_))
  refine st_if (b := decide (i3 < (s.length : Int))) rfl (fun hc4 => ?_) (fun hc4 => ?_)
  ·
   have hp := cnd_t hc4 hp
   refine st_skip (fin_then (st_seq (st_block (st_seq (st_region [oF 0, oF 1] (by rfl) ?_)))))
   refine oQ [oF 0, oF 1] [(5, vI i3), (0, sl A_s s c_s), (1, .func (.func 65) #[] #[vP b_f_c0 0]), (7, vI (s.length : Int)), (8, vI i3)] (by kernel_rfl) ?_
   refine ops_nil (fin_then (st_seq (st_region [oF 0, oF 1, oF 2, oF 3, oF 4, oF 5] (by rfl) ?_)))
   refine oQ [oF 0, oF 1, oF 2] [(13, vI i3), (12, sl A_s s c_s), (11, .func (.func 65) #[] #[vP b_f_c0 0]), (5, vI i3), (0, sl A_s s c_s), (1, .func (.func 65) #[] #[vP b_f_c0 0]), (7, vI (s.length : Int)), (8, vI i3)] (by kernel_rfl) ?_
   obtain ⟨x5, hv6, hp⟩ := obind hp
   obtain ⟨m7, hm8, hx9⟩ := idx_some hv6
   have hl12 := (List.getElem?_eq_some_iff.1 hx9).1
   obtain ⟨ad13, vs10, hA14, hr11, hq15⟩ := RdS.el h_s hx9
   obtain rfl := hr11
   refine ops_val (op := (.indexAddr 23 (.tmp 12) (.tmp 13))) (d := some 14) (v := .pointer (some (ad13.add (m7 * 1)))) ⟨by kernel_rfl⟩ (run_indexA hA14 Try.underlying23 (z := 1) (by kernel_rfl) rfl rfl hm8 hl12) ?_
   refine ops_mem (d := some 15) (an := [.v (vI x5)]) (evs := [.load (ad13.add (m7 * 1)) (vI x5)]) (v := vI x5) ⟨by kernel_rfl⟩ (fun w_ hM hS => ⟨w_, ⟨hM.elcell 2 rfl hq15 0 rfl, rfl⟩, hM, trivial⟩) ?_
   obtain ⟨x16, hv17, hp⟩ := obind hp
   refine ops_callI (σ := Unit) (d := some 16) (f := 65) (args := #[vI x5, vP b_f_c0 0]) (v := (fun _ => .bool x16)) (I := (fun _ => (RdS R_api_Comp F W A_f_c0_0_c0_2 c_f_c0_0_c0_2 f_c0_0_c0_2))) (M' := (fun _ => Mem w0 (.blk b_f_c0 [.func (.func 61) #[] #[vP b_f_c0_0_c0 0]] 55 :: .blk b_f_c0_0_c0 [vI f_c0_0_c0_0, vI f_c0_0_c0_1, sl A_f_c0_0_c0_2 f_c0_0_c0_2 c_f_c0_0_c0_2] 38 :: Fz F W :: cs))) ⟨by kernel_rfl⟩ (fun w_ hM hS => (query_Match_2_ok w0 w_ (cs) F W x5 b_f_c0 b_f_c0_0_c0 f_c0_0_c0_0 f_c0_0_c0_1 A_f_c0_0_c0_2 c_f_c0_0_c0_2 f_c0_0_c0_2 hM h2 x16 hv17).mono (by rintro e w' ⟨h18, rfl, h'⟩; have h' : Mem w0 (.blk b_f_c0 [.func (.func 61) #[] #[vP b_f_c0_0_c0 0]] 55 :: .blk b_f_c0_0_c0 [vI f_c0_0_c0_0, vI f_c0_0_c0_1, sl A_f_c0_0_c0_2 f_c0_0_c0_2 c_f_c0_0_c0_2] 38 :: Fz F W :: cs) w' := h'; exact ⟨(), h18, rfl, h', trivial⟩)) ?_
   rintro _ h18
   refine ops_nil (fin_then ?_)
   refine st_if (b := x16) rfl (fun hc19 => ?_) (fun hc19 => ?_)
   ·
    have hp := cnd_t hc19 hp
    refine st_seq (st_region [oF 0, oF 1] (by rfl) ?_)
    refine oQ [oF 0, oF 1] [(4, vI i3)] (by kernel_rfl) ?_
    refine ops_nil (fin_then (st_ret (fin_ret_block (fin_ret_then (fin_ret_then (fin_ret_block (fin_ret_then ?_)))))))
    refine fin_conv (l' := [(4, vI i3)]) (M' := Mem w0 (.blk b_f_c0 [.func (.func 61) #[] #[vP b_f_c0_0_c0 0]] 55 :: .blk b_f_c0_0_c0 [vI f_c0_0_c0_0, vI f_c0_0_c0_1, sl A_f_c0_0_c0_2 f_c0_0_c0_2 c_f_c0_0_c0_2] 38 :: Fz F W :: cs)) rfl (fun _ h => h) ?_
    obtain hq_ := Option.some.inj hp
    subst hq_
    obtain hq_ := hd2 _ rfl
    subst hq_
    have hp : some i3 = some i9001 := hk2
    have hq_ := Option.some.inj hp
    have hr0_ := hq_
    subst hr0_
    refine fin_ret [.tmp 4] [vI i3] rfl rfl (fun w_ hM => (.tmp rfl .nil)) (fun w_ hM => ?_)
    exact ⟨h18, rfl, hM⟩
   ·
    have hp := cnd_f hc19 hp
    refine st_skip (fin_block (fin_then (st_region [oF 0, oF 1] (by rfl) ?_)))
    refine oQ [oF 0, oF 1] [(8, vI (IntKind.i64.wrap (i3 + 1))), (0, sl A_s s c_s), (1, .func (.func 65) #[] #[vP b_f_c0 0]), (7, vI (s.length : Int))] (by kernel_rfl) ?_
    refine ops_nil ?_
    refine fin_conv (l' := [(8, vI (IntKind.i64.wrap (i3 + 1))), (0, sl A_s s c_s), (1, .func (.func 65) #[] #[vP b_f_c0 0]), (7, vI (s.length : Int))]) (M' := Mem w0 (.blk b_f_c0 [.func (.func 61) #[] #[vP b_f_c0_0_c0 0]] 55 :: .blk b_f_c0_0_c0 [vI f_c0_0_c0_0, vI f_c0_0_c0_1, sl A_f_c0_0_c0_2 f_c0_0_c0_2 c_f_c0_0_c0_2] 38 :: Fz F W :: cs)) rfl (fun _ h => h) ?_
    exact fin_again (IntKind.i64.wrap (i3 + 1)) () (Option.some.inj hp).symm h18 (look_has ⟨rfl, rfl, rfl, rfl, trivial⟩) (fun w_ hM => hM)
  ·
   have hp := cnd_f hc4 hp
   refine st_exit (fin_exit_then (fin_exit_then (fin_exit ?_)))
   refine fin_conv (l' := [(9, .bool (decide (i3 < (s.length : Int)))), (0, sl A_s s c_s), (1, .func (.func 65) #[] #[vP b_f_c0 0]), (7, vI (s.length : Int)), (8, vI i3)]) (M' := Mem w0 (.blk b_f_c0 [.func (.func 61) #[] #[vP b_f_c0_0_c0 0]] 55 :: .blk b_f_c0_0_c0 [vI f_c0_0_c0_0, vI f_c0_0_c0_1, sl A_f_c0_0_c0_2 f_c0_0_c0_2 c_f_c0_0_c0_2] 38 :: Fz F W :: cs)) rfl (fun _ h => h) ?_
   obtain hq_ := Option.some.inj hp
   subst hq_
   obtain hq_ := hd2 _ rfl
   subst hq_
   have hp : slices_IndexFunc_int_int_j1 = some i9001 := hk2
   exact fin_join HJ1 () ⟨hp, h2⟩ (look_has trivial) (fun w_ hM => hM)
theorem slices_ContainsFunc_int_int_ok (w0 w : World) (cs : List Chunk) (F : Nat → Prop) (W : World) (A_s : Option Addr) (c_s : Nat) (s : List Int) (b_f_c0 : Nat) (b_f_c0_0_c0 : Nat) (f_c0_0_c0_0 : Int) (f_c0_0_c0_1 : Int) (A_f_c0_0_c0_2 : Option Addr) (c_f_c0_0_c0_2 : Nat) (f_c0_0_c0_2 : List api_Comp) (hM0 : Mem w0 (.blk b_f_c0 [.func (.func 61) #[] #[vP b_f_c0_0_c0 0]] 55 :: .blk b_f_c0_0_c0 [vI f_c0_0_c0_0, vI f_c0_0_c0_1, sl A_f_c0_0_c0_2 f_c0_0_c0_2 c_f_c0_0_c0_2] 38 :: Fz F W :: cs) w) (h_s : RdS (Rep.int .i64) F W A_s c_s s) (h_f_c0_0_c0_2 : RdS R_api_Comp F W A_f_c0_0_c0_2 c_f_c0_0_c0_2 f_c0_0_c0_2) (t9001 : Bool) (hp : slices_ContainsFunc_int_int s f_c0_0_c0_0 f_c0_0_c0_1 f_c0_0_c0_2 = some t9001) : Calls Try.prog 64 #[sl A_s s c_s, .func (.func 65) #[] #[vP b_f_c0 0]] w fun e w' => ((RdS R_api_Comp F W A_f_c0_0_c0_2 c_f_c0_0_c0_2 f_c0_0_c0_2)) ∧ e = .returned (.bool t9001) ∧ Mem w0 (.blk b_f_c0 [.func (.func 61) #[] #[vP b_f_c0_0_c0 0]] 55 :: .blk b_f_c0_0_c0 [vI f_c0_0_c0_0, vI f_c0_0_c0_1, sl A_f_c0_0_c0_2 f_c0_0_c0_2 c_f_c0_0_c0_2] 38 :: Fz F W :: cs) w' := by
 unfold slices_ContainsFunc_int_int at hp
 refine sx_calls Try.func64 rfl (n := 9) (by kernel_rfl) (l := [(0, sl A_s s c_s), (1, .func (.func 65) #[] #[vP b_f_c0 0])]) rfl (by rfl) hM0 ?_
 refine st_seq (st_region [oF 0] (by rfl) ?_)
 refine oQ [oF 0] [(0, sl A_s s c_s), (1, .func (.func 65) #[] #[vP b_f_c0 0])] (by kernel_rfl) ?_
 refine ops_nil (fin_then (st_seq (st_region [oF 0, oF 1, oF 2, oF 3, oF 4] (by rfl) ?_)))
 refine oQ [oF 0, oF 1] [(6, .func (.func 65) #[] #[vP b_f_c0 0]), (5, sl A_s s c_s)] (by kernel_rfl) ?_
 obtain ⟨x1, hv2, hp⟩ := obind hp
 refine ops_callI (σ := Unit) (d := some 7) (f := 88) (args := #[sl A_s s c_s, .func (.func 65) #[] #[vP b_f_c0 0]]) (v := (fun _ => vI x1)) (I := (fun _ => (RdS R_api_Comp F W A_f_c0_0_c0_2 c_f_c0_0_c0_2 f_c0_0_c0_2))) (M' := (fun _ => Mem w0 (.blk b_f_c0 [.func (.func 61) #[] #[vP b_f_c0_0_c0 0]] 55 :: .blk b_f_c0_0_c0 [vI f_c0_0_c0_0, vI f_c0_0_c0_1, sl A_f_c0_0_c0_2 f_c0_0_c0_2 c_f_c0_0_c0_2] 38 :: Fz F W :: cs))) ⟨by kernel_rfl⟩ (fun w_ hM hS => (slices_IndexFunc_int_int_ok w0 w_ (cs) F W A_s c_s s b_f_c0 b_f_c0_0_c0 f_c0_0_c0_0 f_c0_0_c0_1 A_f_c0_0_c0_2 c_f_c0_0_c0_2 f_c0_0_c0_2 hM h_s h_f_c0_0_c0_2 x1 hv2).mono (by rintro e w' ⟨h3, rfl, h'⟩; have h' : Mem w0 (.blk b_f_c0 [.func (.func 61) #[] #[vP b_f_c0_0_c0 0]] 55 :: .blk b_f_c0_0_c0 [vI f_c0_0_c0_0, vI f_c0_0_c0_1, sl A_f_c0_0_c0_2 f_c0_0_c0_2 c_f_c0_0_c0_2] 38 :: Fz F W :: cs) w' := h'; exact ⟨(), h3, rfl, h', trivial⟩)) ?_
 rintro _ h3
 refine oQ [oF 3, oF 4] [(4, .bool (decide (0 ≤ x1)))] (by kernel_rfl) ?_
 refine ops_nil (fin_then (st_ret ?_))
 refine fin_conv (l' := [(4, .bool (decide (0 ≤ x1)))]) (M' := Mem w0 (.blk b_f_c0 [.func (.func 61) #[] #[vP b_f_c0_0_c0 0]] 55 :: .blk b_f_c0_0_c0 [vI f_c0_0_c0_0, vI f_c0_0_c0_1, sl A_f_c0_0_c0_2 f_c0_0_c0_2 c_f_c0_0_c0_2] 38 :: Fz F W :: cs)) rfl (fun _ h => h) ?_
 have hq_ := Option.some.inj hp
 have hr0_ := hq_
 subst hr0_
 refine fin_ret [.tmp 4] [.bool (decide (0 ≤ x1))] rfl rfl (fun w_ hM => (.tmp rfl .nil)) (fun w_ hM => ?_)
 exact ⟨h3, rfl, hM⟩
theorem slices_IndexFunc_int_int_v2_ok (w0 w : World) (cs : List Chunk) (F : Nat → Prop) (W : World) (A_s : Option Addr) (c_s : Nat) (s : List Int) (b_f_c0 : Nat) (f_c0_0 : Int) (f_c0_1 : Int) (A_f_c0_2 : Option Addr) (c_f_c0_2 : Nat) (f_c0_2 : List api_Comp) (hM0 : Mem w0 (.blk b_f_c0 [vI f_c0_0, vI f_c0_1, sl A_f_c0_2 f_c0_2 c_f_c0_2] 38 :: Fz F W :: cs) w) (h_s : RdS (Rep.int .i64) F W A_s c_s s) (h_f_c0_2 : RdS R_api_Comp F W A_f_c0_2 c_f_c0_2 f_c0_2) (i9001 : Int) (hp : slices_IndexFunc_int_int_v2 s f_c0_0 f_c0_1 f_c0_2 = some i9001) : Calls Try.prog 88 #[sl A_s s c_s, .func (.func 61) #[] #[vP b_f_c0 0]] w fun e w' => ((RdS R_api_Comp F W A_f_c0_2 c_f_c0_2 f_c0_2)) ∧ e = .returned (vI i9001) ∧ Mem w0 (.blk b_f_c0 [vI f_c0_0, vI f_c0_1, sl A_f_c0_2 f_c0_2 c_f_c0_2] 38 :: Fz F W :: cs) w' := by
 unfold slices_IndexFunc_int_int_v2 at hp
 refine sx_calls Try.func88 rfl (n := 19) (by kernel_rfl) (l := [(0, sl A_s s c_s), (1, .func (.func 61) #[] #[vP b_f_c0 0])]) rfl (by rfl) hM0 ?_
 refine st_seq (st_region [oF 0] (by rfl) ?_)
 refine oQ [oF 0] [(0, sl A_s s c_s), (1, .func (.func 61) #[] #[vP b_f_c0 0])] (by kernel_rfl) ?_
 refine ops_nil (fin_then ?_)
 refine st_join1 (σ := Unit) (L := fun _ => []) (N := fun _ => Mem w0 (.blk b_f_c0 [vI f_c0_0, vI f_c0_1, sl A_f_c0_2 f_c0_2 c_f_c0_2] 38 :: Fz F W :: cs)) (I := fun _ => (slices_IndexFunc_int_int_v2_j1 = some i9001) ∧ (RdS R_api_Comp F W A_f_c0_2 c_f_c0_2 f_c0_2)) ?_ ?_
 ·
  rintro _ ⟨hp, h1⟩
  unfold slices_IndexFunc_int_int_v2_j1 at hp
  refine st_seq (st_region [oF 0] (by rfl) ?_)
  refine oQ [oF 0] [(4, vI (-1))] (by kernel_rfl) ?_
  refine ops_nil (fin_then (st_ret ?_))
  have hq_ := Option.some.inj hp
  have hr0_ := hq_
  subst hr0_
  refine fin_ret [.tmp 4] [vI (-1)] rfl rfl (fun w_ hM => (.tmp rfl .nil)) (fun w_ hM => ?_)
  exact ⟨h1, rfl, hM⟩
 ·
  intro HJ1
  refine st_seq (st_seq (st_region [oF 0, oF 1, oF 2] (by rfl) ?_))
  refine oQ [oF 0, oF 1, oF 2] [(8, vI 0), (7, vI (s.length : Int)), (0, sl A_s s c_s), (1, .func (.func 61) #[] #[vP b_f_c0 0])] (by kernel_rfl) ?_
  refine ops_nil (fin_then (st_block ?_))
  obtain ⟨r2, hl2, hk2⟩ := obind hp
  refine st_loopP (σ := Int) (ρ := (Int ⊕ Unit)) (γ := Unit) hl2 () (fun s_ g_ => match s_, g_ with | i3, _ => [(0, sl A_s s c_s), (1, .func (.func 61) #[] #[vP b_f_c0 0]), (7, vI (s.length : Int)), (8, vI i3)]) (fun s_ g_ => match s_, g_ with | i3, _ => Mem w0 (.blk b_f_c0 [vI f_c0_0, vI f_c0_1, sl A_f_c0_2 f_c0_2 c_f_c0_2] 38 :: Fz F W :: cs)) (fun s_ g_ => match s_, g_ with | i3, _ => (RdS R_api_Comp F W A_f_c0_2 c_f_c0_2 f_c0_2)) h_f_c0_2 (look_has ⟨rfl, rfl, rfl, rfl, trivial⟩) (fun w_ hM => hM) ?_
  rintro i3 _ o2 h2 hs_ hd2
  have hp : (slices_IndexFunc_int_int_v2_l2 s f_c0_0 f_c0_1 f_c0_2) i3 = some o2 := hs_
  clear hs_
  unfold slices_IndexFunc_int_int_v2_l2 at hp
  refine st_seq (st_region [oF 0] (by rfl) ?_)
  refine oQ [oF 0] [(9, .bool (decide (i3 < (s.length : Int)))), (0, sl A_s s c_s), (1, .func (.func 61) #[] #[vP b_f_c0 0]), (7, vI (s.length : Int)), (8, vI i3)] (by kernel_rfl) ?_
  refine ops_nil (fin_then (st_seq ?_))
  refine st_if (b := decide (i3 < (s.length : Int))) rfl (fun hc4 => ?_) (fun hc4 => ?_)
  ·
   have hp := cnd_t hc4 hp
   refine st_skip (fin_then (st_seq (st_block (st_seq (st_region [oF 0, oF 1] (by rfl) ?_)))))
   refine oQ [oF 0, oF 1] [(5, vI i3), (0, sl A_s s c_s), (1, .func (.func 61) #[] #[vP b_f_c0 0]), (7, vI (s.length : Int)), (8, vI i3)] (by kernel_rfl) ?_
   refine ops_nil (fin_then (st_seq (st_region [oF 0, oF 1, oF 2, oF 3, oF 4, oF 5] (by rfl) ?_)))
   refine oQ [oF 0, oF 1, oF 2] [(13, vI i3), (12, sl A_s s c_s), (11, .func (.func 61) #[] #[vP b_f_c0 0]), (5, vI i3), (0, sl A_s s c_s), (1, .func (.func 61) #[] #[vP b_f_c0 0]), (7, vI (s.length : Int)), (8, vI i3)] (by kernel_rfl) ?_
   obtain ⟨x5, hv6, hp⟩ := obind hp
   obtain ⟨m7, hm8, hx9⟩ := idx_some hv6
   have hl12 := (List.getElem?_eq_some_iff.1 hx9).1
   obtain ⟨ad13, vs10, hA14, hr11, hq15⟩ := RdS.el h_s hx9
   obtain rfl := hr11
   refine ops_val (op := (.indexAddr 23 (.tmp 12) (.tmp 13))) (d := some 14) (v := .pointer (some (ad13.add (m7 * 1)))) ⟨by kernel_rfl⟩ (run_indexA hA14 Try.underlying23 (z := 1) (by kernel_rfl) rfl rfl hm8 hl12) ?_
   refine ops_mem (d := some 15) (an := [.v (vI x5)]) (evs := [.load (ad13.add (m7 * 1)) (vI x5)]) (v := vI x5) ⟨by kernel_rfl⟩ (fun w_ hM hS => ⟨w_, ⟨hM.elcell 1 rfl hq15 0 rfl, rfl⟩, hM, trivial⟩) ?_
   obtain ⟨x16, hv17, hp⟩ := obind hp
   refine ops_callI (σ := Unit) (d := some 16) (f := 61) (args := #[vI x5, vP b_f_c0 0]) (v := (fun _ => .bool x16)) (I := (fun _ => (RdS R_api_Comp F W A_f_c0_2 c_f_c0_2 f_c0_2))) (M' := (fun _ => Mem w0 (.blk b_f_c0 [vI f_c0_0, vI f_c0_1, sl A_f_c0_2 f_c0_2 c_f_c0_2] 38 :: Fz F W :: cs))) ⟨by kernel_rfl⟩ (fun w_ hM hS => (query_Match_1_ok w0 w_ (cs) F W x5 b_f_c0 f_c0_0 f_c0_1 A_f_c0_2 c_f_c0_2 f_c0_2 hM h2 x16 hv17).mono (by rintro e w' ⟨h18, rfl, h'⟩; have h' : Mem w0 (.blk b_f_c0 [vI f_c0_0, vI f_c0_1, sl A_f_c0_2 f_c0_2 c_f_c0_2] 38 :: Fz F W :: cs) w' := h'; exact ⟨(), h18, rfl, h', trivial⟩)) ?_
   rintro _ h18
   refine ops_nil (fin_then ?_)
   refine st_if (b := x16) rfl (fun hc19 => ?_) (fun hc19 => ?_)
   ·
    have hp := cnd_t hc19 hp
    refine st_seq (st_region [oF 0, oF 1] (by rfl) ?_)
    refine oQ [oF 0, oF 1] [(4, vI i3)] (by kernel_rfl) ?_
    refine ops_nil (fin_then (st_ret (fin_ret_block (fin_ret_then (fin_ret_then (fin_ret_block (fin_ret_then ?_)))))))
    obtain hq_ := Option.some.inj hp
    subst hq_
    obtain hq_ := hd2 _ rfl
    subst hq_
    have hp : some i3 = some i9001 := hk2
    have hq_ := Option.some.inj hp
    have hr0_ := hq_
    subst hr0_
    refine fin_ret [.tmp 4] [vI i3] rfl rfl (fun w_ hM => (.tmp rfl .nil)) (fun w_ hM => ?_)
    exact ⟨h18, rfl, hM⟩
   ·
    have hp := cnd_f hc19 hp
    refine st_skip (fin_block (fin_then (st_region [oF 0, oF 1] (by rfl) ?_)))
    refine oQ [oF 0, oF 1] [(8, vI (IntKind.i64.wrap (i3 + 1))), (0, sl A_s s c_s), (1, .func (.func 61) #[] #[vP b_f_c0 0]), (7, vI (s.length : Int))] (by kernel_rfl) ?_
    refine ops_nil ?_
    exact fin_again (IntKind.i64.wrap (i3 + 1)) () (Option.some.inj hp).symm h18 (look_has ⟨rfl, rfl, rfl, rfl, trivial⟩) (fun w_ hM => hM)
  ·
   have hp := cnd_f hc4 hp
   refine st_exit (fin_exit_then (fin_exit_then (fin_exit ?_)))
   obtain hq_ := Option.some.inj hp
   subst hq_
   obtain hq_ := hd2 _ rfl
   subst hq_
   have hp : slices_IndexFunc_int_int_v2_j1 = some i9001 := hk2
   exact fin_join HJ1 () ⟨hp, h2⟩ (look_has trivial) (fun w_ hM => hM)
theorem slices_ContainsFunc_int_int_v2_ok (w0 w : World) (cs : List Chunk) (F : Nat → Prop) (W : World) (A_s : Option Addr) (c_s : Nat) (s : List Int) (b_f_c0 : Nat) (f_c0_0 : Int) (f_c0_1 : Int) (A_f_c0_2 : Option Addr) (c_f_c0_2 : Nat) (f_c0_2 : List api_Comp) (hM0 : Mem w0 (.blk b_f_c0 [vI f_c0_0, vI f_c0_1, sl A_f_c0_2 f_c0_2 c_f_c0_2] 38 :: Fz F W :: cs) w) (h_s : RdS (Rep.int .i64) F W A_s c_s s) (h_f_c0_2 : RdS R_api_Comp F W A_f_c0_2 c_f_c0_2 f_c0_2) (t9001 : Bool) (hp : slices_ContainsFunc_int_int_v2 s f_c0_0 f_c0_1 f_c0_2 = some t9001) : Calls Try.prog 64 #[sl A_s s c_s, .func (.func 61) #[] #[vP b_f_c0 0]] w fun e w' => ((RdS R_api_Comp F W A_f_c0_2 c_f_c0_2 f_c0_2)) ∧ e = .returned (.bool t9001) ∧ Mem w0 (.blk b_f_c0 [vI f_c0_0, vI f_c0_1, sl A_f_c0_2 f_c0_2 c_f_c0_2] 38 :: Fz F W :: cs) w' := by
 unfold slices_ContainsFunc_int_int_v2 at hp
 refine sx_calls Try.func64 rfl (n := 9) (by kernel_rfl) (l := [(0, sl A_s s c_s), (1, .func (.func 61) #[] #[vP b_f_c0 0])]) rfl (by rfl) hM0 ?_
 refine st_seq (st_region [oF 0] (by rfl) ?_)
 refine oQ [oF 0] [(0, sl A_s s c_s), (1, .func (.func 61) #[] #[vP b_f_c0 0])] (by kernel_rfl) ?_
 refine ops_nil (fin_then (st_seq (st_region [oF 0, oF 1, oF 2, oF 3, oF 4] (by rfl) ?_)))
 refine oQ [oF 0, oF 1] [(6, .func (.func 61) #[] #[vP b_f_c0 0]), (5, sl A_s s c_s)] (by kernel_rfl) ?_
 obtain ⟨x1, hv2, hp⟩ := obind hp
 refine ops_callI (σ := Unit) (d := some 7) (f := 88) (args := #[sl A_s s c_s, .func (.func 61) #[] #[vP b_f_c0 0]]) (v := (fun _ => vI x1)) (I := (fun _ => (RdS R_api_Comp F W A_f_c0_2 c_f_c0_2 f_c0_2))) (M' := (fun _ => Mem w0 (.blk b_f_c0 [vI f_c0_0, vI f_c0_1, sl A_f_c0_2 f_c0_2 c_f_c0_2] 38 :: Fz F W :: cs))) ⟨by kernel_rfl⟩ (fun w_ hM hS => (slices_IndexFunc_int_int_v2_ok w0 w_ (cs) F W A_s c_s s b_f_c0 f_c0_0 f_c0_1 A_f_c0_2 c_f_c0_2 f_c0_2 hM h_s h_f_c0_2 x1 hv2).mono (by rintro e w' ⟨h3, rfl, h'⟩; have h' : Mem w0 (.blk b_f_c0 [vI f_c0_0, vI f_c0_1, sl A_f_c0_2 f_c0_2 c_f_c0_2] 38 :: Fz F W :: cs) w' := h'; exact ⟨(), h3, rfl, h', trivial⟩)) ?_
 rintro _ h3
 refine oQ [oF 3, oF 4] [(4, .bool (decide (0 ≤ x1)))] (by kernel_rfl) ?_
 refine ops_nil (fin_then (st_ret ?_))
 have hq_ := Option.some.inj hp
 have hr0_ := hq_
 subst hr0_
 refine fin_ret [.tmp 4] [.bool (decide (0 ≤ x1))] rfl rfl (fun w_ hM => (.tmp rfl .nil)) (fun w_ hM => ?_)
 exact ⟨h3, rfl, hM⟩
theorem query_Match_ok (w0 w : World) (cs : List Chunk) (F : Nat → Prop) (W : World) (it_0 : Int) (it_1 : Int) (A_it_2 : Option Addr) (c_it_2 : Nat) (it_2 : List api_Comp) (A_with : Option Addr) (c_with : Nat) (with_1 : List Int) (A_without : Option Addr) (c_without : Nat) (without : List Int) (hM0 : Mem w0 (Fz F W :: cs) w) (h_it_2 : RdS R_api_Comp F W A_it_2 c_it_2 it_2) (h_with : RdS (Rep.int .i64) F W A_with c_with with_1) (h_without : RdS (Rep.int .i64) F W A_without c_without without) (t9001 : Bool) (hp : query_Match it_0 it_1 it_2 with_1 without = some t9001) : Calls Try.prog 12 #[.agg #[vI it_0, vI it_1, sl A_it_2 it_2 c_it_2], sl A_with with_1 c_with, sl A_without without c_without] w fun e w' => (True) ∧ e = .returned (.bool t9001) ∧ Mem w0 (Fz F W :: cs) w' := by
 unfold query_Match at hp
 refine sx_calls Try.func12 rfl (n := 19) (by kernel_rfl) (l := [(0, .agg #[vI it_0, vI it_1, sl A_it_2 it_2 c_it_2]), (1, sl A_with with_1 c_with), (2, sl A_without without c_without)]) rfl (by rfl) hM0 ?_
 refine st_seq (st_region [oF 0, oF 1] (by rfl) ?_)
 refine ops_newB (d := some 3) [vI it_0, vI it_1, sl A_it_2 it_2 c_it_2] 38 (fun b1 => ⟨by kernel_rfl⟩) (fun w_ hM hS => trivial) (fun b1 => ?_)
 refine oQ [oF 1] [(3, vP b1 0), (1, sl A_with with_1 c_with), (2, sl A_without without c_without)] (by kernel_rfl) ?_
 refine ops_nil (fin_then (st_seq (st_region [oF 0, oF 1, oF 2] (by rfl) ?_)))
 refine oQ [oF 0] [(8, .func (.func 61) #[] #[vP b1 0]), (1, sl A_with with_1 c_with), (2, sl A_without without c_without)] (by kernel_rfl) ?_
 refine ops_newB (d := some 7) [.nilFunc] 55 (fun b2 => ⟨by kernel_rfl⟩) (fun w_ hM hS => trivial) (fun b2 => ?_)
 refine ops_store (an := []) (evs := [sr b2 0 (.func (.func 61) #[] #[vP b1 0])]) ⟨by kernel_rfl⟩ (fun w_ hM hS => let ⟨w', he, h'⟩ := hM.evs_stores [.func (.func 61) #[] #[vP b1 0]] 0 rfl 0 (Nat.le_of_ble_eq_true rfl); ⟨w', he, h', trivial⟩) ?_
 refine ops_nil (fin_then ?_)
 refine st_join1 (σ := Bool) (L := fun x_ => match x_ with | t3 => [(6, .bool t3)]) (N := fun x_ => match x_ with | t3 => Mem w0 (Fz F W :: cs)) (I := fun x_ => match x_ with | t3 => (query_Match_j1 t3 = some t9001)) ?_ ?_
 ·
  rintro t3 hp
  unfold query_Match_j1 at hp
  refine st_ret ?_
  have hq_ := Option.some.inj hp
  have hr0_ := hq_
  subst hr0_
  refine fin_ret [.tmp 6] [.bool t3] rfl rfl (fun w_ hM => (.tmp rfl .nil)) (fun w_ hM => ?_)
  exact ⟨trivial, rfl, hM⟩
 ·
  intro HJ1
  refine st_seq (st_region [oF 0, oF 1, oF 2, oF 3, oF 4, oF 5, oF 6, oF 7, oF 8, oF 9, oF 10] (by rfl) ?_)
  refine oQ [oF 0, oF 1] [(10, .func (.func 65) #[] #[vP b2 0]), (9, sl A_with with_1 c_with), (7, vP b2 0), (2, sl A_without without c_without)] (by kernel_rfl) ?_
  obtain ⟨x4, hv5, hp⟩ := obind hp
  refine ops_callI (σ := Unit) (d := some 11) (f := 64) (args := #[sl A_with with_1 c_with, .func (.func 65) #[] #[vP b2 0]]) (v := (fun _ => .bool x4)) (I := (fun _ => (RdS R_api_Comp F W A_it_2 c_it_2 it_2))) (M' := (fun _ => Mem w0 (.blk b2 [.func (.func 61) #[] #[vP b1 0]] 55 :: .blk b1 [vI it_0, vI it_1, sl A_it_2 it_2 c_it_2] 38 :: Fz F W :: cs))) ⟨by kernel_rfl⟩ (fun w_ hM hS => (slices_ContainsFunc_int_int_ok w0 w_ (cs) F W A_with c_with with_1 b2 b1 it_0 it_1 A_it_2 c_it_2 it_2 hM h_with h_it_2 x4 hv5).mono (by rintro e w' ⟨h6, rfl, h'⟩; have h' : Mem w0 (.blk b2 [.func (.func 61) #[] #[vP b1 0]] 55 :: .blk b1 [vI it_0, vI it_1, sl A_it_2 it_2 c_it_2] 38 :: Fz F W :: cs) w' := h'; exact ⟨(), h6, rfl, h', trivial⟩)) ?_
  rintro _ h6
  refine oQ [oF 3, oF 4] [(13, .bool (!x4)), (7, vP b2 0), (2, sl A_without without c_without)] (by kernel_rfl) ?_
  refine ops_bool (t := !x4) (l1 := [(13, .bool true), (7, vP b2 0), (2, sl A_without without c_without)]) (l2 := [(13, .bool false), (7, vP b2 0), (2, sl A_without without c_without)]) (fun h => by rw [h]) (fun h => by rw [h]) (fun hc7 => ?_) (fun hc7 => ?_)
  ·
   have hp := cnd_t hc7 hp
   refine oQ [oF 5] [(14, sl A_without without c_without), (13, .bool true), (7, vP b2 0)] (by kernel_rfl) ?_
   refine ops_mem (d := some 15) (an := [.v (.func (.func 61) #[] #[vP b1 0])]) (evs := [ld b2 0 (.func (.func 61) #[] #[vP b1 0])]) (v := .func (.func 61) #[] #[vP b1 0]) ⟨by kernel_rfl⟩ (fun w_ hM hS => ⟨w_, ⟨hM.cell 0 rfl rfl, rfl⟩, hM, trivial⟩) ?_
   obtain ⟨x8, hv9, hp⟩ := obind hp
   refine ops_callI (σ := Unit) (d := some 16) (f := 64) (args := #[sl A_without without c_without, .func (.func 61) #[] #[vP b1 0]]) (v := (fun _ => .bool x8)) (I := (fun _ => (RdS R_api_Comp F W A_it_2 c_it_2 it_2))) (M' := (fun _ => Mem w0 (.blk b2 [.func (.func 61) #[] #[vP b1 0]] 55 :: .blk b1 [vI it_0, vI it_1, sl A_it_2 it_2 c_it_2] 38 :: Fz F W :: cs))) ⟨by kernel_rfl⟩ (fun w_ hM hS => (slices_ContainsFunc_int_int_v2_ok w0 w_ (.blk b2 [.func (.func 61) #[] #[vP b1 0]] 55 :: cs) F W A_without c_without without b1 it_0 it_1 A_it_2 c_it_2 it_2 (hM.pick 3 [1, 2, 0] (by kernel_rfl) (by decide) rfl) h_without h6 x8 hv9).mono (by rintro e w' ⟨h10, rfl, h'⟩; have h' : Mem w0 (.blk b2 [.func (.func 61) #[] #[vP b1 0]] 55 :: .blk b1 [vI it_0, vI it_1, sl A_it_2 it_2 c_it_2] 38 :: Fz F W :: cs) w' := (h'.pick 3 [2, 0, 1] (by kernel_rfl) (by decide) rfl); exact ⟨(), h10, rfl, h', trivial⟩)) ?_
   rintro _ h10
   refine oQ [oF 8, oF 9, oF 10] [(6, .bool (!x8))] (by kernel_rfl) ?_
   refine ops_nil ?_
   exact fin_join HJ1 (!x8) hp (look_has ⟨rfl, trivial⟩) (fun w_ hM => hM.pick 3 [2] (by kernel_rfl) (by decide) rfl)
  ·
   have hp := cnd_f hc7 hp
   refine oQ [oF 5, oF 6, oF 7, oF 8, oF 9, oF 10] [(6, .bool false)] (by kernel_rfl) ?_
   refine ops_nil ?_
   exact fin_join HJ1 false hp (look_has ⟨rfl, trivial⟩) (fun w_ hM => hM.pick 3 [2] (by kernel_rfl) (by decide) rfl)
theorem slices_Clone_int_int_ok (w0 w : World) (cs : List Chunk) (F : Nat → Prop) (W : World) (A_s : Option Addr) (c_s : Nat) (s : List Int) (hM0 : Mem w0 (Fz F W :: cs) w) (h_s : RdS (Rep.int .i64) F W A_s c_s s) (l9003 : List Int) (hp : slices_Clone_int_int s = some l9003) : Calls Try.prog 31 #[sl A_s s c_s] w fun e w' => ∃ (A9001 : Option Addr), ∃ (c9002 : Nat), ∃ (y9004 : List Value), ((RepL (Rep.int .i64) F W l9003 y9004)) ∧ e = .returned (sl A9001 l9003 c9002) ∧ Mem w0 (ow A9001 l9003 c9002 3 1 y9004 :: Fz F W :: cs) w' := by
 unfold slices_Clone_int_int at hp
 refine sx_calls Try.func31 rfl (n := 8) (by kernel_rfl) (l := [(0, sl A_s s c_s)]) rfl (by rfl) hM0 ?_
 refine st_seq (st_region [oF 0] (by rfl) ?_)
 refine oQ [oF 0] [(0, sl A_s s c_s)] (by kernel_rfl) ?_
 refine ops_nil (fin_then (st_seq (st_seq (st_region [oF 0, oF 1] (by rfl) ?_))))
 refine oQ [oF 0] [(3, sl A_s s c_s), (0, sl A_s s c_s)] (by kernel_rfl) ?_
 have hz2 := fun e_ => RdS.len0 h_s e_
 rcases A_s with _ | ad1
 ·
  have hp : some ([] : List Int) = some l9003 := by rw [← hp, hz2 rfl]; simp [app]
  refine oQ [oF 1] [(4, .bool true), (3, sl none s c_s), (0, sl none s c_s)] (by kernel_rfl) ?_
  refine ops_nil (fin_then (st_true rfl (st_seq (st_region [oF 0] (by rfl) ?_))))
  refine oQ [oF 0] [(2, .slice none 0 0)] (by kernel_rfl) ?_
  refine ops_nil (fin_then (st_ret (fin_ret_then ?_)))
  refine fin_conv (l' := [(2, .slice none 0 0)]) (M' := Mem w0 (ow none ([] : List Int) 0 3 1 [] :: Fz F W :: cs)) rfl (fun w_ h => h.onil none 3 1) ?_
  refine fin_conv (l' := [(2, sl none ([] : List Int) 0)]) (M' := Mem w0 (ow none ([] : List Int) 0 3 1 [] :: Fz F W :: cs)) rfl (fun _ h => h) ?_
  have hq_ := Option.some.inj hp
  have hr0_ := hq_
  subst hr0_
  refine fin_ret [.tmp 2] [sl none ([] : List Int) 0] rfl rfl (fun w_ hM => (.tmp rfl .nil)) (fun w_ hM => ?_)
  exact ⟨none, 0, [], (RepL.nil (R := (Rep.int .i64))), rfl, hM⟩
 ·
  clear hz2
  refine oQ [oF 1] [(4, .bool false), (3, sl (some ad1) s c_s), (0, sl (some ad1) s c_s)] (by kernel_rfl) ?_
  refine ops_nil (fin_then (st_false rfl (st_skip (fin_then (st_seq (st_region [oF 0, oF 1, oF 2, oF 3] (by rfl) ?_))))))
  have h3 : RepL (Rep.int .i64) F W ([] : List Int) ([]) := RepL.nil
  refine ops_new (d := some 5) (o := .cells ([] : List Value).toArray 3) (v := fun g4 => sl (sa g4) ([] : List Int) 0) (M' := fun g4 => Mem w0 (ow (sa g4) ([] : List Int) 0 3 1 [] :: Fz F W :: cs)) (fun g4 => ⟨by kernel_rfl⟩) (fun w_ hM hS => ⟨hM.onew [] 3 0 1 rfl (by decide), trivial⟩) (fun g4 => ?_)
  refine oQ [oF 1] [(6, sl (some ad1) s c_s), (5, sl (sa g4) ([] : List Int) 0)] (by kernel_rfl) ?_
  obtain ⟨l5, hv6, hp⟩ := obind hp
  obtain ⟨he7, hb8⟩ := app_some hv6
  obtain ⟨y12, h13, hs14⟩ := RdS.src h_s
  obtain ⟨y9, hy10⟩ : ∃ y_, [] ++ y12 = y_ := ⟨_, rfl⟩
  have h11 : RepL (Rep.int .i64) F W l5 y9 := by rw [he7, ← hy10]; exact RepL.app h3 h13
  refine ops_appendO (x := (Go.Operand.tmp 5)) (y := (Go.Operand.tmp 6)) (t := 23) (e := 3) (d := some 7) (n' := l5.length) (z := 1) (m := s.length) (bytes := 8) (xs' := y9) (news := y12) (zv := vI 0) 0 ⟨by kernel_rfl⟩ rfl rfl Try.underlying23 (by kernel_rfl) (by rfl) rfl (fun w_ hM => hM.srcS 1 rfl h13 hs14) h13.len h13.one hb8 (by have z_ := congrArg List.length he7; rw [List.length_append] at z_; exact z_.symm) hy10 (fun _ _ _ _ hS h' => trivial) ?_
  rintro ⟨A15, c16⟩
  refine oQ [oF 3] [(2, sl A15 l5 c16)] (by kernel_rfl) ?_
  refine ops_nil (fin_then (st_ret ?_))
  have hq_ := Option.some.inj hp
  have hr0_ := hq_
  subst hr0_
  refine fin_ret [.tmp 2] [sl A15 l5 c16] rfl rfl (fun w_ hM => (.tmp rfl .nil)) (fun w_ hM => ?_)
  exact ⟨A15, c16, y9, h11, rfl, hM⟩
theorem world_CopyComps_ok (w0 w : World) (cs : List Chunk) (F : Nat → Prop) (W : World) (A_l : Option Addr) (c_l : Nat) (l : List api_Comp) (hM0 : Mem w0 (Fz F W :: cs) w) (h_l : RdS R_api_Comp F W A_l c_l l) (l9003 : List api_Comp) (hp : world_CopyComps l = some l9003) : Calls Try.prog 57 #[sl A_l l c_l] w fun e w' => ∃ (A9001 : Option Addr), ∃ (c9002 : Nat), ∃ (y9004 : List Value), ∃ (F9006 : Nat → Prop), ∃ (W9007 : World), ((RepL R_api_Comp F9006 W9007 l9003 y9004) ∧ (Ext w0 F W F9006 W9007)) ∧ e = .returned (sl A9001 l9003 c9002) ∧ Mem w0 (ow A9001 l9003 c9002 43 2 y9004 :: Fz F9006 W9007 :: cs) w' := by
 unfold world_CopyComps at hp
 refine sx_calls Try.func57 rfl (n := 27) (by kernel_rfl) (l := [(0, sl A_l l c_l)]) rfl (by rfl) hM0 ?_
 refine st_seq (st_region [oF 0] (by rfl) ?_)
 refine oQ [oF 0] [(0, sl A_l l c_l)] (by kernel_rfl) ?_
 refine ops_nil (fin_then (st_seq (st_region [oF 0, oF 1, oF 2, oF 3] (by rfl) ?_)))
 refine oQ [oF 0, oF 1] [(7, vI (l.length : Int)), (0, sl A_l l c_l)] (by kernel_rfl) ?_
 obtain ⟨l1, hv2, hp⟩ := obind hp
 obtain ⟨m3, hm4, he5, hb6⟩ := mk_some hv2
 have hl7 : l1.length = m3 := by rw [he5, List.length_replicate]
 obtain ⟨y8, hy9⟩ : ∃ y_, (Sx.madeOf [vI 0, .slice none 0 0] (l1.length * 2)).toList = y_ := ⟨_, rfl⟩
 have h10 : RepL R_api_Comp F W l1 y8 := by rw [← hy9, hl7, he5]; exact RepL.made (enc_api_Comp (RdS.empty _)) (by decide) _
 refine ops_makeO (t := 36) (x := (Go.Operand.tmp 7)) (y := (Go.Operand.tmp 7)) (d := some 8) (nn := l1.length) (z := 2) (bytes := 32) (xs := y8) (zv := .agg #[vI 0, .slice none 0 0]) ⟨by kernel_rfl⟩ rfl rfl (by rw [hl7]; exact hm4) (by rw [hl7]; exact hm4) Try.underlying36 (by kernel_rfl) (by rw [hl7]; exact hb6) (by rfl) hy9 (fun _ _ _ hS h' => trivial) (fun g11 => ?_)
 refine oQ [oF 3] [(3, sl (sa g11) l1 l1.length), (0, sl A_l l c_l)] (by kernel_rfl) ?_
 refine ops_nil (fin_then ?_)
 refine st_join1 (σ := (List api_Comp) × (List Value) × (Nat → Prop) × World) (L := fun x_ => match x_ with | (l12, y13, F15, W16) => [(3, sl (sa g11) l12 l1.length)]) (N := fun x_ => match x_ with | (l12, y13, F15, W16) => Mem w0 (ow (sa g11) l12 l1.length 43 2 y13 :: Fz F15 W16 :: cs)) (I := fun x_ => match x_ with | (l12, y13, F15, W16) => (world_CopyComps_j1 l12 = some l9003) ∧ (RepL R_api_Comp F15 W16 l12 y13) ∧ (Ext w0 F W F15 W16)) ?_ ?_
 ·
  rintro ⟨l12, y13, F15, W16⟩ ⟨hp, h14, hx1⟩
  unfold world_CopyComps_j1 at hp
  refine st_seq (st_region [oF 0, oF 1] (by rfl) ?_)
  refine oQ [oF 0, oF 1] [(2, sl (sa g11) l12 l1.length)] (by kernel_rfl) ?_
  refine ops_nil (fin_then (st_ret ?_))
  have hq_ := Option.some.inj hp
  have hr0_ := hq_
  subst hr0_
  refine fin_ret [.tmp 2] [sl (sa g11) l12 l1.length] rfl rfl (fun w_ hM => (.tmp rfl .nil)) (fun w_ hM => ?_)
  exact ⟨(sa g11), l1.length, y13, F15, W16, ⟨h14, hx1⟩, rfl, hM⟩
 ·
  intro HJ1
  refine st_seq (st_seq (st_region [oF 0, oF 1, oF 2] (by rfl) ?_))
  refine oQ [oF 0, oF 1, oF 2] [(11, vI 0), (10, vI (l.length : Int)), (9, sl A_l l c_l), (3, sl (sa g11) l1 l1.length)] (by kernel_rfl) ?_
  refine ops_nil (fin_then (st_block ?_))
  obtain ⟨r2, hl2, hk2⟩ := obind hp
  refine st_loopP (σ := (List api_Comp) × Int) (ρ := (List api_Comp)) (γ := (List Value) × (Nat → Prop) × World) hl2 (y8, F, W) (fun s_ g_ => match s_, g_ with | (l17, i20), (y18, F21, W22) => [(3, sl (sa g11) l17 l1.length), (9, sl A_l l c_l), (10, vI (l.length : Int)), (11, vI i20)]) (fun s_ g_ => match s_, g_ with | (l17, i20), (y18, F21, W22) => Mem w0 (ow (sa g11) l17 l1.length 43 2 y18 :: Fz F21 W22 :: cs)) (fun s_ g_ => match s_, g_ with | (l17, i20), (y18, F21, W22) => (RepL R_api_Comp F21 W22 l17 y18) ∧ (Ext w0 F W F21 W22)) ⟨h10, (Ext.refl _ _ _)⟩ (look_has ⟨rfl, rfl, rfl, rfl, trivial⟩) (fun w_ hM => hM) ?_
  rintro ⟨l17, i20⟩ ⟨y18, F21, W22⟩ o2 ⟨h19, hx2⟩ hs_ hd2
  have hp : (world_CopyComps_l2 l) l17 i20 = some o2 := hs_
  clear hs_
  unfold world_CopyComps_l2 at hp
  have h_l := h_l.ext hx2
  refine st_seq (st_region [oF 0] (by rfl) ?_)
  refine oQ [oF 0] [(12, .bool (decide (i20 < (l.length : Int)))), (3, sl (sa g11) l17 l1.length), (9, sl A_l l c_l), (10, vI (l.length : Int)), (11, vI i20)] (by kernel_rfl) ?_
  refine ops_nil (fin_then (st_seq ?_))
  refine st_if (b := decide (i20 < (l.length : Int))) rfl (fun hc23 => ?_) (fun hc23 => ?_)
  ·
   have hp := cnd_t hc23 hp
   refine st_skip (fin_then (st_seq (st_block (st_seq (st_region [oF 0, oF 1, oF 2, oF 3, oF 4, oF 5] (by rfl) ?_)))))
   refine oQ [oF 0] [(13, vI i20), (3, sl (sa g11) l17 l1.length), (9, sl A_l l c_l), (10, vI (l.length : Int)), (11, vI i20)] (by kernel_rfl) ?_
   obtain ⟨x24, hv25, hp⟩ := obind hp
   obtain ⟨m26, hm27, hx28⟩ := idx_some hv25
   have hl31 := (List.getElem?_eq_some_iff.1 hx28).1
   obtain ⟨ad32, vs29, hA33, hr30, hq34⟩ := RdS.el h_l hx28
   obtain ⟨A35, c36, rfl, h37⟩ := dec_api_Comp hr30
   refine ops_val (op := (.indexAddr 36 (.tmp 9) (.tmp 11))) (d := some 14) (v := .pointer (some (ad32.add (m26 * 2)))) ⟨by kernel_rfl⟩ (run_indexA hA33 Try.underlying36 (z := 2) (by kernel_rfl) rfl rfl hm27 hl31) ?_
   refine ops_mem (d := some 15) (an := [.v (vI x24.Kind), .v (sl A35 x24.Vals c36)]) (evs := [.load (ad32.add (m26 * 2)) (vI x24.Kind), .load ((ad32.add (m26 * 2)).add 1) (sl A35 x24.Vals c36)]) (v := .agg #[vI x24.Kind, sl A35 x24.Vals c36]) ⟨by kernel_rfl⟩ (fun w_ hM hS => ⟨w_, ⟨hM.elcell 1 rfl hq34 0 rfl, hM.elcell 1 rfl hq34 1 rfl, rfl⟩, hM, trivial⟩) ?_
   refine ops_newB (d := some 5) [vI 0, .slice none 0 0] 43 (fun b38 => ⟨by kernel_rfl⟩) (fun w_ hM hS => trivial) (fun b38 => ?_)
   refine oQ [oF 4] [(4, vI i20), (5, vP b38 0), (15, .agg #[vI x24.Kind, sl A35 x24.Vals c36]), (3, sl (sa g11) l17 l1.length), (9, sl A_l l c_l), (10, vI (l.length : Int)), (11, vI i20)] (by kernel_rfl) ?_
   refine ops_store (an := []) (evs := [sr b38 0 (vI x24.Kind), sr b38 1 (sl A35 x24.Vals c36)]) ⟨by kernel_rfl⟩ (fun w_ hM hS => let ⟨w', he, h'⟩ := hM.evs_stores [vI x24.Kind, sl A35 x24.Vals c36] 0 rfl 0 (Nat.le_of_ble_eq_true rfl); ⟨w', he, h', trivial⟩) ?_
   refine ops_nil (fin_then ?_)
   refine st_region_draw [oT 0, oT 1, oT 2, oT 3, oT 4, oT 5, oF 6, oT 7, oT 8, oF 9] (Mem w0 (.blk b38 [vI x24.Kind, sl A35 x24.Vals c36] 43 :: Fz F21 W22 :: cs)) (by kernel_rfl) (by kernel_rfl) (by kernel_rfl) (fun _ d _ _ _ h => by cases d <;> exact h) (M' := Mem w0 (.blk b38 [vI x24.Kind, sl A35 x24.Vals c36] 43 :: ow (sa g11) l17 l1.length 43 2 y18 :: Fz F21 W22 :: cs)) (fun w_ hM => ⟨hM.drew, hM.drew.sub (.cons_cons _ (.cons _ (.cons_cons _ (.refl _))))⟩) ?_
   refine oQ [oT 0, oT 1, oT 2] [(18, vP b38 0), (17, vI i20), (16, sl (sa g11) l17 l1.length), (5, vP b38 0), (3, sl (sa g11) l17 l1.length), (9, sl A_l l c_l), (10, vI (l.length : Int)), (11, vI i20)] (by kernel_rfl) ?_
   refine ops_load (d := some 19) (an := [.v (vI x24.Kind)]) (evs := [ld b38 0 (vI x24.Kind)]) (v := vI x24.Kind) ⟨by kernel_rfl⟩ (fun w_ hM => ⟨hM.cell 0 rfl rfl, rfl⟩) ?_
   refine oQ [oT 4] [(20, vP b38 1), (19, vI x24.Kind), (17, vI i20), (16, sl (sa g11) l17 l1.length), (3, sl (sa g11) l17 l1.length), (9, sl A_l l c_l), (10, vI (l.length : Int)), (11, vI i20)] (by kernel_rfl) ?_
   refine ops_load (d := some 21) (an := [.v (sl A35 x24.Vals c36)]) (evs := [ld b38 1 (sl A35 x24.Vals c36)]) (v := sl A35 x24.Vals c36) ⟨by kernel_rfl⟩ (fun w_ hM => ⟨hM.cell 0 rfl rfl, rfl⟩) ?_
   obtain ⟨x39, hv40, hp⟩ := obind hp
   refine ops_callI (σ := (Option Addr) × Nat × (List Value)) (d := some 22) (f := 31) (args := #[sl A35 x24.Vals c36]) (v := (fun x_ => match x_ with | (A41, c42, y43) => sl A41 x39 c42)) (I := (fun x_ => match x_ with | (A41, c42, y43) => (RepL (Rep.int .i64) F21 W22 x39 y43))) (M' := (fun x_ => match x_ with | (A41, c42, y43) => Mem w0 (ow A41 x39 c42 3 1 y43 :: .blk b38 [vI x24.Kind, sl A35 x24.Vals c36] 43 :: ow (sa g11) l17 l1.length 43 2 y18 :: Fz F21 W22 :: cs))) ⟨by kernel_rfl⟩ (fun w_ hM hS => (slices_Clone_int_int_ok w0 w_ (.blk b38 [vI x24.Kind, sl A35 x24.Vals c36] 43 :: ow (sa g11) l17 l1.length 43 2 y18 :: cs) F21 W22 A35 c36 x24.Vals (hM.pick 3 [2, 0, 1] (by kernel_rfl) (by decide) rfl) h37 x39 hv40).mono (by rintro e w' ⟨A41, c42, y43, h44, rfl, h'⟩; have h' : Mem w0 (ow A41 x39 c42 3 1 y43 :: .blk b38 [vI x24.Kind, sl A35 x24.Vals c36] 43 :: ow (sa g11) l17 l1.length 43 2 y18 :: Fz F21 W22 :: cs) w' := (h'.pick 4 [0, 2, 3, 1] (by kernel_rfl) (by decide) rfl); exact ⟨(A41, c42, y43), h44, rfl, h', (by exact h'.sub (.cons _ (.cons_cons _ (.cons _ (.cons_cons _ (.refl _))))))⟩)) ?_
   rintro ⟨A41, c42, y43⟩ h44
   refine oQ [oT 7] [(23, .agg #[vI x24.Kind, sl A41 x39 c42]), (17, vI i20), (16, sl (sa g11) l17 l1.length), (3, sl (sa g11) l17 l1.length), (9, sl A_l l c_l), (10, vI (l.length : Int)), (11, vI i20)] (by kernel_rfl) ?_
   obtain ⟨x45, hv46, hp⟩ := obind hp
   obtain ⟨m47, hm48, hx49⟩ := idx_some hv46
   have hl52 := (List.getElem?_eq_some_iff.1 hx49).1
   obtain ⟨vs50, hr51, hq53⟩ := h19.at_ m47 x45 hx49
   obtain ⟨A54, c55, rfl, h56⟩ := dec_api_Comp hr51
   refine ops_val (op := (.indexAddr 36 (.tmp 16) (.tmp 17))) (d := some 24) (v := vP g11 (m47 * 2)) ⟨by kernel_rfl⟩ (run_indexRow Try.underlying36 (z := 2) (by kernel_rfl) rfl rfl hm48 hl52 rfl) ?_
   refine oQ [] [(24, vP g11 (m47 * 2)), (23, .agg #[vI x24.Kind, sl A41 x39 c42]), (3, sl (sa g11) l17 l1.length), (9, sl A_l l c_l), (10, vI (l.length : Int)), (11, vI i20)] (by kernel_rfl) ?_
   refine ops_ex (σ := (Nat → Prop) × World) (I := fun x_ => Ext w0 F21 W22 x_.1 x_.2 ∧ RdS (Rep.int .i64) x_.1 x_.2 A41 c42 x39) (M' := fun x_ => Mem w0 (.blk b38 [vI x24.Kind, sl A35 x24.Vals c36] 43 :: ow (sa g11) l17 l1.length 43 2 y18 :: Fz x_.1 x_.2 :: cs)) (fun w_ hM => ?_) ?_
   · obtain ⟨F_, h1_, h2_, h3_⟩ := (hM.pick 4 [0, 3, 1, 2] (by kernel_rfl) (by decide) rfl : Mem w0 (ow A41 x39 c42 3 1 y43 :: Fz F21 W22 :: .blk b38 [vI x24.Kind, sl A35 x24.Vals c36] 43 :: ow (sa g11) l17 l1.length 43 2 y18 :: cs) w_).freeze (z := 1) h44 rfl rfl
     exact ⟨(F_, w_), ⟨h1_, h2_⟩, h3_.pick 3 [1, 2, 0] (by kernel_rfl) (by decide) rfl⟩
   rintro ⟨F57, W58⟩ ⟨hx59, h60⟩
   have hx59 : Ext w0 F21 W22 F57 W58 := hx59
   have h60 : RdS (Rep.int .i64) F57 W58 A41 c42 x39 := h60
   have h_l := h_l.ext hx59
   have h37 := h37.ext hx59
   have h19 := h19.ext hx59
   obtain ⟨l61, hv62, hp⟩ := obind hp
   obtain ⟨m63, hm64, hl65, he66⟩ := upd_some hv62
   obtain rfl : m47 = m63 := by have := hm48; omega
   have hl67 : l17.length = l61.length := by rw [he66, List.length_set]
   obtain ⟨y68, hy69⟩ : ∃ y_, setAll y18 (m47 * 2 + 0) [vI x24.Kind, sl A41 x39 c42] = y_ := ⟨_, rfl⟩
   have h70 : RepL R_api_Comp F57 W58 l61 y68 := by rw [he66, ← hy69]; exact RepL.set h19 (List.getElem?_eq_getElem hl65) (fun vs_ hr_ _ => by obtain ⟨A72, c73, rfl, h74⟩ := dec_api_Comp hr_; exact ⟨(enc_api_Comp h60), Nat.le_of_ble_eq_true rfl⟩)
   refine ops_store (an := []) (evs := [.store ⟨g11, m47 * 2, none⟩ (vI x24.Kind), .store ⟨g11, m47 * 2 + 1, none⟩ (sl A41 x39 c42)]) ⟨by kernel_rfl⟩ (fun w_ hM hS => let ⟨w', he, h'⟩ := hM.ostore' 1 rfl (m47 * 2 + 0) [vI x24.Kind, sl A41 x39 c42] (by have z_ : y18.length = l17.length * 2 := h19.len; have y_ : (m47 + 1) * 2 ≤ l17.length * 2 := Nat.mul_le_mul_right _ hl65; rw [Nat.add_mul] at y_; simp only [List.length_cons, List.length_nil]; omega) hl67 hy69; ⟨w', he, h', (by first | exact (Mem.fzback h' 2 rfl hx59).sub (.cons_cons _ (.cons _ (.cons_cons _ (.refl _)))) | exact (Mem.fzback h' 2 rfl (hx2.trans hx59)).sub (.cons_cons _ (.cons _ (.cons_cons _ (.refl _)))))⟩) ?_
   refine ops_conv (l' := [(24, vP g11 (m47 * 2)), (23, .agg #[vI x24.Kind, sl A41 x39 c42]), (3, sl (sa g11) l61 l1.length), (9, sl A_l l c_l), (10, vI (l.length : Int)), (11, vI i20)]) (M' := Mem w0 (.blk b38 [vI x24.Kind, sl A35 x24.Vals c36] 43 :: ow (sa g11) l61 l1.length 43 2 y68 :: Fz F57 W58 :: cs)) (by first | rfl | ((try dsimp only [sl, ow]); rw [hl67])) (fun w_ hM => by first | exact hM | ((try dsimp only [sl, ow] at hM ⊢); rw [hl67] at hM; exact hM)) ?_
   refine ops_nil (fin_block (fin_then (st_region [oF 0, oF 1] (by rfl) ?_)))
   refine oQ [oF 0, oF 1] [(11, vI (IntKind.i64.wrap (i20 + 1))), (3, sl (sa g11) l61 l1.length), (9, sl A_l l c_l), (10, vI (l.length : Int))] (by kernel_rfl) ?_
   refine ops_nil ?_
   exact fin_again (l61, IntKind.i64.wrap (i20 + 1)) (y68, F57, W58) (Option.some.inj hp).symm ⟨h70, (hx2.trans hx59)⟩ (look_has ⟨rfl, rfl, rfl, rfl, trivial⟩) (fun w_ hM => hM.pick 3 [1, 2] (by kernel_rfl) (by decide) rfl)
  ·
   have hp := cnd_f hc23 hp
   refine st_exit (fin_exit_then (fin_exit_then (fin_exit ?_)))
   obtain hq_ := Option.some.inj hp
   subst hq_
   obtain hq_ := hd2 _ rfl
   subst hq_
   have hp : world_CopyComps_j1 l17 = some l9003 := hk2
   exact fin_join HJ1 (l17, y18, F21, W22) ⟨hp, h19, hx2⟩ (look_has ⟨rfl, trivial⟩) (fun w_ hM => hM)
end Go.Proofs.Ythcniadbdjoecaa.Q
