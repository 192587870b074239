/- The Go functions come to what the plain functions tell. No condition. -/
import Derived.Test.YthcbepikeinglaaDoorProg
import Derived.Test.YthcbepikeinglaaDoorFnL
namespace Go.Proofs.YthcbepikeinglaaDoor.L
open Go Go.RowKit Go.Proofs.YthcbepikeinglaaDoor.Sx
set_option linter.unusedVariables false
set_option maxHeartbeats 4000000 in
set_option maxRecDepth 100000 in
theorem tourlaw3_two_ok (w0 w : World) (cs : List Chunk) (F : Nat → Prop) (W : World) (hM0 : Mem w0 (Fz F W :: cs) w) (l9002 : List api_Kind) (hp : tourlaw3_two = some l9002) : Calls Tryd.prog 9 #[] w fun e w' => ∃ (A9001 : Option Addr), ∃ (y9003 : List Value), ∃ (F9005 : Nat → Prop), ∃ (W9006 : World), ((RepL R_api_Kind F9005 W9006 l9002 y9003) ∧ (Ext w0 F W F9005 W9006)) ∧ e = .returned (.slice A9001 l9002.length 2) ∧ Mem w0 (orow A9001 l9002.length 2 27 2 y9003 :: Fz F9005 W9006 :: cs) w' := by
 unfold tourlaw3_two at hp
 refine sx_calls Tryd.func9 rfl (n := 8) (by kernel_rfl) (l := []) rfl (by rfl) hM0 ?_
 refine st_seq ?_
 refine st_region [oF 0] (by rfl) ?_
 refine oR [oF 0] [] [] (by kernel_rfl) ?_
 refine ops_nil ?_
 refine fin_then ?_
 refine st_seq ?_
 refine st_region [oF 0, oF 1, oF 2, oF 3, oF 4, oF 5, oF 6, oF 7] (by rfl) ?_
 refine oR [oF 0] [(1, .agg #[.string (⟨#[120]⟩), vI 3, vI (-2)])] [1] (by kernel_rfl) ?_
 have h1 : RepL R_api_Field F W ([(api_Field.mk (⟨#[120]⟩) 3 (-2))] : List api_Field) ([.string (⟨#[120]⟩), vI 3, vI (-2)]) := (RepL.cons (R := R_api_Field) (F := F) (w := W) (vs := [.string (⟨#[120]⟩), vI 3, vI (-2)]) (ys := []) (enc_api_Field) RepL.nil)
 refine ops_new (d := some 2) (o := .cells ([.string (⟨#[120]⟩), vI 3, vI (-2)]).toArray 23) (v := fun g2 => .slice (some ⟨g2, 0, none⟩) ([(api_Field.mk (⟨#[120]⟩) 3 (-2))] : List api_Field).length 1) (M' := fun g2 => Mem w0 (orow (some ⟨g2, 0, none⟩) ([(api_Field.mk (⟨#[120]⟩) 3 (-2))] : List api_Field).length 1 23 3 ([.string (⟨#[120]⟩), vI 3, vI (-2)]) :: Fz F W :: cs)) (fun g2 => ⟨by kernel_rfl⟩) (fun w_ hM hS => ⟨hM.onew [.string (⟨#[120]⟩), vI 3, vI (-2)] 23 1 3 rfl (by decide), trivial⟩) (fun g2 => ?_)
 refine oR [oF 2, oF 3] [(4, .agg #[.string (⟨#[120]⟩), vI 8, vI 0]), (3, .agg #[.string (⟨#[112, 108, 97, 99, 101]⟩), .slice (some ⟨g2, 0, none⟩) ([(api_Field.mk (⟨#[120]⟩) 3 (-2))] : List api_Field).length 1])] [4, 3] (by kernel_rfl) ?_
 have h3 : RepL R_api_Field F W ([(api_Field.mk (⟨#[120]⟩) 8 0)] : List api_Field) ([.string (⟨#[120]⟩), vI 8, vI 0]) := (RepL.cons (R := R_api_Field) (F := F) (w := W) (vs := [.string (⟨#[120]⟩), vI 8, vI 0]) (ys := []) (enc_api_Field) RepL.nil)
 refine ops_new (d := some 5) (o := .cells ([.string (⟨#[120]⟩), vI 8, vI 0]).toArray 23) (v := fun g4 => .slice (some ⟨g4, 0, none⟩) ([(api_Field.mk (⟨#[120]⟩) 8 0)] : List api_Field).length 1) (M' := fun g4 => Mem w0 (orow (some ⟨g4, 0, none⟩) ([(api_Field.mk (⟨#[120]⟩) 8 0)] : List api_Field).length 1 23 3 ([.string (⟨#[120]⟩), vI 8, vI 0]) :: orow (some ⟨g2, 0, none⟩) ([(api_Field.mk (⟨#[120]⟩) 3 (-2))] : List api_Field).length 1 23 3 ([.string (⟨#[120]⟩), vI 3, vI (-2)]) :: Fz F W :: cs)) (fun g4 => ⟨by kernel_rfl⟩) (fun w_ hM hS => ⟨hM.onew [.string (⟨#[120]⟩), vI 8, vI 0] 23 1 3 rfl (by decide), trivial⟩) (fun g4 => ?_)
 refine oR [oF 5] [(6, .agg #[.string (⟨#[108, 105, 102, 101]⟩), .slice (some ⟨g4, 0, none⟩) ([(api_Field.mk (⟨#[120]⟩) 8 0)] : List api_Field).length 1]), (3, .agg #[.string (⟨#[112, 108, 97, 99, 101]⟩), .slice (some ⟨g2, 0, none⟩) ([(api_Field.mk (⟨#[120]⟩) 3 (-2))] : List api_Field).length 1])] [6, 3] (by kernel_rfl) ?_
 refine ops_ex (σ := (Nat → Prop) × World) (I := fun x_ => Ext w0 F W x_.1 x_.2 ∧ RdS R_api_Field x_.1 x_.2 (some ⟨g2, 0, none⟩) 1 ([(api_Field.mk (⟨#[120]⟩) 3 (-2))] : List api_Field)) (M' := fun x_ => Mem w0 (orow (some ⟨g4, 0, none⟩) ([(api_Field.mk (⟨#[120]⟩) 8 0)] : List api_Field).length 1 23 3 ([.string (⟨#[120]⟩), vI 8, vI 0]) :: Fz x_.1 x_.2 :: cs)) (fun w_ hM => ?_) ?_
 · obtain ⟨F_, h1_, h2_, h3_⟩ := (hM.pick 3 [1, 2, 0] (by kernel_rfl) (by decide) rfl : Mem w0 (orow (some ⟨g2, 0, none⟩) ([(api_Field.mk (⟨#[120]⟩) 3 (-2))] : List api_Field).length 1 23 3 ([.string (⟨#[120]⟩), vI 3, vI (-2)]) :: Fz F W :: orow (some ⟨g4, 0, none⟩) ([(api_Field.mk (⟨#[120]⟩) 8 0)] : List api_Field).length 1 23 3 ([.string (⟨#[120]⟩), vI 8, vI 0]) :: cs) w_).freeze (z := 3) h1 rfl rfl
   exact ⟨(F_, w_), ⟨h1_, h2_⟩, h3_.pick 2 [1, 0] (by kernel_rfl) (by decide) rfl⟩
 rintro ⟨F5, W6⟩ ⟨hx7, h8⟩
 have hx7 : Ext w0 F W F5 W6 := hx7
 have h8 : RdS R_api_Field F5 W6 (some ⟨g2, 0, none⟩) 1 ([(api_Field.mk (⟨#[120]⟩) 3 (-2))] : List api_Field) := h8
 have h3 := h3.ext hx7
 refine ops_conv (l' := [(6, .agg #[.string (⟨#[108, 105, 102, 101]⟩), .slice (some ⟨g4, 0, none⟩) ([(api_Field.mk (⟨#[120]⟩) 8 0)] : List api_Field).length 1]), (3, .agg #[.string (⟨#[112, 108, 97, 99, 101]⟩), .slice (some ⟨g2, 0, none⟩) ([(api_Field.mk (⟨#[120]⟩) 3 (-2))] : List api_Field).length 1])]) (M' := Mem w0 (orow (some ⟨g4, 0, none⟩) ([(api_Field.mk (⟨#[120]⟩) 8 0)] : List api_Field).length 1 23 3 ([.string (⟨#[120]⟩), vI 8, vI 0]) :: Fz F5 W6 :: cs)) rfl (fun _ h => h) ?_
 refine ops_ex (σ := (Nat → Prop) × World) (I := fun x_ => Ext w0 F5 W6 x_.1 x_.2 ∧ RdS R_api_Field x_.1 x_.2 (some ⟨g4, 0, none⟩) 1 ([(api_Field.mk (⟨#[120]⟩) 8 0)] : List api_Field)) (M' := fun x_ => Mem w0 (Fz x_.1 x_.2 :: cs)) (fun w_ hM => ?_) ?_
 · obtain ⟨F_, h1_, h2_, h3_⟩ := (hM.pick 2 [0, 1] (by kernel_rfl) (by decide) rfl : Mem w0 (orow (some ⟨g4, 0, none⟩) ([(api_Field.mk (⟨#[120]⟩) 8 0)] : List api_Field).length 1 23 3 ([.string (⟨#[120]⟩), vI 8, vI 0]) :: Fz F5 W6 :: cs) w_).freeze (z := 3) h3 rfl rfl
   exact ⟨(F_, w_), ⟨h1_, h2_⟩, h3_.pick 1 [0] (by kernel_rfl) (by decide) rfl⟩
 rintro ⟨F9, W10⟩ ⟨hx11, h12⟩
 have hx11 : Ext w0 F5 W6 F9 W10 := hx11
 have h12 : RdS R_api_Field F9 W10 (some ⟨g4, 0, none⟩) 1 ([(api_Field.mk (⟨#[120]⟩) 8 0)] : List api_Field) := h12
 have h8 := h8.ext hx11
 refine ops_conv (l' := [(6, .agg #[.string (⟨#[108, 105, 102, 101]⟩), .slice (some ⟨g4, 0, none⟩) ([(api_Field.mk (⟨#[120]⟩) 8 0)] : List api_Field).length 1]), (3, .agg #[.string (⟨#[112, 108, 97, 99, 101]⟩), .slice (some ⟨g2, 0, none⟩) ([(api_Field.mk (⟨#[120]⟩) 3 (-2))] : List api_Field).length 1])]) (M' := Mem w0 (Fz F9 W10 :: cs)) rfl (fun _ h => h) ?_
 have h13 : RepL R_api_Kind F9 W10 ([(api_Kind.mk (⟨#[112, 108, 97, 99, 101]⟩) ([(api_Field.mk (⟨#[120]⟩) 3 (-2))] : List api_Field)), (api_Kind.mk (⟨#[108, 105, 102, 101]⟩) ([(api_Field.mk (⟨#[120]⟩) 8 0)] : List api_Field))] : List api_Kind) ([.string (⟨#[112, 108, 97, 99, 101]⟩), .slice (some ⟨g2, 0, none⟩) ([(api_Field.mk (⟨#[120]⟩) 3 (-2))] : List api_Field).length 1, .string (⟨#[108, 105, 102, 101]⟩), .slice (some ⟨g4, 0, none⟩) ([(api_Field.mk (⟨#[120]⟩) 8 0)] : List api_Field).length 1]) := (RepL.cons (R := R_api_Kind) (F := F9) (w := W10) (vs := [.string (⟨#[112, 108, 97, 99, 101]⟩), .slice (some ⟨g2, 0, none⟩) ([(api_Field.mk (⟨#[120]⟩) 3 (-2))] : List api_Field).length 1]) (ys := [.string (⟨#[108, 105, 102, 101]⟩), .slice (some ⟨g4, 0, none⟩) ([(api_Field.mk (⟨#[120]⟩) 8 0)] : List api_Field).length 1]) (enc_api_Kind h8) (RepL.cons (R := R_api_Kind) (F := F9) (w := W10) (vs := [.string (⟨#[108, 105, 102, 101]⟩), .slice (some ⟨g4, 0, none⟩) ([(api_Field.mk (⟨#[120]⟩) 8 0)] : List api_Field).length 1]) (ys := []) (enc_api_Kind h12) RepL.nil))
 refine ops_new (d := some 7) (o := .cells ([.string (⟨#[112, 108, 97, 99, 101]⟩), .slice (some ⟨g2, 0, none⟩) ([(api_Field.mk (⟨#[120]⟩) 3 (-2))] : List api_Field).length 1, .string (⟨#[108, 105, 102, 101]⟩), .slice (some ⟨g4, 0, none⟩) ([(api_Field.mk (⟨#[120]⟩) 8 0)] : List api_Field).length 1]).toArray 27) (v := fun g14 => .slice (some ⟨g14, 0, none⟩) ([(api_Kind.mk (⟨#[112, 108, 97, 99, 101]⟩) ([(api_Field.mk (⟨#[120]⟩) 3 (-2))] : List api_Field)), (api_Kind.mk (⟨#[108, 105, 102, 101]⟩) ([(api_Field.mk (⟨#[120]⟩) 8 0)] : List api_Field))] : List api_Kind).length 2) (M' := fun g14 => Mem w0 (orow (some ⟨g14, 0, none⟩) ([(api_Kind.mk (⟨#[112, 108, 97, 99, 101]⟩) ([(api_Field.mk (⟨#[120]⟩) 3 (-2))] : List api_Field)), (api_Kind.mk (⟨#[108, 105, 102, 101]⟩) ([(api_Field.mk (⟨#[120]⟩) 8 0)] : List api_Field))] : List api_Kind).length 2 27 2 ([.string (⟨#[112, 108, 97, 99, 101]⟩), .slice (some ⟨g2, 0, none⟩) ([(api_Field.mk (⟨#[120]⟩) 3 (-2))] : List api_Field).length 1, .string (⟨#[108, 105, 102, 101]⟩), .slice (some ⟨g4, 0, none⟩) ([(api_Field.mk (⟨#[120]⟩) 8 0)] : List api_Field).length 1]) :: Fz F9 W10 :: cs)) (fun g14 => ⟨by kernel_rfl⟩) (fun w_ hM hS => ⟨hM.onew [.string (⟨#[112, 108, 97, 99, 101]⟩), .slice (some ⟨g2, 0, none⟩) ([(api_Field.mk (⟨#[120]⟩) 3 (-2))] : List api_Field).length 1, .string (⟨#[108, 105, 102, 101]⟩), .slice (some ⟨g4, 0, none⟩) ([(api_Field.mk (⟨#[120]⟩) 8 0)] : List api_Field).length 1] 27 2 2 rfl (by decide), trivial⟩) (fun g14 => ?_)
 refine oR [oF 7] [(0, .slice (some ⟨g14, 0, none⟩) ([(api_Kind.mk (⟨#[112, 108, 97, 99, 101]⟩) ([(api_Field.mk (⟨#[120]⟩) 3 (-2))] : List api_Field)), (api_Kind.mk (⟨#[108, 105, 102, 101]⟩) ([(api_Field.mk (⟨#[120]⟩) 8 0)] : List api_Field))] : List api_Kind).length 2)] [0] (by kernel_rfl) ?_
 refine ops_nil ?_
 refine fin_then ?_
 refine st_ret ?_
 have hq_ := Option.some.inj hp
 have hr0_ := hq_
 subst hr0_
 refine fin_ret [.tmp 0] [.slice (some ⟨g14, 0, none⟩) ([(api_Kind.mk (⟨#[112, 108, 97, 99, 101]⟩) ([(api_Field.mk (⟨#[120]⟩) 3 (-2))] : List api_Field)), (api_Kind.mk (⟨#[108, 105, 102, 101]⟩) ([(api_Field.mk (⟨#[120]⟩) 8 0)] : List api_Field))] : List api_Kind).length 2] rfl rfl (fun w_ hM => (.tmp rfl .nil)) (fun w_ hM => ?_)
 exact ⟨(some ⟨g14, 0, none⟩), ([.string (⟨#[112, 108, 97, 99, 101]⟩), .slice (some ⟨g2, 0, none⟩) ([(api_Field.mk (⟨#[120]⟩) 3 (-2))] : List api_Field).length 1, .string (⟨#[108, 105, 102, 101]⟩), .slice (some ⟨g4, 0, none⟩) ([(api_Field.mk (⟨#[120]⟩) 8 0)] : List api_Field).length 1]), F9, W10, ⟨h13, (hx7.trans hx11)⟩, rfl, hM⟩
set_option maxHeartbeats 4000000 in
set_option maxRecDepth 100000 in
theorem kind_Name_ok (w0 w : World) (cs : List Chunk) (F : Nat → Prop) (W : World) (s : ByteArray) (hM0 : Mem w0 (Fz F W :: cs) w) (t9001 : Bool) (hp : kind_Name s = some t9001) : Calls Tryd.prog 18 #[.string s] w fun e w' => (True) ∧ e = .returned (.bool t9001) ∧ Mem w0 (Fz F W :: cs) w' := by
 unfold kind_Name at hp
 refine sx_calls Tryd.func18 rfl (n := 41) (by kernel_rfl) (l := [(0, .string s)]) rfl (by rfl) hM0 ?_
 refine st_seq ?_
 refine st_region [oF 0] (by rfl) ?_
 refine oR [oF 0] [(0, .string s)] [0] (by kernel_rfl) ?_
 refine ops_nil ?_
 refine fin_then ?_
 refine st_seq ?_
 refine st_seq ?_
 refine st_region [oF 0, oF 1, oF 2, oF 3, oF 4, oF 5, oF 6, oF 7] (by rfl) ?_
 refine oR [oF 0, oF 1, oF 2, oF 3] [(8, .bool ((s.size : Int) == 0)), (0, .string s)] [8, 0] (by kernel_rfl) ?_
 refine ops_bool (t := ((s.size : Int) == 0)) (l1 := [(8, .bool true), (0, .string s)]) (l2 := [(8, .bool false), (0, .string s)]) (fun h => by rw [h]) (fun h => by rw [h]) (fun hc1 => ?_) (fun hc1 => ?_)
 · --
  have hp := cnd_t hc1 hp
  refine oR [oF 4, oF 5, oF 6, oF 7] [(12, .bool true), (0, .string s)] [12, 0] (by kernel_rfl) ?_
  refine ops_nil ?_
  refine fin_then ?_
  refine st_true rfl ?_
  refine st_seq ?_
  refine st_region [oF 0] (by rfl) ?_
  refine oR [oF 0] [(2, .bool false)] [2] (by kernel_rfl) ?_
  refine ops_nil ?_
  refine fin_then ?_
  refine st_ret ?_
  refine fin_ret_then ?_
  have hq_ := Option.some.inj hp
  have hr0_ := hq_
  subst hr0_
  refine fin_ret [.tmp 2] [.bool false] rfl rfl (fun w_ hM => (.tmp rfl .nil)) (fun w_ hM => ?_)
  exact ⟨trivial, rfl, hM⟩
 · --
  have hp := cnd_f hc1 hp
  refine oR [oF 4, oF 5, oF 6, oF 7] [(12, .bool (decide (16 < (s.size : Int)))), (0, .string s)] [12, 0] (by kernel_rfl) ?_
  refine ops_nil ?_
  refine fin_then ?_
  refine st_if (b := decide (16 < (s.size : Int))) rfl (fun hc2 => ?_) (fun hc2 => ?_)
  · --
   have hp := cnd_t hc2 hp
   refine st_seq ?_
   refine st_region [oF 0] (by rfl) ?_
   refine oR [oF 0] [(2, .bool false)] [2] (by kernel_rfl) ?_
   refine ops_nil ?_
   refine fin_then ?_
   refine st_ret ?_
   refine fin_ret_then ?_
   have hq_ := Option.some.inj hp
   have hr0_ := hq_
   subst hr0_
   refine fin_ret [.tmp 2] [.bool false] rfl rfl (fun w_ hM => (.tmp rfl .nil)) (fun w_ hM => ?_)
   exact ⟨trivial, rfl, hM⟩
  · --
   have hp := cnd_f hc2 hp
   refine st_skip ?_
   refine fin_then ?_
   refine st_join1 (σ := Unit) (L := fun _ => []) (N := fun _ => Mem w0 (Fz F W :: cs)) (I := fun _ => (kind_Name_j1 = some t9001)) ?_ ?_
   · --
    rintro _ hp
    refine st_conv (l' := []) (M' := Mem w0 (Fz F W :: cs)) rfl (fun _ h => h) ?_
    unfold kind_Name_j1 at hp
    refine st_seq ?_
    refine st_region [oF 0] (by rfl) ?_
    refine oR [oF 0] [(2, .bool true)] [2] (by kernel_rfl) ?_
    refine ops_nil ?_
    refine fin_then ?_
    refine st_ret ?_
    have hq_ := Option.some.inj hp
    have hr0_ := hq_
    subst hr0_
    refine fin_ret [.tmp 2] [.bool true] rfl rfl (fun w_ hM => (.tmp rfl .nil)) (fun w_ hM => ?_)
    exact ⟨trivial, rfl, hM⟩
   · --
    intro HJ1
    refine st_seq ?_
    refine st_seq ?_
    refine st_region [oF 0, oF 1, oF 2] (by rfl) ?_
    refine oR [oF 0, oF 1, oF 2] [(15, vI 0), (14, vI (s.size : Int)), (0, .string s)] [15, 14, 0] (by kernel_rfl) ?_
    refine ops_nil ?_
    refine fin_then ?_
    refine st_block ?_
    obtain ⟨r2, hl2, hk2⟩ := obind hp
    refine st_loopP (σ := Int) (ρ := (Bool ⊕ Unit)) (γ := Unit) hl2 () (fun s_ g_ => match s_, g_ with | i3, _ => [(0, .string s), (14, vI (s.size : Int)), (15, vI i3)]) (fun s_ g_ => match s_, g_ with | i3, _ => Mem w0 (Fz F W :: cs)) (fun s_ g_ => match s_, g_ with | i3, _ => True) trivial (look_has ⟨rfl, rfl, rfl, trivial⟩) (fun w_ hM => hM) ?_
    rintro i3 _ o2 - hs_ hd2
    have hp : (kind_Name_l2 s) i3 = some o2 := hs_
    clear hs_
    unfold kind_Name_l2 at hp
    refine st_conv (l' := [(0, .string s), (14, vI (s.size : Int)), (15, vI i3)]) (M' := Mem w0 (Fz F W :: cs)) rfl (fun _ h => h) ?_
    refine st_seq ?_
    refine st_region [oF 0] (by rfl) ?_
    refine oR [oF 0] [(16, .bool (decide (i3 < (s.size : Int)))), (0, .string s), (14, vI (s.size : Int)), (15, vI i3)] [16, 0, 14, 15] (by kernel_rfl) ?_
    refine ops_nil ?_
    refine fin_then ?_
    refine st_seq ?_
    refine st_if (b := decide (i3 < (s.size : Int))) rfl (fun hc4 => ?_) (fun hc4 => ?_)
    · --
     have hp := cnd_t hc4 hp
     refine st_skip ?_
     refine fin_then ?_
     refine st_join1 (σ := Unit) (L := fun _ => [(0, .string s), (14, vI (s.size : Int)), (15, vI i3)]) (N := fun _ => Mem w0 (Fz F W :: cs)) (I := fun _ => ((kind_Name_j3 i3) = some o2)) ?_ ?_
     · --
      rintro _ hp
      refine st_conv (l' := [(0, .string s), (14, vI (s.size : Int)), (15, vI i3)]) (M' := Mem w0 (Fz F W :: cs)) rfl (fun _ h => h) ?_
      unfold kind_Name_j3 at hp
      refine st_region [oF 0, oF 1] (by rfl) ?_
      refine oR [oF 0, oF 1] [(15, vI (IntKind.i64.wrap (i3 + 1))), (0, .string s), (14, vI (s.size : Int))] [15, 0, 14] (by kernel_rfl) ?_
      refine ops_nil ?_
      exact fin_again (IntKind.i64.wrap (i3 + 1)) () (Option.some.inj hp).symm trivial (look_has ⟨rfl, rfl, rfl, trivial⟩) (fun w_ hM => hM)
     · --
      intro HJ3
      refine st_seq ?_
      refine st_block ?_
      refine st_seq ?_
      refine st_region [oF 0, oF 1] (by rfl) ?_
      refine oR [oF 0, oF 1] [(3, vI i3), (0, .string s), (14, vI (s.size : Int)), (15, vI i3)] [3, 0, 14, 15] (by kernel_rfl) ?_
      refine ops_nil ?_
      refine fin_then ?_
      refine st_seq ?_
      refine st_region [oF 0, oF 1, oF 2, oF 3] (by rfl) ?_
      refine oR [oF 0, oF 1] [(19, vI i3), (18, .string s), (3, vI i3), (0, .string s), (14, vI (s.size : Int)), (15, vI i3)] [19, 18, 3, 0, 14, 15] (by kernel_rfl) ?_
      obtain ⟨x5, hv6, hp⟩ := obind hp
      refine ops_val (op := (Go.Op.index 9 (Go.Operand.tmp 18) (Go.Operand.tmp 19))) (d := some 20) (v := .int .u8 x5) ⟨by kernel_rfl⟩ (run_strIdx Tryd.underlying9 rfl rfl hv6) ?_
      refine oR [oF 3] [(4, .int .u8 x5), (3, vI i3), (0, .string s), (14, vI (s.size : Int)), (15, vI i3)] [4, 3, 0, 14, 15] (by kernel_rfl) ?_
      refine ops_nil ?_
      refine fin_then ?_
      refine st_seq ?_
      refine st_region [oF 0, oF 1, oF 2, oF 3, oF 4, oF 5, oF 6, oF 7, oF 8, oF 9, oF 10, oF 11, oF 12, oF 13, oF 14, oF 15, oF 16, oF 17, oF 18] (by rfl) ?_
      refine oR [oF 0, oF 1, oF 2] [(23, .bool (decide (97 ≤ x5))), (4, .int .u8 x5), (3, vI i3), (0, .string s), (14, vI (s.size : Int)), (15, vI i3)] [23, 4, 3, 0, 14, 15] (by kernel_rfl) ?_
      refine ops_bool (t := decide (97 ≤ x5)) (l1 := [(23, .bool true), (4, .int .u8 x5), (3, vI i3), (0, .string s), (14, vI (s.size : Int)), (15, vI i3)]) (l2 := [(23, .bool false), (4, .int .u8 x5), (3, vI i3), (0, .string s), (14, vI (s.size : Int)), (15, vI i3)]) (fun h => by rw [h]) (fun h => by rw [h]) (fun hc7 => ?_) (fun hc7 => ?_)
      · --
       have hp := cnd_t hc7 hp
       refine oR [oF 3, oF 4, oF 5, oF 6] [(27, .bool (decide (x5 ≤ 122))), (4, .int .u8 x5), (3, vI i3), (0, .string s), (14, vI (s.size : Int)), (15, vI i3)] [27, 4, 3, 0, 14, 15] (by kernel_rfl) ?_
       refine ops_bool (t := decide (x5 ≤ 122)) (l1 := [(27, .bool true), (4, .int .u8 x5), (3, vI i3), (0, .string s), (14, vI (s.size : Int)), (15, vI i3)]) (l2 := [(27, .bool false), (4, .int .u8 x5), (3, vI i3), (0, .string s), (14, vI (s.size : Int)), (15, vI i3)]) (fun h => by rw [h]) (fun h => by rw [h]) (fun hc8 => ?_) (fun hc8 => ?_)
       · --
        have hp := cnd_t hc8 hp
        refine oR [oF 7, oF 8, oF 9, oF 10, oF 11, oF 12, oF 13, oF 14, oF 15, oF 16, oF 17, oF 18] [(39, .bool false), (0, .string s), (14, vI (s.size : Int)), (15, vI i3)] [39, 0, 14, 15] (by kernel_rfl) ?_
        refine ops_nil ?_
        refine fin_then ?_
        refine st_false rfl ?_
        refine st_skip ?_
        refine fin_block ?_
        exact fin_join HJ3 () hp (look_has ⟨rfl, rfl, rfl, trivial⟩) (fun w_ hM => hM)
       · --
        have hp := cnd_f hc8 hp
        refine oR [oF 7, oF 8, oF 9] [(30, .bool (decide (0 < i3))), (27, .bool false), (4, .int .u8 x5), (0, .string s), (14, vI (s.size : Int)), (15, vI i3)] [30, 27, 4, 0, 14, 15] (by kernel_rfl) ?_
        refine ops_bool (t := decide (0 < i3)) (l1 := [(30, .bool true), (27, .bool false), (4, .int .u8 x5), (0, .string s), (14, vI (s.size : Int)), (15, vI i3)]) (l2 := [(30, .bool false), (27, .bool false), (4, .int .u8 x5), (0, .string s), (14, vI (s.size : Int)), (15, vI i3)]) (fun h => by rw [h]) (fun h => by rw [h]) (fun hc9 => ?_) (fun hc9 => ?_)
        · --
         have hp := cnd_t hc9 hp
         refine oR [oF 10, oF 11, oF 12, oF 13] [(34, .bool (decide (48 ≤ x5))), (27, .bool false), (4, .int .u8 x5), (0, .string s), (14, vI (s.size : Int)), (15, vI i3)] [34, 27, 4, 0, 14, 15] (by kernel_rfl) ?_
         refine ops_bool (t := decide (48 ≤ x5)) (l1 := [(34, .bool true), (27, .bool false), (4, .int .u8 x5), (0, .string s), (14, vI (s.size : Int)), (15, vI i3)]) (l2 := [(34, .bool false), (27, .bool false), (4, .int .u8 x5), (0, .string s), (14, vI (s.size : Int)), (15, vI i3)]) (fun h => by rw [h]) (fun h => by rw [h]) (fun hc10 => ?_) (fun hc10 => ?_)
         · --
          have hp := cnd_t hc10 hp
          refine oR [oF 14, oF 15, oF 16, oF 17, oF 18] [(39, .bool (!(decide (x5 ≤ 57)))), (0, .string s), (14, vI (s.size : Int)), (15, vI i3)] [39, 0, 14, 15] (by kernel_rfl) ?_
          refine ops_nil ?_
          refine fin_then ?_
          refine st_if (b := !(decide (x5 ≤ 57))) rfl (fun hc11 => ?_) (fun hc11 => ?_)
          · --
           have hp := cnd_t hc11 hp
           refine st_seq ?_
           refine st_region [oF 0] (by rfl) ?_
           refine oR [oF 0] [(2, .bool false)] [2] (by kernel_rfl) ?_
           refine ops_nil ?_
           refine fin_then ?_
           refine st_ret ?_
           refine fin_ret_block ?_
           refine fin_ret_then ?_
           refine fin_ret_then ?_
           refine fin_ret_block ?_
           refine fin_ret_then ?_
           obtain hq_ := Option.some.inj hp
           subst hq_
           obtain hq_ := hd2 _ rfl
           subst hq_
           have hp : some false = some t9001 := hk2
           have hq_ := Option.some.inj hp
           have hr0_ := hq_
           subst hr0_
           refine fin_ret [.tmp 2] [.bool false] rfl rfl (fun w_ hM => (.tmp rfl .nil)) (fun w_ hM => ?_)
           exact ⟨trivial, rfl, hM⟩
          · --
           have hp := cnd_f hc11 hp
           refine st_skip ?_
           refine fin_block ?_
           exact fin_join HJ3 () hp (look_has ⟨rfl, rfl, rfl, trivial⟩) (fun w_ hM => hM)
         · --
          have hp := cnd_f hc10 hp
          refine oR [oF 14, oF 15, oF 16, oF 17, oF 18] [(39, .bool true), (0, .string s), (14, vI (s.size : Int)), (15, vI i3)] [39, 0, 14, 15] (by kernel_rfl) ?_
          refine ops_nil ?_
          refine fin_then ?_
          refine st_true rfl ?_
          refine st_seq ?_
          refine st_region [oF 0] (by rfl) ?_
          refine oR [oF 0] [(2, .bool false)] [2] (by kernel_rfl) ?_
          refine ops_nil ?_
          refine fin_then ?_
          refine st_ret ?_
          refine fin_ret_block ?_
          refine fin_ret_then ?_
          refine fin_ret_then ?_
          refine fin_ret_block ?_
          refine fin_ret_then ?_
          obtain hq_ := Option.some.inj hp
          subst hq_
          obtain hq_ := hd2 _ rfl
          subst hq_
          have hp : some false = some t9001 := hk2
          have hq_ := Option.some.inj hp
          have hr0_ := hq_
          subst hr0_
          refine fin_ret [.tmp 2] [.bool false] rfl rfl (fun w_ hM => (.tmp rfl .nil)) (fun w_ hM => ?_)
          exact ⟨trivial, rfl, hM⟩
        · --
         have hp := cnd_f hc9 hp
         refine oR [oF 10, oF 11, oF 12, oF 13, oF 14, oF 15, oF 16, oF 17, oF 18] [(39, .bool true), (0, .string s), (14, vI (s.size : Int)), (15, vI i3)] [39, 0, 14, 15] (by kernel_rfl) ?_
         refine ops_nil ?_
         refine fin_then ?_
         refine st_true rfl ?_
         refine st_seq ?_
         refine st_region [oF 0] (by rfl) ?_
         refine oR [oF 0] [(2, .bool false)] [2] (by kernel_rfl) ?_
         refine ops_nil ?_
         refine fin_then ?_
         refine st_ret ?_
         refine fin_ret_block ?_
         refine fin_ret_then ?_
         refine fin_ret_then ?_
         refine fin_ret_block ?_
         refine fin_ret_then ?_
         obtain hq_ := Option.some.inj hp
         subst hq_
         obtain hq_ := hd2 _ rfl
         subst hq_
         have hp : some false = some t9001 := hk2
         have hq_ := Option.some.inj hp
         have hr0_ := hq_
         subst hr0_
         refine fin_ret [.tmp 2] [.bool false] rfl rfl (fun w_ hM => (.tmp rfl .nil)) (fun w_ hM => ?_)
         exact ⟨trivial, rfl, hM⟩
      · --
       have hp := cnd_f hc7 hp
       refine oR [oF 3, oF 4, oF 5, oF 6, oF 7, oF 8, oF 9] [(30, .bool (decide (0 < i3))), (27, .bool false), (4, .int .u8 x5), (0, .string s), (14, vI (s.size : Int)), (15, vI i3)] [30, 27, 4, 0, 14, 15] (by kernel_rfl) ?_
       refine ops_bool (t := decide (0 < i3)) (l1 := [(30, .bool true), (27, .bool false), (4, .int .u8 x5), (0, .string s), (14, vI (s.size : Int)), (15, vI i3)]) (l2 := [(30, .bool false), (27, .bool false), (4, .int .u8 x5), (0, .string s), (14, vI (s.size : Int)), (15, vI i3)]) (fun h => by rw [h]) (fun h => by rw [h]) (fun hc12 => ?_) (fun hc12 => ?_)
       · --
        have hp := cnd_t hc12 hp
        refine oR [oF 10, oF 11, oF 12, oF 13] [(34, .bool (decide (48 ≤ x5))), (27, .bool false), (4, .int .u8 x5), (0, .string s), (14, vI (s.size : Int)), (15, vI i3)] [34, 27, 4, 0, 14, 15] (by kernel_rfl) ?_
        refine ops_bool (t := decide (48 ≤ x5)) (l1 := [(34, .bool true), (27, .bool false), (4, .int .u8 x5), (0, .string s), (14, vI (s.size : Int)), (15, vI i3)]) (l2 := [(34, .bool false), (27, .bool false), (4, .int .u8 x5), (0, .string s), (14, vI (s.size : Int)), (15, vI i3)]) (fun h => by rw [h]) (fun h => by rw [h]) (fun hc13 => ?_) (fun hc13 => ?_)
        · --
         have hp := cnd_t hc13 hp
         refine oR [oF 14, oF 15, oF 16, oF 17, oF 18] [(39, .bool (!(decide (x5 ≤ 57)))), (0, .string s), (14, vI (s.size : Int)), (15, vI i3)] [39, 0, 14, 15] (by kernel_rfl) ?_
         refine ops_nil ?_
         refine fin_then ?_
         refine st_if (b := !(decide (x5 ≤ 57))) rfl (fun hc14 => ?_) (fun hc14 => ?_)
         · --
          have hp := cnd_t hc14 hp
          refine st_seq ?_
          refine st_region [oF 0] (by rfl) ?_
          refine oR [oF 0] [(2, .bool false)] [2] (by kernel_rfl) ?_
          refine ops_nil ?_
          refine fin_then ?_
          refine st_ret ?_
          refine fin_ret_block ?_
          refine fin_ret_then ?_
          refine fin_ret_then ?_
          refine fin_ret_block ?_
          refine fin_ret_then ?_
          obtain hq_ := Option.some.inj hp
          subst hq_
          obtain hq_ := hd2 _ rfl
          subst hq_
          have hp : some false = some t9001 := hk2
          have hq_ := Option.some.inj hp
          have hr0_ := hq_
          subst hr0_
          refine fin_ret [.tmp 2] [.bool false] rfl rfl (fun w_ hM => (.tmp rfl .nil)) (fun w_ hM => ?_)
          exact ⟨trivial, rfl, hM⟩
         · --
          have hp := cnd_f hc14 hp
          refine st_skip ?_
          refine fin_block ?_
          exact fin_join HJ3 () hp (look_has ⟨rfl, rfl, rfl, trivial⟩) (fun w_ hM => hM)
        · --
         have hp := cnd_f hc13 hp
         refine oR [oF 14, oF 15, oF 16, oF 17, oF 18] [(39, .bool true), (0, .string s), (14, vI (s.size : Int)), (15, vI i3)] [39, 0, 14, 15] (by kernel_rfl) ?_
         refine ops_nil ?_
         refine fin_then ?_
         refine st_true rfl ?_
         refine st_seq ?_
         refine st_region [oF 0] (by rfl) ?_
         refine oR [oF 0] [(2, .bool false)] [2] (by kernel_rfl) ?_
         refine ops_nil ?_
         refine fin_then ?_
         refine st_ret ?_
         refine fin_ret_block ?_
         refine fin_ret_then ?_
         refine fin_ret_then ?_
         refine fin_ret_block ?_
         refine fin_ret_then ?_
         obtain hq_ := Option.some.inj hp
         subst hq_
         obtain hq_ := hd2 _ rfl
         subst hq_
         have hp : some false = some t9001 := hk2
         have hq_ := Option.some.inj hp
         have hr0_ := hq_
         subst hr0_
         refine fin_ret [.tmp 2] [.bool false] rfl rfl (fun w_ hM => (.tmp rfl .nil)) (fun w_ hM => ?_)
         exact ⟨trivial, rfl, hM⟩
       · --
        have hp := cnd_f hc12 hp
        refine oR [oF 10, oF 11, oF 12, oF 13, oF 14, oF 15, oF 16, oF 17, oF 18] [(39, .bool true), (0, .string s), (14, vI (s.size : Int)), (15, vI i3)] [39, 0, 14, 15] (by kernel_rfl) ?_
        refine ops_nil ?_
        refine fin_then ?_
        refine st_true rfl ?_
        refine st_seq ?_
        refine st_region [oF 0] (by rfl) ?_
        refine oR [oF 0] [(2, .bool false)] [2] (by kernel_rfl) ?_
        refine ops_nil ?_
        refine fin_then ?_
        refine st_ret ?_
        refine fin_ret_block ?_
        refine fin_ret_then ?_
        refine fin_ret_then ?_
        refine fin_ret_block ?_
        refine fin_ret_then ?_
        obtain hq_ := Option.some.inj hp
        subst hq_
        obtain hq_ := hd2 _ rfl
        subst hq_
        have hp : some false = some t9001 := hk2
        have hq_ := Option.some.inj hp
        have hr0_ := hq_
        subst hr0_
        refine fin_ret [.tmp 2] [.bool false] rfl rfl (fun w_ hM => (.tmp rfl .nil)) (fun w_ hM => ?_)
        exact ⟨trivial, rfl, hM⟩
    · --
     have hp := cnd_f hc4 hp
     refine st_exit ?_
     refine fin_exit_then ?_
     refine fin_exit_then ?_
     refine fin_exit ?_
     obtain hq_ := Option.some.inj hp
     subst hq_
     obtain hq_ := hd2 _ rfl
     subst hq_
     have hp : kind_Name_j1 = some t9001 := hk2
     exact fin_join HJ1 () hp (look_has trivial) (fun w_ hM => hM)
set_option maxHeartbeats 4000000 in
set_option maxRecDepth 100000 in
theorem kind_field_ok (w0 w : World) (cs : List Chunk) (F : Nat → Prop) (W : World) (f_0 : ByteArray) (f_1 : Int) (f_2 : Int) (hM0 : Mem w0 (Fz F W :: cs) w) (i9001 : Int) (hp : kind_field f_0 f_1 f_2 = some i9001) : Calls Tryd.prog 63 #[.agg #[.string f_0, vI f_1, vI f_2]] w fun e w' => (True) ∧ e = .returned (vI i9001) ∧ Mem w0 (Fz F W :: cs) w' := by
 unfold kind_field at hp
 refine sx_calls Tryd.func63 rfl (n := 27) (by kernel_rfl) (l := [(0, .agg #[.string f_0, vI f_1, vI f_2])]) rfl (by rfl) hM0 ?_
 refine st_seq ?_
 refine st_region [oF 0, oF 1] (by rfl) ?_
 refine ops_new (d := some 1) (o := .cells #[.string f_0, vI f_1, vI f_2] 23) (v := fun b1 => vP b1 0) (M' := fun b1 => Mem w0 (.blk b1 [.string f_0, vI f_1, vI f_2] 23 :: Fz F W :: cs)) (fun b1 => ⟨by kernel_rfl⟩) (fun w_ hM hS => ⟨hM.blk [.string f_0, vI f_1, vI f_2] 23, trivial⟩) (fun b1 => ?_)
 refine oR [oF 1] [(1, vP b1 0)] [1] (by kernel_rfl) ?_
 refine ops_nil ?_
 refine fin_then ?_
 refine st_seq ?_
 refine st_seq ?_
 refine st_region [oF 0, oF 1, oF 2, oF 3, oF 4, oF 5, oF 6, oF 7, oF 8, oF 9, oF 10, oF 11, oF 12, oF 13, oF 14, oF 15, oF 16, oF 17, oF 18, oF 19, oF 20, oF 21, oF 22, oF 23] (by rfl) ?_
 refine oR [oF 0] [(3, vP b1 0), (1, vP b1 0)] [3, 1] (by kernel_rfl) ?_
 refine ops_mem (d := some 4) (an := [.v (.string f_0)]) (evs := [.load ⟨b1, 0, none⟩ (.string f_0)]) (v := .string f_0) (M' := Mem w0 (.blk b1 [.string f_0, vI f_1, vI f_2] 23 :: Fz F W :: cs)) ⟨by kernel_rfl⟩ (fun w_ hM hS => ⟨w_, ⟨hM.cell 0 rfl rfl, rfl⟩, hM, trivial⟩) ?_
 refine oR [] [(4, .string f_0), (1, vP b1 0)] [4, 1] (by kernel_rfl) ?_
 obtain ⟨x2, hv3, hp⟩ := obind hp
 refine ops_callI (σ := Unit) (d := some 5) (f := 18) (args := #[.string f_0]) (v := (fun _ => .bool x2)) (I := (fun _ => True)) (M' := (fun _ => Mem w0 (.blk b1 [.string f_0, vI f_1, vI f_2] 23 :: Fz F W :: cs))) ⟨by kernel_rfl⟩ (fun w_ hM hS => (kind_Name_ok w0 w_ (.blk b1 [.string f_0, vI f_1, vI f_2] 23 :: cs) F W f_0 (hM.pick 2 [1, 0] (by kernel_rfl) (by decide) rfl)  x2 hv3).mono (by rintro e w' ⟨-, rfl, h'⟩; have h' : Mem w0 (.blk b1 [.string f_0, vI f_1, vI f_2] 23 :: Fz F W :: cs) w' := (h'.pick 2 [1, 0] (by kernel_rfl) (by decide) rfl); exact ⟨(), trivial, rfl, h', trivial⟩)) ?_
 rintro _ -
 refine ops_conv (l' := [(5, .bool x2), (4, .string f_0), (1, vP b1 0)]) (M' := Mem w0 (.blk b1 [.string f_0, vI f_1, vI f_2] 23 :: Fz F W :: cs)) rfl (fun _ h => h) ?_
 refine oR [oF 3, oF 4] [(7, .bool (!x2)), (1, vP b1 0)] [7, 1] (by kernel_rfl) ?_
 refine ops_bool (t := !x2) (l1 := [(7, .bool true), (1, vP b1 0)]) (l2 := [(7, .bool false), (1, vP b1 0)]) (fun h => by rw [h]) (fun h => by rw [h]) (fun hc4 => ?_) (fun hc4 => ?_)
 · --
  have hp := cnd_t hc4 hp
  refine oR [oF 5, oF 6, oF 7, oF 8, oF 9, oF 10, oF 11, oF 12, oF 13, oF 14, oF 15, oF 16, oF 17, oF 18, oF 19, oF 20, oF 21, oF 22, oF 23] [(26, .bool true)] [26] (by kernel_rfl) ?_
  refine ops_nil ?_
  refine fin_then ?_
  refine st_true rfl ?_
  refine st_seq ?_
  refine st_region [oF 0] (by rfl) ?_
  refine oR [oF 0] [(2, vI 3)] [2] (by kernel_rfl) ?_
  refine ops_nil ?_
  refine fin_then ?_
  refine st_ret ?_
  refine fin_ret_then ?_
  have hq_ := Option.some.inj hp
  have hr0_ := hq_
  subst hr0_
  refine fin_ret [.tmp 2] [vI 3] rfl rfl (fun w_ hM => (.tmp rfl .nil)) (fun w_ hM => ?_)
  exact ⟨trivial, rfl, hM.pick 2 [1] (by kernel_rfl) (by decide) rfl⟩
 · --
  have hp := cnd_f hc4 hp
  refine oR [oF 5] [(8, vP b1 1), (7, .bool false), (1, vP b1 0)] [8, 7, 1] (by kernel_rfl) ?_
  refine ops_mem (d := some 9) (an := [.v (vI f_1)]) (evs := [.load ⟨b1, 1, none⟩ (vI f_1)]) (v := vI f_1) (M' := Mem w0 (.blk b1 [.string f_0, vI f_1, vI f_2] 23 :: Fz F W :: cs)) ⟨by kernel_rfl⟩ (fun w_ hM hS => ⟨w_, ⟨hM.cell 0 rfl rfl, rfl⟩, hM, trivial⟩) ?_
  refine oR [oF 7, oF 8, oF 9] [(12, .bool (decide (f_1 < 1))), (1, vP b1 0)] [12, 1] (by kernel_rfl) ?_
  refine ops_bool (t := decide (f_1 < 1)) (l1 := [(12, .bool true), (1, vP b1 0)]) (l2 := [(12, .bool false), (1, vP b1 0)]) (fun h => by rw [h]) (fun h => by rw [h]) (fun hc5 => ?_) (fun hc5 => ?_)
  · --
   have hp := cnd_t hc5 hp
   refine oR [oF 10, oF 11, oF 12, oF 13, oF 14, oF 15, oF 16, oF 17, oF 18, oF 19, oF 20, oF 21, oF 22, oF 23] [(26, .bool true)] [26] (by kernel_rfl) ?_
   refine ops_nil ?_
   refine fin_then ?_
   refine st_true rfl ?_
   refine st_seq ?_
   refine st_region [oF 0] (by rfl) ?_
   refine oR [oF 0] [(2, vI 3)] [2] (by kernel_rfl) ?_
   refine ops_nil ?_
   refine fin_then ?_
   refine st_ret ?_
   refine fin_ret_then ?_
   have hq_ := Option.some.inj hp
   have hr0_ := hq_
   subst hr0_
   refine fin_ret [.tmp 2] [vI 3] rfl rfl (fun w_ hM => (.tmp rfl .nil)) (fun w_ hM => ?_)
   exact ⟨trivial, rfl, hM.pick 2 [1] (by kernel_rfl) (by decide) rfl⟩
  · --
   have hp := cnd_f hc5 hp
   refine oR [oF 10] [(13, vP b1 1), (12, .bool false), (1, vP b1 0)] [13, 12, 1] (by kernel_rfl) ?_
   refine ops_mem (d := some 14) (an := [.v (vI f_1)]) (evs := [.load ⟨b1, 1, none⟩ (vI f_1)]) (v := vI f_1) (M' := Mem w0 (.blk b1 [.string f_0, vI f_1, vI f_2] 23 :: Fz F W :: cs)) ⟨by kernel_rfl⟩ (fun w_ hM hS => ⟨w_, ⟨hM.cell 0 rfl rfl, rfl⟩, hM, trivial⟩) ?_
   refine oR [oF 12, oF 13, oF 14] [(17, .bool (decide (32 < f_1))), (1, vP b1 0)] [17, 1] (by kernel_rfl) ?_
   refine ops_bool (t := decide (32 < f_1)) (l1 := [(17, .bool true), (1, vP b1 0)]) (l2 := [(17, .bool false), (1, vP b1 0)]) (fun h => by rw [h]) (fun h => by rw [h]) (fun hc6 => ?_) (fun hc6 => ?_)
   · --
    have hp := cnd_t hc6 hp
    refine oR [oF 15, oF 16, oF 17, oF 18, oF 19, oF 20, oF 21, oF 22, oF 23] [(26, .bool true)] [26] (by kernel_rfl) ?_
    refine ops_nil ?_
    refine fin_then ?_
    refine st_true rfl ?_
    refine st_seq ?_
    refine st_region [oF 0] (by rfl) ?_
    refine oR [oF 0] [(2, vI 3)] [2] (by kernel_rfl) ?_
    refine ops_nil ?_
    refine fin_then ?_
    refine st_ret ?_
    refine fin_ret_then ?_
    have hq_ := Option.some.inj hp
    have hr0_ := hq_
    subst hr0_
    refine fin_ret [.tmp 2] [vI 3] rfl rfl (fun w_ hM => (.tmp rfl .nil)) (fun w_ hM => ?_)
    exact ⟨trivial, rfl, hM.pick 2 [1] (by kernel_rfl) (by decide) rfl⟩
   · --
    have hp := cnd_f hc6 hp
    refine oR [oF 15] [(18, vP b1 2), (17, .bool false), (1, vP b1 0)] [18, 17, 1] (by kernel_rfl) ?_
    refine ops_mem (d := some 19) (an := [.v (vI f_2)]) (evs := [.load ⟨b1, 2, none⟩ (vI f_2)]) (v := vI f_2) (M' := Mem w0 (.blk b1 [.string f_0, vI f_1, vI f_2] 23 :: Fz F W :: cs)) ⟨by kernel_rfl⟩ (fun w_ hM hS => ⟨w_, ⟨hM.cell 0 rfl rfl, rfl⟩, hM, trivial⟩) ?_
    refine oR [oF 17, oF 18, oF 19] [(22, .bool (decide (f_2 < (-4294967296)))), (1, vP b1 0)] [22, 1] (by kernel_rfl) ?_
    refine ops_bool (t := decide (f_2 < (-4294967296))) (l1 := [(22, .bool true), (1, vP b1 0)]) (l2 := [(22, .bool false), (1, vP b1 0)]) (fun h => by rw [h]) (fun h => by rw [h]) (fun hc7 => ?_) (fun hc7 => ?_)
    · --
     have hp := cnd_t hc7 hp
     refine oR [oF 20, oF 21, oF 22, oF 23] [(26, .bool true)] [26] (by kernel_rfl) ?_
     refine ops_nil ?_
     refine fin_then ?_
     refine st_true rfl ?_
     refine st_seq ?_
     refine st_region [oF 0] (by rfl) ?_
     refine oR [oF 0] [(2, vI 3)] [2] (by kernel_rfl) ?_
     refine ops_nil ?_
     refine fin_then ?_
     refine st_ret ?_
     refine fin_ret_then ?_
     have hq_ := Option.some.inj hp
     have hr0_ := hq_
     subst hr0_
     refine fin_ret [.tmp 2] [vI 3] rfl rfl (fun w_ hM => (.tmp rfl .nil)) (fun w_ hM => ?_)
     exact ⟨trivial, rfl, hM.pick 2 [1] (by kernel_rfl) (by decide) rfl⟩
    · --
     have hp := cnd_f hc7 hp
     refine oR [oF 20] [(23, vP b1 2), (22, .bool false)] [23, 22] (by kernel_rfl) ?_
     refine ops_mem (d := some 24) (an := [.v (vI f_2)]) (evs := [.load ⟨b1, 2, none⟩ (vI f_2)]) (v := vI f_2) (M' := Mem w0 (.blk b1 [.string f_0, vI f_1, vI f_2] 23 :: Fz F W :: cs)) ⟨by kernel_rfl⟩ (fun w_ hM hS => ⟨w_, ⟨hM.cell 0 rfl rfl, rfl⟩, hM, trivial⟩) ?_
     refine oR [oF 22, oF 23] [(26, .bool (decide (4294967296 < f_2)))] [26] (by kernel_rfl) ?_
     refine ops_nil ?_
     refine fin_then ?_
     refine st_if (b := decide (4294967296 < f_2)) rfl (fun hc8 => ?_) (fun hc8 => ?_)
     · --
      have hp := cnd_t hc8 hp
      refine st_seq ?_
      refine st_region [oF 0] (by rfl) ?_
      refine oR [oF 0] [(2, vI 3)] [2] (by kernel_rfl) ?_
      refine ops_nil ?_
      refine fin_then ?_
      refine st_ret ?_
      refine fin_ret_then ?_
      have hq_ := Option.some.inj hp
      have hr0_ := hq_
      subst hr0_
      refine fin_ret [.tmp 2] [vI 3] rfl rfl (fun w_ hM => (.tmp rfl .nil)) (fun w_ hM => ?_)
      exact ⟨trivial, rfl, hM.pick 2 [1] (by kernel_rfl) (by decide) rfl⟩
     · --
      have hp := cnd_f hc8 hp
      refine st_skip ?_
      refine fin_then ?_
      refine st_seq ?_
      refine st_region [oF 0] (by rfl) ?_
      refine oR [oF 0] [(2, vI 0)] [2] (by kernel_rfl) ?_
      refine ops_nil ?_
      refine fin_then ?_
      refine st_ret ?_
      have hq_ := Option.some.inj hp
      have hr0_ := hq_
      subst hr0_
      refine fin_ret [.tmp 2] [vI 0] rfl rfl (fun w_ hM => (.tmp rfl .nil)) (fun w_ hM => ?_)
      exact ⟨trivial, rfl, hM.pick 2 [1] (by kernel_rfl) (by decide) rfl⟩
set_option maxHeartbeats 4000000 in
set_option maxRecDepth 100000 in
theorem kind_One_ok (w0 w : World) (cs : List Chunk) (F : Nat → Prop) (W : World) (k_0 : ByteArray) (A_k_1 : Option Addr) (c_k_1 : Nat) (k_1 : List api_Field) (hM0 : Mem w0 (Fz F W :: cs) w) (h_k_1 : RdS R_api_Field F W A_k_1 c_k_1 k_1) (i9001 : Int) (hp : kind_One k_0 k_1 = some i9001) : Calls Tryd.prog 20 #[.agg #[.string k_0, .slice A_k_1 k_1.length c_k_1]] w fun e w' => (True) ∧ e = .returned (vI i9001) ∧ Mem w0 (Fz F W :: cs) w' := by
 unfold kind_One at hp
 refine sx_calls Tryd.func20 rfl (n := 45) (by kernel_rfl) (l := [(0, .agg #[.string k_0, .slice A_k_1 k_1.length c_k_1])]) rfl (by rfl) hM0 ?_
 refine st_seq ?_
 refine st_region [oF 0, oF 1] (by rfl) ?_
 refine ops_new (d := some 1) (o := .cells #[.string k_0, .slice A_k_1 k_1.length c_k_1] 27) (v := fun b1 => vP b1 0) (M' := fun b1 => Mem w0 (.blk b1 [.string k_0, .slice A_k_1 k_1.length c_k_1] 27 :: Fz F W :: cs)) (fun b1 => ⟨by kernel_rfl⟩) (fun w_ hM hS => ⟨hM.blk [.string k_0, .slice A_k_1 k_1.length c_k_1] 27, trivial⟩) (fun b1 => ?_)
 refine oR [oF 1] [(1, vP b1 0)] [1] (by kernel_rfl) ?_
 refine ops_nil ?_
 refine fin_then ?_
 refine st_seq ?_
 refine st_seq ?_
 refine st_region [oF 0, oF 1, oF 2, oF 3] (by rfl) ?_
 refine oR [oF 0] [(8, vP b1 0), (1, vP b1 0)] [8, 1] (by kernel_rfl) ?_
 refine ops_mem (d := some 9) (an := [.v (.string k_0)]) (evs := [.load ⟨b1, 0, none⟩ (.string k_0)]) (v := .string k_0) (M' := Mem w0 (.blk b1 [.string k_0, .slice A_k_1 k_1.length c_k_1] 27 :: Fz F W :: cs)) ⟨by kernel_rfl⟩ (fun w_ hM hS => ⟨w_, ⟨hM.cell 0 rfl rfl, rfl⟩, hM, trivial⟩) ?_
 refine oR [] [(9, .string k_0), (1, vP b1 0)] [9, 1] (by kernel_rfl) ?_
 obtain ⟨x2, hv3, hp⟩ := obind hp
 refine ops_callI (σ := Unit) (d := some 10) (f := 18) (args := #[.string k_0]) (v := (fun _ => .bool x2)) (I := (fun _ => True)) (M' := (fun _ => Mem w0 (.blk b1 [.string k_0, .slice A_k_1 k_1.length c_k_1] 27 :: Fz F W :: cs))) ⟨by kernel_rfl⟩ (fun w_ hM hS => (kind_Name_ok w0 w_ (.blk b1 [.string k_0, .slice A_k_1 k_1.length c_k_1] 27 :: cs) F W k_0 (hM.pick 2 [1, 0] (by kernel_rfl) (by decide) rfl)  x2 hv3).mono (by rintro e w' ⟨-, rfl, h'⟩; have h' : Mem w0 (.blk b1 [.string k_0, .slice A_k_1 k_1.length c_k_1] 27 :: Fz F W :: cs) w' := (h'.pick 2 [1, 0] (by kernel_rfl) (by decide) rfl); exact ⟨(), trivial, rfl, h', trivial⟩)) ?_
 rintro _ -
 refine ops_conv (l' := [(10, .bool x2), (9, .string k_0), (1, vP b1 0)]) (M' := Mem w0 (.blk b1 [.string k_0, .slice A_k_1 k_1.length c_k_1] 27 :: Fz F W :: cs)) rfl (fun _ h => h) ?_
 refine oR [oF 3] [(11, .bool (!x2)), (1, vP b1 0)] [11, 1] (by kernel_rfl) ?_
 refine ops_nil ?_
 refine fin_then ?_
 refine st_if (b := !x2) rfl (fun hc4 => ?_) (fun hc4 => ?_)
 · --
  have hp := cnd_t hc4 hp
  refine st_seq ?_
  refine st_region [oF 0] (by rfl) ?_
  refine oR [oF 0] [(2, vI 3)] [2] (by kernel_rfl) ?_
  refine ops_nil ?_
  refine fin_then ?_
  refine st_ret ?_
  refine fin_ret_then ?_
  have hq_ := Option.some.inj hp
  have hr0_ := hq_
  subst hr0_
  refine fin_ret [.tmp 2] [vI 3] rfl rfl (fun w_ hM => (.tmp rfl .nil)) (fun w_ hM => ?_)
  exact ⟨trivial, rfl, hM.pick 2 [1] (by kernel_rfl) (by decide) rfl⟩
 · --
  have hp := cnd_f hc4 hp
  refine st_skip ?_
  refine fin_then ?_
  refine st_seq ?_
  refine st_seq ?_
  refine st_region [oF 0, oF 1, oF 2, oF 3] (by rfl) ?_
  refine oR [oF 0] [(12, vP b1 1), (1, vP b1 0)] [12, 1] (by kernel_rfl) ?_
  refine ops_mem (d := some 13) (an := [.v (.slice A_k_1 k_1.length c_k_1)]) (evs := [.load ⟨b1, 1, none⟩ (.slice A_k_1 k_1.length c_k_1)]) (v := .slice A_k_1 k_1.length c_k_1) (M' := Mem w0 (.blk b1 [.string k_0, .slice A_k_1 k_1.length c_k_1] 27 :: Fz F W :: cs)) ⟨by kernel_rfl⟩ (fun w_ hM hS => ⟨w_, ⟨hM.cell 0 rfl rfl, rfl⟩, hM, trivial⟩) ?_
  refine oR [oF 2, oF 3] [(15, .bool (decide (8 < (k_1.length : Int)))), (1, vP b1 0)] [15, 1] (by kernel_rfl) ?_
  refine ops_nil ?_
  refine fin_then ?_
  refine st_if (b := decide (8 < (k_1.length : Int))) rfl (fun hc5 => ?_) (fun hc5 => ?_)
  · --
   have hp := cnd_t hc5 hp
   refine st_seq ?_
   refine st_region [oF 0] (by rfl) ?_
   refine oR [oF 0] [(2, vI 2)] [2] (by kernel_rfl) ?_
   refine ops_nil ?_
   refine fin_then ?_
   refine st_ret ?_
   refine fin_ret_then ?_
   have hq_ := Option.some.inj hp
   have hr0_ := hq_
   subst hr0_
   refine fin_ret [.tmp 2] [vI 2] rfl rfl (fun w_ hM => (.tmp rfl .nil)) (fun w_ hM => ?_)
   exact ⟨trivial, rfl, hM.pick 2 [1] (by kernel_rfl) (by decide) rfl⟩
  · --
   have hp := cnd_f hc5 hp
   refine st_skip ?_
   refine fin_then ?_
   refine st_join1 (σ := Unit) (L := fun _ => []) (N := fun _ => Mem w0 (Fz F W :: cs)) (I := fun _ => (kind_One_j1 = some i9001)) ?_ ?_
   · --
    rintro _ hp
    refine st_conv (l' := []) (M' := Mem w0 (Fz F W :: cs)) rfl (fun _ h => h) ?_
    unfold kind_One_j1 at hp
    refine st_seq ?_
    refine st_region [oF 0] (by rfl) ?_
    refine oR [oF 0] [(2, vI 0)] [2] (by kernel_rfl) ?_
    refine ops_nil ?_
    refine fin_then ?_
    refine st_ret ?_
    have hq_ := Option.some.inj hp
    have hr0_ := hq_
    subst hr0_
    refine fin_ret [.tmp 2] [vI 0] rfl rfl (fun w_ hM => (.tmp rfl .nil)) (fun w_ hM => ?_)
    exact ⟨trivial, rfl, hM⟩
   · --
    intro HJ1
    refine st_seq ?_
    refine st_seq ?_
    refine st_region [oF 0, oF 1, oF 2, oF 3] (by rfl) ?_
    refine oR [oF 0] [(16, vP b1 1), (1, vP b1 0)] [16, 1] (by kernel_rfl) ?_
    refine ops_mem (d := some 17) (an := [.v (.slice A_k_1 k_1.length c_k_1)]) (evs := [.load ⟨b1, 1, none⟩ (.slice A_k_1 k_1.length c_k_1)]) (v := .slice A_k_1 k_1.length c_k_1) (M' := Mem w0 (.blk b1 [.string k_0, .slice A_k_1 k_1.length c_k_1] 27 :: Fz F W :: cs)) ⟨by kernel_rfl⟩ (fun w_ hM hS => ⟨w_, ⟨hM.cell 0 rfl rfl, rfl⟩, hM, trivial⟩) ?_
    refine oR [oF 2, oF 3] [(19, vI 0), (18, vI (k_1.length : Int)), (17, .slice A_k_1 k_1.length c_k_1), (1, vP b1 0)] [19, 18, 17, 1] (by kernel_rfl) ?_
    refine ops_nil ?_
    refine fin_then ?_
    refine st_block ?_
    obtain ⟨r2, hl2, hk2⟩ := obind hp
    refine st_loopP (σ := Int) (ρ := (Int ⊕ Unit)) (γ := Unit) hl2 () (fun s_ g_ => match s_, g_ with | i6, _ => [(1, vP b1 0), (17, .slice A_k_1 k_1.length c_k_1), (18, vI (k_1.length : Int)), (19, vI i6)]) (fun s_ g_ => match s_, g_ with | i6, _ => Mem w0 (.blk b1 [.string k_0, .slice A_k_1 k_1.length c_k_1] 27 :: Fz F W :: cs)) (fun s_ g_ => match s_, g_ with | i6, _ => True) trivial (look_has ⟨rfl, rfl, rfl, rfl, trivial⟩) (fun w_ hM => hM) ?_
    rintro i6 _ o2 - hs_ hd2
    have hp : (kind_One_l2 k_1) i6 = some o2 := hs_
    clear hs_
    unfold kind_One_l2 at hp
    refine st_conv (l' := [(1, vP b1 0), (17, .slice A_k_1 k_1.length c_k_1), (18, vI (k_1.length : Int)), (19, vI i6)]) (M' := Mem w0 (.blk b1 [.string k_0, .slice A_k_1 k_1.length c_k_1] 27 :: Fz F W :: cs)) rfl (fun _ h => h) ?_
    refine st_seq ?_
    refine st_region [oF 0] (by rfl) ?_
    refine oR [oF 0] [(20, .bool (decide (i6 < (k_1.length : Int)))), (1, vP b1 0), (17, .slice A_k_1 k_1.length c_k_1), (18, vI (k_1.length : Int)), (19, vI i6)] [20, 1, 17, 18, 19] (by kernel_rfl) ?_
    refine ops_nil ?_
    refine fin_then ?_
    refine st_seq ?_
    refine st_if (b := decide (i6 < (k_1.length : Int))) rfl (fun hc7 => ?_) (fun hc7 => ?_)
    · --
     have hp := cnd_t hc7 hp
     refine st_skip ?_
     refine fin_then ?_
     refine st_join1 (σ := Unit) (L := fun _ => [(1, vP b1 0), (17, .slice A_k_1 k_1.length c_k_1), (18, vI (k_1.length : Int)), (19, vI i6)]) (N := fun _ => Mem w0 (.blk b1 [.string k_0, .slice A_k_1 k_1.length c_k_1] 27 :: Fz F W :: cs)) (I := fun _ => ((kind_One_j3 i6) = some o2)) ?_ ?_
     · --
      rintro _ hp
      refine st_conv (l' := [(1, vP b1 0), (17, .slice A_k_1 k_1.length c_k_1), (18, vI (k_1.length : Int)), (19, vI i6)]) (M' := Mem w0 (.blk b1 [.string k_0, .slice A_k_1 k_1.length c_k_1] 27 :: Fz F W :: cs)) rfl (fun _ h => h) ?_
      unfold kind_One_j3 at hp
      refine st_region [oF 0, oF 1] (by rfl) ?_
      refine oR [oF 0, oF 1] [(19, vI (IntKind.i64.wrap (i6 + 1))), (1, vP b1 0), (17, .slice A_k_1 k_1.length c_k_1), (18, vI (k_1.length : Int))] [19, 1, 17, 18] (by kernel_rfl) ?_
      refine ops_nil ?_
      exact fin_again (IntKind.i64.wrap (i6 + 1)) () (Option.some.inj hp).symm trivial (look_has ⟨rfl, rfl, rfl, rfl, trivial⟩) (fun w_ hM => hM)
     · --
      intro HJ3
      refine st_seq ?_
      refine st_block ?_
      refine st_seq ?_
      refine st_region [oF 0, oF 1, oF 2, oF 3, oF 4, oF 5] (by rfl) ?_
      refine oR [oF 0] [(21, vI i6), (1, vP b1 0), (17, .slice A_k_1 k_1.length c_k_1), (18, vI (k_1.length : Int)), (19, vI i6)] [21, 1, 17, 18, 19] (by kernel_rfl) ?_
      obtain ⟨x8, hv9, hp⟩ := obind hp
      obtain ⟨m10, hm11, hx12⟩ := idx_some hv9
      have hl15 := (List.getElem?_eq_some_iff.1 hx12).1
      obtain ⟨ad16, vs13, hA17, hr14, hq18⟩ := RdS.el h_k_1 hx12
      obtain rfl := dec_api_Field hr14
      refine ops_val (op := (Go.Op.indexAddr 25 (Go.Operand.tmp 17) (Go.Operand.tmp 19))) (d := some 22) (v := .pointer (some (ad16.add (m10 * 3)))) ⟨by kernel_rfl⟩ (run_indexA hA17 Tryd.underlying25 (z := 3) (by kernel_rfl) rfl rfl hm11 hl15) ?_
      refine ops_mem (d := some 23) (an := [.v (.string x8.Name), .v (vI x8.Bits), .v (vI x8.Low)]) (evs := [.load (ad16.add (m10 * 3)) (.string x8.Name), .load ((ad16.add (m10 * 3)).add 1) (vI x8.Bits), .load ((ad16.add (m10 * 3)).add 2) (vI x8.Low)]) (v := .agg #[.string x8.Name, vI x8.Bits, vI x8.Low]) (M' := Mem w0 (.blk b1 [.string k_0, .slice A_k_1 k_1.length c_k_1] 27 :: Fz F W :: cs)) ⟨by kernel_rfl⟩ (fun w_ hM hS => ⟨w_, ⟨hM.elcell 1 rfl hq18 0 rfl, hM.elcell 1 rfl hq18 1 rfl, hM.elcell 1 rfl hq18 2 rfl, rfl⟩, hM, trivial⟩) ?_
      refine oR [] [(23, .agg #[.string x8.Name, vI x8.Bits, vI x8.Low]), (21, vI i6), (1, vP b1 0), (17, .slice A_k_1 k_1.length c_k_1), (18, vI (k_1.length : Int)), (19, vI i6)] [23, 21, 1, 17, 18, 19] (by kernel_rfl) ?_
      refine ops_new (d := some 4) (o := .cells #[.string ByteArray.empty, vI 0, vI 0] 23) (v := fun b19 => vP b19 0) (M' := fun b19 => Mem w0 (.blk b19 [.string ByteArray.empty, vI 0, vI 0] 23 :: .blk b1 [.string k_0, .slice A_k_1 k_1.length c_k_1] 27 :: Fz F W :: cs)) (fun b19 => ⟨by kernel_rfl⟩) (fun w_ hM hS => ⟨hM.blk [.string ByteArray.empty, vI 0, vI 0] 23, trivial⟩) (fun b19 => ?_)
      refine oR [oF 4] [(3, vI i6), (4, vP b19 0), (23, .agg #[.string x8.Name, vI x8.Bits, vI x8.Low]), (1, vP b1 0), (17, .slice A_k_1 k_1.length c_k_1), (18, vI (k_1.length : Int)), (19, vI i6)] [3, 4, 23, 1, 17, 18, 19] (by kernel_rfl) ?_
      refine ops_store (an := []) (evs := [.store ⟨b19, 0, none⟩ (.string x8.Name), .store ⟨b19, 1, none⟩ (vI x8.Bits), .store ⟨b19, 2, none⟩ (vI x8.Low)]) (M' := Mem w0 (.blk b19 [.string x8.Name, vI x8.Bits, vI x8.Low] 23 :: .blk b1 [.string k_0, .slice A_k_1 k_1.length c_k_1] 27 :: Fz F W :: cs)) ⟨by kernel_rfl⟩ (fun w_ hM hS => let ⟨w', he, h'⟩ := hM.evs_stores [.string x8.Name, vI x8.Bits, vI x8.Low] 0 rfl 0 (Nat.le_of_ble_eq_true rfl); ⟨w', he, h', trivial⟩) ?_
      refine oR [] [(3, vI i6), (4, vP b19 0), (1, vP b1 0), (17, .slice A_k_1 k_1.length c_k_1), (18, vI (k_1.length : Int)), (19, vI i6)] [3, 4, 1, 17, 18, 19] (by kernel_rfl) ?_
      refine ops_nil ?_
      refine fin_then ?_
      refine st_seq ?_
      refine st_seq ?_
      refine st_region [oF 0, oF 1, oF 2] (by rfl) ?_
      refine ops_mem (d := some 24) (an := [.v (.string x8.Name), .v (vI x8.Bits), .v (vI x8.Low)]) (evs := [.load ⟨b19, 0, none⟩ (.string x8.Name), .load ⟨b19, 1, none⟩ (vI x8.Bits), .load ⟨b19, 2, none⟩ (vI x8.Low)]) (v := .agg #[.string x8.Name, vI x8.Bits, vI x8.Low]) (M' := Mem w0 (.blk b19 [.string x8.Name, vI x8.Bits, vI x8.Low] 23 :: .blk b1 [.string k_0, .slice A_k_1 k_1.length c_k_1] 27 :: Fz F W :: cs)) ⟨by kernel_rfl⟩ (fun w_ hM hS => ⟨w_, ⟨hM.cell 0 rfl rfl, hM.cell 0 rfl rfl, hM.cell 0 rfl rfl, rfl⟩, hM, trivial⟩) ?_
      obtain ⟨x20, hv21, hp⟩ := obind hp
      refine ops_callI (σ := Unit) (d := some 25) (f := 63) (args := #[.agg #[.string x8.Name, vI x8.Bits, vI x8.Low]]) (v := (fun _ => vI x20)) (I := (fun _ => True)) (M' := (fun _ => Mem w0 (.blk b19 [.string x8.Name, vI x8.Bits, vI x8.Low] 23 :: .blk b1 [.string k_0, .slice A_k_1 k_1.length c_k_1] 27 :: Fz F W :: cs))) ⟨by kernel_rfl⟩ (fun w_ hM hS => (kind_field_ok w0 w_ (.blk b19 [.string x8.Name, vI x8.Bits, vI x8.Low] 23 :: .blk b1 [.string k_0, .slice A_k_1 k_1.length c_k_1] 27 :: cs) F W x8.Name x8.Bits x8.Low (hM.pick 3 [2, 0, 1] (by kernel_rfl) (by decide) rfl)  x20 hv21).mono (by rintro e w' ⟨-, rfl, h'⟩; have h' : Mem w0 (.blk b19 [.string x8.Name, vI x8.Bits, vI x8.Low] 23 :: .blk b1 [.string k_0, .slice A_k_1 k_1.length c_k_1] 27 :: Fz F W :: cs) w' := (h'.pick 3 [1, 2, 0] (by kernel_rfl) (by decide) rfl); exact ⟨(), trivial, rfl, h', trivial⟩)) ?_
      rintro _ -
      refine ops_conv (l' := [(25, vI x20), (24, .agg #[.string x8.Name, vI x8.Bits, vI x8.Low]), (3, vI i6), (4, vP b19 0), (1, vP b1 0), (17, .slice A_k_1 k_1.length c_k_1), (18, vI (k_1.length : Int)), (19, vI i6)]) (M' := Mem w0 (.blk b19 [.string x8.Name, vI x8.Bits, vI x8.Low] 23 :: .blk b1 [.string k_0, .slice A_k_1 k_1.length c_k_1] 27 :: Fz F W :: cs)) rfl (fun _ h => h) ?_
      refine oR [oF 2] [(5, vI x20), (3, vI i6), (4, vP b19 0), (1, vP b1 0), (17, .slice A_k_1 k_1.length c_k_1), (18, vI (k_1.length : Int)), (19, vI i6)] [5, 3, 4, 1, 17, 18, 19] (by kernel_rfl) ?_
      refine ops_nil ?_
      refine fin_then ?_
      refine st_seq ?_
      refine st_region [oF 0, oF 1] (by rfl) ?_
      refine oR [oF 0, oF 1] [(27, .bool (!(x20 == 0))), (5, vI x20), (3, vI i6), (4, vP b19 0), (1, vP b1 0), (17, .slice A_k_1 k_1.length c_k_1), (18, vI (k_1.length : Int)), (19, vI i6)] [27, 5, 3, 4, 1, 17, 18, 19] (by kernel_rfl) ?_
      refine ops_nil ?_
      refine fin_then ?_
      refine st_if (b := !(x20 == 0)) rfl (fun hc22 => ?_) (fun hc22 => ?_)
      · --
       have hp := cnd_t hc22 hp
       refine st_seq ?_
       refine st_region [oF 0, oF 1] (by rfl) ?_
       refine oR [oF 0, oF 1] [(2, vI x20)] [2] (by kernel_rfl) ?_
       refine ops_nil ?_
       refine fin_then ?_
       refine st_ret ?_
       refine fin_ret_then ?_
       refine fin_ret_block ?_
       refine fin_ret_then ?_
       refine fin_ret_then ?_
       refine fin_ret_block ?_
       refine fin_ret_then ?_
       obtain hq_ := Option.some.inj hp
       subst hq_
       obtain hq_ := hd2 _ rfl
       subst hq_
       have hp : some x20 = some i9001 := hk2
       have hq_ := Option.some.inj hp
       have hr0_ := hq_
       subst hr0_
       refine fin_ret [.tmp 2] [vI x20] rfl rfl (fun w_ hM => (.tmp rfl .nil)) (fun w_ hM => ?_)
       exact ⟨trivial, rfl, hM.pick 3 [2] (by kernel_rfl) (by decide) rfl⟩
      · --
       have hp := cnd_f hc22 hp
       refine st_skip ?_
       refine fin_then ?_
       refine st_seq ?_
       refine st_region [oF 0, oF 1, oF 2, oF 3, oF 4, oF 5] (by rfl) ?_
       refine oR [oF 0] [(29, vP b1 1), (3, vI i6), (4, vP b19 0), (1, vP b1 0), (17, .slice A_k_1 k_1.length c_k_1), (18, vI (k_1.length : Int)), (19, vI i6)] [29, 3, 4, 1, 17, 18, 19] (by kernel_rfl) ?_
       refine ops_mem (d := some 30) (an := [.v (.slice A_k_1 k_1.length c_k_1)]) (evs := [.load ⟨b1, 1, none⟩ (.slice A_k_1 k_1.length c_k_1)]) (v := .slice A_k_1 k_1.length c_k_1) (M' := Mem w0 (.blk b19 [.string x8.Name, vI x8.Bits, vI x8.Low] 23 :: .blk b1 [.string k_0, .slice A_k_1 k_1.length c_k_1] 27 :: Fz F W :: cs)) ⟨by kernel_rfl⟩ (fun w_ hM hS => ⟨w_, ⟨hM.cell 1 rfl rfl, rfl⟩, hM, trivial⟩) ?_
       refine oR [oF 2] [(31, vI i6), (30, .slice A_k_1 k_1.length c_k_1), (4, vP b19 0), (1, vP b1 0), (17, .slice A_k_1 k_1.length c_k_1), (18, vI (k_1.length : Int)), (19, vI i6)] [31, 30, 4, 1, 17, 18, 19] (by kernel_rfl) ?_
       obtain ⟨l23, hv24, hp⟩ := obind hp
       obtain ⟨m25, n26, hm27, hn28, h29, h30, he31⟩ := cut_some hv24
       have hl32 := cut_len he31 h29 h30
       have h33 : RdS R_api_Field F W A_k_1 c_k_1 l23 := by have h_ := h_k_1.cut h29 h30; rw [← he31] at h_; rw [show m25 = 0 by omega, cutA_zero, Nat.sub_zero] at h_; exact h_
       refine ops_val (op := (Go.Op.slice 25 (Go.Operand.tmp 30) none (some (Go.Operand.tmp 31)) none)) (d := some 32) (v := .slice A_k_1 l23.length c_k_1) ⟨by kernel_rfl⟩ (run_cutH0 (by kernel_rfl) (z := 3) (by kernel_rfl) rfl rfl hn28 (Nat.le_trans h30 h_k_1.cap) (by omega)) ?_
       refine oR [oF 4, oF 5] [(34, vI 0), (33, vI (l23.length : Int)), (32, .slice A_k_1 l23.length c_k_1), (4, vP b19 0), (1, vP b1 0), (17, .slice A_k_1 k_1.length c_k_1), (18, vI (k_1.length : Int)), (19, vI i6)] [34, 33, 32, 4, 1, 17, 18, 19] (by kernel_rfl) ?_
       refine ops_nil ?_
       refine fin_then ?_
       refine st_block ?_
       obtain ⟨r4, hl4, hk4⟩ := obind hp
       refine st_loopP (σ := Int) (ρ := (Int ⊕ Unit)) (γ := Unit) hl4 () (fun s_ g_ => match s_, g_ with | i34, _ => [(1, vP b1 0), (4, vP b19 0), (17, .slice A_k_1 k_1.length c_k_1), (18, vI (k_1.length : Int)), (19, vI i6), (32, .slice A_k_1 l23.length c_k_1), (33, vI (l23.length : Int)), (34, vI i34)]) (fun s_ g_ => match s_, g_ with | i34, _ => Mem w0 (.blk b1 [.string k_0, .slice A_k_1 k_1.length c_k_1] 27 :: .blk b19 [.string x8.Name, vI x8.Bits, vI x8.Low] 23 :: Fz F W :: cs)) (fun s_ g_ => match s_, g_ with | i34, _ => True) trivial (look_has ⟨rfl, rfl, rfl, rfl, rfl, rfl, rfl, rfl, trivial⟩) (fun w_ hM => hM.pick 3 [1, 0, 2] (by kernel_rfl) (by decide) rfl) ?_
       rintro i34 _ o4 - hs_ hd4
       have hp : (kind_One_l4 l23 x8) i34 = some o4 := hs_
       clear hs_
       unfold kind_One_l4 at hp
       refine st_conv (l' := [(1, vP b1 0), (4, vP b19 0), (17, .slice A_k_1 k_1.length c_k_1), (18, vI (k_1.length : Int)), (19, vI i6), (32, .slice A_k_1 l23.length c_k_1), (33, vI (l23.length : Int)), (34, vI i34)]) (M' := Mem w0 (.blk b1 [.string k_0, .slice A_k_1 k_1.length c_k_1] 27 :: .blk b19 [.string x8.Name, vI x8.Bits, vI x8.Low] 23 :: Fz F W :: cs)) rfl (fun _ h => h) ?_
       refine st_seq ?_
       refine st_region [oF 0] (by rfl) ?_
       refine oR [oF 0] [(35, .bool (decide (i34 < (l23.length : Int)))), (1, vP b1 0), (4, vP b19 0), (17, .slice A_k_1 k_1.length c_k_1), (18, vI (k_1.length : Int)), (19, vI i6), (32, .slice A_k_1 l23.length c_k_1), (33, vI (l23.length : Int)), (34, vI i34)] [35, 1, 4, 17, 18, 19, 32, 33, 34] (by kernel_rfl) ?_
       refine ops_nil ?_
       refine fin_then ?_
       refine st_seq ?_
       refine st_if (b := decide (i34 < (l23.length : Int))) rfl (fun hc35 => ?_) (fun hc35 => ?_)
       · --
        have hp := cnd_t hc35 hp
        refine st_skip ?_
        refine fin_then ?_
        refine st_seq ?_
        refine st_block ?_
        refine st_seq ?_
        refine st_region [oF 0, oF 1, oF 2, oF 3] (by rfl) ?_
        refine oR [] [(1, vP b1 0), (4, vP b19 0), (17, .slice A_k_1 k_1.length c_k_1), (18, vI (k_1.length : Int)), (19, vI i6), (32, .slice A_k_1 l23.length c_k_1), (33, vI (l23.length : Int)), (34, vI i34)] [1, 4, 17, 18, 19, 32, 33, 34] (by kernel_rfl) ?_
        obtain ⟨x36, hv37, hp⟩ := obind hp
        obtain ⟨m38, hm39, hx40⟩ := idx_some hv37
        have hl43 := (List.getElem?_eq_some_iff.1 hx40).1
        obtain ⟨ad44, vs41, hA45, hr42, hq46⟩ := RdS.el h33 hx40
        obtain rfl := dec_api_Field hr42
        refine ops_val (op := (Go.Op.indexAddr 25 (Go.Operand.tmp 32) (Go.Operand.tmp 34))) (d := some 36) (v := .pointer (some (ad44.add (m38 * 3)))) ⟨by kernel_rfl⟩ (run_indexA hA45 Tryd.underlying25 (z := 3) (by kernel_rfl) rfl rfl hm39 hl43) ?_
        refine ops_mem (d := some 37) (an := [.v (.string x36.Name), .v (vI x36.Bits), .v (vI x36.Low)]) (evs := [.load (ad44.add (m38 * 3)) (.string x36.Name), .load ((ad44.add (m38 * 3)).add 1) (vI x36.Bits), .load ((ad44.add (m38 * 3)).add 2) (vI x36.Low)]) (v := .agg #[.string x36.Name, vI x36.Bits, vI x36.Low]) (M' := Mem w0 (.blk b1 [.string k_0, .slice A_k_1 k_1.length c_k_1] 27 :: .blk b19 [.string x8.Name, vI x8.Bits, vI x8.Low] 23 :: Fz F W :: cs)) ⟨by kernel_rfl⟩ (fun w_ hM hS => ⟨w_, ⟨hM.elcell 2 rfl hq46 0 rfl, hM.elcell 2 rfl hq46 1 rfl, hM.elcell 2 rfl hq46 2 rfl, rfl⟩, hM, trivial⟩) ?_
        refine oR [] [(37, .agg #[.string x36.Name, vI x36.Bits, vI x36.Low]), (1, vP b1 0), (4, vP b19 0), (17, .slice A_k_1 k_1.length c_k_1), (18, vI (k_1.length : Int)), (19, vI i6), (32, .slice A_k_1 l23.length c_k_1), (33, vI (l23.length : Int)), (34, vI i34)] [37, 1, 4, 17, 18, 19, 32, 33, 34] (by kernel_rfl) ?_
        refine ops_new (d := some 7) (o := .cells #[.string ByteArray.empty, vI 0, vI 0] 23) (v := fun b47 => vP b47 0) (M' := fun b47 => Mem w0 (.blk b47 [.string ByteArray.empty, vI 0, vI 0] 23 :: .blk b1 [.string k_0, .slice A_k_1 k_1.length c_k_1] 27 :: .blk b19 [.string x8.Name, vI x8.Bits, vI x8.Low] 23 :: Fz F W :: cs)) (fun b47 => ⟨by kernel_rfl⟩) (fun w_ hM hS => ⟨hM.blk [.string ByteArray.empty, vI 0, vI 0] 23, trivial⟩) (fun b47 => ?_)
        refine ops_store (an := []) (evs := [.store ⟨b47, 0, none⟩ (.string x36.Name), .store ⟨b47, 1, none⟩ (vI x36.Bits), .store ⟨b47, 2, none⟩ (vI x36.Low)]) (M' := Mem w0 (.blk b47 [.string x36.Name, vI x36.Bits, vI x36.Low] 23 :: .blk b1 [.string k_0, .slice A_k_1 k_1.length c_k_1] 27 :: .blk b19 [.string x8.Name, vI x8.Bits, vI x8.Low] 23 :: Fz F W :: cs)) ⟨by kernel_rfl⟩ (fun w_ hM hS => let ⟨w', he, h'⟩ := hM.evs_stores [.string x36.Name, vI x36.Bits, vI x36.Low] 0 rfl 0 (Nat.le_of_ble_eq_true rfl); ⟨w', he, h', trivial⟩) ?_
        refine oR [] [(7, vP b47 0), (1, vP b1 0), (4, vP b19 0), (17, .slice A_k_1 k_1.length c_k_1), (18, vI (k_1.length : Int)), (19, vI i6), (32, .slice A_k_1 l23.length c_k_1), (33, vI (l23.length : Int)), (34, vI i34)] [7, 1, 4, 17, 18, 19, 32, 33, 34] (by kernel_rfl) ?_
        refine ops_nil ?_
        refine fin_then ?_
        refine st_seq ?_
        refine st_region [oF 0, oF 1, oF 2, oF 3, oF 4] (by rfl) ?_
        refine oR [oF 0] [(38, vP b47 0), (1, vP b1 0), (4, vP b19 0), (17, .slice A_k_1 k_1.length c_k_1), (18, vI (k_1.length : Int)), (19, vI i6), (32, .slice A_k_1 l23.length c_k_1), (33, vI (l23.length : Int)), (34, vI i34)] [38, 1, 4, 17, 18, 19, 32, 33, 34] (by kernel_rfl) ?_
        refine ops_mem (d := some 39) (an := [.v (.string x36.Name)]) (evs := [.load ⟨b47, 0, none⟩ (.string x36.Name)]) (v := .string x36.Name) (M' := Mem w0 (.blk b47 [.string x36.Name, vI x36.Bits, vI x36.Low] 23 :: .blk b1 [.string k_0, .slice A_k_1 k_1.length c_k_1] 27 :: .blk b19 [.string x8.Name, vI x8.Bits, vI x8.Low] 23 :: Fz F W :: cs)) ⟨by kernel_rfl⟩ (fun w_ hM hS => ⟨w_, ⟨hM.cell 0 rfl rfl, rfl⟩, hM, trivial⟩) ?_
        refine oR [oF 2] [(40, vP b19 0), (39, .string x36.Name), (1, vP b1 0), (4, vP b19 0), (17, .slice A_k_1 k_1.length c_k_1), (18, vI (k_1.length : Int)), (19, vI i6), (32, .slice A_k_1 l23.length c_k_1), (33, vI (l23.length : Int)), (34, vI i34)] [40, 39, 1, 4, 17, 18, 19, 32, 33, 34] (by kernel_rfl) ?_
        refine ops_mem (d := some 41) (an := [.v (.string x8.Name)]) (evs := [.load ⟨b19, 0, none⟩ (.string x8.Name)]) (v := .string x8.Name) (M' := Mem w0 (.blk b47 [.string x36.Name, vI x36.Bits, vI x36.Low] 23 :: .blk b1 [.string k_0, .slice A_k_1 k_1.length c_k_1] 27 :: .blk b19 [.string x8.Name, vI x8.Bits, vI x8.Low] 23 :: Fz F W :: cs)) ⟨by kernel_rfl⟩ (fun w_ hM hS => ⟨w_, ⟨hM.cell 2 rfl rfl, rfl⟩, hM, trivial⟩) ?_
        refine oR [oF 4] [(42, .bool (x36.Name.toList == x8.Name.toList)), (1, vP b1 0), (4, vP b19 0), (17, .slice A_k_1 k_1.length c_k_1), (18, vI (k_1.length : Int)), (19, vI i6), (32, .slice A_k_1 l23.length c_k_1), (33, vI (l23.length : Int)), (34, vI i34)] [42, 1, 4, 17, 18, 19, 32, 33, 34] (by kernel_rfl) ?_
        refine ops_nil ?_
        refine fin_then ?_
        refine st_if (b := (x36.Name.toList == x8.Name.toList)) rfl (fun hc48 => ?_) (fun hc48 => ?_)
        · --
         have hp := cnd_t hc48 hp
         refine st_seq ?_
         refine st_region [oF 0] (by rfl) ?_
         refine oR [oF 0] [(2, vI 5)] [2] (by kernel_rfl) ?_
         refine ops_nil ?_
         refine fin_then ?_
         refine st_ret ?_
         refine fin_ret_block ?_
         refine fin_ret_then ?_
         refine fin_ret_then ?_
         refine fin_ret_block ?_
         refine fin_ret_block ?_
         refine fin_ret_then ?_
         refine fin_ret_then ?_
         refine fin_ret_block ?_
         refine fin_ret_then ?_
         obtain hq_ := Option.some.inj hp
         subst hq_
         obtain hq_ := hd4 _ rfl
         subst hq_
         have hp : some (.inr (.inl 5)) = some o2 := hk4
         obtain hq_ := Option.some.inj hp
         subst hq_
         obtain hq_ := hd2 _ rfl
         subst hq_
         have hp : some 5 = some i9001 := hk2
         have hq_ := Option.some.inj hp
         have hr0_ := hq_
         subst hr0_
         refine fin_ret [.tmp 2] [vI 5] rfl rfl (fun w_ hM => (.tmp rfl .nil)) (fun w_ hM => ?_)
         exact ⟨trivial, rfl, hM.pick 4 [3] (by kernel_rfl) (by decide) rfl⟩
        · --
         have hp := cnd_f hc48 hp
         refine st_skip ?_
         refine fin_block ?_
         refine fin_then ?_
         refine st_region [oF 0, oF 1] (by rfl) ?_
         refine oR [oF 0, oF 1] [(34, vI (IntKind.i64.wrap (i34 + 1))), (1, vP b1 0), (4, vP b19 0), (17, .slice A_k_1 k_1.length c_k_1), (18, vI (k_1.length : Int)), (19, vI i6), (32, .slice A_k_1 l23.length c_k_1), (33, vI (l23.length : Int))] [34, 1, 4, 17, 18, 19, 32, 33] (by kernel_rfl) ?_
         refine ops_nil ?_
         exact fin_again (IntKind.i64.wrap (i34 + 1)) () (Option.some.inj hp).symm trivial (look_has ⟨rfl, rfl, rfl, rfl, rfl, rfl, rfl, rfl, trivial⟩) (fun w_ hM => hM.pick 4 [1, 2, 3] (by kernel_rfl) (by decide) rfl)
       · --
        have hp := cnd_f hc35 hp
        refine st_exit ?_
        refine fin_exit_then ?_
        refine fin_exit_then ?_
        refine fin_exit ?_
        refine fin_block ?_
        obtain hq_ := Option.some.inj hp
        subst hq_
        obtain hq_ := hd4 _ rfl
        subst hq_
        have hp : (kind_One_j3 i6) = some o2 := hk4
        exact fin_join HJ3 () hp (look_has ⟨rfl, rfl, rfl, rfl, trivial⟩) (fun w_ hM => hM.pick 3 [0, 2] (by kernel_rfl) (by decide) rfl)
    · --
     have hp := cnd_f hc7 hp
     refine st_exit ?_
     refine fin_exit_then ?_
     refine fin_exit_then ?_
     refine fin_exit ?_
     obtain hq_ := Option.some.inj hp
     subst hq_
     obtain hq_ := hd2 _ rfl
     subst hq_
     have hp : kind_One_j1 = some i9001 := hk2
     exact fin_join HJ1 () hp (look_has trivial) (fun w_ hM => hM.pick 2 [1] (by kernel_rfl) (by decide) rfl)
set_option maxHeartbeats 4000000 in
set_option maxRecDepth 100000 in
theorem kind_High_ok (w0 w : World) (cs : List Chunk) (F : Nat → Prop) (W : World) (f_0 : ByteArray) (f_1 : Int) (f_2 : Int) (hM0 : Mem w0 (Fz F W :: cs) w) (i9001 : Int) (hp : kind_High f_0 f_1 f_2 = some i9001) : Calls Tryd.prog 8 #[.agg #[.string f_0, vI f_1, vI f_2]] w fun e w' => (True) ∧ e = .returned (vI i9001) ∧ Mem w0 (Fz F W :: cs) w' := by
 unfold kind_High at hp
 refine sx_calls Tryd.func8 rfl (n := 13) (by kernel_rfl) (l := [(0, .agg #[.string f_0, vI f_1, vI f_2])]) rfl (by rfl) hM0 ?_
 refine st_seq ?_
 refine st_region [oF 0, oF 1] (by rfl) ?_
 refine ops_new (d := some 1) (o := .cells #[.string f_0, vI f_1, vI f_2] 23) (v := fun b1 => vP b1 0) (M' := fun b1 => Mem w0 (.blk b1 [.string f_0, vI f_1, vI f_2] 23 :: Fz F W :: cs)) (fun b1 => ⟨by kernel_rfl⟩) (fun w_ hM hS => ⟨hM.blk [.string f_0, vI f_1, vI f_2] 23, trivial⟩) (fun b1 => ?_)
 refine oR [oF 1] [(1, vP b1 0)] [1] (by kernel_rfl) ?_
 refine ops_nil ?_
 refine fin_then ?_
 refine st_seq ?_
 refine st_seq ?_
 refine st_region [oF 0, oF 1, oF 2] (by rfl) ?_
 refine ops_mem (d := some 3) (an := [.v (.string f_0), .v (vI f_1), .v (vI f_2)]) (evs := [.load ⟨b1, 0, none⟩ (.string f_0), .load ⟨b1, 1, none⟩ (vI f_1), .load ⟨b1, 2, none⟩ (vI f_2)]) (v := .agg #[.string f_0, vI f_1, vI f_2]) (M' := Mem w0 (.blk b1 [.string f_0, vI f_1, vI f_2] 23 :: Fz F W :: cs)) ⟨by kernel_rfl⟩ (fun w_ hM hS => ⟨w_, ⟨hM.cell 0 rfl rfl, hM.cell 0 rfl rfl, hM.cell 0 rfl rfl, rfl⟩, hM, trivial⟩) ?_
 obtain ⟨x2, hv3, hp⟩ := obind hp
 refine ops_callI (σ := Unit) (d := some 4) (f := 63) (args := #[.agg #[.string f_0, vI f_1, vI f_2]]) (v := (fun _ => vI x2)) (I := (fun _ => True)) (M' := (fun _ => Mem w0 (.blk b1 [.string f_0, vI f_1, vI f_2] 23 :: Fz F W :: cs))) ⟨by kernel_rfl⟩ (fun w_ hM hS => (kind_field_ok w0 w_ (.blk b1 [.string f_0, vI f_1, vI f_2] 23 :: cs) F W f_0 f_1 f_2 (hM.pick 2 [1, 0] (by kernel_rfl) (by decide) rfl)  x2 hv3).mono (by rintro e w' ⟨-, rfl, h'⟩; have h' : Mem w0 (.blk b1 [.string f_0, vI f_1, vI f_2] 23 :: Fz F W :: cs) w' := (h'.pick 2 [1, 0] (by kernel_rfl) (by decide) rfl); exact ⟨(), trivial, rfl, h', trivial⟩)) ?_
 rintro _ -
 refine ops_conv (l' := [(4, vI x2), (3, .agg #[.string f_0, vI f_1, vI f_2]), (1, vP b1 0)]) (M' := Mem w0 (.blk b1 [.string f_0, vI f_1, vI f_2] 23 :: Fz F W :: cs)) rfl (fun _ h => h) ?_
 refine oR [oF 2] [(5, .bool (!(x2 == 0))), (1, vP b1 0)] [5, 1] (by kernel_rfl) ?_
 refine ops_nil ?_
 refine fin_then ?_
 refine st_if (b := !(x2 == 0)) rfl (fun hc4 => ?_) (fun hc4 => ?_)
 · --
  have hp := cnd_t hc4 hp
  refine st_seq ?_
  refine st_region [oF 0] (by rfl) ?_
  refine oR [oF 0] [(2, vI 0)] [2] (by kernel_rfl) ?_
  refine ops_nil ?_
  refine fin_then ?_
  refine st_ret ?_
  refine fin_ret_then ?_
  have hq_ := Option.some.inj hp
  have hr0_ := hq_
  subst hr0_
  refine fin_ret [.tmp 2] [vI 0] rfl rfl (fun w_ hM => (.tmp rfl .nil)) (fun w_ hM => ?_)
  exact ⟨trivial, rfl, hM.pick 2 [1] (by kernel_rfl) (by decide) rfl⟩
 · --
  have hp := cnd_f hc4 hp
  refine st_skip ?_
  refine fin_then ?_
  refine st_seq ?_
  refine st_region_draw [oT 0, oT 1, oT 2, oT 3, oT 4, oT 5, oT 6, oT 7] (Mem w0 (.blk b1 [.string f_0, vI f_1, vI f_2] 23 :: Fz F W :: cs)) (by kernel_rfl) (by kernel_rfl) (by kernel_rfl) (fun _ d _ _ _ h => by cases d <;> exact h) (M' := Mem w0 (.blk b1 [.string f_0, vI f_1, vI f_2] 23 :: Fz F W :: cs)) (fun w_ hM => ⟨hM.drew, hM.drew.sub (.cons_cons _ (.cons_cons _ (.refl _)))⟩) ?_
  refine oR [oT 0] [(6, vP b1 2), (1, vP b1 0)] [6, 1] (by kernel_rfl) ?_
  refine ops_load (d := some 7) (an := [.v (vI f_2)]) (evs := [.load ⟨b1, 2, none⟩ (vI f_2)]) (v := vI f_2) ⟨by kernel_rfl⟩ (fun w_ hM => ⟨hM.cell 0 rfl rfl, rfl⟩) ?_
  refine oR [oT 2] [(8, vP b1 1), (7, vI f_2)] [8, 7] (by kernel_rfl) ?_
  refine ops_load (d := some 9) (an := [.v (vI f_1)]) (evs := [.load ⟨b1, 1, none⟩ (vI f_1)]) (v := vI f_1) ⟨by kernel_rfl⟩ (fun w_ hM => ⟨hM.cell 0 rfl rfl, rfl⟩) ?_
  refine oR [] [(9, vI f_1), (7, vI f_2)] [9, 7] (by kernel_rfl) ?_
  obtain ⟨x5, hv6, hp⟩ := obind hp
  obtain ⟨hb7, he8⟩ := shl_some hv6
  refine ops_val (op := (Go.Op.binOp Go.BinOp.shl 3 (Go.Operand.const (Go.Value.int Go.IntKind.i64 1)) (Go.Operand.tmp 9) 3)) (d := some 10) (v := vI x5) ⟨by kernel_rfl⟩ (by rw [he8]; exact run_shl rfl rfl hb7) ?_
  refine oR [oT 5, oT 6, oT 7] [(2, vI (IntKind.i64.wrap (f_2 + IntKind.i64.wrap (x5 - 1))))] [2] (by kernel_rfl) ?_
  refine ops_nil ?_
  refine fin_then ?_
  refine st_ret ?_
  have hq_ := Option.some.inj hp
  have hr0_ := hq_
  subst hr0_
  refine fin_ret [.tmp 2] [vI (IntKind.i64.wrap (f_2 + IntKind.i64.wrap (x5 - 1)))] rfl rfl (fun w_ hM => (.tmp rfl .nil)) (fun w_ hM => ?_)
  exact ⟨trivial, rfl, hM.pick 2 [1] (by kernel_rfl) (by decide) rfl⟩
set_option maxHeartbeats 4000000 in
set_option maxRecDepth 100000 in
theorem kind_Near_ok (w0 w : World) (cs : List Chunk) (F : Nat → Prop) (W : World) (f_0 : ByteArray) (f_1 : Int) (f_2 : Int) (v : Int) (hM0 : Mem w0 (Fz F W :: cs) w) (i9001 : Int) (hp : kind_Near f_0 f_1 f_2 v = some i9001) : Calls Tryd.prog 12 #[.agg #[.string f_0, vI f_1, vI f_2], vI v] w fun e w' => (True) ∧ e = .returned (vI i9001) ∧ Mem w0 (Fz F W :: cs) w' := by
 unfold kind_Near at hp
 refine sx_calls Tryd.func12 rfl (n := 15) (by kernel_rfl) (l := [(0, .agg #[.string f_0, vI f_1, vI f_2]), (1, vI v)]) rfl (by rfl) hM0 ?_
 refine st_seq ?_
 refine st_region [oF 0, oF 1] (by rfl) ?_
 refine ops_new (d := some 2) (o := .cells #[.string f_0, vI f_1, vI f_2] 23) (v := fun b1 => vP b1 0) (M' := fun b1 => Mem w0 (.blk b1 [.string f_0, vI f_1, vI f_2] 23 :: Fz F W :: cs)) (fun b1 => ⟨by kernel_rfl⟩) (fun w_ hM hS => ⟨hM.blk [.string f_0, vI f_1, vI f_2] 23, trivial⟩) (fun b1 => ?_)
 refine oR [oF 1] [(2, vP b1 0), (1, vI v)] [2, 1] (by kernel_rfl) ?_
 refine ops_nil ?_
 refine fin_then ?_
 refine st_seq ?_
 refine st_seq ?_
 refine st_region [oF 0, oF 1, oF 2] (by rfl) ?_
 refine ops_mem (d := some 5) (an := [.v (.string f_0), .v (vI f_1), .v (vI f_2)]) (evs := [.load ⟨b1, 0, none⟩ (.string f_0), .load ⟨b1, 1, none⟩ (vI f_1), .load ⟨b1, 2, none⟩ (vI f_2)]) (v := .agg #[.string f_0, vI f_1, vI f_2]) (M' := Mem w0 (.blk b1 [.string f_0, vI f_1, vI f_2] 23 :: Fz F W :: cs)) ⟨by kernel_rfl⟩ (fun w_ hM hS => ⟨w_, ⟨hM.cell 0 rfl rfl, hM.cell 0 rfl rfl, hM.cell 0 rfl rfl, rfl⟩, hM, trivial⟩) ?_
 obtain ⟨x2, hv3, hp⟩ := obind hp
 refine ops_callI (σ := Unit) (d := some 6) (f := 63) (args := #[.agg #[.string f_0, vI f_1, vI f_2]]) (v := (fun _ => vI x2)) (I := (fun _ => True)) (M' := (fun _ => Mem w0 (.blk b1 [.string f_0, vI f_1, vI f_2] 23 :: Fz F W :: cs))) ⟨by kernel_rfl⟩ (fun w_ hM hS => (kind_field_ok w0 w_ (.blk b1 [.string f_0, vI f_1, vI f_2] 23 :: cs) F W f_0 f_1 f_2 (hM.pick 2 [1, 0] (by kernel_rfl) (by decide) rfl)  x2 hv3).mono (by rintro e w' ⟨-, rfl, h'⟩; have h' : Mem w0 (.blk b1 [.string f_0, vI f_1, vI f_2] 23 :: Fz F W :: cs) w' := (h'.pick 2 [1, 0] (by kernel_rfl) (by decide) rfl); exact ⟨(), trivial, rfl, h', trivial⟩)) ?_
 rintro _ -
 refine ops_conv (l' := [(6, vI x2), (5, .agg #[.string f_0, vI f_1, vI f_2]), (2, vP b1 0), (1, vI v)]) (M' := Mem w0 (.blk b1 [.string f_0, vI f_1, vI f_2] 23 :: Fz F W :: cs)) rfl (fun _ h => h) ?_
 refine oR [oF 2] [(7, .bool (!(x2 == 0))), (2, vP b1 0), (1, vI v)] [7, 2, 1] (by kernel_rfl) ?_
 refine ops_nil ?_
 refine fin_then ?_
 refine st_if (b := !(x2 == 0)) rfl (fun hc4 => ?_) (fun hc4 => ?_)
 · --
  have hp := cnd_t hc4 hp
  refine st_seq ?_
  refine st_region [oF 0] (by rfl) ?_
  refine oR [oF 0] [(4, vI 0)] [4] (by kernel_rfl) ?_
  refine ops_nil ?_
  refine fin_then ?_
  refine st_ret ?_
  refine fin_ret_then ?_
  have hq_ := Option.some.inj hp
  have hr0_ := hq_
  subst hr0_
  refine fin_ret [.tmp 4] [vI 0] rfl rfl (fun w_ hM => (.tmp rfl .nil)) (fun w_ hM => ?_)
  exact ⟨trivial, rfl, hM.pick 2 [1] (by kernel_rfl) (by decide) rfl⟩
 · --
  have hp := cnd_f hc4 hp
  refine st_skip ?_
  refine fin_then ?_
  refine st_seq ?_
  refine st_region_draw [oT 0, oT 1, oT 2, oT 3, oF 4, oT 5, oT 6, oT 7] (Mem w0 (.blk b1 [.string f_0, vI f_1, vI f_2] 23 :: Fz F W :: cs)) (by kernel_rfl) (by kernel_rfl) (by kernel_rfl) (fun _ d _ _ _ h => by cases d <;> exact h) (M' := Mem w0 (.blk b1 [.string f_0, vI f_1, vI f_2] 23 :: Fz F W :: cs)) (fun w_ hM => ⟨hM.drew, hM.drew.sub (.cons_cons _ (.cons_cons _ (.refl _)))⟩) ?_
  refine oR [oT 0] [(8, vP b1 2), (2, vP b1 0), (1, vI v)] [8, 2, 1] (by kernel_rfl) ?_
  refine ops_load (d := some 9) (an := [.v (vI f_2)]) (evs := [.load ⟨b1, 2, none⟩ (vI f_2)]) (v := vI f_2) ⟨by kernel_rfl⟩ (fun w_ hM => ⟨hM.cell 0 rfl rfl, rfl⟩) ?_
  refine oR [oT 2] [(10, vI v), (9, vI f_2), (2, vP b1 0)] [10, 9, 2] (by kernel_rfl) ?_
  refine ops_load (d := some 11) (an := [.v (.string f_0), .v (vI f_1), .v (vI f_2)]) (evs := [.load ⟨b1, 0, none⟩ (.string f_0), .load ⟨b1, 1, none⟩ (vI f_1), .load ⟨b1, 2, none⟩ (vI f_2)]) (v := .agg #[.string f_0, vI f_1, vI f_2]) ⟨by kernel_rfl⟩ (fun w_ hM => ⟨hM.cell 0 rfl rfl, hM.cell 0 rfl rfl, hM.cell 0 rfl rfl, rfl⟩) ?_
  refine oR [] [(11, .agg #[.string f_0, vI f_1, vI f_2]), (10, vI v), (9, vI f_2)] [11, 10, 9] (by kernel_rfl) ?_
  obtain ⟨x5, hv6, hp⟩ := obind hp
  refine ops_callI (σ := Unit) (d := some 12) (f := 8) (args := #[.agg #[.string f_0, vI f_1, vI f_2]]) (v := (fun _ => vI x5)) (I := (fun _ => True)) (M' := (fun _ => Mem w0 (.blk b1 [.string f_0, vI f_1, vI f_2] 23 :: Fz F W :: cs))) ⟨by kernel_rfl⟩ (fun w_ hM hS => (kind_High_ok w0 w_ (.blk b1 [.string f_0, vI f_1, vI f_2] 23 :: cs) F W f_0 f_1 f_2 (hM.pick 2 [1, 0] (by kernel_rfl) (by decide) rfl)  x5 hv6).mono (by rintro e w' ⟨-, rfl, h'⟩; have h' : Mem w0 (.blk b1 [.string f_0, vI f_1, vI f_2] 23 :: Fz F W :: cs) w' := (h'.pick 2 [1, 0] (by kernel_rfl) (by decide) rfl); exact ⟨(), trivial, rfl, h', (by exact h'.sub (.cons_cons _ (.cons_cons _ (.refl _))))⟩)) ?_
  rintro _ -
  refine ops_conv (l' := [(12, vI x5), (11, .agg #[.string f_0, vI f_1, vI f_2]), (10, vI v), (9, vI f_2)]) (M' := Mem w0 (.blk b1 [.string f_0, vI f_1, vI f_2] 23 :: Fz F W :: cs)) rfl (fun _ h => h) ?_
  refine oR [] [(12, vI x5), (10, vI v), (9, vI f_2)] [12, 10, 9] (by kernel_rfl) ?_
  refine ops_val (op := (Go.Op.call { callee := (Go.Callee.builtin Go.Builtin.min), args := #[(Go.Operand.tmp 10), (Go.Operand.tmp 12)], argTypes := #[3, 3] })) (d := some 13) (v := vI (min v x5)) ⟨by kernel_rfl⟩ (run_min rfl rfl) ?_
  refine oR [] [(13, vI (min v x5)), (9, vI f_2)] [13, 9] (by kernel_rfl) ?_
  refine ops_val (op := (Go.Op.call { callee := (Go.Callee.builtin Go.Builtin.max), args := #[(Go.Operand.tmp 9), (Go.Operand.tmp 13)], argTypes := #[3, 3] })) (d := some 14) (v := vI (max f_2 (min v x5))) ⟨by kernel_rfl⟩ (run_max rfl rfl) ?_
  refine oR [oT 7] [(4, vI (max f_2 (min v x5)))] [4] (by kernel_rfl) ?_
  refine ops_nil ?_
  refine fin_then ?_
  refine st_ret ?_
  have hq_ := Option.some.inj hp
  have hr0_ := hq_
  subst hr0_
  refine fin_ret [.tmp 4] [vI (max f_2 (min v x5))] rfl rfl (fun w_ hM => (.tmp rfl .nil)) (fun w_ hM => ?_)
  exact ⟨trivial, rfl, hM.pick 2 [1] (by kernel_rfl) (by decide) rfl⟩
end Go.Proofs.YthcbepikeinglaaDoor.L
