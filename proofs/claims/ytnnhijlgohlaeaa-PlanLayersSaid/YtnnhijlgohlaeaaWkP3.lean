/- The Go functions come to what the plain functions tell. No condition. -/
import Derived.Test.YtnnhijlgohlaeaaProg
import Derived.Test.YtnnhijlgohlaeaaFnP
import Derived.Test.YtnnhijlgohlaeaaWkP0
import Derived.Test.YtnnhijlgohlaeaaWkP1
import Derived.Test.YtnnhijlgohlaeaaWkP2
import Derived.Test.YtnnhijlgohlaeaaExOwn
namespace Go.Proofs.Ytnnhijlgohlaeaa.P
open Go Go.RowKit Go.Proofs.Ytnnhijlgohlaeaa.Sx
set_option linter.unusedVariables false
set_option maxHeartbeats 4000000
set_option maxRecDepth 100000
theorem tourlaw3_PlanRight_ok (w0 w : World) (cs : List Chunk) (F : Nat → Prop) (W : World) (A_l : Option Addr) (c_l : Nat) (l : List api_System) (A_layers : Option Addr) (c_layers : Nat) (layers : List (List Int)) (hM0 : Mem w0 (Fz F W :: cs) w) (h_l : RdS R_api_System F W A_l c_l l) (h_layers : RdS (Rep.sl (Rep.int .i64)) F W A_layers c_layers layers) (t9001 : Bool) (hp : tourlaw3_PlanRight l layers = some t9001) : Calls Try.prog 3 #[sl A_l l c_l, sl A_layers layers c_layers] w fun e w' => ∃ (F9002 : Nat → Prop), ∃ (W9003 : World), ((Ext w0 F W F9002 W9003)) ∧ e = .returned (.bool t9001) ∧ Mem w0 (Fz F9002 W9003 :: cs) w' := by
 unfold tourlaw3_PlanRight at hp
 refine sx_calls Try.func3 rfl (n := 64) (by kernel_rfl) (l := [(0, sl A_l l c_l), (1, sl A_layers layers c_layers)]) rfl (by rfl) hM0 ?_
 refine st_seq (st_region [oF 0] (by rfl) ?_)
 refine oQ [oF 0] [(0, sl A_l l c_l), (1, sl A_layers layers c_layers)] (by kernel_rfl) ?_
 refine ops_nil (fin_then (st_seq (st_seq (st_region [oF 0, oF 1, oF 2, oF 3, oF 4, oF 5, oF 6, oF 7, oF 8, oF 9] (by rfl) ?_))))
 obtain ⟨x1, hv2, hp⟩ := obind hp
 refine ops_callI (σ := (Nat → Prop) × World) (d := some 11) (f := 10) (args := #[]) (v := (fun x_ => match x_ with | (F3, W4) => .bool x1)) (I := (fun x_ => match x_ with | (F3, W4) => (Ext w0 F W F3 W4))) (M' := (fun x_ => match x_ with | (F3, W4) => Mem w0 (Fz F3 W4 :: cs))) ⟨by kernel_rfl⟩ (fun w_ hM hS => (tourlaw3_layered_ok w0 w_ (cs) F W  hM  x1 hv2).mono (by rintro e w' ⟨F3, W4, h5, rfl, h'⟩; have h' : Mem w0 (Fz F3 W4 :: cs) w' := h'; exact ⟨(F3, W4), h5, rfl, h', trivial⟩)) ?_
 rintro ⟨F3, W4⟩ h5
 have h_l := h_l.ext h5
 have h_layers := h_layers.ext h5
 refine oQ [oF 1, oF 2] [(13, .bool (!x1)), (0, sl A_l l c_l), (1, sl A_layers layers c_layers)] (by kernel_rfl) ?_
 refine ops_bool (t := !x1) (l1 := [(13, .bool true), (0, sl A_l l c_l), (1, sl A_layers layers c_layers)]) (l2 := [(13, .bool false), (0, sl A_l l c_l), (1, sl A_layers layers c_layers)]) (fun h => by rw [h]) (fun h => by rw [h]) (fun hc6 => ?_) (fun hc6 => ?_)
 ·
  have hp := cnd_t hc6 hp
  refine oQ [oF 3, oF 4, oF 5, oF 6, oF 7, oF 8, oF 9] [(20, .bool true), (0, sl A_l l c_l), (1, sl A_layers layers c_layers)] (by kernel_rfl) ?_
  refine ops_nil (fin_then (st_true rfl (st_seq (st_region [oF 0] (by rfl) ?_))))
  refine oQ [oF 0] [(4, .bool false)] (by kernel_rfl) ?_
  refine ops_nil (fin_then (st_ret (fin_ret_then ?_)))
  have hq_ := Option.some.inj hp
  have hr0_ := hq_
  subst hr0_
  refine fin_ret [.tmp 4] [.bool false] rfl rfl (fun w_ hM => (.tmp rfl .nil)) (fun w_ hM => ?_)
  exact ⟨F3, W4, h5, rfl, hM⟩
 ·
  have hp := cnd_f hc6 hp
  obtain ⟨x7, x8, hv9, hp⟩ := obind2 hp
  refine ops_callI (σ := (Option Addr) × (List Value) × (Option Addr) × (List Value) × (Option Addr) × (List Value)) (d := some 14) (f := 12) (args := #[]) (v := (fun x_ => match x_ with | (A10, y11, A12, y13, A14, y15) => .agg #[.string (⟨#[111, 108, 100, 101, 114]⟩), sl A10 x7 1, .slice none 0 0, .slice none 0 0, sl A12 x7 1, sl A14 x8 2, .slice none 0 0])) (I := (fun x_ => match x_ with | (A10, y11, A12, y13, A14, y15) => (RepL (Rep.int .i64) F3 W4 x7 y11) ∧ (RepL (Rep.int .i64) F3 W4 x7 y13) ∧ (RepL R_api_Op F3 W4 x8 y15))) (M' := (fun x_ => match x_ with | (A10, y11, A12, y13, A14, y15) => Mem w0 (ow A10 x7 1 3 1 y11 :: ow A12 x7 1 3 1 y13 :: ow A14 x8 2 140 11 y15 :: Fz F3 W4 :: cs))) ⟨by kernel_rfl⟩ (fun w_ hM hS => (tourlaw3_older_ok w0 w_ (cs) F3 W4  hM  x7 x8 hv9).mono (by rintro e w' ⟨A10, y11, A12, y13, A14, y15, ⟨h16, h17, h18⟩, rfl, h'⟩; have h' : Mem w0 (ow A10 x7 1 3 1 y11 :: ow A12 x7 1 3 1 y13 :: ow A14 x8 2 140 11 y15 :: Fz F3 W4 :: cs) w' := h'; exact ⟨(A10, y11, A12, y13, A14, y15), ⟨h16, h17, h18⟩, rfl, h', trivial⟩)) ?_
  rintro ⟨A10, y11, A12, y13, A14, y15⟩ ⟨h16, h17, h18⟩
  refine ops_ex (σ := (Nat → Prop) × World) (I := fun x_ => Ext w0 F3 W4 x_.1 x_.2 ∧ RdS (Rep.int .i64) x_.1 x_.2 A10 1 x7) (M' := fun x_ => Mem w0 (ow A12 x7 1 3 1 y13 :: ow A14 x8 2 140 11 y15 :: Fz x_.1 x_.2 :: cs)) (fun w_ hM => ?_) ?_
  · obtain ⟨F_, h1_, h2_, h3_⟩ := (hM.pick 4 [0, 3, 1, 2] (by kernel_rfl) (by decide) rfl : Mem w0 (ow A10 x7 1 3 1 y11 :: Fz F3 W4 :: ow A12 x7 1 3 1 y13 :: ow A14 x8 2 140 11 y15 :: cs) w_).freeze (z := 1) h16 rfl rfl
    exact ⟨(F_, w_), ⟨h1_, h2_⟩, h3_.pick 3 [1, 2, 0] (by kernel_rfl) (by decide) rfl⟩
  rintro ⟨F19, W20⟩ ⟨hx21, h22⟩
  have hx21 : Ext w0 F3 W4 F19 W20 := hx21
  have h22 : RdS (Rep.int .i64) F19 W20 A10 1 x7 := h22
  have h_l := h_l.ext hx21
  have h_layers := h_layers.ext hx21
  have h17 := h17.ext hx21
  have h18 := h18.ext hx21
  refine ops_ex (σ := (Nat → Prop) × World) (I := fun x_ => Ext w0 F19 W20 x_.1 x_.2 ∧ RdS (Rep.int .i64) x_.1 x_.2 A12 1 x7) (M' := fun x_ => Mem w0 (ow A14 x8 2 140 11 y15 :: Fz x_.1 x_.2 :: cs)) (fun w_ hM => ?_) ?_
  · obtain ⟨F_, h1_, h2_, h3_⟩ := (hM.pick 3 [0, 2, 1] (by kernel_rfl) (by decide) rfl : Mem w0 (ow A12 x7 1 3 1 y13 :: Fz F19 W20 :: ow A14 x8 2 140 11 y15 :: cs) w_).freeze (z := 1) h17 rfl rfl
    exact ⟨(F_, w_), ⟨h1_, h2_⟩, h3_.pick 2 [1, 0] (by kernel_rfl) (by decide) rfl⟩
  rintro ⟨F23, W24⟩ ⟨hx25, h26⟩
  have hx25 : Ext w0 F19 W20 F23 W24 := hx25
  have h26 : RdS (Rep.int .i64) F23 W24 A12 1 x7 := h26
  have h22 := h22.ext hx25
  have h_l := h_l.ext hx25
  have h_layers := h_layers.ext hx25
  have h18 := h18.ext hx25
  refine ops_ex (σ := (Nat → Prop) × World) (I := fun x_ => Ext w0 F23 W24 x_.1 x_.2 ∧ RdS R_api_Op x_.1 x_.2 A14 2 x8) (M' := fun x_ => Mem w0 (Fz x_.1 x_.2 :: cs)) (fun w_ hM => ?_) ?_
  · obtain ⟨F_, h1_, h2_, h3_⟩ := (hM.pick 2 [0, 1] (by kernel_rfl) (by decide) rfl : Mem w0 (ow A14 x8 2 140 11 y15 :: Fz F23 W24 :: cs) w_).freeze (z := 11) h18 rfl rfl
    exact ⟨(F_, w_), ⟨h1_, h2_⟩, h3_.pick 1 [0] (by kernel_rfl) (by decide) rfl⟩
  rintro ⟨F27, W28⟩ ⟨hx29, h30⟩
  have hx29 : Ext w0 F23 W24 F27 W28 := hx29
  have h30 : RdS R_api_Op F27 W28 A14 2 x8 := h30
  have h22 := h22.ext hx29
  have h26 := h26.ext hx29
  have h_l := h_l.ext hx29
  have h_layers := h_layers.ext hx29
  have h31 : RepL R_api_System F27 W28 ([(api_System.mk (⟨#[111, 108, 100, 101, 114]⟩) x7 [] [] x7 x8 [])] : List api_System) ([.string (⟨#[111, 108, 100, 101, 114]⟩), sl A10 x7 1, .slice none 0 0, .slice none 0 0, sl A12 x7 1, sl A14 x8 2, .slice none 0 0]) := (RepL.cons (R := R_api_System) (F := F27) (w := W28) (vs := [.string (⟨#[111, 108, 100, 101, 114]⟩), sl A10 x7 1, .slice none 0 0, .slice none 0 0, sl A12 x7 1, sl A14 x8 2, .slice none 0 0]) (ys := []) (enc_api_System h22 (RdS.empty _) (RdS.empty _) h26 h30 (RdS.empty _)) RepL.nil)
  refine ops_new (d := some 15) (o := .cells ([.string (⟨#[111, 108, 100, 101, 114]⟩), sl A10 x7 1, .slice none 0 0, .slice none 0 0, sl A12 x7 1, sl A14 x8 2, .slice none 0 0]).toArray 30) (v := fun g32 => .slice (sa g32) ([(api_System.mk (⟨#[111, 108, 100, 101, 114]⟩) x7 [] [] x7 x8 [])] : List api_System).length 1) (M' := fun g32 => Mem w0 (orow (sa g32) ([(api_System.mk (⟨#[111, 108, 100, 101, 114]⟩) x7 [] [] x7 x8 [])] : List api_System).length 1 30 7 ([.string (⟨#[111, 108, 100, 101, 114]⟩), sl A10 x7 1, .slice none 0 0, .slice none 0 0, sl A12 x7 1, sl A14 x8 2, .slice none 0 0]) :: Fz F27 W28 :: cs)) (fun g32 => ⟨by kernel_rfl⟩) (fun w_ hM hS => ⟨hM.onew [.string (⟨#[111, 108, 100, 101, 114]⟩), sl A10 x7 1, .slice none 0 0, .slice none 0 0, sl A12 x7 1, sl A14 x8 2, .slice none 0 0] 30 1 7 rfl (by decide), trivial⟩) (fun g32 => ?_)
  have h33 : RepL (Rep.int .i64) F27 W28 ([0] : List Int) ([vI 0]) := (RepL.cons (R := (Rep.int .i64)) (F := F27) (w := W28) (vs := [vI 0]) (ys := []) rfl RepL.nil)
  refine ops_new (d := some 16) (o := .cells ([vI 0]).toArray 3) (v := fun g34 => .slice (sa g34) ([0] : List Int).length 1) (M' := fun g34 => Mem w0 (orow (sa g34) ([0] : List Int).length 1 3 1 ([vI 0]) :: orow (sa g32) ([(api_System.mk (⟨#[111, 108, 100, 101, 114]⟩) x7 [] [] x7 x8 [])] : List api_System).length 1 30 7 ([.string (⟨#[111, 108, 100, 101, 114]⟩), sl A10 x7 1, .slice none 0 0, .slice none 0 0, sl A12 x7 1, sl A14 x8 2, .slice none 0 0]) :: Fz F27 W28 :: cs)) (fun g34 => ⟨by kernel_rfl⟩) (fun w_ hM hS => ⟨hM.onew [vI 0] 3 1 1 rfl (by decide), trivial⟩) (fun g34 => ?_)
  refine ops_ex (σ := (Nat → Prop) × World) (I := fun x_ => Ext w0 F27 W28 x_.1 x_.2 ∧ RdS (Rep.int .i64) x_.1 x_.2 (sa g34) 1 ([0] : List Int)) (M' := fun x_ => Mem w0 (orow (sa g32) ([(api_System.mk (⟨#[111, 108, 100, 101, 114]⟩) x7 [] [] x7 x8 [])] : List api_System).length 1 30 7 ([.string (⟨#[111, 108, 100, 101, 114]⟩), sl A10 x7 1, .slice none 0 0, .slice none 0 0, sl A12 x7 1, sl A14 x8 2, .slice none 0 0]) :: Fz x_.1 x_.2 :: cs)) (fun w_ hM => ?_) ?_
  · obtain ⟨F_, h1_, h2_, h3_⟩ := (hM.pick 3 [0, 2, 1] (by kernel_rfl) (by decide) rfl : Mem w0 (orow (sa g34) ([0] : List Int).length 1 3 1 ([vI 0]) :: Fz F27 W28 :: orow (sa g32) ([(api_System.mk (⟨#[111, 108, 100, 101, 114]⟩) x7 [] [] x7 x8 [])] : List api_System).length 1 30 7 ([.string (⟨#[111, 108, 100, 101, 114]⟩), sl A10 x7 1, .slice none 0 0, .slice none 0 0, sl A12 x7 1, sl A14 x8 2, .slice none 0 0]) :: cs) w_).freeze (z := 1) h33 rfl rfl
    exact ⟨(F_, w_), ⟨h1_, h2_⟩, h3_.pick 2 [1, 0] (by kernel_rfl) (by decide) rfl⟩
  rintro ⟨F35, W36⟩ ⟨hx37, h38⟩
  have hx37 : Ext w0 F27 W28 F35 W36 := hx37
  have h38 : RdS (Rep.int .i64) F35 W36 (sa g34) 1 ([0] : List Int) := h38
  have h_l := h_l.ext hx37
  have h_layers := h_layers.ext hx37
  have h31 := h31.ext hx37
  have h39 : RepL (Rep.sl (Rep.int .i64)) F35 W36 ([([0] : List Int)] : List (List Int)) ([.slice (sa g34) ([0] : List Int).length 1]) := (RepL.cons (R := (Rep.sl (Rep.int .i64))) (F := F35) (w := W36) (vs := [.slice (sa g34) ([0] : List Int).length 1]) (ys := []) (slrd h38) RepL.nil)
  refine ops_new (d := some 17) (o := .cells ([.slice (sa g34) ([0] : List Int).length 1]).toArray 26) (v := fun g40 => .slice (sa g40) ([([0] : List Int)] : List (List Int)).length 1) (M' := fun g40 => Mem w0 (orow (sa g40) ([([0] : List Int)] : List (List Int)).length 1 26 1 ([.slice (sa g34) ([0] : List Int).length 1]) :: orow (sa g32) ([(api_System.mk (⟨#[111, 108, 100, 101, 114]⟩) x7 [] [] x7 x8 [])] : List api_System).length 1 30 7 ([.string (⟨#[111, 108, 100, 101, 114]⟩), sl A10 x7 1, .slice none 0 0, .slice none 0 0, sl A12 x7 1, sl A14 x8 2, .slice none 0 0]) :: Fz F35 W36 :: cs)) (fun g40 => ⟨by kernel_rfl⟩) (fun w_ hM hS => ⟨hM.onew [.slice (sa g34) ([0] : List Int).length 1] 26 1 1 rfl (by decide), trivial⟩) (fun g40 => ?_)
  obtain ⟨x41, hv42, hp⟩ := obind hp
  refine ops_callI (σ := Unit) (d := some 18) (f := 11) (args := #[.slice (sa g32) ([(api_System.mk (⟨#[111, 108, 100, 101, 114]⟩) x7 [] [] x7 x8 [])] : List api_System).length 1, .slice (sa g40) ([([0] : List Int)] : List (List Int)).length 1]) (v := (fun _ => .bool x41)) (I := (fun _ => True)) (M' := (fun _ => Mem w0 (orow (sa g40) ([([0] : List Int)] : List (List Int)).length 1 26 1 ([.slice (sa g34) ([0] : List Int).length 1]) :: orow (sa g32) ([(api_System.mk (⟨#[111, 108, 100, 101, 114]⟩) x7 [] [] x7 x8 [])] : List api_System).length 1 30 7 ([.string (⟨#[111, 108, 100, 101, 114]⟩), sl A10 x7 1, .slice none 0 0, .slice none 0 0, sl A12 x7 1, sl A14 x8 2, .slice none 0 0]) :: Fz F35 W36 :: cs))) ⟨by kernel_rfl⟩ (fun w_ hM hS => (plan_Right_ok w_ w_ [] (fun b => b < w_.heap.size) w_ (sa g32) 1 ([(api_System.mk (⟨#[111, 108, 100, 101, 114]⟩) x7 [] [] x7 x8 [])] : List api_System) (sa g40) 1 ([([0] : List Int)] : List (List Int)) (Mem.fz0 w_) (hM.ordS 1 2 rfl rfl h31 rfl rfl) (hM.ordS 0 2 rfl rfl h39 rfl rfl) x41 hv42).mono (by rintro e w' ⟨-, rfl, h'⟩; have h' : Mem w_ [] w' := h'.pick 1 [] (by kernel_rfl) (by decide) rfl; exact ⟨(), trivial, rfl, hM.join h' rfl, trivial⟩)) ?_
  rintro _ -
  refine oQ [oF 8, oF 9] [(20, .bool (!x41)), (0, sl A_l l c_l), (1, sl A_layers layers c_layers)] (by kernel_rfl) ?_
  refine ops_nil (fin_then ?_)
  refine st_if (b := !x41) rfl (fun hc43 => ?_) (fun hc43 => ?_)
  ·
   have hp := cnd_t hc43 hp
   refine st_seq (st_region [oF 0] (by rfl) ?_)
   refine oQ [oF 0] [(4, .bool false)] (by kernel_rfl) ?_
   refine ops_nil (fin_then (st_ret (fin_ret_then ?_)))
   have hq_ := Option.some.inj hp
   have hr0_ := hq_
   subst hr0_
   refine fin_ret [.tmp 4] [.bool false] rfl rfl (fun w_ hM => (.tmp rfl .nil)) (fun w_ hM => ?_)
   exact ⟨F35, W36, ((((h5.trans hx21).trans hx25).trans hx29).trans hx37), rfl, hM.pick 3 [2] (by kernel_rfl) (by decide) rfl⟩
  ·
   have hp := cnd_f hc43 hp
   refine st_skip (fin_then (st_seq (st_region [oF 0, oF 1, oF 2, oF 3] (by rfl) ?_)))
   refine oQ [oF 0, oF 1] [(22, sl A_layers layers c_layers), (21, sl A_l l c_l), (0, sl A_l l c_l), (1, sl A_layers layers c_layers)] (by kernel_rfl) ?_
   obtain ⟨x44, hv45, hp⟩ := obind hp
   refine ops_callI (σ := Unit) (d := some 23) (f := 11) (args := #[sl A_l l c_l, sl A_layers layers c_layers]) (v := (fun _ => .bool x44)) (I := (fun _ => True)) (M' := (fun _ => Mem w0 (orow (sa g40) ([([0] : List Int)] : List (List Int)).length 1 26 1 ([.slice (sa g34) ([0] : List Int).length 1]) :: orow (sa g32) ([(api_System.mk (⟨#[111, 108, 100, 101, 114]⟩) x7 [] [] x7 x8 [])] : List api_System).length 1 30 7 ([.string (⟨#[111, 108, 100, 101, 114]⟩), sl A10 x7 1, .slice none 0 0, .slice none 0 0, sl A12 x7 1, sl A14 x8 2, .slice none 0 0]) :: Fz F35 W36 :: cs))) ⟨by kernel_rfl⟩ (fun w_ hM hS => (plan_Right_ok w0 w_ (orow (sa g40) ([([0] : List Int)] : List (List Int)).length 1 26 1 ([.slice (sa g34) ([0] : List Int).length 1]) :: orow (sa g32) ([(api_System.mk (⟨#[111, 108, 100, 101, 114]⟩) x7 [] [] x7 x8 [])] : List api_System).length 1 30 7 ([.string (⟨#[111, 108, 100, 101, 114]⟩), sl A10 x7 1, .slice none 0 0, .slice none 0 0, sl A12 x7 1, sl A14 x8 2, .slice none 0 0]) :: cs) F35 W36 A_l c_l l A_layers c_layers layers (hM.pick 3 [2, 0, 1] (by kernel_rfl) (by decide) rfl) h_l h_layers x44 hv45).mono (by rintro e w' ⟨-, rfl, h'⟩; have h' : Mem w0 (orow (sa g40) ([([0] : List Int)] : List (List Int)).length 1 26 1 ([.slice (sa g34) ([0] : List Int).length 1]) :: orow (sa g32) ([(api_System.mk (⟨#[111, 108, 100, 101, 114]⟩) x7 [] [] x7 x8 [])] : List api_System).length 1 30 7 ([.string (⟨#[111, 108, 100, 101, 114]⟩), sl A10 x7 1, .slice none 0 0, .slice none 0 0, sl A12 x7 1, sl A14 x8 2, .slice none 0 0]) :: Fz F35 W36 :: cs) w' := (h'.pick 3 [1, 2, 0] (by kernel_rfl) (by decide) rfl); exact ⟨(), trivial, rfl, h', trivial⟩)) ?_
   rintro _ -
   refine oQ [oF 3] [(5, .bool x44), (0, sl A_l l c_l), (1, sl A_layers layers c_layers)] (by kernel_rfl) ?_
   refine ops_nil (fin_then (st_seq (st_seq (st_region [oF 0, oF 1, oF 2, oF 3, oF 4] (by rfl) ?_))))
   refine oQ [oF 0, oF 1, oF 2] [(26, sl A_layers layers c_layers), (25, sl A_l l c_l), (24, .bool x44), (5, .bool x44), (0, sl A_l l c_l), (1, sl A_layers layers c_layers)] (by kernel_rfl) ?_
   obtain ⟨x46, hv47, hp⟩ := obind hp
   refine ops_callI (σ := Unit) (d := some 27) (f := 13) (args := #[sl A_l l c_l, sl A_layers layers c_layers]) (v := (fun _ => .bool x46)) (I := (fun _ => True)) (M' := (fun _ => Mem w0 (orow (sa g40) ([([0] : List Int)] : List (List Int)).length 1 26 1 ([.slice (sa g34) ([0] : List Int).length 1]) :: orow (sa g32) ([(api_System.mk (⟨#[111, 108, 100, 101, 114]⟩) x7 [] [] x7 x8 [])] : List api_System).length 1 30 7 ([.string (⟨#[111, 108, 100, 101, 114]⟩), sl A10 x7 1, .slice none 0 0, .slice none 0 0, sl A12 x7 1, sl A14 x8 2, .slice none 0 0]) :: Fz F35 W36 :: cs))) ⟨by kernel_rfl⟩ (fun w_ hM hS => (tourref3_Divided_ok w0 w_ (orow (sa g40) ([([0] : List Int)] : List (List Int)).length 1 26 1 ([.slice (sa g34) ([0] : List Int).length 1]) :: orow (sa g32) ([(api_System.mk (⟨#[111, 108, 100, 101, 114]⟩) x7 [] [] x7 x8 [])] : List api_System).length 1 30 7 ([.string (⟨#[111, 108, 100, 101, 114]⟩), sl A10 x7 1, .slice none 0 0, .slice none 0 0, sl A12 x7 1, sl A14 x8 2, .slice none 0 0]) :: cs) F35 W36 A_l c_l l A_layers c_layers layers (hM.pick 3 [2, 0, 1] (by kernel_rfl) (by decide) rfl) h_l h_layers x46 hv47).mono (by rintro e w' ⟨-, rfl, h'⟩; have h' : Mem w0 (orow (sa g40) ([([0] : List Int)] : List (List Int)).length 1 26 1 ([.slice (sa g34) ([0] : List Int).length 1]) :: orow (sa g32) ([(api_System.mk (⟨#[111, 108, 100, 101, 114]⟩) x7 [] [] x7 x8 [])] : List api_System).length 1 30 7 ([.string (⟨#[111, 108, 100, 101, 114]⟩), sl A10 x7 1, .slice none 0 0, .slice none 0 0, sl A12 x7 1, sl A14 x8 2, .slice none 0 0]) :: Fz F35 W36 :: cs) w' := (h'.pick 3 [1, 2, 0] (by kernel_rfl) (by decide) rfl); exact ⟨(), trivial, rfl, h', trivial⟩)) ?_
   rintro _ -
   refine oQ [oF 4] [(28, .bool (!(x44 == x46))), (5, .bool x44), (0, sl A_l l c_l), (1, sl A_layers layers c_layers)] (by kernel_rfl) ?_
   refine ops_nil (fin_then ?_)
   refine st_if (b := !(x44 == x46)) rfl (fun hc48 => ?_) (fun hc48 => ?_)
   ·
    have hp := cnd_t hc48 hp
    refine st_seq (st_region [oF 0] (by rfl) ?_)
    refine oQ [oF 0] [(4, .bool false)] (by kernel_rfl) ?_
    refine ops_nil (fin_then (st_ret (fin_ret_then ?_)))
    have hq_ := Option.some.inj hp
    have hr0_ := hq_
    subst hr0_
    refine fin_ret [.tmp 4] [.bool false] rfl rfl (fun w_ hM => (.tmp rfl .nil)) (fun w_ hM => ?_)
    exact ⟨F35, W36, ((((h5.trans hx21).trans hx25).trans hx29).trans hx37), rfl, hM.pick 3 [2] (by kernel_rfl) (by decide) rfl⟩
   ·
    have hp := cnd_f hc48 hp
    refine st_skip (fin_then (st_seq (st_region [oF 0, oF 1, oF 2, oF 3, oF 4, oF 5, oF 6] (by rfl) ?_)))
    refine oQ [oF 0] [(30, sl A_l l c_l), (5, .bool x44), (0, sl A_l l c_l), (1, sl A_layers layers c_layers)] (by kernel_rfl) ?_
    obtain ⟨x49, x50, hv51, hp⟩ := obind2 hp
    refine ops_callI (σ := (Option Addr) × Nat × (List Value) × Chunk) (d := some 31) (f := 14) (args := #[sl A_l l c_l]) (v := (fun x_ => match x_ with | (A52, c53, y54, K55) => .tuple #[sl A52 x49 c53, vI x50])) (I := (fun x_ => match x_ with | (A52, c53, y54, K55) => (OwL (Own.sr (Rep.int .i64) 3) F35 W36 x49 y54 K55))) (M' := (fun x_ => match x_ with | (A52, c53, y54, K55) => Mem w0 (ow A52 x49 c53 26 1 y54 :: K55 :: orow (sa g40) ([([0] : List Int)] : List (List Int)).length 1 26 1 ([.slice (sa g34) ([0] : List Int).length 1]) :: orow (sa g32) ([(api_System.mk (⟨#[111, 108, 100, 101, 114]⟩) x7 [] [] x7 x8 [])] : List api_System).length 1 30 7 ([.string (⟨#[111, 108, 100, 101, 114]⟩), sl A10 x7 1, .slice none 0 0, .slice none 0 0, sl A12 x7 1, sl A14 x8 2, .slice none 0 0]) :: Fz F35 W36 :: cs))) ⟨by kernel_rfl⟩ (fun w_ hM hS => (plan_Layers_ok w0 w_ (orow (sa g40) ([([0] : List Int)] : List (List Int)).length 1 26 1 ([.slice (sa g34) ([0] : List Int).length 1]) :: orow (sa g32) ([(api_System.mk (⟨#[111, 108, 100, 101, 114]⟩) x7 [] [] x7 x8 [])] : List api_System).length 1 30 7 ([.string (⟨#[111, 108, 100, 101, 114]⟩), sl A10 x7 1, .slice none 0 0, .slice none 0 0, sl A12 x7 1, sl A14 x8 2, .slice none 0 0]) :: cs) F35 W36 A_l c_l l (hM.pick 3 [2, 0, 1] (by kernel_rfl) (by decide) rfl) h_l x49 x50 hv51).mono (by rintro e w' ⟨A52, c53, y54, K55, h56, rfl, h'⟩; have h' : Mem w0 (ow A52 x49 c53 26 1 y54 :: K55 :: orow (sa g40) ([([0] : List Int)] : List (List Int)).length 1 26 1 ([.slice (sa g34) ([0] : List Int).length 1]) :: orow (sa g32) ([(api_System.mk (⟨#[111, 108, 100, 101, 114]⟩) x7 [] [] x7 x8 [])] : List api_System).length 1 30 7 ([.string (⟨#[111, 108, 100, 101, 114]⟩), sl A10 x7 1, .slice none 0 0, .slice none 0 0, sl A12 x7 1, sl A14 x8 2, .slice none 0 0]) :: Fz F35 W36 :: cs) w' := (h'.pick 5 [0, 1, 3, 4, 2] (by kernel_rfl) (by decide) rfl); exact ⟨(A52, c53, y54, K55), h56, rfl, h', trivial⟩)) ?_
    rintro ⟨A52, c53, y54, K55⟩ h56
    refine oQ [oF 2, oF 3, oF 4, oF 5, oF 6] [(7, vI x50), (6, sl A52 x49 c53), (5, .bool x44), (0, sl A_l l c_l), (1, sl A_layers layers c_layers)] (by kernel_rfl) ?_
    refine ops_nil (fin_then (st_seq (st_seq (st_region [oF 0, oF 1] (by rfl) ?_))))
    refine oQ [oF 0, oF 1] [(35, .bool (!(x50 == 0))), (6, sl A52 x49 c53), (5, .bool x44), (0, sl A_l l c_l), (1, sl A_layers layers c_layers)] (by kernel_rfl) ?_
    refine ops_nil (fin_then ?_)
    refine st_if (b := !(x50 == 0)) rfl (fun hc57 => ?_) (fun hc57 => ?_)
    ·
     have hp := cnd_t hc57 hp
     refine st_seq (st_region [oF 0, oF 1, oF 2, oF 3] (by rfl) ?_)
     refine oQ [oF 0, oF 1, oF 2, oF 3] [(4, .bool (decide (24 < (l.length : Int))))] (by kernel_rfl) ?_
     refine ops_nil (fin_then (st_ret (fin_ret_then ?_)))
     have hq_ := Option.some.inj hp
     have hr0_ := hq_
     subst hr0_
     refine fin_ret [.tmp 4] [.bool (decide (24 < (l.length : Int)))] rfl rfl (fun w_ hM => (.tmp rfl .nil)) (fun w_ hM => ?_)
     exact ⟨F35, W36, ((((h5.trans hx21).trans hx25).trans hx29).trans hx37), rfl, hM.pick 5 [4] (by kernel_rfl) (by decide) rfl⟩
    ·
     have hp := cnd_f hc57 hp
     refine st_skip (fin_then (st_seq (st_region [oF 0] (by rfl) ?_)))
     refine oQ [oF 0] [(8, vI 0), (6, sl A52 x49 c53), (5, .bool x44), (0, sl A_l l c_l), (1, sl A_layers layers c_layers)] (by kernel_rfl) ?_
     refine ops_nil (fin_then ?_)
     refine st_join1 (σ := Int) (L := fun x_ => match x_ with | i58 => [(0, sl A_l l c_l), (5, .bool x44), (6, sl A52 x49 c53), (8, vI i58)]) (N := fun x_ => match x_ with | i58 => Mem w0 (ow A52 x49 c53 26 1 y54 :: K55 :: Fz F35 W36 :: cs)) (I := fun x_ => match x_ with | i58 => ((tourlaw3_PlanRight_j1 l x49 x44) i58 = some t9001)) ?_ ?_
     ·
      rintro i58 hp
      unfold tourlaw3_PlanRight_j1 at hp
      refine st_join1 (σ := Bool) (L := fun x_ => match x_ with | t59 => [(4, .bool t59)]) (N := fun x_ => match x_ with | t59 => Mem w0 (Fz F35 W36 :: cs)) (I := fun x_ => match x_ with | t59 => (tourlaw3_PlanRight_j2 t59 = some t9001)) ?_ ?_
      ·
       rintro t59 hp
       unfold tourlaw3_PlanRight_j2 at hp
       refine st_ret ?_
       have hq_ := Option.some.inj hp
       have hr0_ := hq_
       subst hr0_
       refine fin_ret [.tmp 4] [.bool t59] rfl rfl (fun w_ hM => (.tmp rfl .nil)) (fun w_ hM => ?_)
       exact ⟨F35, W36, ((((h5.trans hx21).trans hx25).trans hx29).trans hx37), rfl, hM⟩
      ·
       intro HJ2
       refine st_seq (st_region [oF 0, oF 1, oF 2, oF 3, oF 4, oF 5, oF 6, oF 7, oF 8, oF 9, oF 10, oF 11, oF 12, oF 13] (by rfl) ?_)
       refine oQ [oF 0, oF 1] [(52, sl A52 x49 c53), (51, sl A_l l c_l), (5, .bool x44), (6, sl A52 x49 c53), (8, vI i58)] (by kernel_rfl) ?_
       obtain ⟨x60, hv61, hp⟩ := obind hp
       refine ops_callI (σ := Unit) (d := some 53) (f := 11) (args := #[sl A_l l c_l, sl A52 x49 c53]) (v := (fun _ => .bool x60)) (I := (fun _ => True)) (M' := (fun _ => Mem w0 (ow A52 x49 c53 26 1 y54 :: K55 :: Fz F35 W36 :: cs))) ⟨by kernel_rfl⟩ (fun w_ hM hS => (plan_Right_ok w_ w_ [] (fun b => b < w_.heap.size) w_ A_l c_l l A52 c53 x49 (Mem.fz0 w_) (hM.now 2 rfl h_l) ((hM.pick 3 [0, 1, 2] (by kernel_rfl) (by decide) rfl : Mem w0 (ow A52 x49 c53 26 1 y54 :: K55 :: Fz F35 W36 :: cs) w_).ownS h56 rfl rfl) x60 hv61).mono (by rintro e w' ⟨-, rfl, h'⟩; have h' : Mem w_ [] w' := h'.pick 1 [] (by kernel_rfl) (by decide) rfl; exact ⟨(), trivial, rfl, hM.join h' rfl, trivial⟩)) ?_
       rintro _ -
       refine oQ [oF 3] [(54, .bool x60), (5, .bool x44), (6, sl A52 x49 c53), (8, vI i58)] (by kernel_rfl) ?_
       refine ops_bool (t := x60) (l1 := [(54, .bool true), (5, .bool x44), (6, sl A52 x49 c53), (8, vI i58)]) (l2 := [(54, .bool false), (5, .bool x44), (6, sl A52 x49 c53), (8, vI i58)]) (fun h => by rw [h]) (fun h => by rw [h]) (fun hc62 => ?_) (fun hc62 => ?_)
       ·
        have hp := cnd_t hc62 hp
        refine oQ [oF 4, oF 5, oF 6] [(57, .bool (!x44)), (54, .bool true), (6, sl A52 x49 c53), (8, vI i58)] (by kernel_rfl) ?_
        refine ops_bool (t := !x44) (l1 := [(57, .bool true), (54, .bool true), (6, sl A52 x49 c53), (8, vI i58)]) (l2 := [(57, .bool false), (54, .bool true), (6, sl A52 x49 c53), (8, vI i58)]) (fun h => by rw [h]) (fun h => by rw [h]) (fun hc63 => ?_) (fun hc63 => ?_)
        ·
         have hp := cnd_t hc63 hp
         refine oQ [oF 7, oF 8, oF 9, oF 10, oF 11, oF 12, oF 13] [(4, .bool true)] (by kernel_rfl) ?_
         refine ops_nil ?_
         exact fin_join HJ2 true hp (look_has ⟨rfl, trivial⟩) (fun w_ hM => hM.pick 3 [2] (by kernel_rfl) (by decide) rfl)
        ·
         have hp := cnd_f hc63 hp
         refine oQ [oF 7, oF 8, oF 9, oF 10, oF 11, oF 12, oF 13] [(4, .bool (decide ((x49.length : Int) ≤ i58)))] (by kernel_rfl) ?_
         refine ops_nil ?_
         exact fin_join HJ2 (decide ((x49.length : Int) ≤ i58)) hp (look_has ⟨rfl, trivial⟩) (fun w_ hM => hM.pick 3 [2] (by kernel_rfl) (by decide) rfl)
       ·
        have hp := cnd_f hc62 hp
        refine oQ [oF 4, oF 5, oF 6, oF 7, oF 8, oF 9, oF 10, oF 11, oF 12, oF 13] [(4, .bool false)] (by kernel_rfl) ?_
        refine ops_nil ?_
        exact fin_join HJ2 false hp (look_has ⟨rfl, trivial⟩) (fun w_ hM => hM.pick 3 [2] (by kernel_rfl) (by decide) rfl)
     ·
      intro HJ1
      refine st_seq (st_seq (st_region [oF 0, oF 1, oF 2] (by rfl) ?_))
      refine oQ [oF 0, oF 1, oF 2] [(41, vI 0), (40, vI (layers.length : Int)), (39, sl A_layers layers c_layers), (8, vI 0), (6, sl A52 x49 c53), (5, .bool x44), (0, sl A_l l c_l)] (by kernel_rfl) ?_
      refine ops_nil (fin_then (st_block ?_))
      obtain ⟨r3, hl3, hk3⟩ := obind hp
      refine st_loopP (σ := Int × Int) (ρ := Int) (γ := Unit) hl3 () (fun s_ g_ => match s_, g_ with | (i64, i65), _ => [(0, sl A_l l c_l), (5, .bool x44), (6, sl A52 x49 c53), (8, vI i64), (39, sl A_layers layers c_layers), (40, vI (layers.length : Int)), (41, vI i65)]) (fun s_ g_ => match s_, g_ with | (i64, i65), _ => Mem w0 (ow A52 x49 c53 26 1 y54 :: K55 :: Fz F35 W36 :: cs)) (fun s_ g_ => match s_, g_ with | (i64, i65), _ => True) trivial (look_has ⟨rfl, rfl, rfl, rfl, rfl, rfl, rfl, trivial⟩) (fun w_ hM => hM.pick 5 [0, 1, 4] (by kernel_rfl) (by decide) rfl) ?_
      rintro ⟨i64, i65⟩ _ o3 - hs_ hd3
      have hp : (tourlaw3_PlanRight_l3 layers) i64 i65 = some o3 := hs_
      clear hs_
      unfold tourlaw3_PlanRight_l3 at hp
      refine st_seq (st_region [oF 0] (by rfl) ?_)
      refine oQ [oF 0] [(42, .bool (decide (i65 < (layers.length : Int)))), (0, sl A_l l c_l), (5, .bool x44), (6, sl A52 x49 c53), (8, vI i64), (39, sl A_layers layers c_layers), (40, vI (layers.length : Int)), (41, vI i65)] (by kernel_rfl) ?_
      refine ops_nil (fin_then (st_seq ?_))
      refine st_if (b := decide (i65 < (layers.length : Int))) rfl (fun hc66 => ?_) (fun hc66 => ?_)
      ·
       have hp := cnd_t hc66 hp
       refine st_skip (fin_then (st_seq (st_block (st_seq (st_region [oF 0, oF 1, oF 2] (by rfl) ?_)))))
       obtain ⟨x67, hv68, hp⟩ := obind hp
       obtain ⟨m69, hm70, hx71⟩ := idx_some hv68
       have hl74 := (List.getElem?_eq_some_iff.1 hx71).1
       obtain ⟨ad75, vs72, hA76, hr73, hq77⟩ := RdS.el h_layers hx71
       obtain ⟨A78, c79, rfl, h80⟩ := hr73
       refine ops_val (op := (.indexAddr 23 (.tmp 39) (.tmp 41))) (d := some 43) (v := .pointer (some (ad75.add (m69 * 1)))) ⟨by kernel_rfl⟩ (run_indexA hA76 Try.underlying23 (z := 1) (by kernel_rfl) rfl rfl hm70 hl74) ?_
       refine ops_mem (d := some 44) (an := [.v (sl A78 x67 c79)]) (evs := [.load (ad75.add (m69 * 1)) (sl A78 x67 c79)]) (v := sl A78 x67 c79) ⟨by kernel_rfl⟩ (fun w_ hM hS => ⟨w_, ⟨hM.elcell 2 rfl hq77 0 rfl, rfl⟩, hM, trivial⟩) ?_
       refine oQ [oF 2] [(10, sl A78 x67 c79), (0, sl A_l l c_l), (5, .bool x44), (6, sl A52 x49 c53), (8, vI i64), (39, sl A_layers layers c_layers), (40, vI (layers.length : Int)), (41, vI i65)] (by kernel_rfl) ?_
       refine ops_nil (fin_then (st_region [oF 0, oF 1, oF 2, oF 3, oF 4, oF 5] (by rfl) ?_))
       refine oQ [oF 0, oF 1, oF 2] [(47, vI (x67.length : Int)), (45, vI i64), (0, sl A_l l c_l), (5, .bool x44), (6, sl A52 x49 c53), (8, vI i64), (39, sl A_layers layers c_layers), (40, vI (layers.length : Int)), (41, vI i65)] (by kernel_rfl) ?_
       refine ops_val (op := (.call { callee := (Go.Callee.builtin Go.Builtin.min), args := #[(.tmp 47), (.const (Go.Value.int Go.IntKind.i64 1))], argTypes := #[3, 3] })) (d := some 48) (v := vI (min (x67.length : Int) 1)) ⟨by kernel_rfl⟩ (run_min rfl rfl) ?_
       refine oQ [oF 4, oF 5] [(8, vI (IntKind.i64.wrap (i64 + min (x67.length : Int) 1))), (0, sl A_l l c_l), (5, .bool x44), (6, sl A52 x49 c53), (39, sl A_layers layers c_layers), (40, vI (layers.length : Int)), (41, vI i65)] (by kernel_rfl) ?_
       refine ops_nil (fin_block (fin_then (st_region [oF 0, oF 1] (by rfl) ?_)))
       refine oQ [oF 0, oF 1] [(41, vI (IntKind.i64.wrap (i65 + 1))), (8, vI (IntKind.i64.wrap (i64 + min (x67.length : Int) 1))), (0, sl A_l l c_l), (5, .bool x44), (6, sl A52 x49 c53), (39, sl A_layers layers c_layers), (40, vI (layers.length : Int))] (by kernel_rfl) ?_
       refine ops_nil ?_
       exact fin_again (IntKind.i64.wrap (i64 + min (x67.length : Int) 1), IntKind.i64.wrap (i65 + 1)) () (Option.some.inj hp).symm trivial (look_has ⟨rfl, rfl, rfl, rfl, rfl, rfl, rfl, trivial⟩) (fun w_ hM => hM)
      ·
       have hp := cnd_f hc66 hp
       refine st_exit (fin_exit_then (fin_exit_then (fin_exit ?_)))
       obtain hq_ := Option.some.inj hp
       subst hq_
       obtain hq_ := hd3 _ rfl
       subst hq_
       have hp : (tourlaw3_PlanRight_j1 l x49 x44) i64 = some t9001 := hk3
       exact fin_join HJ1 i64 hp (look_has ⟨rfl, rfl, rfl, rfl, trivial⟩) (fun w_ hM => hM)
def plan_Chain__t0 : List Row := [⟨0, 147573952589676412928, 256⟩, ⟨1, 295147905179352825856, 147573952589676412928⟩, ⟨0, 590295810358705651712, 32⟩, ⟨6, 1180591620717411303424, 885443715538058477568⟩, ⟨8, 2361183241434822606848, 1180591620717411303424⟩, ⟨16, 4722366482869645213696, 2361183241434822606864⟩, ⟨16, 9444732965739290427392, 2361183241434822607360⟩, ⟨112, 18889465931478580854784, 16528282690043758247936⟩, ⟨144, 37778931862957161709568, 21250649172913403461632⟩, ⟨16, 75557863725914323419136, 2361183241434822606880⟩, ⟨16, 151115727451828646838272, 2361183241434822607104⟩, ⟨1040, 302231454903657293676544, 153476910693263469445120⟩, ⟨2576, 604462909807314587353088, 380150501871006439702528⟩, ⟨4368, 1208925819614629174706176, 644603024911706571669504⟩, ⟨8208, 2417851639229258349412352, 1211287002856063997313024⟩, ⟨16400, 4835703278458516698824704, 2417851639229258349412352⟩, ⟨32768, 9671406556917033397649408, 4835703278458516698824960⟩, ⟨98304, 19342813113834066795298816, 14507109835375550096474112⟩, ⟨163840, 38685626227668133590597632, 24178516392292583494123520⟩, ⟨294912, 77371252455336267181195264, 43521329506126650289422336⟩, ⟨524288, 154742504910672534362390528, 77371252455336267181195265⟩, ⟨524288, 309485009821345068724781056, 77371252455336267181195520⟩, ⟨524288, 618970019642690137449562112, 77371252455336267181195520⟩, ⟨4718592, 1237940039285380274899124224, 696341272098026404630757376⟩, ⟨8912896, 2475880078570760549798248448, 1315311291740716542080319488⟩, ⟨19398656, 4951760157141521099596496896, 2862736340847441885704224768⟩, ⟨34078720, 9903520314283042199192993792, 5029131409596857366777692160⟩, ⟨68681728, 19807040628566084398385987584, 10135634071649051000736579584⟩, ⟨134742016, 39614081257132168796771975168, 19884411881021420665567182848⟩, ⟨524288, 79228162514264337593543950336, 77371252455336267181195265⟩, ⟨524288, 158456325028528675187087900672, 77371252455336267181195776⟩, ⟨1611137024, 316912650057057350374175801344, 237761858795248349047813046272⟩, ⟨2148007936, 633825300114114700748351602688, 316990021309512686641356996608⟩, ⟨4563927040, 1267650600228229401496703205376, 673516752623702205812304773120⟩, ⟨8590491648, 2535301200456458802993406410752, 1267732807183963196280583225344⟩, ⟨17179901952, 5070602400912917605986812821504, 2535306036159737261510105235456⟩]
theorem plan_Chain_ok (w0 w : World) (cs : List Chunk) (F : Nat → Prop) (W : World) (A_l : Option Addr) (c_l : Nat) (l : List api_System) (hM0 : Mem w0 (Fz F W :: cs) w) (h_l : RdS R_api_System F W A_l c_l l) (l9003 : List Int) (i9006 : Int) (hp : plan_Chain l = some (l9003, i9006)) : Calls Try.prog 24 #[sl A_l l c_l] w fun e w' => ∃ (A9001 : Option Addr), ∃ (c9002 : Nat), ∃ (y9004 : List Value), ((RepL (Rep.int .i64) F W l9003 y9004)) ∧ e = .returned (.tuple #[sl A9001 l9003 c9002, vI i9006]) ∧ Mem w0 (ow A9001 l9003 c9002 3 1 y9004 :: Fz F W :: cs) w' := by
 unfold plan_Chain at hp
 refine sx_calls Try.func24 rfl (n := 109) (by kernel_rfl) (l := [(0, sl A_l l c_l)]) rfl (by rfl) hM0 ?_
 refine st_seq (st_region [oF 0, oF 1] (by rfl) ?_)
 refine oQ [oF 0, oF 1] [(0, sl A_l l c_l)] (by kernel_rfl) ?_
 refine ops_nil (fin_then (st_seq (st_seq (st_region [oF 0, oF 1, oF 2] (by rfl) ?_))))
 refine oQ [oF 0, oF 1, oF 2] [(12, .bool (decide (24 < (l.length : Int)))), (0, sl A_l l c_l)] (by kernel_rfl) ?_
 refine ops_nil (fin_then ?_)
 refine st_if (b := decide (24 < (l.length : Int))) rfl (fun hc1 => ?_) (fun hc1 => ?_)
 ·
  have hp := cnd_t hc1 hp
  refine st_seq (st_region [oF 0, oF 1] (by rfl) ?_)
  refine oQ [oF 0, oF 1] [(3, vI 2), (2, .slice none 0 0)] (by kernel_rfl) ?_
  refine ops_nil (fin_then (st_ret (fin_ret_then ?_)))
  refine fin_conv (l' := [(3, vI 2), (2, .slice none 0 0)]) (M' := Mem w0 (ow none ([] : List Int) 0 3 1 [] :: Fz F W :: cs)) rfl (fun w_ h => h.onil none 3 1) ?_
  refine fin_conv (l' := [(3, vI 2), (2, sl none ([] : List Int) 0)]) (M' := Mem w0 (ow none ([] : List Int) 0 3 1 [] :: Fz F W :: cs)) rfl (fun _ h => h) ?_
  have hq_ := Option.some.inj hp
  obtain ⟨hr0_, hq_⟩ := Prod.mk.inj hq_
  have hr1_ := hq_
  subst hr0_
  subst hr1_
  refine fin_ret [.tmp 2, .tmp 3] [sl none ([] : List Int) 0, vI 2] rfl rfl (fun w_ hM => (.tmp rfl (.tmp rfl .nil))) (fun w_ hM => ?_)
  exact ⟨none, 0, [], (RepL.nil (R := (Rep.int .i64))), rfl, hM⟩
 ·
  have hp := cnd_f hc1 hp
  refine st_skip (fin_then (st_seq (st_region [oF 0, oF 1, oF 2, oF 3] (by rfl) ?_)))
  refine oQ [oF 0, oF 1] [(14, vI (l.length : Int)), (0, sl A_l l c_l)] (by kernel_rfl) ?_
  obtain ⟨l2, hv3, hp⟩ := obind hp
  obtain ⟨m4, hm5, he6, hb7⟩ := mk_some hv3
  have hl8 : l2.length = m4 := by rw [he6, List.length_replicate]
  obtain ⟨y9, hy10⟩ : ∃ y_, (Sx.madeOf [vI 0] (l2.length * 1)).toList = y_ := ⟨_, rfl⟩
  have h11 : RepL (Rep.int .i64) F W l2 y9 := by rw [← hy10, hl8, he6]; exact RepL.made rfl (by decide) _
  refine ops_makeO (t := 26) (x := (Go.Operand.tmp 14)) (y := (Go.Operand.tmp 14)) (d := some 15) (nn := l2.length) (z := 1) (bytes := 8) (xs := y9) (zv := vI 0) ⟨by kernel_rfl⟩ rfl rfl (by rw [hl8]; exact hm5) (by rw [hl8]; exact hm5) Try.underlying26 (by kernel_rfl) (by rw [hl8]; exact hb7) (by rfl) hy10 (fun _ _ _ hS h' => trivial) (fun g12 => ?_)
  refine oQ [oF 3] [(4, sl (sa g12) l2 l2.length), (0, sl A_l l c_l)] (by kernel_rfl) ?_
  refine ops_nil (fin_then (st_seq (st_region [oF 0] (by rfl) ?_)))
  refine oQ [oF 0] [(5, vI 0), (4, sl (sa g12) l2 l2.length), (0, sl A_l l c_l)] (by kernel_rfl) ?_
  refine ops_nil (fin_then ?_)
  refine st_join1 (σ := (List Int) × (List Value) × Int) (L := fun x_ => match x_ with | (l13, y14, i16) => [(0, sl A_l l c_l), (4, sl (sa g12) l13 l2.length), (5, vI i16)]) (N := fun x_ => match x_ with | (l13, y14, i16) => Mem w0 (ow (sa g12) l13 l2.length 3 1 y14 :: Fz F W :: cs)) (I := fun x_ => match x_ with | (l13, y14, i16) => ((plan_Chain_j1 l) l13 i16 = some (l9003, i9006)) ∧ (RepL (Rep.int .i64) F W l13 y14)) ?_ ?_
  ·
   rintro ⟨l13, y14, i16⟩ ⟨hp, h15⟩
   unfold plan_Chain_j1 at hp
   refine st_seq (st_region [oF 0] (by rfl) ?_)
   refine oQ [oF 0] [(8, .slice none 0 0), (0, sl A_l l c_l), (4, sl (sa g12) l13 l2.length), (5, vI i16)] (by kernel_rfl) ?_
   refine ops_nil (fin_then ?_)
   refine st_join1 (σ := (Option Addr) × Nat × (List Int) × (List Value)) (L := fun x_ => match x_ with | (A17, c18, l19, y20) => [(8, sl A17 l19 c18)]) (N := fun x_ => match x_ with | (A17, c18, l19, y20) => Mem w0 (ow A17 l19 c18 3 1 y20 :: Fz F W :: cs)) (I := fun x_ => match x_ with | (A17, c18, l19, y20) => (plan_Chain_j2 l19 = some (l9003, i9006)) ∧ (RepL (Rep.int .i64) F W l19 y20)) ?_ ?_
   ·
    rintro ⟨A17, c18, l19, y20⟩ ⟨hp, h21⟩
    unfold plan_Chain_j2 at hp
    refine st_seq (st_region [oF 0, oF 1, oF 2] (by rfl) ?_)
    refine oQ [oF 0, oF 1, oF 2] [(3, vI 0), (2, sl A17 l19 c18)] (by kernel_rfl) ?_
    refine ops_nil (fin_then (st_ret ?_))
    have hq_ := Option.some.inj hp
    obtain ⟨hr0_, hq_⟩ := Prod.mk.inj hq_
    have hr1_ := hq_
    subst hr0_
    subst hr1_
    refine fin_ret [.tmp 2, .tmp 3] [sl A17 l19 c18, vI 0] rfl rfl (fun w_ hM => (.tmp rfl (.tmp rfl .nil))) (fun w_ hM => ?_)
    exact ⟨A17, c18, y20, h21, rfl, hM⟩
   ·
    intro HJ2
    refine st_seq (st_seq (st_region [oF 0, oF 1, oF 2] (by rfl) ?_))
    refine oQ [oF 0, oF 1, oF 2] [(64, vI 0), (63, vI (l.length : Int)), (8, .slice none 0 0), (0, sl A_l l c_l), (4, sl (sa g12) l13 l2.length), (5, vI i16)] (by kernel_rfl) ?_
    refine ops_nil (fin_then (st_block ?_))
    refine st_conv (l' := [(64, vI 0), (63, vI (l.length : Int)), (8, .slice none 0 0), (0, sl A_l l c_l), (4, sl (sa g12) l13 l2.length), (5, vI i16)]) (M' := Mem w0 (ow none ([] : List Int) 0 3 1 [] :: ow (sa g12) l13 l2.length 3 1 y14 :: Fz F W :: cs)) rfl (fun w_ h => h.onil none 3 1) ?_
    obtain ⟨r3, hl3, hk3⟩ := obind hp
    refine st_loopP (σ := (List Int) × Int) (ρ := (List Int)) (γ := (Option Addr) × Nat × (List Value)) hl3 (none, 0, []) (fun s_ g_ => match s_, g_ with | (l24, i27), (A22, c23, y25) => [(0, sl A_l l c_l), (4, sl (sa g12) l13 l2.length), (5, vI i16), (8, sl A22 l24 c23), (63, vI (l.length : Int)), (64, vI i27)]) (fun s_ g_ => match s_, g_ with | (l24, i27), (A22, c23, y25) => Mem w0 (ow (sa g12) l13 l2.length 3 1 y14 :: ow A22 l24 c23 3 1 y25 :: Fz F W :: cs)) (fun s_ g_ => match s_, g_ with | (l24, i27), (A22, c23, y25) => (RepL (Rep.int .i64) F W l24 y25)) (RepL.nil (R := (Rep.int .i64))) (look_has ⟨rfl, rfl, rfl, rfl, rfl, rfl, trivial⟩) (fun w_ hM => hM.pick 3 [1, 0, 2] (by kernel_rfl) (by decide) rfl) ?_
    rintro ⟨l24, i27⟩ ⟨A22, c23, y25⟩ o3 h26 hs_ hd3
    have hp : (plan_Chain_l3 l i16 l13) l24 i27 = some o3 := hs_
    clear hs_
    unfold plan_Chain_l3 at hp
    refine st_seq (st_region [oF 0] (by rfl) ?_)
    refine oQ [oF 0] [(65, .bool (decide (i27 < (l.length : Int)))), (0, sl A_l l c_l), (4, sl (sa g12) l13 l2.length), (5, vI i16), (8, sl A22 l24 c23), (63, vI (l.length : Int)), (64, vI i27)] (by kernel_rfl) ?_
    refine ops_nil (fin_then (st_seq ?_))
    refine st_if (b := decide (i27 < (l.length : Int))) rfl (fun hc28 => ?_) (fun hc28 => ?_)
    ·
     have hp := cnd_t hc28 hp
     refine st_skip (fin_then ?_)
     refine st_join1 (σ := (Option Addr) × Nat × (List Int) × (List Value)) (L := fun x_ => match x_ with | (A29, c30, l31, y32) => [(0, sl A_l l c_l), (4, sl (sa g12) l13 l2.length), (5, vI i16), (8, sl A29 l31 c30), (63, vI (l.length : Int)), (64, vI i27)]) (N := fun x_ => match x_ with | (A29, c30, l31, y32) => Mem w0 (ow (sa g12) l13 l2.length 3 1 y14 :: ow A29 l31 c30 3 1 y32 :: Fz F W :: cs)) (I := fun x_ => match x_ with | (A29, c30, l31, y32) => ((plan_Chain_j4 i27) l31 = some o3) ∧ (RepL (Rep.int .i64) F W l31 y32)) ?_ ?_
     ·
      rintro ⟨A29, c30, l31, y32⟩ ⟨hp, h33⟩
      unfold plan_Chain_j4 at hp
      refine st_region [oF 0, oF 1] (by rfl) ?_
      refine oQ [oF 0, oF 1] [(64, vI (IntKind.i64.wrap (i27 + 1))), (0, sl A_l l c_l), (4, sl (sa g12) l13 l2.length), (5, vI i16), (8, sl A29 l31 c30), (63, vI (l.length : Int))] (by kernel_rfl) ?_
      refine ops_nil ?_
      exact fin_again (l31, IntKind.i64.wrap (i27 + 1)) (A29, c30, y32) (Option.some.inj hp).symm h33 (look_has ⟨rfl, rfl, rfl, rfl, rfl, rfl, trivial⟩) (fun w_ hM => hM)
     ·
      intro HJ4
      refine st_seq (st_block (st_seq (st_region [oF 0, oF 1] (by rfl) ?_)))
      refine oQ [oF 0, oF 1] [(9, vI i27), (0, sl A_l l c_l), (4, sl (sa g12) l13 l2.length), (5, vI i16), (8, sl A22 l24 c23), (63, vI (l.length : Int)), (64, vI i27)] (by kernel_rfl) ?_
      refine ops_nil (fin_then (st_seq ?_))
      refine st_region_fast plan_Chain__t0 [oT 0, oT 1, oT 2, oT 3, oT 4, oT 5, oT 6, oT 7, oT 8, oT 9, oT 10, oT 11, oT 12, oT 13, oT 14, oT 15, oT 16, oT 17, oT 18, oT 19, oT 20, oT 21, oT 22, oT 23, oT 24, oT 25, oT 26, oT 27, oT 28, oT 29, oT 30, oT 31, oT 32, oF 33, oT 34, oT 35] (Mem w0 (ow (sa g12) l13 l2.length 3 1 y14 :: ow A22 l24 c23 3 1 y25 :: Fz F W :: cs)) (by kernel_rfl) (by kernel_rfl) (by kernel_rfl) (by kernel_rfl) (by kernel_rfl) (fun _ d _ _ _ h => by cases d <;> exact h) (M' := Mem w0 (ow (sa g12) l13 l2.length 3 1 y14 :: ow A22 l24 c23 3 1 y25 :: Fz F W :: cs)) (fun w_ hM => ⟨hM.drew, hM.drew.sub (.cons_cons _ (.cons_cons _ (.cons_cons _ (.refl _))))⟩) ?_
      refine oQ [oT 0, oT 1, oT 2, oT 3, oT 4] [(71, .bool (decide ((l24.length : Int) < i16))), (9, vI i27), (0, sl A_l l c_l), (4, sl (sa g12) l13 l2.length), (5, vI i16), (8, sl A22 l24 c23), (63, vI (l.length : Int)), (64, vI i27)] (by kernel_rfl) ?_
      refine ops_bool (t := decide ((l24.length : Int) < i16)) (l1 := [(71, .bool true), (9, vI i27), (0, sl A_l l c_l), (4, sl (sa g12) l13 l2.length), (5, vI i16), (8, sl A22 l24 c23), (63, vI (l.length : Int)), (64, vI i27)]) (l2 := [(71, .bool false), (9, vI i27), (0, sl A_l l c_l), (4, sl (sa g12) l13 l2.length), (5, vI i16), (8, sl A22 l24 c23), (63, vI (l.length : Int)), (64, vI i27)]) (fun h => by rw [h]) (fun h => by rw [h]) (fun hc34 => ?_) (fun hc34 => ?_)
      ·
       have hp := cnd_t hc34 hp
       refine oQ [oT 5, oT 6] [(73, vI i27), (72, sl (sa g12) l13 l2.length), (71, .bool true), (9, vI i27), (0, sl A_l l c_l), (4, sl (sa g12) l13 l2.length), (5, vI i16), (8, sl A22 l24 c23), (63, vI (l.length : Int)), (64, vI i27)] (by kernel_rfl) ?_
       obtain ⟨x35, hv36, hp⟩ := obind hp
       obtain ⟨m37, hm38, hx39⟩ := idx_some hv36
       have hl42 := (List.getElem?_eq_some_iff.1 hx39).1
       obtain ⟨vs40, hr41, hq43⟩ := h15.at_ m37 x35 hx39
       obtain rfl := hr41
       refine ops_val (op := (.indexAddr 26 (.tmp 72) (.tmp 73))) (d := some 74) (v := vP g12 (m37 * 1)) ⟨by kernel_rfl⟩ (run_indexRow Try.underlying26 (z := 1) (by kernel_rfl) rfl rfl hm38 hl42 rfl) ?_
       refine ops_load (d := some 75) (an := [.v (vI x35)]) (evs := [.load ⟨g12, m37 * 1, none⟩ (vI x35)]) (v := vI x35) ⟨by kernel_rfl⟩ (fun w_ hM => ⟨hM.ocell 0 rfl (hq43 0 _ rfl), rfl⟩) ?_
       refine oQ [oT 9, oT 10, oT 11, oT 12, oT 13, oT 14, oT 15] [(82, .bool (x35 == IntKind.i64.wrap (i16 - (l24.length : Int)))), (9, vI i27), (0, sl A_l l c_l), (4, sl (sa g12) l13 l2.length), (5, vI i16), (8, sl A22 l24 c23), (63, vI (l.length : Int)), (64, vI i27)] (by kernel_rfl) ?_
       refine ops_bool (t := (x35 == IntKind.i64.wrap (i16 - (l24.length : Int)))) (l1 := [(82, .bool true), (9, vI i27), (0, sl A_l l c_l), (4, sl (sa g12) l13 l2.length), (5, vI i16), (8, sl A22 l24 c23), (63, vI (l.length : Int)), (64, vI i27)]) (l2 := [(82, .bool false), (9, vI i27), (0, sl A_l l c_l), (4, sl (sa g12) l13 l2.length), (5, vI i16), (8, sl A22 l24 c23), (63, vI (l.length : Int)), (64, vI i27)]) (fun h => by rw [h]) (fun h => by rw [h]) (fun hc44 => ?_) (fun hc44 => ?_)
       ·
        have hp := cnd_t hc44 hp
        refine oQ [oT 16, oT 17, oT 18, oT 19] [(86, .bool ((l24.length : Int) == 0)), (82, .bool true), (9, vI i27), (0, sl A_l l c_l), (4, sl (sa g12) l13 l2.length), (5, vI i16), (8, sl A22 l24 c23), (63, vI (l.length : Int)), (64, vI i27)] (by kernel_rfl) ?_
        refine ops_bool (t := ((l24.length : Int) == 0)) (l1 := [(86, .bool true), (82, .bool true), (9, vI i27), (0, sl A_l l c_l), (4, sl (sa g12) l13 l2.length), (5, vI i16), (8, sl A22 l24 c23), (63, vI (l.length : Int)), (64, vI i27)]) (l2 := [(86, .bool false), (82, .bool true), (9, vI i27), (0, sl A_l l c_l), (4, sl (sa g12) l13 l2.length), (5, vI i16), (8, sl A22 l24 c23), (63, vI (l.length : Int)), (64, vI i27)]) (fun h => by rw [h]) (fun h => by rw [h]) (fun hc45 => ?_) (fun hc45 => ?_)
        ·
         have hp := cnd_t hc45 hp
         refine oQ [oT 20, oT 21, oT 22, oT 23, oT 24, oT 25, oT 26, oT 27, oT 28, oT 29, oT 30, oT 31, oT 32, oF 33, oT 34, oT 35] [(102, .bool true), (9, vI i27), (0, sl A_l l c_l), (4, sl (sa g12) l13 l2.length), (5, vI i16), (8, sl A22 l24 c23), (63, vI (l.length : Int)), (64, vI i27)] (by kernel_rfl) ?_
         refine ops_nil (fin_then (st_true rfl (st_region [oF 0, oF 1, oF 2, oF 3, oF 4] (by rfl) ?_)))
         refine oQ [oF 0, oF 1] [(104, vI i27), (103, sl A22 l24 c23), (0, sl A_l l c_l), (4, sl (sa g12) l13 l2.length), (5, vI i16), (8, sl A22 l24 c23), (63, vI (l.length : Int)), (64, vI i27)] (by kernel_rfl) ?_
         have h46 : RepL (Rep.int .i64) F W ([i27] : List Int) ([vI i27]) := (RepL.cons (R := (Rep.int .i64)) (F := F) (w := W) (vs := [vI i27]) (ys := []) rfl RepL.nil)
         refine ops_new (d := some 105) (o := .cells ([vI i27]).toArray 3) (v := fun g47 => .slice (sa g47) ([i27] : List Int).length 1) (M' := fun g47 => Mem w0 (orow (sa g47) ([i27] : List Int).length 1 3 1 ([vI i27]) :: ow (sa g12) l13 l2.length 3 1 y14 :: ow A22 l24 c23 3 1 y25 :: Fz F W :: cs)) (fun g47 => ⟨by kernel_rfl⟩) (fun w_ hM hS => ⟨hM.onew [vI i27] 3 1 1 rfl (by decide), trivial⟩) (fun g47 => ?_)
         obtain ⟨l48, hv49, hp⟩ := obind hp
         obtain ⟨he50, hb51⟩ := app_some hv49
         obtain ⟨y52, hy53⟩ : ∃ y_, y25 ++ ([vI i27]) = y_ := ⟨_, rfl⟩
         have h54 : RepL (Rep.int .i64) F W l48 y52 := by rw [he50, ← hy53]; exact RepL.app h26 h46
         refine ops_appendO (x := (Go.Operand.tmp 103)) (y := (Go.Operand.tmp 105)) (t := 26) (e := 3) (d := some 106) (n' := l48.length) (z := 1) (m := ([i27] : List Int).length) (bytes := 8) (xs' := y52) (news := ([vI i27])) (zv := vI 0) 2 ⟨by kernel_rfl⟩ rfl rfl Try.underlying26 (by kernel_rfl) (by rfl) rfl (fun w_ hM => hM.srcO 0 rfl) h46.len h46.one hb51 (by have z_ := congrArg List.length he50; rw [List.length_append] at z_; exact z_.symm) hy53 (fun _ _ _ _ hS h' => trivial) ?_
         rintro ⟨A55, c56⟩
         refine oQ [oF 4] [(8, sl A55 l48 c56), (0, sl A_l l c_l), (4, sl (sa g12) l13 l2.length), (5, vI i16), (63, vI (l.length : Int)), (64, vI i27)] (by kernel_rfl) ?_
         refine ops_nil (fin_block ?_)
         exact fin_join HJ4 (A55, c56, l48, y52) ⟨hp, h54⟩ (look_has ⟨rfl, rfl, rfl, rfl, rfl, rfl, trivial⟩) (fun w_ hM => hM.pick 4 [1, 2, 3] (by kernel_rfl) (by decide) rfl)
        ·
         have hp := cnd_f hc45 hp
         refine oQ [oT 20, oT 21, oT 22, oT 23, oT 24] [(91, vI (IntKind.i64.wrap ((l24.length : Int) - 1))), (88, sl A22 l24 c23), (87, sl A_l l c_l), (86, .bool false), (82, .bool true), (9, vI i27), (0, sl A_l l c_l), (4, sl (sa g12) l13 l2.length), (5, vI i16), (8, sl A22 l24 c23), (63, vI (l.length : Int)), (64, vI i27)] (by kernel_rfl) ?_
         obtain ⟨x57, hv58, hp⟩ := obind hp
         obtain ⟨m59, hm60, hx61⟩ := idx_some hv58
         have hl64 := (List.getElem?_eq_some_iff.1 hx61).1
         refine ops_fact (fun w_ hM => hM.orowSome 1 rfl (Nat.lt_of_le_of_lt (Nat.zero_le _) hl64)) ?_
         rintro ⟨g65, rfl, -⟩
         obtain ⟨vs62, hr63, hq66⟩ := h26.at_ m59 x57 hx61
         obtain rfl := hr63
         refine ops_val (op := (.indexAddr 26 (.tmp 88) (.tmp 91))) (d := some 92) (v := vP g65 (m59 * 1)) ⟨by kernel_rfl⟩ (run_indexRow Try.underlying26 (z := 1) (by kernel_rfl) rfl rfl hm60 hl64 rfl) ?_
         refine ops_load (d := some 93) (an := [.v (vI x57)]) (evs := [.load ⟨g65, m59 * 1, none⟩ (vI x57)]) (v := vI x57) ⟨by kernel_rfl⟩ (fun w_ hM => ⟨hM.ocell 1 rfl (hq66 0 _ rfl), rfl⟩) ?_
         obtain ⟨x67, hv68, hp⟩ := obind hp
         obtain ⟨m69, hm70, hx71⟩ := idx_some hv68
         have hl74 := (List.getElem?_eq_some_iff.1 hx71).1
         obtain ⟨ad75, vs72, hA76, hr73, hq77⟩ := RdS.el h_l hx71
         obtain ⟨A78, c79, A81, c82, A84, c85, A87, c88, A90, c91, A93, c94, rfl, h80, h83, h86, h89, h92, h95⟩ := dec_api_System hr73
         refine ops_val (op := (.indexAddr 22 (.tmp 87) (.tmp 93))) (d := some 94) (v := .pointer (some (ad75.add (m69 * 7)))) ⟨by kernel_rfl⟩ (run_indexA hA76 Try.underlying22 (z := 7) (by kernel_rfl) rfl rfl hm70 hl74) ?_
         refine ops_load (d := some 95) (an := [.v (.string x67.Name), .v (sl A78 x67.With c79), .v (sl A81 x67.Without c82), .v (sl A84 x67.Reads c85), .v (sl A87 x67.Writes c88), .v (sl A90 x67.Ops c91), .v (sl A93 x67.Spawn c94)]) (evs := [.load (ad75.add (m69 * 7)) (.string x67.Name), .load ((ad75.add (m69 * 7)).add 1) (sl A78 x67.With c79), .load ((ad75.add (m69 * 7)).add 2) (sl A81 x67.Without c82), .load ((ad75.add (m69 * 7)).add 3) (sl A84 x67.Reads c85), .load ((ad75.add (m69 * 7)).add 4) (sl A87 x67.Writes c88), .load ((ad75.add (m69 * 7)).add 5) (sl A90 x67.Ops c91), .load ((ad75.add (m69 * 7)).add 6) (sl A93 x67.Spawn c94)]) (v := .agg #[.string x67.Name, sl A78 x67.With c79, sl A81 x67.Without c82, sl A84 x67.Reads c85, sl A87 x67.Writes c88, sl A90 x67.Ops c91, sl A93 x67.Spawn c94]) ⟨by kernel_rfl⟩ (fun w_ hM => ⟨hM.elcell 2 rfl hq77 0 rfl, hM.elcell 2 rfl hq77 1 rfl, hM.elcell 2 rfl hq77 2 rfl, hM.elcell 2 rfl hq77 3 rfl, hM.elcell 2 rfl hq77 4 rfl, hM.elcell 2 rfl hq77 5 rfl, hM.elcell 2 rfl hq77 6 rfl, rfl⟩) ?_
         refine oQ [oT 29, oT 30] [(97, vI i27), (96, sl A_l l c_l), (95, .agg #[.string x67.Name, sl A78 x67.With c79, sl A81 x67.Without c82, sl A84 x67.Reads c85, sl A87 x67.Writes c88, sl A90 x67.Ops c91, sl A93 x67.Spawn c94]), (86, .bool false), (82, .bool true), (9, vI i27), (0, sl A_l l c_l), (4, sl (sa g12) l13 l2.length), (5, vI i16), (8, sl (sa g65) l24 c23), (63, vI (l.length : Int)), (64, vI i27)] (by kernel_rfl) ?_
         obtain ⟨x96, hv97, hp⟩ := obind hp
         obtain ⟨m98, hm99, hx100⟩ := idx_some hv97
         have hl103 := (List.getElem?_eq_some_iff.1 hx100).1
         obtain ⟨ad104, vs101, hA105, hr102, hq106⟩ := RdS.el h_l hx100
         obtain ⟨A107, c108, A110, c111, A113, c114, A116, c117, A119, c120, A122, c123, rfl, h109, h112, h115, h118, h121, h124⟩ := dec_api_System hr102
         refine ops_val (op := (.indexAddr 22 (.tmp 96) (.tmp 97))) (d := some 98) (v := .pointer (some (ad104.add (m98 * 7)))) ⟨by kernel_rfl⟩ (run_indexA hA105 Try.underlying22 (z := 7) (by kernel_rfl) rfl rfl hm99 hl103) ?_
         refine ops_load (d := some 99) (an := [.v (.string x96.Name), .v (sl A107 x96.With c108), .v (sl A110 x96.Without c111), .v (sl A113 x96.Reads c114), .v (sl A116 x96.Writes c117), .v (sl A119 x96.Ops c120), .v (sl A122 x96.Spawn c123)]) (evs := [.load (ad104.add (m98 * 7)) (.string x96.Name), .load ((ad104.add (m98 * 7)).add 1) (sl A107 x96.With c108), .load ((ad104.add (m98 * 7)).add 2) (sl A110 x96.Without c111), .load ((ad104.add (m98 * 7)).add 3) (sl A113 x96.Reads c114), .load ((ad104.add (m98 * 7)).add 4) (sl A116 x96.Writes c117), .load ((ad104.add (m98 * 7)).add 5) (sl A119 x96.Ops c120), .load ((ad104.add (m98 * 7)).add 6) (sl A122 x96.Spawn c123)]) (v := .agg #[.string x96.Name, sl A107 x96.With c108, sl A110 x96.Without c111, sl A113 x96.Reads c114, sl A116 x96.Writes c117, sl A119 x96.Ops c120, sl A122 x96.Spawn c123]) ⟨by kernel_rfl⟩ (fun w_ hM => ⟨hM.elcell 2 rfl hq106 0 rfl, hM.elcell 2 rfl hq106 1 rfl, hM.elcell 2 rfl hq106 2 rfl, hM.elcell 2 rfl hq106 3 rfl, hM.elcell 2 rfl hq106 4 rfl, hM.elcell 2 rfl hq106 5 rfl, hM.elcell 2 rfl hq106 6 rfl, rfl⟩) ?_
         obtain ⟨x125, hv126, hp⟩ := obind hp
         refine ops_callI (σ := Unit) (d := some 100) (f := 25) (args := #[.agg #[.string x67.Name, sl A78 x67.With c79, sl A81 x67.Without c82, sl A84 x67.Reads c85, sl A87 x67.Writes c88, sl A90 x67.Ops c91, sl A93 x67.Spawn c94], .agg #[.string x96.Name, sl A107 x96.With c108, sl A110 x96.Without c111, sl A113 x96.Reads c114, sl A116 x96.Writes c117, sl A119 x96.Ops c120, sl A122 x96.Spawn c123]]) (v := (fun _ => .bool x125)) (I := (fun _ => True)) (M' := (fun _ => Mem w0 (ow (sa g12) l13 l2.length 3 1 y14 :: ow (sa g65) l24 c23 3 1 y25 :: Fz F W :: cs))) ⟨by kernel_rfl⟩ (fun w_ hM hS => (plan_Conflict_ok w0 w_ (ow (sa g12) l13 l2.length 3 1 y14 :: ow (sa g65) l24 c23 3 1 y25 :: cs) F W x67.Name A78 c79 x67.With A81 c82 x67.Without A84 c85 x67.Reads A87 c88 x67.Writes A90 c91 x67.Ops A93 c94 x67.Spawn x96.Name A107 c108 x96.With A110 c111 x96.Without A113 c114 x96.Reads A116 c117 x96.Writes A119 c120 x96.Ops A122 c123 x96.Spawn (hM.pick 3 [2, 0, 1] (by kernel_rfl) (by decide) rfl) h80 h83 h86 h89 h92 h95 h109 h112 h115 h118 h121 h124 x125 hv126).mono (by rintro e w' ⟨-, rfl, h'⟩; have h' : Mem w0 (ow (sa g12) l13 l2.length 3 1 y14 :: ow (sa g65) l24 c23 3 1 y25 :: Fz F W :: cs) w' := (h'.pick 3 [1, 2, 0] (by kernel_rfl) (by decide) rfl); exact ⟨(), trivial, rfl, h', (by exact h'.sub (.cons_cons _ (.cons_cons _ (.cons_cons _ (.refl _)))))⟩)) ?_
         rintro _ -
         refine oQ [oT 34, oT 35] [(102, .bool x125), (9, vI i27), (0, sl A_l l c_l), (4, sl (sa g12) l13 l2.length), (5, vI i16), (8, sl (sa g65) l24 c23), (63, vI (l.length : Int)), (64, vI i27)] (by kernel_rfl) ?_
         refine ops_nil (fin_then ?_)
         refine st_if (b := x125) rfl (fun hc127 => ?_) (fun hc127 => ?_)
         ·
          have hp := cnd_t hc127 hp
          refine st_region [oF 0, oF 1, oF 2, oF 3, oF 4] (by rfl) ?_
          refine oQ [oF 0, oF 1] [(104, vI i27), (103, sl (sa g65) l24 c23), (0, sl A_l l c_l), (4, sl (sa g12) l13 l2.length), (5, vI i16), (8, sl (sa g65) l24 c23), (63, vI (l.length : Int)), (64, vI i27)] (by kernel_rfl) ?_
          have h128 : RepL (Rep.int .i64) F W ([i27] : List Int) ([vI i27]) := (RepL.cons (R := (Rep.int .i64)) (F := F) (w := W) (vs := [vI i27]) (ys := []) rfl RepL.nil)
          refine ops_new (d := some 105) (o := .cells ([vI i27]).toArray 3) (v := fun g129 => .slice (sa g129) ([i27] : List Int).length 1) (M' := fun g129 => Mem w0 (orow (sa g129) ([i27] : List Int).length 1 3 1 ([vI i27]) :: ow (sa g12) l13 l2.length 3 1 y14 :: ow (sa g65) l24 c23 3 1 y25 :: Fz F W :: cs)) (fun g129 => ⟨by kernel_rfl⟩) (fun w_ hM hS => ⟨hM.onew [vI i27] 3 1 1 rfl (by decide), trivial⟩) (fun g129 => ?_)
          obtain ⟨l130, hv131, hp⟩ := obind hp
          obtain ⟨he132, hb133⟩ := app_some hv131
          obtain ⟨y134, hy135⟩ : ∃ y_, y25 ++ ([vI i27]) = y_ := ⟨_, rfl⟩
          have h136 : RepL (Rep.int .i64) F W l130 y134 := by rw [he132, ← hy135]; exact RepL.app h26 h128
          refine ops_appendO (x := (Go.Operand.tmp 103)) (y := (Go.Operand.tmp 105)) (t := 26) (e := 3) (d := some 106) (n' := l130.length) (z := 1) (m := ([i27] : List Int).length) (bytes := 8) (xs' := y134) (news := ([vI i27])) (zv := vI 0) 2 ⟨by kernel_rfl⟩ rfl rfl Try.underlying26 (by kernel_rfl) (by rfl) rfl (fun w_ hM => hM.srcO 0 rfl) h128.len h128.one hb133 (by have z_ := congrArg List.length he132; rw [List.length_append] at z_; exact z_.symm) hy135 (fun _ _ _ _ hS h' => trivial) ?_
          rintro ⟨A137, c138⟩
          refine oQ [oF 4] [(8, sl A137 l130 c138), (0, sl A_l l c_l), (4, sl (sa g12) l13 l2.length), (5, vI i16), (63, vI (l.length : Int)), (64, vI i27)] (by kernel_rfl) ?_
          refine ops_nil (fin_block ?_)
          exact fin_join HJ4 (A137, c138, l130, y134) ⟨hp, h136⟩ (look_has ⟨rfl, rfl, rfl, rfl, rfl, rfl, trivial⟩) (fun w_ hM => hM.pick 4 [1, 2, 3] (by kernel_rfl) (by decide) rfl)
         ·
          have hp := cnd_f hc127 hp
          refine st_skip (fin_block ?_)
          exact fin_join HJ4 ((sa g65), c23, l24, y25) ⟨hp, h26⟩ (look_has ⟨rfl, rfl, rfl, rfl, rfl, rfl, trivial⟩) (fun w_ hM => hM)
       ·
        have hp := cnd_f hc44 hp
        refine oQ [oT 16, oT 17, oT 18, oT 19, oT 20, oT 21, oT 22, oT 23, oT 24, oT 25, oT 26, oT 27, oT 28, oT 29, oT 30, oT 31, oT 32, oF 33, oT 34, oT 35] [(102, .bool false), (9, vI i27), (0, sl A_l l c_l), (4, sl (sa g12) l13 l2.length), (5, vI i16), (8, sl A22 l24 c23), (63, vI (l.length : Int)), (64, vI i27)] (by kernel_rfl) ?_
        refine ops_nil (fin_then (st_false rfl (st_skip (fin_block ?_))))
        exact fin_join HJ4 (A22, c23, l24, y25) ⟨hp, h26⟩ (look_has ⟨rfl, rfl, rfl, rfl, rfl, rfl, trivial⟩) (fun w_ hM => hM)
      ·
       have hp := cnd_f hc34 hp
       refine oQ [oT 5, oT 6, oT 7, oT 8, oT 9, oT 10, oT 11, oT 12, oT 13, oT 14, oT 15, oT 16, oT 17, oT 18, oT 19, oT 20, oT 21, oT 22, oT 23, oT 24, oT 25, oT 26, oT 27, oT 28, oT 29, oT 30, oT 31, oT 32, oF 33, oT 34, oT 35] [(102, .bool false), (9, vI i27), (0, sl A_l l c_l), (4, sl (sa g12) l13 l2.length), (5, vI i16), (8, sl A22 l24 c23), (63, vI (l.length : Int)), (64, vI i27)] (by kernel_rfl) ?_
       refine ops_nil (fin_then (st_false rfl (st_skip (fin_block ?_))))
       exact fin_join HJ4 (A22, c23, l24, y25) ⟨hp, h26⟩ (look_has ⟨rfl, rfl, rfl, rfl, rfl, rfl, trivial⟩) (fun w_ hM => hM)
    ·
     have hp := cnd_f hc28 hp
     refine st_exit (fin_exit_then (fin_exit_then (fin_exit ?_)))
     obtain hq_ := Option.some.inj hp
     subst hq_
     obtain hq_ := hd3 _ rfl
     subst hq_
     have hp : plan_Chain_j2 l24 = some (l9003, i9006) := hk3
     exact fin_join HJ2 (A22, c23, l24, y25) ⟨hp, h26⟩ (look_has ⟨rfl, trivial⟩) (fun w_ hM => hM.pick 3 [1, 2] (by kernel_rfl) (by decide) rfl)
  ·
   intro HJ1
   refine st_seq (st_seq (st_region [oF 0, oF 1, oF 2, oF 3] (by rfl) ?_))
   refine oQ [oF 0, oF 1, oF 2, oF 3] [(6, vI (IntKind.i64.wrap ((l.length : Int) - 1))), (5, vI 0), (4, sl (sa g12) l2 l2.length), (0, sl A_l l c_l)] (by kernel_rfl) ?_
   refine ops_nil (fin_then (st_block ?_))
   obtain ⟨r5, hl5, hk5⟩ := obind hp
   refine st_loopP (σ := (List Int) × Int × Int) (ρ := (List Int) × Int) (γ := (List Value)) hl5 y9 (fun s_ g_ => match s_, g_ with | (l139, i142, i143), y140 => [(0, sl A_l l c_l), (4, sl (sa g12) l139 l2.length), (5, vI i142), (6, vI i143)]) (fun s_ g_ => match s_, g_ with | (l139, i142, i143), y140 => Mem w0 (ow (sa g12) l139 l2.length 3 1 y140 :: Fz F W :: cs)) (fun s_ g_ => match s_, g_ with | (l139, i142, i143), y140 => (RepL (Rep.int .i64) F W l139 y140)) h11 (look_has ⟨rfl, rfl, rfl, rfl, trivial⟩) (fun w_ hM => hM) ?_
   rintro ⟨l139, i142, i143⟩ y140 o5 h141 hs_ hd5
   have hp : (plan_Chain_l5 l) l139 i142 i143 = some o5 := hs_
   clear hs_
   unfold plan_Chain_l5 at hp
   refine st_seq (st_seq (st_region [oF 0, oF 1] (by rfl) ?_))
   refine oQ [oF 0, oF 1] [(20, .bool (decide (0 ≤ i143))), (0, sl A_l l c_l), (4, sl (sa g12) l139 l2.length), (5, vI i142), (6, vI i143)] (by kernel_rfl) ?_
   refine ops_nil (fin_then ?_)
   refine st_if (b := decide (0 ≤ i143)) rfl (fun hc144 => ?_) (fun hc144 => ?_)
   ·
    have hp := cnd_t hc144 hp
    refine st_skip (fin_then (st_seq (st_block (st_seq (st_region [oF 0, oF 1, oF 2, oF 3] (by rfl) ?_)))))
    refine oQ [oF 0, oF 1] [(24, vI i143), (23, sl (sa g12) l139 l2.length), (0, sl A_l l c_l), (4, sl (sa g12) l139 l2.length), (5, vI i142), (6, vI i143)] (by kernel_rfl) ?_
    obtain ⟨x145, hv146, hp⟩ := obind hp
    obtain ⟨m147, hm148, hx149⟩ := idx_some hv146
    have hl152 := (List.getElem?_eq_some_iff.1 hx149).1
    obtain ⟨vs150, hr151, hq153⟩ := h141.at_ m147 x145 hx149
    obtain rfl := hr151
    refine ops_val (op := (.indexAddr 26 (.tmp 23) (.tmp 24))) (d := some 25) (v := vP g12 (m147 * 1)) ⟨by kernel_rfl⟩ (run_indexRow Try.underlying26 (z := 1) (by kernel_rfl) rfl rfl hm148 hl152 rfl) ?_
    refine oQ [] [(25, vP g12 (m147 * 1)), (0, sl A_l l c_l), (4, sl (sa g12) l139 l2.length), (5, vI i142), (6, vI i143)] (by kernel_rfl) ?_
    obtain ⟨l154, hv155, hp⟩ := obind hp
    obtain ⟨m156, hm157, hl158, he159⟩ := upd_some hv155
    obtain rfl : m147 = m156 := by have := hm148; omega
    have hl160 : l139.length = l154.length := by rw [he159, List.length_set]
    obtain ⟨y161, hy162⟩ : ∃ y_, setAll y140 (m147 * 1 + 0) [vI 1] = y_ := ⟨_, rfl⟩
    have h163 : RepL (Rep.int .i64) F W l154 y161 := by rw [he159, ← hy162]; exact RepL.set h141 (List.getElem?_eq_getElem hl158) (fun vs_ hr_ _ => by obtain rfl := hr_; exact ⟨rfl, Nat.le_of_ble_eq_true rfl⟩)
    refine ops_store (an := []) (evs := [.store ⟨g12, m147 * 1, none⟩ (vI 1)]) ⟨by kernel_rfl⟩ (fun w_ hM hS => let ⟨w', he, h'⟩ := hM.ostore' 0 rfl (m147 * 1 + 0) [vI 1] (by have z_ : y140.length = l139.length * 1 := h141.len; have y_ : (m147 + 1) * 1 ≤ l139.length * 1 := Nat.mul_le_mul_right _ hl158; rw [Nat.add_mul] at y_; simp only [List.length_cons, List.length_nil]; omega) hl160 hy162; ⟨w', he, h', trivial⟩) ?_
    refine ops_conv (l' := [(25, vP g12 (m147 * 1)), (0, sl A_l l c_l), (4, sl (sa g12) l154 l2.length), (5, vI i142), (6, vI i143)]) (M' := Mem w0 (ow (sa g12) l154 l2.length 3 1 y161 :: Fz F W :: cs)) (by first | rfl | ((try dsimp only [sl, ow]); rw [hl160])) (fun w_ hM => by first | exact hM | ((try dsimp only [sl, ow] at hM ⊢); rw [hl160] at hM; exact hM)) ?_
    refine ops_nil (fin_then ?_)
    refine st_join1 (σ := (List Int) × (List Value)) (L := fun x_ => match x_ with | (l165, y166) => [(0, sl A_l l c_l), (4, sl (sa g12) l165 l2.length), (5, vI i142), (6, vI i143)]) (N := fun x_ => match x_ with | (l165, y166) => Mem w0 (ow (sa g12) l165 l2.length 3 1 y166 :: Fz F W :: cs)) (I := fun x_ => match x_ with | (l165, y166) => ((plan_Chain_j6 i143 i142) l165 = some o5) ∧ (RepL (Rep.int .i64) F W l165 y166)) ?_ ?_
    ·
     rintro ⟨l165, y166⟩ ⟨hp, h167⟩
     unfold plan_Chain_j6 at hp
     refine st_region [oF 0, oF 1, oF 2, oF 3, oF 4, oF 5, oF 6] (by rfl) ?_
     refine oQ [oF 0, oF 1, oF 2] [(58, vI i143), (57, sl (sa g12) l165 l2.length), (56, vI i142), (0, sl A_l l c_l), (4, sl (sa g12) l165 l2.length), (5, vI i142), (6, vI i143)] (by kernel_rfl) ?_
     obtain ⟨x168, hv169, hp⟩ := obind hp
     obtain ⟨m170, hm171, hx172⟩ := idx_some hv169
     have hl175 := (List.getElem?_eq_some_iff.1 hx172).1
     obtain ⟨vs173, hr174, hq176⟩ := h167.at_ m170 x168 hx172
     obtain rfl := hr174
     refine ops_val (op := (.indexAddr 26 (.tmp 57) (.tmp 58))) (d := some 59) (v := vP g12 (m170 * 1)) ⟨by kernel_rfl⟩ (run_indexRow Try.underlying26 (z := 1) (by kernel_rfl) rfl rfl hm171 hl175 rfl) ?_
     refine ops_mem (d := some 60) (an := [.v (vI x168)]) (evs := [.load ⟨g12, m170 * 1, none⟩ (vI x168)]) (v := vI x168) ⟨by kernel_rfl⟩ (fun w_ hM hS => ⟨w_, ⟨hM.ocell 0 rfl (hq176 0 _ rfl), rfl⟩, hM, trivial⟩) ?_
     refine ops_val (op := (.call { callee := (Go.Callee.builtin Go.Builtin.max), args := #[(.tmp 56), (.tmp 60)], argTypes := #[3, 3] })) (d := some 61) (v := vI (max i142 x168)) ⟨by kernel_rfl⟩ (run_max rfl rfl) ?_
     refine oQ [oF 6] [(5, vI (max i142 x168)), (0, sl A_l l c_l), (4, sl (sa g12) l165 l2.length), (6, vI i143)] (by kernel_rfl) ?_
     refine ops_nil (fin_block (fin_then (st_region [oF 0, oF 1, oF 2] (by rfl) ?_)))
     refine oQ [oF 0, oF 1, oF 2] [(6, vI (IntKind.i64.wrap (i143 - 1))), (5, vI (max i142 x168)), (0, sl A_l l c_l), (4, sl (sa g12) l165 l2.length)] (by kernel_rfl) ?_
     refine ops_nil ?_
     exact fin_again (l165, max i142 x168, IntKind.i64.wrap (i143 - 1)) y166 (Option.some.inj hp).symm h167 (look_has ⟨rfl, rfl, rfl, rfl, trivial⟩) (fun w_ hM => hM)
    ·
     intro HJ6
     refine st_seq (st_seq (st_region [oF 0, oF 1, oF 2] (by rfl) ?_))
     refine oQ [oF 0, oF 1, oF 2] [(7, vI (IntKind.i64.wrap (i143 + 1))), (0, sl A_l l c_l), (4, sl (sa g12) l154 l2.length), (5, vI i142), (6, vI i143)] (by kernel_rfl) ?_
     refine ops_nil (fin_then (st_block ?_))
     obtain ⟨r7, hl7, hk7⟩ := obind hp
     refine st_loopP (σ := (List Int) × Int) (ρ := (List Int)) (γ := (List Value)) hl7 y161 (fun s_ g_ => match s_, g_ with | (l177, i180), y178 => [(0, sl A_l l c_l), (4, sl (sa g12) l177 l2.length), (5, vI i142), (6, vI i143), (7, vI i180)]) (fun s_ g_ => match s_, g_ with | (l177, i180), y178 => Mem w0 (ow (sa g12) l177 l2.length 3 1 y178 :: Fz F W :: cs)) (fun s_ g_ => match s_, g_ with | (l177, i180), y178 => (RepL (Rep.int .i64) F W l177 y178)) h163 (look_has ⟨rfl, rfl, rfl, rfl, rfl, trivial⟩) (fun w_ hM => hM) ?_
     rintro ⟨l177, i180⟩ y178 o7 h179 hs_ hd7
     have hp : (plan_Chain_l7 l i143) l177 i180 = some o7 := hs_
     clear hs_
     unfold plan_Chain_l7 at hp
     refine st_seq (st_seq (st_region [oF 0, oF 1, oF 2, oF 3] (by rfl) ?_))
     refine oQ [oF 0, oF 1, oF 2, oF 3] [(31, .bool (decide (i180 < (l.length : Int)))), (0, sl A_l l c_l), (4, sl (sa g12) l177 l2.length), (5, vI i142), (6, vI i143), (7, vI i180)] (by kernel_rfl) ?_
     refine ops_nil (fin_then ?_)
     refine st_if (b := decide (i180 < (l.length : Int))) rfl (fun hc181 => ?_) (fun hc181 => ?_)
     ·
      have hp := cnd_t hc181 hp
      refine st_skip (fin_then ?_)
      refine st_join1 (σ := (List Int) × (List Value)) (L := fun x_ => match x_ with | (l182, y183) => [(0, sl A_l l c_l), (4, sl (sa g12) l182 l2.length), (5, vI i142), (6, vI i143), (7, vI i180)]) (N := fun x_ => match x_ with | (l182, y183) => Mem w0 (ow (sa g12) l182 l2.length 3 1 y183 :: Fz F W :: cs)) (I := fun x_ => match x_ with | (l182, y183) => ((plan_Chain_j8 i180) l182 = some o7) ∧ (RepL (Rep.int .i64) F W l182 y183)) ?_ ?_
      ·
       rintro ⟨l182, y183⟩ ⟨hp, h184⟩
       unfold plan_Chain_j8 at hp
       refine st_region [oF 0, oF 1, oF 2] (by rfl) ?_
       refine oQ [oF 0, oF 1, oF 2] [(7, vI (IntKind.i64.wrap (i180 + 1))), (0, sl A_l l c_l), (4, sl (sa g12) l182 l2.length), (5, vI i142), (6, vI i143)] (by kernel_rfl) ?_
       refine ops_nil ?_
       exact fin_again (l182, IntKind.i64.wrap (i180 + 1)) y183 (Option.some.inj hp).symm h184 (look_has ⟨rfl, rfl, rfl, rfl, rfl, trivial⟩) (fun w_ hM => hM)
      ·
       intro HJ8
       refine st_seq (st_block (st_seq ?_))
       refine st_region_draw [oT 0, oT 1, oT 2, oT 3, oT 4, oT 5, oT 6, oT 7, oF 8] (Mem w0 (ow (sa g12) l177 l2.length 3 1 y178 :: Fz F W :: cs)) (by kernel_rfl) (by kernel_rfl) (by kernel_rfl) (fun _ d _ _ _ h => by cases d <;> exact h) (M' := Mem w0 (ow (sa g12) l177 l2.length 3 1 y178 :: Fz F W :: cs)) (fun w_ hM => ⟨hM.drew, hM.drew.sub (.cons_cons _ (.cons_cons _ (.refl _)))⟩) ?_
       refine oQ [oT 0, oT 1] [(35, vI i143), (34, sl A_l l c_l), (0, sl A_l l c_l), (4, sl (sa g12) l177 l2.length), (5, vI i142), (6, vI i143), (7, vI i180)] (by kernel_rfl) ?_
       obtain ⟨x185, hv186, hp⟩ := obind hp
       obtain ⟨m187, hm188, hx189⟩ := idx_some hv186
       have hl192 := (List.getElem?_eq_some_iff.1 hx189).1
       obtain ⟨ad193, vs190, hA194, hr191, hq195⟩ := RdS.el h_l hx189
       obtain ⟨A196, c197, A199, c200, A202, c203, A205, c206, A208, c209, A211, c212, rfl, h198, h201, h204, h207, h210, h213⟩ := dec_api_System hr191
       refine ops_val (op := (.indexAddr 22 (.tmp 34) (.tmp 35))) (d := some 36) (v := .pointer (some (ad193.add (m187 * 7)))) ⟨by kernel_rfl⟩ (run_indexA hA194 Try.underlying22 (z := 7) (by kernel_rfl) rfl rfl hm188 hl192) ?_
       refine ops_load (d := some 37) (an := [.v (.string x185.Name), .v (sl A196 x185.With c197), .v (sl A199 x185.Without c200), .v (sl A202 x185.Reads c203), .v (sl A205 x185.Writes c206), .v (sl A208 x185.Ops c209), .v (sl A211 x185.Spawn c212)]) (evs := [.load (ad193.add (m187 * 7)) (.string x185.Name), .load ((ad193.add (m187 * 7)).add 1) (sl A196 x185.With c197), .load ((ad193.add (m187 * 7)).add 2) (sl A199 x185.Without c200), .load ((ad193.add (m187 * 7)).add 3) (sl A202 x185.Reads c203), .load ((ad193.add (m187 * 7)).add 4) (sl A205 x185.Writes c206), .load ((ad193.add (m187 * 7)).add 5) (sl A208 x185.Ops c209), .load ((ad193.add (m187 * 7)).add 6) (sl A211 x185.Spawn c212)]) (v := .agg #[.string x185.Name, sl A196 x185.With c197, sl A199 x185.Without c200, sl A202 x185.Reads c203, sl A205 x185.Writes c206, sl A208 x185.Ops c209, sl A211 x185.Spawn c212]) ⟨by kernel_rfl⟩ (fun w_ hM => ⟨hM.elcell 1 rfl hq195 0 rfl, hM.elcell 1 rfl hq195 1 rfl, hM.elcell 1 rfl hq195 2 rfl, hM.elcell 1 rfl hq195 3 rfl, hM.elcell 1 rfl hq195 4 rfl, hM.elcell 1 rfl hq195 5 rfl, hM.elcell 1 rfl hq195 6 rfl, rfl⟩) ?_
       refine oQ [oT 4, oT 5] [(39, vI i180), (38, sl A_l l c_l), (37, .agg #[.string x185.Name, sl A196 x185.With c197, sl A199 x185.Without c200, sl A202 x185.Reads c203, sl A205 x185.Writes c206, sl A208 x185.Ops c209, sl A211 x185.Spawn c212]), (0, sl A_l l c_l), (4, sl (sa g12) l177 l2.length), (5, vI i142), (6, vI i143), (7, vI i180)] (by kernel_rfl) ?_
       obtain ⟨x214, hv215, hp⟩ := obind hp
       obtain ⟨m216, hm217, hx218⟩ := idx_some hv215
       have hl221 := (List.getElem?_eq_some_iff.1 hx218).1
       obtain ⟨ad222, vs219, hA223, hr220, hq224⟩ := RdS.el h_l hx218
       obtain ⟨A225, c226, A228, c229, A231, c232, A234, c235, A237, c238, A240, c241, rfl, h227, h230, h233, h236, h239, h242⟩ := dec_api_System hr220
       refine ops_val (op := (.indexAddr 22 (.tmp 38) (.tmp 39))) (d := some 40) (v := .pointer (some (ad222.add (m216 * 7)))) ⟨by kernel_rfl⟩ (run_indexA hA223 Try.underlying22 (z := 7) (by kernel_rfl) rfl rfl hm217 hl221) ?_
       refine ops_load (d := some 41) (an := [.v (.string x214.Name), .v (sl A225 x214.With c226), .v (sl A228 x214.Without c229), .v (sl A231 x214.Reads c232), .v (sl A234 x214.Writes c235), .v (sl A237 x214.Ops c238), .v (sl A240 x214.Spawn c241)]) (evs := [.load (ad222.add (m216 * 7)) (.string x214.Name), .load ((ad222.add (m216 * 7)).add 1) (sl A225 x214.With c226), .load ((ad222.add (m216 * 7)).add 2) (sl A228 x214.Without c229), .load ((ad222.add (m216 * 7)).add 3) (sl A231 x214.Reads c232), .load ((ad222.add (m216 * 7)).add 4) (sl A234 x214.Writes c235), .load ((ad222.add (m216 * 7)).add 5) (sl A237 x214.Ops c238), .load ((ad222.add (m216 * 7)).add 6) (sl A240 x214.Spawn c241)]) (v := .agg #[.string x214.Name, sl A225 x214.With c226, sl A228 x214.Without c229, sl A231 x214.Reads c232, sl A234 x214.Writes c235, sl A237 x214.Ops c238, sl A240 x214.Spawn c241]) ⟨by kernel_rfl⟩ (fun w_ hM => ⟨hM.elcell 1 rfl hq224 0 rfl, hM.elcell 1 rfl hq224 1 rfl, hM.elcell 1 rfl hq224 2 rfl, hM.elcell 1 rfl hq224 3 rfl, hM.elcell 1 rfl hq224 4 rfl, hM.elcell 1 rfl hq224 5 rfl, hM.elcell 1 rfl hq224 6 rfl, rfl⟩) ?_
       obtain ⟨x243, hv244, hp⟩ := obind hp
       refine ops_callI (σ := Unit) (d := some 42) (f := 25) (args := #[.agg #[.string x185.Name, sl A196 x185.With c197, sl A199 x185.Without c200, sl A202 x185.Reads c203, sl A205 x185.Writes c206, sl A208 x185.Ops c209, sl A211 x185.Spawn c212], .agg #[.string x214.Name, sl A225 x214.With c226, sl A228 x214.Without c229, sl A231 x214.Reads c232, sl A234 x214.Writes c235, sl A237 x214.Ops c238, sl A240 x214.Spawn c241]]) (v := (fun _ => .bool x243)) (I := (fun _ => True)) (M' := (fun _ => Mem w0 (ow (sa g12) l177 l2.length 3 1 y178 :: Fz F W :: cs))) ⟨by kernel_rfl⟩ (fun w_ hM hS => (plan_Conflict_ok w0 w_ (ow (sa g12) l177 l2.length 3 1 y178 :: cs) F W x185.Name A196 c197 x185.With A199 c200 x185.Without A202 c203 x185.Reads A205 c206 x185.Writes A208 c209 x185.Ops A211 c212 x185.Spawn x214.Name A225 c226 x214.With A228 c229 x214.Without A231 c232 x214.Reads A234 c235 x214.Writes A237 c238 x214.Ops A240 c241 x214.Spawn (hM.pick 2 [1, 0] (by kernel_rfl) (by decide) rfl) h198 h201 h204 h207 h210 h213 h227 h230 h233 h236 h239 h242 x243 hv244).mono (by rintro e w' ⟨-, rfl, h'⟩; have h' : Mem w0 (ow (sa g12) l177 l2.length 3 1 y178 :: Fz F W :: cs) w' := (h'.pick 2 [1, 0] (by kernel_rfl) (by decide) rfl); exact ⟨(), trivial, rfl, h', (by exact h'.sub (.cons_cons _ (.cons_cons _ (.refl _))))⟩)) ?_
       rintro _ -
       refine ops_nil (fin_then ?_)
       refine st_if (b := x243) rfl (fun hc245 => ?_) (fun hc245 => ?_)
       ·
        have hp := cnd_t hc245 hp
        obtain ⟨x246, hv247, hp⟩ := obind hp
        obtain ⟨x255, hv256, hp⟩ := obind hp
        obtain ⟨x264, hv265, hp⟩ := obind hp
        obtain ⟨l273, hv274, hp⟩ := obind hp
        refine st_region_tree (.node [oT 0, oT 1, oT 2, oT 3, oT 4, oT 6, oT 7, oT 8] (.leaf [oF 5, oF 9, oT 10, oT 11, oT 12, oF 13]) (.leaf [oF 9, oT 10, oF 5, oT 11, oT 12, oF 13])) (Mem w0 (Fz F W :: cs)) (by kernel_rfl) (by kernel_rfl) (by kernel_rfl) (fun _ d _ _ _ h => by cases d <;> exact h) (M' := Mem w0 (ow (sa g12) l177 l2.length 3 1 y178 :: Fz F W :: cs)) (fun w_ hM => ⟨hM.drew, hM.drew.sub (.cons _ (.cons_cons _ (.refl _)))⟩) ?_
        refine tree_node ?_
        refine oQ [oT 0, oT 1, oT 2, oT 3] [(46, vI i143), (45, sl (sa g12) l177 l2.length), (44, vI i143), (43, sl (sa g12) l177 l2.length), (0, sl A_l l c_l), (4, sl (sa g12) l177 l2.length), (5, vI i142), (6, vI i143), (7, vI i180)] (by kernel_rfl) ?_
        obtain ⟨m275, hm276, hx277⟩ := idx_some hv247
        have hl280 := (List.getElem?_eq_some_iff.1 hx277).1
        obtain ⟨vs278, hr279, hq281⟩ := h179.at_ m275 x246 hx277
        obtain rfl := hr279
        refine ops_val (op := (.indexAddr 26 (.tmp 45) (.tmp 46))) (d := some 47) (v := vP g12 (m275 * 1)) ⟨by kernel_rfl⟩ (run_indexRow Try.underlying26 (z := 1) (by kernel_rfl) rfl rfl hm276 hl280 rfl) ?_
        refine oQ [oT 6, oT 7] [(50, vI i180), (49, sl (sa g12) l177 l2.length), (47, vP g12 (m275 * 1)), (44, vI i143), (43, sl (sa g12) l177 l2.length), (0, sl A_l l c_l), (4, sl (sa g12) l177 l2.length), (5, vI i142), (6, vI i143), (7, vI i180)] (by kernel_rfl) ?_
        obtain ⟨m282, hm283, hx284⟩ := idx_some hv256
        have hl287 := (List.getElem?_eq_some_iff.1 hx284).1
        obtain ⟨vs285, hr286, hq288⟩ := h179.at_ m282 x255 hx284
        obtain rfl := hr286
        refine ops_val (op := (.indexAddr 26 (.tmp 49) (.tmp 50))) (d := some 51) (v := vP g12 (m282 * 1)) ⟨by kernel_rfl⟩ (run_indexRow Try.underlying26 (z := 1) (by kernel_rfl) rfl rfl hm283 hl287 rfl) ?_
        refine ops_nil ?_
        refine tree_both ?_ ?_
        ·
         refine tree_leaf ?_
         refine ops_mem (d := some 48) (an := [.v (vI x246)]) (evs := [.load ⟨g12, m275 * 1, none⟩ (vI x246)]) (v := vI x246) ⟨by kernel_rfl⟩ (fun w_ hM hS => ⟨w_, ⟨hM.ocell 0 rfl (hq281 0 _ rfl), rfl⟩, hM, hS⟩) ?_
         refine ops_mem (d := some 52) (an := [.v (vI x255)]) (evs := [.load ⟨g12, m282 * 1, none⟩ (vI x255)]) (v := vI x255) ⟨by kernel_rfl⟩ (fun w_ hM hS => ⟨w_, ⟨hM.ocell 0 rfl (hq288 0 _ rfl), rfl⟩, hM, hS⟩) ?_
         refine oQ [oT 10] [(53, vI (IntKind.i64.wrap (x255 + 1))), (48, vI x246), (44, vI i143), (43, sl (sa g12) l177 l2.length), (0, sl A_l l c_l), (4, sl (sa g12) l177 l2.length), (5, vI i142), (6, vI i143), (7, vI i180)] (by kernel_rfl) ?_
         refine ops_val (op := (.call { callee := (Go.Callee.builtin Go.Builtin.max), args := #[(.tmp 48), (.tmp 53)], argTypes := #[3, 3] })) (d := some 54) (v := vI (max x246 (IntKind.i64.wrap (x255 + 1)))) ⟨by kernel_rfl⟩ (run_max rfl rfl) ?_
         obtain ⟨m289, hm290, hx291⟩ := idx_some hv265
         have hl294 := (List.getElem?_eq_some_iff.1 hx291).1
         obtain ⟨vs292, hr293, hq295⟩ := h179.at_ m289 x264 hx291
         obtain rfl := hr293
         refine ops_val (op := (.indexAddr 26 (.tmp 43) (.tmp 44))) (d := some 55) (v := vP g12 (m289 * 1)) ⟨by kernel_rfl⟩ (run_indexRow Try.underlying26 (z := 1) (by kernel_rfl) rfl rfl hm290 hl294 rfl) ?_
         refine oQ [] [(55, vP g12 (m289 * 1)), (54, vI (max x246 (IntKind.i64.wrap (x255 + 1)))), (0, sl A_l l c_l), (4, sl (sa g12) l177 l2.length), (5, vI i142), (6, vI i143), (7, vI i180)] (by kernel_rfl) ?_
         obtain ⟨m296, hm297, hl298, he299⟩ := upd_some hv274
         obtain rfl : m289 = m296 := by have := hm290; omega
         have hl300 : l177.length = l273.length := by rw [he299, List.length_set]
         obtain ⟨y301, hy302⟩ : ∃ y_, setAll y178 (m289 * 1 + 0) [vI (max x246 (IntKind.i64.wrap (x255 + 1)))] = y_ := ⟨_, rfl⟩
         have h303 : RepL (Rep.int .i64) F W l273 y301 := by rw [he299, ← hy302]; exact RepL.set h179 (List.getElem?_eq_getElem hl298) (fun vs_ hr_ _ => by obtain rfl := hr_; exact ⟨rfl, Nat.le_of_ble_eq_true rfl⟩)
         refine ops_store (an := []) (evs := [.store ⟨g12, m289 * 1, none⟩ (vI (max x246 (IntKind.i64.wrap (x255 + 1))))]) ⟨by kernel_rfl⟩ (fun w_ hM hS => let ⟨w', he, h'⟩ := hM.ostore' 0 rfl (m289 * 1 + 0) [vI (max x246 (IntKind.i64.wrap (x255 + 1)))] (by have z_ : y178.length = l177.length * 1 := h179.len; have y_ : (m289 + 1) * 1 ≤ l177.length * 1 := Nat.mul_le_mul_right _ hl298; rw [Nat.add_mul] at y_; simp only [List.length_cons, List.length_nil]; omega) hl300 hy302; ⟨w', he, h', (by exact h'.sub (.cons _ (.cons_cons _ (.refl _))))⟩) ?_
         refine ops_conv (l' := [(55, vP g12 (m289 * 1)), (54, vI (max x246 (IntKind.i64.wrap (x255 + 1)))), (0, sl A_l l c_l), (4, sl (sa g12) l273 l2.length), (5, vI i142), (6, vI i143), (7, vI i180)]) (M' := Mem w0 (ow (sa g12) l273 l2.length 3 1 y301 :: Fz F W :: cs)) (by first | rfl | ((try dsimp only [sl, ow]); rw [hl300])) (fun w_ hM => by first | exact hM | ((try dsimp only [sl, ow] at hM ⊢); rw [hl300] at hM; exact hM)) ?_
         refine ops_nil (fin_block ?_)
         exact fin_join HJ8 (l273, y301) ⟨hp, h303⟩ (look_has ⟨rfl, rfl, rfl, rfl, rfl, trivial⟩) (fun w_ hM => hM)
        ·
         refine tree_leaf ?_
         refine ops_mem (d := some 52) (an := [.v (vI x255)]) (evs := [.load ⟨g12, m282 * 1, none⟩ (vI x255)]) (v := vI x255) ⟨by kernel_rfl⟩ (fun w_ hM hS => ⟨w_, ⟨hM.ocell 0 rfl (hq288 0 _ rfl), rfl⟩, hM, hS⟩) ?_
         refine oQ [oT 10] [(53, vI (IntKind.i64.wrap (x255 + 1))), (47, vP g12 (m275 * 1)), (44, vI i143), (43, sl (sa g12) l177 l2.length), (0, sl A_l l c_l), (4, sl (sa g12) l177 l2.length), (5, vI i142), (6, vI i143), (7, vI i180)] (by kernel_rfl) ?_
         refine ops_mem (d := some 48) (an := [.v (vI x246)]) (evs := [.load ⟨g12, m275 * 1, none⟩ (vI x246)]) (v := vI x246) ⟨by kernel_rfl⟩ (fun w_ hM hS => ⟨w_, ⟨hM.ocell 0 rfl (hq281 0 _ rfl), rfl⟩, hM, hS⟩) ?_
         refine ops_val (op := (.call { callee := (Go.Callee.builtin Go.Builtin.max), args := #[(.tmp 48), (.tmp 53)], argTypes := #[3, 3] })) (d := some 54) (v := vI (max x246 (IntKind.i64.wrap (x255 + 1)))) ⟨by kernel_rfl⟩ (run_max rfl rfl) ?_
         obtain ⟨m305, hm306, hx307⟩ := idx_some hv265
         have hl310 := (List.getElem?_eq_some_iff.1 hx307).1
         obtain ⟨vs308, hr309, hq311⟩ := h179.at_ m305 x264 hx307
         obtain rfl := hr309
         refine ops_val (op := (.indexAddr 26 (.tmp 43) (.tmp 44))) (d := some 55) (v := vP g12 (m305 * 1)) ⟨by kernel_rfl⟩ (run_indexRow Try.underlying26 (z := 1) (by kernel_rfl) rfl rfl hm306 hl310 rfl) ?_
         refine oQ [] [(55, vP g12 (m305 * 1)), (54, vI (max x246 (IntKind.i64.wrap (x255 + 1)))), (0, sl A_l l c_l), (4, sl (sa g12) l177 l2.length), (5, vI i142), (6, vI i143), (7, vI i180)] (by kernel_rfl) ?_
         obtain ⟨m312, hm313, hl314, he315⟩ := upd_some hv274
         obtain rfl : m305 = m312 := by have := hm306; omega
         have hl316 : l177.length = l273.length := by rw [he315, List.length_set]
         obtain ⟨y317, hy318⟩ : ∃ y_, setAll y178 (m305 * 1 + 0) [vI (max x246 (IntKind.i64.wrap (x255 + 1)))] = y_ := ⟨_, rfl⟩
         have h319 : RepL (Rep.int .i64) F W l273 y317 := by rw [he315, ← hy318]; exact RepL.set h179 (List.getElem?_eq_getElem hl314) (fun vs_ hr_ _ => by obtain rfl := hr_; exact ⟨rfl, Nat.le_of_ble_eq_true rfl⟩)
         refine ops_store (an := []) (evs := [.store ⟨g12, m305 * 1, none⟩ (vI (max x246 (IntKind.i64.wrap (x255 + 1))))]) ⟨by kernel_rfl⟩ (fun w_ hM hS => let ⟨w', he, h'⟩ := hM.ostore' 0 rfl (m305 * 1 + 0) [vI (max x246 (IntKind.i64.wrap (x255 + 1)))] (by have z_ : y178.length = l177.length * 1 := h179.len; have y_ : (m305 + 1) * 1 ≤ l177.length * 1 := Nat.mul_le_mul_right _ hl314; rw [Nat.add_mul] at y_; simp only [List.length_cons, List.length_nil]; omega) hl316 hy318; ⟨w', he, h', (by exact h'.sub (.cons _ (.cons_cons _ (.refl _))))⟩) ?_
         refine ops_conv (l' := [(55, vP g12 (m305 * 1)), (54, vI (max x246 (IntKind.i64.wrap (x255 + 1)))), (0, sl A_l l c_l), (4, sl (sa g12) l273 l2.length), (5, vI i142), (6, vI i143), (7, vI i180)]) (M' := Mem w0 (ow (sa g12) l273 l2.length 3 1 y317 :: Fz F W :: cs)) (by first | rfl | ((try dsimp only [sl, ow]); rw [hl316])) (fun w_ hM => by first | exact hM | ((try dsimp only [sl, ow] at hM ⊢); rw [hl316] at hM; exact hM)) ?_
         refine ops_nil (fin_block ?_)
         exact fin_join HJ8 (l273, y317) ⟨hp, h319⟩ (look_has ⟨rfl, rfl, rfl, rfl, rfl, trivial⟩) (fun w_ hM => hM)
       ·
        have hp := cnd_f hc245 hp
        refine st_skip (fin_block ?_)
        exact fin_join HJ8 (l177, y178) ⟨hp, h179⟩ (look_has ⟨rfl, rfl, rfl, rfl, rfl, trivial⟩) (fun w_ hM => hM)
     ·
      have hp := cnd_f hc181 hp
      refine st_exit (fin_exit_then (fin_exit_then (fin_exit ?_)))
      obtain hq_ := Option.some.inj hp
      subst hq_
      obtain hq_ := hd7 _ rfl
      subst hq_
      have hp : (plan_Chain_j6 i143 i142) l177 = some o5 := hk7
      exact fin_join HJ6 (l177, y178) ⟨hp, h179⟩ (look_has ⟨rfl, rfl, rfl, rfl, trivial⟩) (fun w_ hM => hM)
   ·
    have hp := cnd_f hc144 hp
    refine st_exit (fin_exit_then (fin_exit_then (fin_exit ?_)))
    obtain hq_ := Option.some.inj hp
    subst hq_
    obtain hq_ := hd5 _ rfl
    subst hq_
    have hp : (plan_Chain_j1 l) l139 i142 = some (l9003, i9006) := hk5
    exact fin_join HJ1 (l139, y140, i142) ⟨hp, h141⟩ (look_has ⟨rfl, rfl, rfl, trivial⟩) (fun w_ hM => hM)
end Go.Proofs.Ytnnhijlgohlaeaa.P
