/- The Go functions come to what the plain functions tell. No condition. -/
import Derived.Test.YtnnhijlgohlaeaaProg
import Derived.Test.YtnnhijlgohlaeaaFnP
import Derived.Test.YtnnhijlgohlaeaaWkP0
import Derived.Test.YtnnhijlgohlaeaaExOwn
namespace Go.Proofs.Ytnnhijlgohlaeaa.P
open Go Go.RowKit Go.Proofs.Ytnnhijlgohlaeaa.Sx
set_option linter.unusedVariables false
set_option maxHeartbeats 4000000
set_option maxRecDepth 100000
theorem tourlaw3_layered_ok (w0 w : World) (cs : List Chunk) (F : Nat → Prop) (W : World) (hM0 : Mem w0 (Fz F W :: cs) w) (t9001 : Bool) (hp : tourlaw3_layered = some t9001) : Calls Try.prog 10 #[] w fun e w' => ∃ (F9002 : Nat → Prop), ∃ (W9003 : World), ((Ext w0 F W F9002 W9003)) ∧ e = .returned (.bool t9001) ∧ Mem w0 (Fz F9002 W9003 :: cs) w' := by
 unfold tourlaw3_layered at hp
 refine sx_calls Try.func10 rfl (n := 17) (by kernel_rfl) (l := []) rfl (by rfl) hM0 ?_
 refine st_seq (st_region [oF 0] (by rfl) ?_)
 refine oQ [oF 0] [] (by kernel_rfl) ?_
 refine ops_nil (fin_then (st_seq (st_region [oF 0, oF 1, oF 2, oF 3, oF 4, oF 5, oF 6, oF 7, oF 8] (by rfl) ?_)))
 obtain ⟨x1, x2, hv3, hp⟩ := obind2 hp
 refine ops_callI (σ := (Option Addr) × (List Value) × (Option Addr) × (List Value) × (Option Addr) × (List Value)) (d := some 4) (f := 12) (args := #[]) (v := (fun x_ => match x_ with | (A4, y5, A6, y7, A8, y9) => .agg #[.string (⟨#[111, 108, 100, 101, 114]⟩), sl A4 x1 1, .slice none 0 0, .slice none 0 0, sl A6 x1 1, sl A8 x2 2, .slice none 0 0])) (I := (fun x_ => match x_ with | (A4, y5, A6, y7, A8, y9) => (RepL (Rep.int .i64) F W x1 y5) ∧ (RepL (Rep.int .i64) F W x1 y7) ∧ (RepL R_api_Op F W x2 y9))) (M' := (fun x_ => match x_ with | (A4, y5, A6, y7, A8, y9) => Mem w0 (ow A4 x1 1 3 1 y5 :: ow A6 x1 1 3 1 y7 :: ow A8 x2 2 140 11 y9 :: Fz F W :: cs))) ⟨by kernel_rfl⟩ (fun w_ hM hS => (tourlaw3_older_ok w0 w_ (cs) F W  hM  x1 x2 hv3).mono (by rintro e w' ⟨A4, y5, A6, y7, A8, y9, ⟨h10, h11, h12⟩, rfl, h'⟩; have h' : Mem w0 (ow A4 x1 1 3 1 y5 :: ow A6 x1 1 3 1 y7 :: ow A8 x2 2 140 11 y9 :: Fz F W :: cs) w' := h'; exact ⟨(A4, y5, A6, y7, A8, y9), ⟨h10, h11, h12⟩, rfl, h', trivial⟩)) ?_
 rintro ⟨A4, y5, A6, y7, A8, y9⟩ ⟨h10, h11, h12⟩
 obtain ⟨x13, x14, hv15, hp⟩ := obind2 hp
 refine ops_callI (σ := (Option Addr) × (List Value) × (Option Addr) × (List Value) × (Option Addr) × (List Value)) (d := some 5) (f := 12) (args := #[]) (v := (fun x_ => match x_ with | (A16, y17, A18, y19, A20, y21) => .agg #[.string (⟨#[111, 108, 100, 101, 114]⟩), sl A16 x13 1, .slice none 0 0, .slice none 0 0, sl A18 x13 1, sl A20 x14 2, .slice none 0 0])) (I := (fun x_ => match x_ with | (A16, y17, A18, y19, A20, y21) => (RepL (Rep.int .i64) F W x13 y17) ∧ (RepL (Rep.int .i64) F W x13 y19) ∧ (RepL R_api_Op F W x14 y21))) (M' := (fun x_ => match x_ with | (A16, y17, A18, y19, A20, y21) => Mem w0 (ow A16 x13 1 3 1 y17 :: ow A18 x13 1 3 1 y19 :: ow A20 x14 2 140 11 y21 :: ow A4 x1 1 3 1 y5 :: ow A6 x1 1 3 1 y7 :: ow A8 x2 2 140 11 y9 :: Fz F W :: cs))) ⟨by kernel_rfl⟩ (fun w_ hM hS => (tourlaw3_older_ok w0 w_ (ow A4 x1 1 3 1 y5 :: ow A6 x1 1 3 1 y7 :: ow A8 x2 2 140 11 y9 :: cs) F W  (hM.pick 4 [3, 0, 1, 2] (by kernel_rfl) (by decide) rfl)  x13 x14 hv15).mono (by rintro e w' ⟨A16, y17, A18, y19, A20, y21, ⟨h22, h23, h24⟩, rfl, h'⟩; have h' : Mem w0 (ow A16 x13 1 3 1 y17 :: ow A18 x13 1 3 1 y19 :: ow A20 x14 2 140 11 y21 :: ow A4 x1 1 3 1 y5 :: ow A6 x1 1 3 1 y7 :: ow A8 x2 2 140 11 y9 :: Fz F W :: cs) w' := (h'.pick 7 [0, 1, 2, 4, 5, 6, 3] (by kernel_rfl) (by decide) rfl); exact ⟨(A16, y17, A18, y19, A20, y21), ⟨h22, h23, h24⟩, rfl, h', trivial⟩)) ?_
 rintro ⟨A16, y17, A18, y19, A20, y21⟩ ⟨h22, h23, h24⟩
 refine ops_ex (σ := (Nat → Prop) × World) (I := fun x_ => Ext w0 F W x_.1 x_.2 ∧ RdS (Rep.int .i64) x_.1 x_.2 A4 1 x1) (M' := fun x_ => Mem w0 (ow A16 x13 1 3 1 y17 :: ow A18 x13 1 3 1 y19 :: ow A20 x14 2 140 11 y21 :: ow A6 x1 1 3 1 y7 :: ow A8 x2 2 140 11 y9 :: Fz x_.1 x_.2 :: cs)) (fun w_ hM => ?_) ?_
 · obtain ⟨F_, h1_, h2_, h3_⟩ := (hM.pick 7 [3, 6, 0, 1, 2, 4, 5] (by kernel_rfl) (by decide) rfl : Mem w0 (ow A4 x1 1 3 1 y5 :: Fz F W :: ow A16 x13 1 3 1 y17 :: ow A18 x13 1 3 1 y19 :: ow A20 x14 2 140 11 y21 :: ow A6 x1 1 3 1 y7 :: ow A8 x2 2 140 11 y9 :: cs) w_).freeze (z := 1) h10 rfl rfl
   exact ⟨(F_, w_), ⟨h1_, h2_⟩, h3_.pick 6 [1, 2, 3, 4, 5, 0] (by kernel_rfl) (by decide) rfl⟩
 rintro ⟨F25, W26⟩ ⟨hx27, h28⟩
 have hx27 : Ext w0 F W F25 W26 := hx27
 have h28 : RdS (Rep.int .i64) F25 W26 A4 1 x1 := h28
 have h22 := h22.ext hx27
 have h23 := h23.ext hx27
 have h24 := h24.ext hx27
 have h11 := h11.ext hx27
 have h12 := h12.ext hx27
 refine ops_ex (σ := (Nat → Prop) × World) (I := fun x_ => Ext w0 F25 W26 x_.1 x_.2 ∧ RdS (Rep.int .i64) x_.1 x_.2 A6 1 x1) (M' := fun x_ => Mem w0 (ow A16 x13 1 3 1 y17 :: ow A18 x13 1 3 1 y19 :: ow A20 x14 2 140 11 y21 :: ow A8 x2 2 140 11 y9 :: Fz x_.1 x_.2 :: cs)) (fun w_ hM => ?_) ?_
 · obtain ⟨F_, h1_, h2_, h3_⟩ := (hM.pick 6 [3, 5, 0, 1, 2, 4] (by kernel_rfl) (by decide) rfl : Mem w0 (ow A6 x1 1 3 1 y7 :: Fz F25 W26 :: ow A16 x13 1 3 1 y17 :: ow A18 x13 1 3 1 y19 :: ow A20 x14 2 140 11 y21 :: ow A8 x2 2 140 11 y9 :: cs) w_).freeze (z := 1) h11 rfl rfl
   exact ⟨(F_, w_), ⟨h1_, h2_⟩, h3_.pick 5 [1, 2, 3, 4, 0] (by kernel_rfl) (by decide) rfl⟩
 rintro ⟨F29, W30⟩ ⟨hx31, h32⟩
 have hx31 : Ext w0 F25 W26 F29 W30 := hx31
 have h32 : RdS (Rep.int .i64) F29 W30 A6 1 x1 := h32
 have h28 := h28.ext hx31
 have h22 := h22.ext hx31
 have h23 := h23.ext hx31
 have h24 := h24.ext hx31
 have h12 := h12.ext hx31
 refine ops_ex (σ := (Nat → Prop) × World) (I := fun x_ => Ext w0 F29 W30 x_.1 x_.2 ∧ RdS R_api_Op x_.1 x_.2 A8 2 x2) (M' := fun x_ => Mem w0 (ow A16 x13 1 3 1 y17 :: ow A18 x13 1 3 1 y19 :: ow A20 x14 2 140 11 y21 :: Fz x_.1 x_.2 :: cs)) (fun w_ hM => ?_) ?_
 · obtain ⟨F_, h1_, h2_, h3_⟩ := (hM.pick 5 [3, 4, 0, 1, 2] (by kernel_rfl) (by decide) rfl : Mem w0 (ow A8 x2 2 140 11 y9 :: Fz F29 W30 :: ow A16 x13 1 3 1 y17 :: ow A18 x13 1 3 1 y19 :: ow A20 x14 2 140 11 y21 :: cs) w_).freeze (z := 11) h12 rfl rfl
   exact ⟨(F_, w_), ⟨h1_, h2_⟩, h3_.pick 4 [1, 2, 3, 0] (by kernel_rfl) (by decide) rfl⟩
 rintro ⟨F33, W34⟩ ⟨hx35, h36⟩
 have hx35 : Ext w0 F29 W30 F33 W34 := hx35
 have h36 : RdS R_api_Op F33 W34 A8 2 x2 := h36
 have h28 := h28.ext hx35
 have h32 := h32.ext hx35
 have h22 := h22.ext hx35
 have h23 := h23.ext hx35
 have h24 := h24.ext hx35
 refine ops_ex (σ := (Nat → Prop) × World) (I := fun x_ => Ext w0 F33 W34 x_.1 x_.2 ∧ RdS (Rep.int .i64) x_.1 x_.2 A16 1 x13) (M' := fun x_ => Mem w0 (ow A18 x13 1 3 1 y19 :: ow A20 x14 2 140 11 y21 :: Fz x_.1 x_.2 :: cs)) (fun w_ hM => ?_) ?_
 · obtain ⟨F_, h1_, h2_, h3_⟩ := (hM.pick 4 [0, 3, 1, 2] (by kernel_rfl) (by decide) rfl : Mem w0 (ow A16 x13 1 3 1 y17 :: Fz F33 W34 :: ow A18 x13 1 3 1 y19 :: ow A20 x14 2 140 11 y21 :: cs) w_).freeze (z := 1) h22 rfl rfl
   exact ⟨(F_, w_), ⟨h1_, h2_⟩, h3_.pick 3 [1, 2, 0] (by kernel_rfl) (by decide) rfl⟩
 rintro ⟨F37, W38⟩ ⟨hx39, h40⟩
 have hx39 : Ext w0 F33 W34 F37 W38 := hx39
 have h40 : RdS (Rep.int .i64) F37 W38 A16 1 x13 := h40
 have h28 := h28.ext hx39
 have h32 := h32.ext hx39
 have h36 := h36.ext hx39
 have h23 := h23.ext hx39
 have h24 := h24.ext hx39
 refine ops_ex (σ := (Nat → Prop) × World) (I := fun x_ => Ext w0 F37 W38 x_.1 x_.2 ∧ RdS (Rep.int .i64) x_.1 x_.2 A18 1 x13) (M' := fun x_ => Mem w0 (ow A20 x14 2 140 11 y21 :: Fz x_.1 x_.2 :: cs)) (fun w_ hM => ?_) ?_
 · obtain ⟨F_, h1_, h2_, h3_⟩ := (hM.pick 3 [0, 2, 1] (by kernel_rfl) (by decide) rfl : Mem w0 (ow A18 x13 1 3 1 y19 :: Fz F37 W38 :: ow A20 x14 2 140 11 y21 :: cs) w_).freeze (z := 1) h23 rfl rfl
   exact ⟨(F_, w_), ⟨h1_, h2_⟩, h3_.pick 2 [1, 0] (by kernel_rfl) (by decide) rfl⟩
 rintro ⟨F41, W42⟩ ⟨hx43, h44⟩
 have hx43 : Ext w0 F37 W38 F41 W42 := hx43
 have h44 : RdS (Rep.int .i64) F41 W42 A18 1 x13 := h44
 have h40 := h40.ext hx43
 have h28 := h28.ext hx43
 have h32 := h32.ext hx43
 have h36 := h36.ext hx43
 have h24 := h24.ext hx43
 refine ops_ex (σ := (Nat → Prop) × World) (I := fun x_ => Ext w0 F41 W42 x_.1 x_.2 ∧ RdS R_api_Op x_.1 x_.2 A20 2 x14) (M' := fun x_ => Mem w0 (Fz x_.1 x_.2 :: cs)) (fun w_ hM => ?_) ?_
 · obtain ⟨F_, h1_, h2_, h3_⟩ := (hM.pick 2 [0, 1] (by kernel_rfl) (by decide) rfl : Mem w0 (ow A20 x14 2 140 11 y21 :: Fz F41 W42 :: cs) w_).freeze (z := 11) h24 rfl rfl
   exact ⟨(F_, w_), ⟨h1_, h2_⟩, h3_.pick 1 [0] (by kernel_rfl) (by decide) rfl⟩
 rintro ⟨F45, W46⟩ ⟨hx47, h48⟩
 have hx47 : Ext w0 F41 W42 F45 W46 := hx47
 have h48 : RdS R_api_Op F45 W46 A20 2 x14 := h48
 have h40 := h40.ext hx47
 have h44 := h44.ext hx47
 have h28 := h28.ext hx47
 have h32 := h32.ext hx47
 have h36 := h36.ext hx47
 have h49 : RepL R_api_System F45 W46 ([(api_System.mk (⟨#[111, 108, 100, 101, 114]⟩) x1 [] [] x1 x2 []), (api_System.mk (⟨#[111, 108, 100, 101, 114]⟩) x13 [] [] x13 x14 [])] : List api_System) ([.string (⟨#[111, 108, 100, 101, 114]⟩), sl A4 x1 1, .slice none 0 0, .slice none 0 0, sl A6 x1 1, sl A8 x2 2, .slice none 0 0, .string (⟨#[111, 108, 100, 101, 114]⟩), sl A16 x13 1, .slice none 0 0, .slice none 0 0, sl A18 x13 1, sl A20 x14 2, .slice none 0 0]) := (RepL.cons (R := R_api_System) (F := F45) (w := W46) (vs := [.string (⟨#[111, 108, 100, 101, 114]⟩), sl A4 x1 1, .slice none 0 0, .slice none 0 0, sl A6 x1 1, sl A8 x2 2, .slice none 0 0]) (ys := [.string (⟨#[111, 108, 100, 101, 114]⟩), sl A16 x13 1, .slice none 0 0, .slice none 0 0, sl A18 x13 1, sl A20 x14 2, .slice none 0 0]) (enc_api_System h28 (RdS.empty _) (RdS.empty _) h32 h36 (RdS.empty _)) (RepL.cons (R := R_api_System) (F := F45) (w := W46) (vs := [.string (⟨#[111, 108, 100, 101, 114]⟩), sl A16 x13 1, .slice none 0 0, .slice none 0 0, sl A18 x13 1, sl A20 x14 2, .slice none 0 0]) (ys := []) (enc_api_System h40 (RdS.empty _) (RdS.empty _) h44 h48 (RdS.empty _)) RepL.nil))
 refine ops_new (d := some 6) (o := .cells ([.string (⟨#[111, 108, 100, 101, 114]⟩), sl A4 x1 1, .slice none 0 0, .slice none 0 0, sl A6 x1 1, sl A8 x2 2, .slice none 0 0, .string (⟨#[111, 108, 100, 101, 114]⟩), sl A16 x13 1, .slice none 0 0, .slice none 0 0, sl A18 x13 1, sl A20 x14 2, .slice none 0 0]).toArray 30) (v := fun g50 => .slice (sa g50) ([(api_System.mk (⟨#[111, 108, 100, 101, 114]⟩) x1 [] [] x1 x2 []), (api_System.mk (⟨#[111, 108, 100, 101, 114]⟩) x13 [] [] x13 x14 [])] : List api_System).length 2) (M' := fun g50 => Mem w0 (orow (sa g50) ([(api_System.mk (⟨#[111, 108, 100, 101, 114]⟩) x1 [] [] x1 x2 []), (api_System.mk (⟨#[111, 108, 100, 101, 114]⟩) x13 [] [] x13 x14 [])] : List api_System).length 2 30 7 ([.string (⟨#[111, 108, 100, 101, 114]⟩), sl A4 x1 1, .slice none 0 0, .slice none 0 0, sl A6 x1 1, sl A8 x2 2, .slice none 0 0, .string (⟨#[111, 108, 100, 101, 114]⟩), sl A16 x13 1, .slice none 0 0, .slice none 0 0, sl A18 x13 1, sl A20 x14 2, .slice none 0 0]) :: Fz F45 W46 :: cs)) (fun g50 => ⟨by kernel_rfl⟩) (fun w_ hM hS => ⟨hM.onew [.string (⟨#[111, 108, 100, 101, 114]⟩), sl A4 x1 1, .slice none 0 0, .slice none 0 0, sl A6 x1 1, sl A8 x2 2, .slice none 0 0, .string (⟨#[111, 108, 100, 101, 114]⟩), sl A16 x13 1, .slice none 0 0, .slice none 0 0, sl A18 x13 1, sl A20 x14 2, .slice none 0 0] 30 2 7 rfl (by decide), trivial⟩) (fun g50 => ?_)
 refine ops_ex (σ := (Nat → Prop) × World) (I := fun x_ => Ext w0 F45 W46 x_.1 x_.2 ∧ RdS R_api_System x_.1 x_.2 (sa g50) 2 ([(api_System.mk (⟨#[111, 108, 100, 101, 114]⟩) x1 [] [] x1 x2 []), (api_System.mk (⟨#[111, 108, 100, 101, 114]⟩) x13 [] [] x13 x14 [])] : List api_System)) (M' := fun x_ => Mem w0 (Fz x_.1 x_.2 :: cs)) (fun w_ hM => ?_) ?_
 · obtain ⟨F_, h1_, h2_, h3_⟩ := (hM.pick 2 [0, 1] (by kernel_rfl) (by decide) rfl : Mem w0 (orow (sa g50) ([(api_System.mk (⟨#[111, 108, 100, 101, 114]⟩) x1 [] [] x1 x2 []), (api_System.mk (⟨#[111, 108, 100, 101, 114]⟩) x13 [] [] x13 x14 [])] : List api_System).length 2 30 7 ([.string (⟨#[111, 108, 100, 101, 114]⟩), sl A4 x1 1, .slice none 0 0, .slice none 0 0, sl A6 x1 1, sl A8 x2 2, .slice none 0 0, .string (⟨#[111, 108, 100, 101, 114]⟩), sl A16 x13 1, .slice none 0 0, .slice none 0 0, sl A18 x13 1, sl A20 x14 2, .slice none 0 0]) :: Fz F45 W46 :: cs) w_).freeze (z := 7) h49 rfl rfl
   exact ⟨(F_, w_), ⟨h1_, h2_⟩, h3_.pick 1 [0] (by kernel_rfl) (by decide) rfl⟩
 rintro ⟨F51, W52⟩ ⟨hx53, h54⟩
 have hx53 : Ext w0 F45 W46 F51 W52 := hx53
 have h54 : RdS R_api_System F51 W52 (sa g50) 2 ([(api_System.mk (⟨#[111, 108, 100, 101, 114]⟩) x1 [] [] x1 x2 []), (api_System.mk (⟨#[111, 108, 100, 101, 114]⟩) x13 [] [] x13 x14 [])] : List api_System) := h54
 obtain ⟨x55, x56, hv57, hp⟩ := obind2 hp
 refine ops_callI (σ := (Option Addr) × Nat × (List Value) × Chunk) (d := some 7) (f := 14) (args := #[.slice (sa g50) ([(api_System.mk (⟨#[111, 108, 100, 101, 114]⟩) x1 [] [] x1 x2 []), (api_System.mk (⟨#[111, 108, 100, 101, 114]⟩) x13 [] [] x13 x14 [])] : List api_System).length 2]) (v := (fun x_ => match x_ with | (A58, c59, y60, K61) => .tuple #[sl A58 x55 c59, vI x56])) (I := (fun x_ => match x_ with | (A58, c59, y60, K61) => (OwL (Own.sr (Rep.int .i64) 3) F51 W52 x55 y60 K61))) (M' := (fun x_ => match x_ with | (A58, c59, y60, K61) => Mem w0 (ow A58 x55 c59 26 1 y60 :: K61 :: Fz F51 W52 :: cs))) ⟨by kernel_rfl⟩ (fun w_ hM hS => (plan_Layers_ok w0 w_ (cs) F51 W52 (sa g50) 2 ([(api_System.mk (⟨#[111, 108, 100, 101, 114]⟩) x1 [] [] x1 x2 []), (api_System.mk (⟨#[111, 108, 100, 101, 114]⟩) x13 [] [] x13 x14 [])] : List api_System) hM h54 x55 x56 hv57).mono (by rintro e w' ⟨A58, c59, y60, K61, h62, rfl, h'⟩; have h' : Mem w0 (ow A58 x55 c59 26 1 y60 :: K61 :: Fz F51 W52 :: cs) w' := h'; exact ⟨(A58, c59, y60, K61), h62, rfl, h', trivial⟩)) ?_
 rintro ⟨A58, c59, y60, K61⟩ h62
 refine oQ [oF 4, oF 5, oF 6, oF 7, oF 8] [(2, vI x56), (1, sl A58 x55 c59)] (by kernel_rfl) ?_
 refine ops_nil (fin_then ?_)
 refine st_join1 (σ := Bool) (L := fun x_ => match x_ with | t63 => [(0, .bool t63)]) (N := fun x_ => match x_ with | t63 => Mem w0 (Fz F51 W52 :: cs)) (I := fun x_ => match x_ with | t63 => (tourlaw3_layered_j1 t63 = some t9001)) ?_ ?_
 ·
  rintro t63 hp
  unfold tourlaw3_layered_j1 at hp
  refine st_ret ?_
  have hq_ := Option.some.inj hp
  have hr0_ := hq_
  subst hr0_
  refine fin_ret [.tmp 0] [.bool t63] rfl rfl (fun w_ hM => (.tmp rfl .nil)) (fun w_ hM => ?_)
  exact ⟨F51, W52, ((((((hx27.trans hx31).trans hx35).trans hx39).trans hx43).trans hx47).trans hx53), rfl, hM⟩
 ·
  intro HJ1
  refine st_seq (st_region [oF 0, oF 1, oF 2, oF 3, oF 4, oF 5, oF 6, oF 7] (by rfl) ?_)
  refine oQ [oF 0, oF 1, oF 2] [(12, .bool (x56 == 0)), (1, sl A58 x55 c59)] (by kernel_rfl) ?_
  refine ops_bool (t := (x56 == 0)) (l1 := [(12, .bool true), (1, sl A58 x55 c59)]) (l2 := [(12, .bool false), (1, sl A58 x55 c59)]) (fun h => by rw [h]) (fun h => by rw [h]) (fun hc64 => ?_) (fun hc64 => ?_)
  ·
   have hp := cnd_t hc64 hp
   refine oQ [oF 3, oF 4, oF 5, oF 6, oF 7] [(0, .bool ((x55.length : Int) == 2))] (by kernel_rfl) ?_
   refine ops_nil ?_
   exact fin_join HJ1 ((x55.length : Int) == 2) hp (look_has ⟨rfl, trivial⟩) (fun w_ hM => hM.pick 3 [2] (by kernel_rfl) (by decide) rfl)
  ·
   have hp := cnd_f hc64 hp
   refine oQ [oF 3, oF 4, oF 5, oF 6, oF 7] [(0, .bool false)] (by kernel_rfl) ?_
   refine ops_nil ?_
   exact fin_join HJ1 false hp (look_has ⟨rfl, trivial⟩) (fun w_ hM => hM.pick 3 [2] (by kernel_rfl) (by decide) rfl)
def plan_Right__t0 : List Row := [⟨0, 1208925819614629174706176, 1⟩, ⟨0, 2417851639229258349412352, 4096⟩, ⟨3, 4835703278458516698824704, 3626777458843887524118528⟩, ⟨4, 9671406556917033397649408, 4835703278458516698824704⟩, ⟨0, 19342813113834066795298816, 1⟩, ⟨0, 38685626227668133590597632, 2048⟩, ⟨48, 77371252455336267181195264, 58028439341502200385896448⟩, ⟨64, 154742504910672534362390528, 77371252455336267181195264⟩, ⟨136, 309485009821345068724781056, 164413911467589567760039936⟩, ⟨256, 618970019642690137449562112, 309485009821345068724781056⟩, ⟨512, 1237940039285380274899124224, 618970019642690137449562144⟩, ⟨512, 2475880078570760549798248448, 618970019642690137449566208⟩, ⟨3584, 4951760157141521099596496896, 4332790137498830962146934784⟩, ⟨4608, 9903520314283042199192993792, 5570730176784211237046059008⟩, ⟨512, 19807040628566084398385987584, 618970019642690137449562144⟩, ⟨512, 39614081257132168796771975168, 618970019642690137449564160⟩, ⟨49664, 79228162514264337593543950336, 60040091905340943332607524864⟩, ⟨66048, 158456325028528675187087900672, 79847132533907027730993512448⟩, ⟨139776, 316912650057057350374175801344, 168978815362454407523730456576⟩, ⟨262656, 633825300114114700748351602688, 317531620076700040511625363456⟩]
theorem plan_Right_ok (w0 w : World) (cs : List Chunk) (F : Nat → Prop) (W : World) (A_l : Option Addr) (c_l : Nat) (l : List api_System) (A_layers : Option Addr) (c_layers : Nat) (layers : List (List Int)) (hM0 : Mem w0 (Fz F W :: cs) w) (h_l : RdS R_api_System F W A_l c_l l) (h_layers : RdS (Rep.sl (Rep.int .i64)) F W A_layers c_layers layers) (t9001 : Bool) (hp : plan_Right l layers = some t9001) : Calls Try.prog 11 #[sl A_l l c_l, sl A_layers layers c_layers] w fun e w' => (True) ∧ e = .returned (.bool t9001) ∧ Mem w0 (Fz F W :: cs) w' := by
 unfold plan_Right at hp
 refine sx_calls Try.func11 rfl (n := 102) (by kernel_rfl) (l := [(0, sl A_l l c_l), (1, sl A_layers layers c_layers)]) rfl (by rfl) hM0 ?_
 refine st_seq (st_region [oF 0] (by rfl) ?_)
 refine oQ [oF 0] [(0, sl A_l l c_l), (1, sl A_layers layers c_layers)] (by kernel_rfl) ?_
 refine ops_nil (fin_then (st_seq (st_region [oF 0, oF 1, oF 2, oF 3] (by rfl) ?_)))
 refine oQ [oF 0, oF 1] [(14, vI (l.length : Int)), (0, sl A_l l c_l), (1, sl A_layers layers c_layers)] (by kernel_rfl) ?_
 obtain ⟨l1, hv2, hp⟩ := obind hp
 obtain ⟨m3, hm4, he5, hb6⟩ := mk_some hv2
 have hl7 : l1.length = m3 := by rw [he5, List.length_replicate]
 obtain ⟨y8, hy9⟩ : ∃ y_, (Sx.madeOf [vI 0] (l1.length * 1)).toList = y_ := ⟨_, rfl⟩
 have h10 : RepL (Rep.int .i64) F W l1 y8 := by rw [← hy9, hl7, he5]; exact RepL.made rfl (by decide) _
 refine ops_makeO (t := 26) (x := (Go.Operand.tmp 14)) (y := (Go.Operand.tmp 14)) (d := some 15) (nn := l1.length) (z := 1) (bytes := 8) (xs := y8) (zv := vI 0) ⟨by kernel_rfl⟩ rfl rfl (by rw [hl7]; exact hm4) (by rw [hl7]; exact hm4) Try.underlying26 (by kernel_rfl) (by rw [hl7]; exact hb6) (by rfl) hy9 (fun _ _ _ hS h' => trivial) (fun g11 => ?_)
 refine oQ [oF 3] [(5, sl (sa g11) l1 l1.length), (0, sl A_l l c_l), (1, sl A_layers layers c_layers)] (by kernel_rfl) ?_
 refine ops_nil (fin_then (st_seq (st_region [oF 0] (by rfl) ?_)))
 refine oQ [oF 0] [(6, vI 0), (5, sl (sa g11) l1 l1.length), (0, sl A_l l c_l), (1, sl A_layers layers c_layers)] (by kernel_rfl) ?_
 refine ops_nil (fin_then ?_)
 refine st_join1 (σ := (List Int) × (List Value) × Int) (L := fun x_ => match x_ with | (l12, y13, i15) => [(0, sl A_l l c_l), (5, sl (sa g11) l12 l1.length), (6, vI i15)]) (N := fun x_ => match x_ with | (l12, y13, i15) => Mem w0 (ow (sa g11) l12 l1.length 3 1 y13 :: Fz F W :: cs)) (I := fun x_ => match x_ with | (l12, y13, i15) => ((plan_Right_j1 l) l12 i15 = some t9001) ∧ (RepL (Rep.int .i64) F W l12 y13)) ?_ ?_
 ·
  rintro ⟨l12, y13, i15⟩ ⟨hp, h14⟩
  unfold plan_Right_j1 at hp
  refine st_seq (st_seq (st_region [oF 0, oF 1, oF 2, oF 3] (by rfl) ?_))
  refine oQ [oF 0, oF 1, oF 2, oF 3] [(70, .bool (!(i15 == (l.length : Int)))), (0, sl A_l l c_l), (5, sl (sa g11) l12 l1.length)] (by kernel_rfl) ?_
  refine ops_nil (fin_then ?_)
  refine st_if (b := !(i15 == (l.length : Int))) rfl (fun hc16 => ?_) (fun hc16 => ?_)
  ·
   have hp := cnd_t hc16 hp
   refine st_seq (st_region [oF 0] (by rfl) ?_)
   refine oQ [oF 0] [(4, .bool false)] (by kernel_rfl) ?_
   refine ops_nil (fin_then (st_ret (fin_ret_then ?_)))
   have hq_ := Option.some.inj hp
   have hr0_ := hq_
   subst hr0_
   refine fin_ret [.tmp 4] [.bool false] rfl rfl (fun w_ hM => (.tmp rfl .nil)) (fun w_ hM => ?_)
   exact ⟨trivial, rfl, hM.pick 2 [1] (by kernel_rfl) (by decide) rfl⟩
  ·
   have hp := cnd_f hc16 hp
   refine st_skip (fin_then ?_)
   refine st_join1 (σ := Unit) (L := fun _ => []) (N := fun _ => Mem w0 (Fz F W :: cs)) (I := fun _ => (plan_Right_j2 = some t9001)) ?_ ?_
   ·
    rintro _ hp
    unfold plan_Right_j2 at hp
    refine st_seq (st_region [oF 0] (by rfl) ?_)
    refine oQ [oF 0] [(4, .bool true)] (by kernel_rfl) ?_
    refine ops_nil (fin_then (st_ret ?_))
    have hq_ := Option.some.inj hp
    have hr0_ := hq_
    subst hr0_
    refine fin_ret [.tmp 4] [.bool true] rfl rfl (fun w_ hM => (.tmp rfl .nil)) (fun w_ hM => ?_)
    exact ⟨trivial, rfl, hM⟩
   ·
    intro HJ2
    refine st_seq (st_seq (st_region [oF 0, oF 1, oF 2] (by rfl) ?_))
    refine oQ [oF 0, oF 1, oF 2] [(73, vI 0), (72, vI (l.length : Int)), (0, sl A_l l c_l), (5, sl (sa g11) l12 l1.length)] (by kernel_rfl) ?_
    refine ops_nil (fin_then (st_block ?_))
    obtain ⟨r3, hl3, hk3⟩ := obind hp
    refine st_loopP (σ := Int) (ρ := (Bool ⊕ Unit)) (γ := Unit) hl3 () (fun s_ g_ => match s_, g_ with | i17, _ => [(0, sl A_l l c_l), (5, sl (sa g11) l12 l1.length), (72, vI (l.length : Int)), (73, vI i17)]) (fun s_ g_ => match s_, g_ with | i17, _ => Mem w0 (ow (sa g11) l12 l1.length 3 1 y13 :: Fz F W :: cs)) (fun s_ g_ => match s_, g_ with | i17, _ => True) trivial (look_has ⟨rfl, rfl, rfl, rfl, trivial⟩) (fun w_ hM => hM) ?_
    rintro i17 _ o3 - hs_ hd3
    have hp : (plan_Right_l3 l l12) i17 = some o3 := hs_
    clear hs_
    unfold plan_Right_l3 at hp
    refine st_seq (st_region [oF 0] (by rfl) ?_)
    refine oQ [oF 0] [(74, .bool (decide (i17 < (l.length : Int)))), (0, sl A_l l c_l), (5, sl (sa g11) l12 l1.length), (72, vI (l.length : Int)), (73, vI i17)] (by kernel_rfl) ?_
    refine ops_nil (fin_then (st_seq ?_))
    refine st_if (b := decide (i17 < (l.length : Int))) rfl (fun hc18 => ?_) (fun hc18 => ?_)
    ·
     have hp := cnd_t hc18 hp
     refine st_skip (fin_then ?_)
     refine st_join1 (σ := Unit) (L := fun _ => [(0, sl A_l l c_l), (5, sl (sa g11) l12 l1.length), (72, vI (l.length : Int)), (73, vI i17)]) (N := fun _ => Mem w0 (ow (sa g11) l12 l1.length 3 1 y13 :: Fz F W :: cs)) (I := fun _ => ((plan_Right_j4 i17) = some o3)) ?_ ?_
     ·
      rintro _ hp
      unfold plan_Right_j4 at hp
      refine st_region [oF 0, oF 1] (by rfl) ?_
      refine oQ [oF 0, oF 1] [(73, vI (IntKind.i64.wrap (i17 + 1))), (0, sl A_l l c_l), (5, sl (sa g11) l12 l1.length), (72, vI (l.length : Int))] (by kernel_rfl) ?_
      refine ops_nil ?_
      exact fin_again (IntKind.i64.wrap (i17 + 1)) () (Option.some.inj hp).symm trivial (look_has ⟨rfl, rfl, rfl, rfl, trivial⟩) (fun w_ hM => hM)
     ·
      intro HJ4
      refine st_seq (st_block (st_seq (st_region [oF 0, oF 1] (by rfl) ?_)))
      refine oQ [oF 0, oF 1] [(11, vI i17), (0, sl A_l l c_l), (5, sl (sa g11) l12 l1.length), (72, vI (l.length : Int)), (73, vI i17)] (by kernel_rfl) ?_
      refine ops_nil (fin_then (st_seq (st_region [oF 0, oF 1] (by rfl) ?_)))
      refine oQ [oF 0, oF 1] [(77, vI 0), (76, vI i17), (11, vI i17), (0, sl A_l l c_l), (5, sl (sa g11) l12 l1.length), (72, vI (l.length : Int)), (73, vI i17)] (by kernel_rfl) ?_
      refine ops_nil (fin_then (st_block ?_))
      obtain ⟨r5, hl5, hk5⟩ := obind hp
      refine st_loopP (σ := Int) (ρ := (Bool ⊕ Unit)) (γ := Unit) hl5 () (fun s_ g_ => match s_, g_ with | i19, _ => [(0, sl A_l l c_l), (5, sl (sa g11) l12 l1.length), (11, vI i17), (72, vI (l.length : Int)), (73, vI i17), (76, vI i17), (77, vI i19)]) (fun s_ g_ => match s_, g_ with | i19, _ => Mem w0 (ow (sa g11) l12 l1.length 3 1 y13 :: Fz F W :: cs)) (fun s_ g_ => match s_, g_ with | i19, _ => True) trivial (look_has ⟨rfl, rfl, rfl, rfl, rfl, rfl, rfl, trivial⟩) (fun w_ hM => hM) ?_
      rintro i19 _ o5 - hs_ hd5
      have hp : (plan_Right_l5 i17 l l12) i19 = some o5 := hs_
      clear hs_
      unfold plan_Right_l5 at hp
      refine st_seq (st_region [oF 0] (by rfl) ?_)
      refine oQ [oF 0] [(78, .bool (decide (i19 < i17))), (0, sl A_l l c_l), (5, sl (sa g11) l12 l1.length), (11, vI i17), (72, vI (l.length : Int)), (73, vI i17), (76, vI i17), (77, vI i19)] (by kernel_rfl) ?_
      refine ops_nil (fin_then (st_seq ?_))
      refine st_if (b := decide (i19 < i17)) rfl (fun hc20 => ?_) (fun hc20 => ?_)
      ·
       have hp := cnd_t hc20 hp
       refine st_skip (fin_then ?_)
       refine st_join1 (σ := Unit) (L := fun _ => [(0, sl A_l l c_l), (5, sl (sa g11) l12 l1.length), (11, vI i17), (72, vI (l.length : Int)), (73, vI i17), (76, vI i17), (77, vI i19)]) (N := fun _ => Mem w0 (ow (sa g11) l12 l1.length 3 1 y13 :: Fz F W :: cs)) (I := fun _ => ((plan_Right_j6 i19) = some o5)) ?_ ?_
       ·
        rintro _ hp
        unfold plan_Right_j6 at hp
        refine st_region [oF 0, oF 1] (by rfl) ?_
        refine oQ [oF 0, oF 1] [(77, vI (IntKind.i64.wrap (i19 + 1))), (0, sl A_l l c_l), (5, sl (sa g11) l12 l1.length), (11, vI i17), (72, vI (l.length : Int)), (73, vI i17), (76, vI i17)] (by kernel_rfl) ?_
        refine ops_nil ?_
        exact fin_again (IntKind.i64.wrap (i19 + 1)) () (Option.some.inj hp).symm trivial (look_has ⟨rfl, rfl, rfl, rfl, rfl, rfl, rfl, trivial⟩) (fun w_ hM => hM)
       ·
        intro HJ6
        refine st_seq (st_block (st_seq (st_region [oF 0, oF 1] (by rfl) ?_)))
        refine oQ [oF 0, oF 1] [(12, vI i19), (0, sl A_l l c_l), (5, sl (sa g11) l12 l1.length), (11, vI i17), (72, vI (l.length : Int)), (73, vI i17), (76, vI i17), (77, vI i19)] (by kernel_rfl) ?_
        refine ops_nil (fin_then (st_seq ?_))
        refine st_region_fast plan_Right__t0 [oT 0, oT 1, oT 2, oT 3, oT 4, oT 5, oT 6, oT 7, oF 8, oT 9, oT 10, oT 11, oT 12, oT 13, oT 14, oT 15, oT 16, oT 17, oT 18, oT 19] (Mem w0 (ow (sa g11) l12 l1.length 3 1 y13 :: Fz F W :: cs)) (by kernel_rfl) (by kernel_rfl) (by kernel_rfl) (by kernel_rfl) (by kernel_rfl) (fun _ d _ _ _ h => by cases d <;> exact h) (M' := Mem w0 (ow (sa g11) l12 l1.length 3 1 y13 :: Fz F W :: cs)) (fun w_ hM => ⟨hM.drew, hM.drew.sub (.cons_cons _ (.cons_cons _ (.refl _)))⟩) ?_
        refine oQ [oT 0, oT 1] [(81, vI i19), (80, sl A_l l c_l), (12, vI i19), (0, sl A_l l c_l), (5, sl (sa g11) l12 l1.length), (11, vI i17), (72, vI (l.length : Int)), (73, vI i17), (76, vI i17), (77, vI i19)] (by kernel_rfl) ?_
        obtain ⟨x21, hv22, hp⟩ := obind hp
        obtain ⟨m23, hm24, hx25⟩ := idx_some hv22
        have hl28 := (List.getElem?_eq_some_iff.1 hx25).1
        obtain ⟨ad29, vs26, hA30, hr27, hq31⟩ := RdS.el h_l hx25
        obtain ⟨A32, c33, A35, c36, A38, c39, A41, c42, A44, c45, A47, c48, rfl, h34, h37, h40, h43, h46, h49⟩ := dec_api_System hr27
        refine ops_val (op := (.indexAddr 22 (.tmp 80) (.tmp 81))) (d := some 82) (v := .pointer (some (ad29.add (m23 * 7)))) ⟨by kernel_rfl⟩ (run_indexA hA30 Try.underlying22 (z := 7) (by kernel_rfl) rfl rfl hm24 hl28) ?_
        refine ops_load (d := some 83) (an := [.v (.string x21.Name), .v (sl A32 x21.With c33), .v (sl A35 x21.Without c36), .v (sl A38 x21.Reads c39), .v (sl A41 x21.Writes c42), .v (sl A44 x21.Ops c45), .v (sl A47 x21.Spawn c48)]) (evs := [.load (ad29.add (m23 * 7)) (.string x21.Name), .load ((ad29.add (m23 * 7)).add 1) (sl A32 x21.With c33), .load ((ad29.add (m23 * 7)).add 2) (sl A35 x21.Without c36), .load ((ad29.add (m23 * 7)).add 3) (sl A38 x21.Reads c39), .load ((ad29.add (m23 * 7)).add 4) (sl A41 x21.Writes c42), .load ((ad29.add (m23 * 7)).add 5) (sl A44 x21.Ops c45), .load ((ad29.add (m23 * 7)).add 6) (sl A47 x21.Spawn c48)]) (v := .agg #[.string x21.Name, sl A32 x21.With c33, sl A35 x21.Without c36, sl A38 x21.Reads c39, sl A41 x21.Writes c42, sl A44 x21.Ops c45, sl A47 x21.Spawn c48]) ⟨by kernel_rfl⟩ (fun w_ hM => ⟨hM.elcell 1 rfl hq31 0 rfl, hM.elcell 1 rfl hq31 1 rfl, hM.elcell 1 rfl hq31 2 rfl, hM.elcell 1 rfl hq31 3 rfl, hM.elcell 1 rfl hq31 4 rfl, hM.elcell 1 rfl hq31 5 rfl, hM.elcell 1 rfl hq31 6 rfl, rfl⟩) ?_
        refine oQ [oT 4, oT 5] [(85, vI i17), (84, sl A_l l c_l), (83, .agg #[.string x21.Name, sl A32 x21.With c33, sl A35 x21.Without c36, sl A38 x21.Reads c39, sl A41 x21.Writes c42, sl A44 x21.Ops c45, sl A47 x21.Spawn c48]), (12, vI i19), (0, sl A_l l c_l), (5, sl (sa g11) l12 l1.length), (11, vI i17), (72, vI (l.length : Int)), (73, vI i17), (76, vI i17), (77, vI i19)] (by kernel_rfl) ?_
        obtain ⟨x50, hv51, hp⟩ := obind hp
        obtain ⟨m52, hm53, hx54⟩ := idx_some hv51
        have hl57 := (List.getElem?_eq_some_iff.1 hx54).1
        obtain ⟨ad58, vs55, hA59, hr56, hq60⟩ := RdS.el h_l hx54
        obtain ⟨A61, c62, A64, c65, A67, c68, A70, c71, A73, c74, A76, c77, rfl, h63, h66, h69, h72, h75, h78⟩ := dec_api_System hr56
        refine ops_val (op := (.indexAddr 22 (.tmp 84) (.tmp 85))) (d := some 86) (v := .pointer (some (ad58.add (m52 * 7)))) ⟨by kernel_rfl⟩ (run_indexA hA59 Try.underlying22 (z := 7) (by kernel_rfl) rfl rfl hm53 hl57) ?_
        refine ops_load (d := some 87) (an := [.v (.string x50.Name), .v (sl A61 x50.With c62), .v (sl A64 x50.Without c65), .v (sl A67 x50.Reads c68), .v (sl A70 x50.Writes c71), .v (sl A73 x50.Ops c74), .v (sl A76 x50.Spawn c77)]) (evs := [.load (ad58.add (m52 * 7)) (.string x50.Name), .load ((ad58.add (m52 * 7)).add 1) (sl A61 x50.With c62), .load ((ad58.add (m52 * 7)).add 2) (sl A64 x50.Without c65), .load ((ad58.add (m52 * 7)).add 3) (sl A67 x50.Reads c68), .load ((ad58.add (m52 * 7)).add 4) (sl A70 x50.Writes c71), .load ((ad58.add (m52 * 7)).add 5) (sl A73 x50.Ops c74), .load ((ad58.add (m52 * 7)).add 6) (sl A76 x50.Spawn c77)]) (v := .agg #[.string x50.Name, sl A61 x50.With c62, sl A64 x50.Without c65, sl A67 x50.Reads c68, sl A70 x50.Writes c71, sl A73 x50.Ops c74, sl A76 x50.Spawn c77]) ⟨by kernel_rfl⟩ (fun w_ hM => ⟨hM.elcell 1 rfl hq60 0 rfl, hM.elcell 1 rfl hq60 1 rfl, hM.elcell 1 rfl hq60 2 rfl, hM.elcell 1 rfl hq60 3 rfl, hM.elcell 1 rfl hq60 4 rfl, hM.elcell 1 rfl hq60 5 rfl, hM.elcell 1 rfl hq60 6 rfl, rfl⟩) ?_
        obtain ⟨x79, hv80, hp⟩ := obind hp
        refine ops_callI (σ := Unit) (d := some 88) (f := 25) (args := #[.agg #[.string x21.Name, sl A32 x21.With c33, sl A35 x21.Without c36, sl A38 x21.Reads c39, sl A41 x21.Writes c42, sl A44 x21.Ops c45, sl A47 x21.Spawn c48], .agg #[.string x50.Name, sl A61 x50.With c62, sl A64 x50.Without c65, sl A67 x50.Reads c68, sl A70 x50.Writes c71, sl A73 x50.Ops c74, sl A76 x50.Spawn c77]]) (v := (fun _ => .bool x79)) (I := (fun _ => True)) (M' := (fun _ => Mem w0 (ow (sa g11) l12 l1.length 3 1 y13 :: Fz F W :: cs))) ⟨by kernel_rfl⟩ (fun w_ hM hS => (plan_Conflict_ok w0 w_ (ow (sa g11) l12 l1.length 3 1 y13 :: cs) F W x21.Name A32 c33 x21.With A35 c36 x21.Without A38 c39 x21.Reads A41 c42 x21.Writes A44 c45 x21.Ops A47 c48 x21.Spawn x50.Name A61 c62 x50.With A64 c65 x50.Without A67 c68 x50.Reads A70 c71 x50.Writes A73 c74 x50.Ops A76 c77 x50.Spawn (hM.pick 2 [1, 0] (by kernel_rfl) (by decide) rfl) h34 h37 h40 h43 h46 h49 h63 h66 h69 h72 h75 h78 x79 hv80).mono (by rintro e w' ⟨-, rfl, h'⟩; have h' : Mem w0 (ow (sa g11) l12 l1.length 3 1 y13 :: Fz F W :: cs) w' := (h'.pick 2 [1, 0] (by kernel_rfl) (by decide) rfl); exact ⟨(), trivial, rfl, h', (by exact h'.sub (.cons_cons _ (.cons_cons _ (.refl _))))⟩)) ?_
        rintro _ -
        refine oQ [oT 9] [(89, .bool x79), (12, vI i19), (0, sl A_l l c_l), (5, sl (sa g11) l12 l1.length), (11, vI i17), (72, vI (l.length : Int)), (73, vI i17), (76, vI i17), (77, vI i19)] (by kernel_rfl) ?_
        refine ops_bool (t := x79) (l1 := [(89, .bool true), (12, vI i19), (0, sl A_l l c_l), (5, sl (sa g11) l12 l1.length), (11, vI i17), (72, vI (l.length : Int)), (73, vI i17), (76, vI i17), (77, vI i19)]) (l2 := [(89, .bool false), (12, vI i19), (0, sl A_l l c_l), (5, sl (sa g11) l12 l1.length), (11, vI i17), (72, vI (l.length : Int)), (73, vI i17), (76, vI i17), (77, vI i19)]) (fun h => by rw [h]) (fun h => by rw [h]) (fun hc81 => ?_) (fun hc81 => ?_)
        ·
         have hp := cnd_t hc81 hp
         refine oQ [oT 10, oT 11] [(91, vI i19), (90, sl (sa g11) l12 l1.length), (89, .bool true), (0, sl A_l l c_l), (5, sl (sa g11) l12 l1.length), (11, vI i17), (72, vI (l.length : Int)), (73, vI i17), (76, vI i17), (77, vI i19)] (by kernel_rfl) ?_
         obtain ⟨x82, hv83, hp⟩ := obind hp
         obtain ⟨m84, hm85, hx86⟩ := idx_some hv83
         have hl89 := (List.getElem?_eq_some_iff.1 hx86).1
         obtain ⟨vs87, hr88, hq90⟩ := h14.at_ m84 x82 hx86
         obtain rfl := hr88
         refine ops_val (op := (.indexAddr 26 (.tmp 90) (.tmp 91))) (d := some 92) (v := vP g11 (m84 * 1)) ⟨by kernel_rfl⟩ (run_indexRow Try.underlying26 (z := 1) (by kernel_rfl) rfl rfl hm85 hl89 rfl) ?_
         refine ops_load (d := some 93) (an := [.v (vI x82)]) (evs := [.load ⟨g11, m84 * 1, none⟩ (vI x82)]) (v := vI x82) ⟨by kernel_rfl⟩ (fun w_ hM => ⟨hM.ocell 0 rfl (hq90 0 _ rfl), rfl⟩) ?_
         refine oQ [oT 14, oT 15] [(95, vI i17), (94, sl (sa g11) l12 l1.length), (93, vI x82), (89, .bool true), (0, sl A_l l c_l), (5, sl (sa g11) l12 l1.length), (11, vI i17), (72, vI (l.length : Int)), (73, vI i17), (76, vI i17), (77, vI i19)] (by kernel_rfl) ?_
         obtain ⟨x91, hv92, hp⟩ := obind hp
         obtain ⟨m93, hm94, hx95⟩ := idx_some hv92
         have hl98 := (List.getElem?_eq_some_iff.1 hx95).1
         obtain ⟨vs96, hr97, hq99⟩ := h14.at_ m93 x91 hx95
         obtain rfl := hr97
         refine ops_val (op := (.indexAddr 26 (.tmp 94) (.tmp 95))) (d := some 96) (v := vP g11 (m93 * 1)) ⟨by kernel_rfl⟩ (run_indexRow Try.underlying26 (z := 1) (by kernel_rfl) rfl rfl hm94 hl98 rfl) ?_
         refine ops_load (d := some 97) (an := [.v (vI x91)]) (evs := [.load ⟨g11, m93 * 1, none⟩ (vI x91)]) (v := vI x91) ⟨by kernel_rfl⟩ (fun w_ hM => ⟨hM.ocell 0 rfl (hq99 0 _ rfl), rfl⟩) ?_
         refine oQ [oT 18, oT 19] [(99, .bool (decide (x91 ≤ x82))), (0, sl A_l l c_l), (5, sl (sa g11) l12 l1.length), (11, vI i17), (72, vI (l.length : Int)), (73, vI i17), (76, vI i17), (77, vI i19)] (by kernel_rfl) ?_
         refine ops_nil (fin_then ?_)
         refine st_if (b := decide (x91 ≤ x82)) rfl (fun hc100 => ?_) (fun hc100 => ?_)
         ·
          have hp := cnd_t hc100 hp
          refine st_seq (st_region [oF 0] (by rfl) ?_)
          refine oQ [oF 0] [(4, .bool false)] (by kernel_rfl) ?_
          refine ops_nil (fin_then (st_ret (fin_ret_block (fin_ret_then (fin_ret_then (fin_ret_block (fin_ret_block (fin_ret_then (fin_ret_then (fin_ret_block (fin_ret_then ?_)))))))))))
          obtain hq_ := Option.some.inj hp
          subst hq_
          obtain hq_ := hd5 _ rfl
          subst hq_
          have hp : some (.inr (.inl false)) = some o3 := hk5
          obtain hq_ := Option.some.inj hp
          subst hq_
          obtain hq_ := hd3 _ rfl
          subst hq_
          have hp : some false = some t9001 := hk3
          have hq_ := Option.some.inj hp
          have hr0_ := hq_
          subst hr0_
          refine fin_ret [.tmp 4] [.bool false] rfl rfl (fun w_ hM => (.tmp rfl .nil)) (fun w_ hM => ?_)
          exact ⟨trivial, rfl, hM.pick 2 [1] (by kernel_rfl) (by decide) rfl⟩
         ·
          have hp := cnd_f hc100 hp
          refine st_skip (fin_block ?_)
          exact fin_join HJ6 () hp (look_has ⟨rfl, rfl, rfl, rfl, rfl, rfl, rfl, trivial⟩) (fun w_ hM => hM)
        ·
         have hp := cnd_f hc81 hp
         refine oQ [oT 10, oT 11, oT 12, oT 13, oT 14, oT 15, oT 16, oT 17, oT 18, oT 19] [(99, .bool false), (0, sl A_l l c_l), (5, sl (sa g11) l12 l1.length), (11, vI i17), (72, vI (l.length : Int)), (73, vI i17), (76, vI i17), (77, vI i19)] (by kernel_rfl) ?_
         refine ops_nil (fin_then (st_false rfl (st_skip (fin_block ?_))))
         exact fin_join HJ6 () hp (look_has ⟨rfl, rfl, rfl, rfl, rfl, rfl, rfl, trivial⟩) (fun w_ hM => hM)
      ·
       have hp := cnd_f hc20 hp
       refine st_exit (fin_exit_then (fin_exit_then (fin_exit (fin_block ?_))))
       obtain hq_ := Option.some.inj hp
       subst hq_
       obtain hq_ := hd5 _ rfl
       subst hq_
       have hp : (plan_Right_j4 i17) = some o3 := hk5
       exact fin_join HJ4 () hp (look_has ⟨rfl, rfl, rfl, rfl, trivial⟩) (fun w_ hM => hM)
    ·
     have hp := cnd_f hc18 hp
     refine st_exit (fin_exit_then (fin_exit_then (fin_exit ?_)))
     obtain hq_ := Option.some.inj hp
     subst hq_
     obtain hq_ := hd3 _ rfl
     subst hq_
     have hp : plan_Right_j2 = some t9001 := hk3
     exact fin_join HJ2 () hp (look_has trivial) (fun w_ hM => hM.pick 2 [1] (by kernel_rfl) (by decide) rfl)
 ·
  intro HJ1
  refine st_seq (st_seq (st_region [oF 0, oF 1, oF 2] (by rfl) ?_))
  refine oQ [oF 0, oF 1, oF 2] [(18, vI 0), (17, vI (layers.length : Int)), (16, sl A_layers layers c_layers), (6, vI 0), (5, sl (sa g11) l1 l1.length), (0, sl A_l l c_l)] (by kernel_rfl) ?_
  refine ops_nil (fin_then (st_block ?_))
  obtain ⟨r7, hl7, hk7⟩ := obind hp
  refine st_loopP (σ := (List Int) × Int × Int) (ρ := (Bool ⊕ (List Int) × Int)) (γ := (List Value)) hl7 y8 (fun s_ g_ => match s_, g_ with | (l101, i104, i105), y102 => [(0, sl A_l l c_l), (5, sl (sa g11) l101 l1.length), (6, vI i104), (16, sl A_layers layers c_layers), (17, vI (layers.length : Int)), (18, vI i105)]) (fun s_ g_ => match s_, g_ with | (l101, i104, i105), y102 => Mem w0 (ow (sa g11) l101 l1.length 3 1 y102 :: Fz F W :: cs)) (fun s_ g_ => match s_, g_ with | (l101, i104, i105), y102 => (RepL (Rep.int .i64) F W l101 y102)) h10 (look_has ⟨rfl, rfl, rfl, rfl, rfl, rfl, trivial⟩) (fun w_ hM => hM) ?_
  rintro ⟨l101, i104, i105⟩ y102 o7 h103 hs_ hd7
  have hp : (plan_Right_l7 layers l) l101 i104 i105 = some o7 := hs_
  clear hs_
  unfold plan_Right_l7 at hp
  refine st_seq (st_region [oF 0] (by rfl) ?_)
  refine oQ [oF 0] [(19, .bool (decide (i105 < (layers.length : Int)))), (0, sl A_l l c_l), (5, sl (sa g11) l101 l1.length), (6, vI i104), (16, sl A_layers layers c_layers), (17, vI (layers.length : Int)), (18, vI i105)] (by kernel_rfl) ?_
  refine ops_nil (fin_then (st_seq ?_))
  refine st_if (b := decide (i105 < (layers.length : Int))) rfl (fun hc106 => ?_) (fun hc106 => ?_)
  ·
   have hp := cnd_t hc106 hp
   refine st_skip (fin_then ?_)
   refine st_join1 (σ := (List Int) × (List Value) × Int) (L := fun x_ => match x_ with | (l107, y108, i110) => [(0, sl A_l l c_l), (5, sl (sa g11) l107 l1.length), (6, vI i110), (16, sl A_layers layers c_layers), (17, vI (layers.length : Int)), (18, vI i105)]) (N := fun x_ => match x_ with | (l107, y108, i110) => Mem w0 (ow (sa g11) l107 l1.length 3 1 y108 :: Fz F W :: cs)) (I := fun x_ => match x_ with | (l107, y108, i110) => ((plan_Right_j8 i105) l107 i110 = some o7) ∧ (RepL (Rep.int .i64) F W l107 y108)) ?_ ?_
   ·
    rintro ⟨l107, y108, i110⟩ ⟨hp, h109⟩
    unfold plan_Right_j8 at hp
    refine st_region [oF 0, oF 1] (by rfl) ?_
    refine oQ [oF 0, oF 1] [(18, vI (IntKind.i64.wrap (i105 + 1))), (0, sl A_l l c_l), (5, sl (sa g11) l107 l1.length), (6, vI i110), (16, sl A_layers layers c_layers), (17, vI (layers.length : Int))] (by kernel_rfl) ?_
    refine ops_nil ?_
    exact fin_again (l107, i110, IntKind.i64.wrap (i105 + 1)) y108 (Option.some.inj hp).symm h109 (look_has ⟨rfl, rfl, rfl, rfl, rfl, rfl, trivial⟩) (fun w_ hM => hM)
   ·
    intro HJ8
    refine st_seq (st_block (st_seq (st_region [oF 0, oF 1, oF 2, oF 3, oF 4] (by rfl) ?_)))
    refine oQ [oF 0] [(20, vI i105), (0, sl A_l l c_l), (5, sl (sa g11) l101 l1.length), (6, vI i104), (16, sl A_layers layers c_layers), (17, vI (layers.length : Int)), (18, vI i105)] (by kernel_rfl) ?_
    obtain ⟨x111, hv112, hp⟩ := obind hp
    obtain ⟨m113, hm114, hx115⟩ := idx_some hv112
    have hl118 := (List.getElem?_eq_some_iff.1 hx115).1
    obtain ⟨ad119, vs116, hA120, hr117, hq121⟩ := RdS.el h_layers hx115
    obtain ⟨A122, c123, rfl, h124⟩ := hr117
    refine ops_val (op := (.indexAddr 23 (.tmp 16) (.tmp 18))) (d := some 21) (v := .pointer (some (ad119.add (m113 * 1)))) ⟨by kernel_rfl⟩ (run_indexA hA120 Try.underlying23 (z := 1) (by kernel_rfl) rfl rfl hm114 hl118) ?_
    refine ops_mem (d := some 22) (an := [.v (sl A122 x111 c123)]) (evs := [.load (ad119.add (m113 * 1)) (sl A122 x111 c123)]) (v := sl A122 x111 c123) ⟨by kernel_rfl⟩ (fun w_ hM hS => ⟨w_, ⟨hM.elcell 1 rfl hq121 0 rfl, rfl⟩, hM, trivial⟩) ?_
    refine oQ [oF 3, oF 4] [(8, sl A122 x111 c123), (7, vI i105), (0, sl A_l l c_l), (5, sl (sa g11) l101 l1.length), (6, vI i104), (16, sl A_layers layers c_layers), (17, vI (layers.length : Int)), (18, vI i105)] (by kernel_rfl) ?_
    refine ops_nil (fin_then (st_seq (st_region [oF 0, oF 1, oF 2] (by rfl) ?_)))
    refine oQ [oF 0, oF 1, oF 2] [(25, vI 0), (24, vI (x111.length : Int)), (23, sl A122 x111 c123), (8, sl A122 x111 c123), (7, vI i105), (0, sl A_l l c_l), (5, sl (sa g11) l101 l1.length), (6, vI i104), (16, sl A_layers layers c_layers), (17, vI (layers.length : Int)), (18, vI i105)] (by kernel_rfl) ?_
    refine ops_nil (fin_then (st_block ?_))
    obtain ⟨r9, hl9, hk9⟩ := obind hp
    refine st_loopP (σ := (List Int) × Int × Int) (ρ := (Bool ⊕ (List Int) × Int)) (γ := (List Value)) hl9 y102 (fun s_ g_ => match s_, g_ with | (l125, i128, i129), y126 => [(0, sl A_l l c_l), (5, sl (sa g11) l125 l1.length), (6, vI i128), (7, vI i105), (8, sl A122 x111 c123), (16, sl A_layers layers c_layers), (17, vI (layers.length : Int)), (18, vI i105), (23, sl A122 x111 c123), (24, vI (x111.length : Int)), (25, vI i129)]) (fun s_ g_ => match s_, g_ with | (l125, i128, i129), y126 => Mem w0 (ow (sa g11) l125 l1.length 3 1 y126 :: Fz F W :: cs)) (fun s_ g_ => match s_, g_ with | (l125, i128, i129), y126 => (RepL (Rep.int .i64) F W l125 y126)) h103 (look_has ⟨rfl, rfl, rfl, rfl, rfl, rfl, rfl, rfl, rfl, rfl, rfl, trivial⟩) (fun w_ hM => hM) ?_
    rintro ⟨l125, i128, i129⟩ y126 o9 h127 hs_ hd9
    have hp : (plan_Right_l9 x111 l i105) l125 i128 i129 = some o9 := hs_
    clear hs_
    unfold plan_Right_l9 at hp
    refine st_seq (st_region [oF 0] (by rfl) ?_)
    refine oQ [oF 0] [(26, .bool (decide (i129 < (x111.length : Int)))), (0, sl A_l l c_l), (5, sl (sa g11) l125 l1.length), (6, vI i128), (7, vI i105), (8, sl A122 x111 c123), (16, sl A_layers layers c_layers), (17, vI (layers.length : Int)), (18, vI i105), (23, sl A122 x111 c123), (24, vI (x111.length : Int)), (25, vI i129)] (by kernel_rfl) ?_
    refine ops_nil (fin_then (st_seq ?_))
    refine st_if (b := decide (i129 < (x111.length : Int))) rfl (fun hc130 => ?_) (fun hc130 => ?_)
    ·
     have hp := cnd_t hc130 hp
     refine st_skip (fin_then (st_seq (st_block (st_seq (st_region [oF 0, oF 1, oF 2, oF 3, oF 4] (by rfl) ?_)))))
     refine oQ [oF 0] [(27, vI i129), (0, sl A_l l c_l), (5, sl (sa g11) l125 l1.length), (6, vI i128), (7, vI i105), (8, sl A122 x111 c123), (16, sl A_layers layers c_layers), (17, vI (layers.length : Int)), (18, vI i105), (23, sl A122 x111 c123), (24, vI (x111.length : Int)), (25, vI i129)] (by kernel_rfl) ?_
     obtain ⟨x131, hv132, hp⟩ := obind hp
     obtain ⟨m133, hm134, hx135⟩ := idx_some hv132
     have hl138 := (List.getElem?_eq_some_iff.1 hx135).1
     obtain ⟨ad139, vs136, hA140, hr137, hq141⟩ := RdS.el h124 hx135
     obtain rfl := hr137
     refine ops_val (op := (.indexAddr 26 (.tmp 23) (.tmp 25))) (d := some 28) (v := .pointer (some (ad139.add (m133 * 1)))) ⟨by kernel_rfl⟩ (run_indexA hA140 Try.underlying26 (z := 1) (by kernel_rfl) rfl rfl hm134 hl138) ?_
     refine ops_mem (d := some 29) (an := [.v (vI x131)]) (evs := [.load (ad139.add (m133 * 1)) (vI x131)]) (v := vI x131) ⟨by kernel_rfl⟩ (fun w_ hM hS => ⟨w_, ⟨hM.elcell 1 rfl hq141 0 rfl, rfl⟩, hM, trivial⟩) ?_
     refine oQ [oF 3, oF 4] [(10, vI x131), (9, vI i129), (0, sl A_l l c_l), (5, sl (sa g11) l125 l1.length), (6, vI i128), (7, vI i105), (8, sl A122 x111 c123), (16, sl A_layers layers c_layers), (17, vI (layers.length : Int)), (18, vI i105), (23, sl A122 x111 c123), (24, vI (x111.length : Int)), (25, vI i129)] (by kernel_rfl) ?_
     refine ops_nil (fin_then ?_)
     refine st_join1 (σ := Unit) (L := fun _ => [(0, sl A_l l c_l), (5, sl (sa g11) l125 l1.length), (6, vI i128), (7, vI i105), (8, sl A122 x111 c123), (10, vI x131), (16, sl A_layers layers c_layers), (17, vI (layers.length : Int)), (18, vI i105), (23, sl A122 x111 c123), (24, vI (x111.length : Int)), (25, vI i129)]) (N := fun _ => Mem w0 (ow (sa g11) l125 l1.length 3 1 y126 :: Fz F W :: cs)) (I := fun _ => ((plan_Right_j10 l125 x131 i105 i128 i129) = some o9)) ?_ ?_
     ·
      rintro _ hp
      unfold plan_Right_j10 at hp
      refine st_seq (st_region [oF 0, oF 1, oF 2, oF 3, oF 4, oF 5] (by rfl) ?_)
      refine oQ [oF 0, oF 1, oF 2, oF 3] [(61, vI (IntKind.i64.wrap (i105 + 1))), (59, vI x131), (58, sl (sa g11) l125 l1.length), (0, sl A_l l c_l), (5, sl (sa g11) l125 l1.length), (6, vI i128), (7, vI i105), (8, sl A122 x111 c123), (16, sl A_layers layers c_layers), (17, vI (layers.length : Int)), (18, vI i105), (23, sl A122 x111 c123), (24, vI (x111.length : Int)), (25, vI i129)] (by kernel_rfl) ?_
      obtain ⟨x142, hv143, hp⟩ := obind hp
      obtain ⟨m144, hm145, hx146⟩ := idx_some hv143
      have hl149 := (List.getElem?_eq_some_iff.1 hx146).1
      obtain ⟨vs147, hr148, hq150⟩ := h127.at_ m144 x142 hx146
      obtain rfl := hr148
      refine ops_val (op := (.indexAddr 26 (.tmp 58) (.tmp 59))) (d := some 62) (v := vP g11 (m144 * 1)) ⟨by kernel_rfl⟩ (run_indexRow Try.underlying26 (z := 1) (by kernel_rfl) rfl rfl hm145 hl149 rfl) ?_
      refine oQ [] [(62, vP g11 (m144 * 1)), (61, vI (IntKind.i64.wrap (i105 + 1))), (0, sl A_l l c_l), (5, sl (sa g11) l125 l1.length), (6, vI i128), (7, vI i105), (8, sl A122 x111 c123), (16, sl A_layers layers c_layers), (17, vI (layers.length : Int)), (18, vI i105), (23, sl A122 x111 c123), (24, vI (x111.length : Int)), (25, vI i129)] (by kernel_rfl) ?_
      obtain ⟨l151, hv152, hp⟩ := obind hp
      obtain ⟨m153, hm154, hl155, he156⟩ := upd_some hv152
      obtain rfl : m144 = m153 := by have := hm145; omega
      have hl157 : l125.length = l151.length := by rw [he156, List.length_set]
      obtain ⟨y158, hy159⟩ : ∃ y_, setAll y126 (m144 * 1 + 0) [vI (IntKind.i64.wrap (i105 + 1))] = y_ := ⟨_, rfl⟩
      have h160 : RepL (Rep.int .i64) F W l151 y158 := by rw [he156, ← hy159]; exact RepL.set h127 (List.getElem?_eq_getElem hl155) (fun vs_ hr_ _ => by obtain rfl := hr_; exact ⟨rfl, Nat.le_of_ble_eq_true rfl⟩)
      refine ops_store (an := []) (evs := [.store ⟨g11, m144 * 1, none⟩ (vI (IntKind.i64.wrap (i105 + 1)))]) ⟨by kernel_rfl⟩ (fun w_ hM hS => let ⟨w', he, h'⟩ := hM.ostore' 0 rfl (m144 * 1 + 0) [vI (IntKind.i64.wrap (i105 + 1))] (by have z_ : y126.length = l125.length * 1 := h127.len; have y_ : (m144 + 1) * 1 ≤ l125.length * 1 := Nat.mul_le_mul_right _ hl155; rw [Nat.add_mul] at y_; simp only [List.length_cons, List.length_nil]; omega) hl157 hy159; ⟨w', he, h', trivial⟩) ?_
      refine ops_conv (l' := [(62, vP g11 (m144 * 1)), (61, vI (IntKind.i64.wrap (i105 + 1))), (0, sl A_l l c_l), (5, sl (sa g11) l151 l1.length), (6, vI i128), (7, vI i105), (8, sl A122 x111 c123), (16, sl A_layers layers c_layers), (17, vI (layers.length : Int)), (18, vI i105), (23, sl A122 x111 c123), (24, vI (x111.length : Int)), (25, vI i129)]) (M' := Mem w0 (ow (sa g11) l151 l1.length 3 1 y158 :: Fz F W :: cs)) (by first | rfl | ((try dsimp only [sl, ow]); rw [hl157])) (fun w_ hM => by first | exact hM | ((try dsimp only [sl, ow] at hM ⊢); rw [hl157] at hM; exact hM)) ?_
      refine ops_nil (fin_then (st_region [oF 0, oF 1, oF 2] (by rfl) ?_))
      refine oQ [oF 0, oF 1, oF 2] [(6, vI (IntKind.i64.wrap (i128 + 1))), (0, sl A_l l c_l), (5, sl (sa g11) l151 l1.length), (7, vI i105), (8, sl A122 x111 c123), (16, sl A_layers layers c_layers), (17, vI (layers.length : Int)), (18, vI i105), (23, sl A122 x111 c123), (24, vI (x111.length : Int)), (25, vI i129)] (by kernel_rfl) ?_
      refine ops_nil (fin_block (fin_then (st_region [oF 0, oF 1] (by rfl) ?_)))
      refine oQ [oF 0, oF 1] [(25, vI (IntKind.i64.wrap (i129 + 1))), (6, vI (IntKind.i64.wrap (i128 + 1))), (0, sl A_l l c_l), (5, sl (sa g11) l151 l1.length), (7, vI i105), (8, sl A122 x111 c123), (16, sl A_layers layers c_layers), (17, vI (layers.length : Int)), (18, vI i105), (23, sl A122 x111 c123), (24, vI (x111.length : Int))] (by kernel_rfl) ?_
      refine ops_nil ?_
      exact fin_again (l151, IntKind.i64.wrap (i128 + 1), IntKind.i64.wrap (i129 + 1)) y158 (Option.some.inj hp).symm h160 (look_has ⟨rfl, rfl, rfl, rfl, rfl, rfl, rfl, rfl, rfl, rfl, rfl, trivial⟩) (fun w_ hM => hM)
     ·
      intro HJ10
      refine st_seq (st_seq (st_region [oF 0, oF 1, oF 2, oF 3, oF 4, oF 5, oF 6, oF 7, oF 8, oF 9, oF 10, oF 11, oF 12, oF 13, oF 14, oF 15, oF 16, oF 17, oF 18, oF 19, oF 20, oF 21, oF 22, oF 23, oF 24, oF 25, oF 26, oF 27] (by rfl) ?_))
      refine oQ [oF 0, oF 1, oF 2] [(32, .bool (decide (x131 < 0))), (10, vI x131), (9, vI i129), (0, sl A_l l c_l), (5, sl (sa g11) l125 l1.length), (6, vI i128), (7, vI i105), (8, sl A122 x111 c123), (16, sl A_layers layers c_layers), (17, vI (layers.length : Int)), (18, vI i105), (23, sl A122 x111 c123), (24, vI (x111.length : Int)), (25, vI i129)] (by kernel_rfl) ?_
      refine ops_bool (t := decide (x131 < 0)) (l1 := [(32, .bool true), (10, vI x131), (9, vI i129), (0, sl A_l l c_l), (5, sl (sa g11) l125 l1.length), (6, vI i128), (7, vI i105), (8, sl A122 x111 c123), (16, sl A_layers layers c_layers), (17, vI (layers.length : Int)), (18, vI i105), (23, sl A122 x111 c123), (24, vI (x111.length : Int)), (25, vI i129)]) (l2 := [(32, .bool false), (10, vI x131), (9, vI i129), (0, sl A_l l c_l), (5, sl (sa g11) l125 l1.length), (6, vI i128), (7, vI i105), (8, sl A122 x111 c123), (16, sl A_layers layers c_layers), (17, vI (layers.length : Int)), (18, vI i105), (23, sl A122 x111 c123), (24, vI (x111.length : Int)), (25, vI i129)]) (fun h => by rw [h]) (fun h => by rw [h]) (fun hc162 => ?_) (fun hc162 => ?_)
      ·
       have hp := cnd_t hc162 hp
       refine oQ [oF 3, oF 4, oF 5, oF 6, oF 7, oF 8, oF 9, oF 10, oF 11, oF 12, oF 13, oF 14, oF 15, oF 16, oF 17, oF 18, oF 19, oF 20, oF 21, oF 22, oF 23, oF 24, oF 25, oF 26, oF 27] [(57, .bool true), (10, vI x131), (0, sl A_l l c_l), (5, sl (sa g11) l125 l1.length), (6, vI i128), (7, vI i105), (8, sl A122 x111 c123), (16, sl A_layers layers c_layers), (17, vI (layers.length : Int)), (18, vI i105), (23, sl A122 x111 c123), (24, vI (x111.length : Int)), (25, vI i129)] (by kernel_rfl) ?_
       refine ops_nil (fin_then (st_true rfl (st_seq (st_region [oF 0] (by rfl) ?_))))
       refine oQ [oF 0] [(4, .bool false)] (by kernel_rfl) ?_
       refine ops_nil (fin_then (st_ret (fin_ret_then (fin_ret_block (fin_ret_then (fin_ret_then (fin_ret_block (fin_ret_block (fin_ret_then (fin_ret_then (fin_ret_block (fin_ret_then ?_))))))))))))
       obtain hq_ := Option.some.inj hp
       subst hq_
       obtain hq_ := hd9 _ rfl
       subst hq_
       have hp : some (.inr (.inl false)) = some o7 := hk9
       obtain hq_ := Option.some.inj hp
       subst hq_
       obtain hq_ := hd7 _ rfl
       subst hq_
       have hp : some false = some t9001 := hk7
       have hq_ := Option.some.inj hp
       have hr0_ := hq_
       subst hr0_
       refine fin_ret [.tmp 4] [.bool false] rfl rfl (fun w_ hM => (.tmp rfl .nil)) (fun w_ hM => ?_)
       exact ⟨trivial, rfl, hM.pick 2 [1] (by kernel_rfl) (by decide) rfl⟩
      ·
       have hp := cnd_f hc162 hp
       refine oQ [oF 3, oF 4, oF 5, oF 6, oF 7, oF 8] [(38, .bool (decide ((l.length : Int) ≤ x131))), (10, vI x131), (9, vI i129), (0, sl A_l l c_l), (5, sl (sa g11) l125 l1.length), (6, vI i128), (7, vI i105), (8, sl A122 x111 c123), (16, sl A_layers layers c_layers), (17, vI (layers.length : Int)), (18, vI i105), (23, sl A122 x111 c123), (24, vI (x111.length : Int)), (25, vI i129)] (by kernel_rfl) ?_
       refine ops_bool (t := decide ((l.length : Int) ≤ x131)) (l1 := [(38, .bool true), (10, vI x131), (9, vI i129), (0, sl A_l l c_l), (5, sl (sa g11) l125 l1.length), (6, vI i128), (7, vI i105), (8, sl A122 x111 c123), (16, sl A_layers layers c_layers), (17, vI (layers.length : Int)), (18, vI i105), (23, sl A122 x111 c123), (24, vI (x111.length : Int)), (25, vI i129)]) (l2 := [(38, .bool false), (10, vI x131), (9, vI i129), (0, sl A_l l c_l), (5, sl (sa g11) l125 l1.length), (6, vI i128), (7, vI i105), (8, sl A122 x111 c123), (16, sl A_layers layers c_layers), (17, vI (layers.length : Int)), (18, vI i105), (23, sl A122 x111 c123), (24, vI (x111.length : Int)), (25, vI i129)]) (fun h => by rw [h]) (fun h => by rw [h]) (fun hc163 => ?_) (fun hc163 => ?_)
       ·
        have hp := cnd_t hc163 hp
        refine oQ [oF 9, oF 10, oF 11, oF 12, oF 13, oF 14, oF 15, oF 16, oF 17, oF 18, oF 19, oF 20, oF 21, oF 22, oF 23, oF 24, oF 25, oF 26, oF 27] [(57, .bool true), (10, vI x131), (0, sl A_l l c_l), (5, sl (sa g11) l125 l1.length), (6, vI i128), (7, vI i105), (8, sl A122 x111 c123), (16, sl A_layers layers c_layers), (17, vI (layers.length : Int)), (18, vI i105), (23, sl A122 x111 c123), (24, vI (x111.length : Int)), (25, vI i129)] (by kernel_rfl) ?_
        refine ops_nil (fin_then (st_true rfl (st_seq (st_region [oF 0] (by rfl) ?_))))
        refine oQ [oF 0] [(4, .bool false)] (by kernel_rfl) ?_
        refine ops_nil (fin_then (st_ret (fin_ret_then (fin_ret_block (fin_ret_then (fin_ret_then (fin_ret_block (fin_ret_block (fin_ret_then (fin_ret_then (fin_ret_block (fin_ret_then ?_))))))))))))
        obtain hq_ := Option.some.inj hp
        subst hq_
        obtain hq_ := hd9 _ rfl
        subst hq_
        have hp : some (.inr (.inl false)) = some o7 := hk9
        obtain hq_ := Option.some.inj hp
        subst hq_
        obtain hq_ := hd7 _ rfl
        subst hq_
        have hp : some false = some t9001 := hk7
        have hq_ := Option.some.inj hp
        have hr0_ := hq_
        subst hr0_
        refine fin_ret [.tmp 4] [.bool false] rfl rfl (fun w_ hM => (.tmp rfl .nil)) (fun w_ hM => ?_)
        exact ⟨trivial, rfl, hM.pick 2 [1] (by kernel_rfl) (by decide) rfl⟩
       ·
        have hp := cnd_f hc163 hp
        refine oQ [oF 9, oF 10] [(40, vI x131), (39, sl (sa g11) l125 l1.length), (38, .bool false), (10, vI x131), (9, vI i129), (0, sl A_l l c_l), (5, sl (sa g11) l125 l1.length), (6, vI i128), (7, vI i105), (8, sl A122 x111 c123), (16, sl A_layers layers c_layers), (17, vI (layers.length : Int)), (18, vI i105), (23, sl A122 x111 c123), (24, vI (x111.length : Int)), (25, vI i129)] (by kernel_rfl) ?_
        obtain ⟨x164, hv165, hp⟩ := obind hp
        obtain ⟨m166, hm167, hx168⟩ := idx_some hv165
        have hl171 := (List.getElem?_eq_some_iff.1 hx168).1
        obtain ⟨vs169, hr170, hq172⟩ := h127.at_ m166 x164 hx168
        obtain rfl := hr170
        refine ops_val (op := (.indexAddr 26 (.tmp 39) (.tmp 40))) (d := some 41) (v := vP g11 (m166 * 1)) ⟨by kernel_rfl⟩ (run_indexRow Try.underlying26 (z := 1) (by kernel_rfl) rfl rfl hm167 hl171 rfl) ?_
        refine ops_mem (d := some 42) (an := [.v (vI x164)]) (evs := [.load ⟨g11, m166 * 1, none⟩ (vI x164)]) (v := vI x164) ⟨by kernel_rfl⟩ (fun w_ hM hS => ⟨w_, ⟨hM.ocell 0 rfl (hq172 0 _ rfl), rfl⟩, hM, trivial⟩) ?_
        refine oQ [oF 13, oF 14, oF 15] [(45, .bool (decide (0 < x164))), (10, vI x131), (9, vI i129), (0, sl A_l l c_l), (5, sl (sa g11) l125 l1.length), (6, vI i128), (7, vI i105), (8, sl A122 x111 c123), (16, sl A_layers layers c_layers), (17, vI (layers.length : Int)), (18, vI i105), (23, sl A122 x111 c123), (24, vI (x111.length : Int)), (25, vI i129)] (by kernel_rfl) ?_
        refine ops_bool (t := decide (0 < x164)) (l1 := [(45, .bool true), (10, vI x131), (9, vI i129), (0, sl A_l l c_l), (5, sl (sa g11) l125 l1.length), (6, vI i128), (7, vI i105), (8, sl A122 x111 c123), (16, sl A_layers layers c_layers), (17, vI (layers.length : Int)), (18, vI i105), (23, sl A122 x111 c123), (24, vI (x111.length : Int)), (25, vI i129)]) (l2 := [(45, .bool false), (10, vI x131), (9, vI i129), (0, sl A_l l c_l), (5, sl (sa g11) l125 l1.length), (6, vI i128), (7, vI i105), (8, sl A122 x111 c123), (16, sl A_layers layers c_layers), (17, vI (layers.length : Int)), (18, vI i105), (23, sl A122 x111 c123), (24, vI (x111.length : Int)), (25, vI i129)]) (fun h => by rw [h]) (fun h => by rw [h]) (fun hc173 => ?_) (fun hc173 => ?_)
        ·
         have hp := cnd_t hc173 hp
         refine oQ [oF 16, oF 17, oF 18, oF 19, oF 20, oF 21, oF 22, oF 23, oF 24, oF 25, oF 26, oF 27] [(57, .bool true), (10, vI x131), (0, sl A_l l c_l), (5, sl (sa g11) l125 l1.length), (6, vI i128), (7, vI i105), (8, sl A122 x111 c123), (16, sl A_layers layers c_layers), (17, vI (layers.length : Int)), (18, vI i105), (23, sl A122 x111 c123), (24, vI (x111.length : Int)), (25, vI i129)] (by kernel_rfl) ?_
         refine ops_nil (fin_then (st_true rfl (st_seq (st_region [oF 0] (by rfl) ?_))))
         refine oQ [oF 0] [(4, .bool false)] (by kernel_rfl) ?_
         refine ops_nil (fin_then (st_ret (fin_ret_then (fin_ret_block (fin_ret_then (fin_ret_then (fin_ret_block (fin_ret_block (fin_ret_then (fin_ret_then (fin_ret_block (fin_ret_then ?_))))))))))))
         obtain hq_ := Option.some.inj hp
         subst hq_
         obtain hq_ := hd9 _ rfl
         subst hq_
         have hp : some (.inr (.inl false)) = some o7 := hk9
         obtain hq_ := Option.some.inj hp
         subst hq_
         obtain hq_ := hd7 _ rfl
         subst hq_
         have hp : some false = some t9001 := hk7
         have hq_ := Option.some.inj hp
         have hr0_ := hq_
         subst hr0_
         refine fin_ret [.tmp 4] [.bool false] rfl rfl (fun w_ hM => (.tmp rfl .nil)) (fun w_ hM => ?_)
         exact ⟨trivial, rfl, hM.pick 2 [1] (by kernel_rfl) (by decide) rfl⟩
        ·
         have hp := cnd_f hc173 hp
         refine oQ [oF 16, oF 17, oF 18] [(48, .bool (decide (0 < i129))), (45, .bool false), (10, vI x131), (9, vI i129), (0, sl A_l l c_l), (5, sl (sa g11) l125 l1.length), (6, vI i128), (7, vI i105), (8, sl A122 x111 c123), (16, sl A_layers layers c_layers), (17, vI (layers.length : Int)), (18, vI i105), (23, sl A122 x111 c123), (24, vI (x111.length : Int)), (25, vI i129)] (by kernel_rfl) ?_
         refine ops_bool (t := decide (0 < i129)) (l1 := [(48, .bool true), (45, .bool false), (10, vI x131), (9, vI i129), (0, sl A_l l c_l), (5, sl (sa g11) l125 l1.length), (6, vI i128), (7, vI i105), (8, sl A122 x111 c123), (16, sl A_layers layers c_layers), (17, vI (layers.length : Int)), (18, vI i105), (23, sl A122 x111 c123), (24, vI (x111.length : Int)), (25, vI i129)]) (l2 := [(48, .bool false), (45, .bool false), (10, vI x131), (9, vI i129), (0, sl A_l l c_l), (5, sl (sa g11) l125 l1.length), (6, vI i128), (7, vI i105), (8, sl A122 x111 c123), (16, sl A_layers layers c_layers), (17, vI (layers.length : Int)), (18, vI i105), (23, sl A122 x111 c123), (24, vI (x111.length : Int)), (25, vI i129)]) (fun h => by rw [h]) (fun h => by rw [h]) (fun hc174 => ?_) (fun hc174 => ?_)
         ·
          have hp := cnd_t hc174 hp
          refine oQ [oF 19, oF 20, oF 21] [(51, vI (IntKind.i64.wrap (i129 - 1))), (49, sl A122 x111 c123), (48, .bool true), (45, .bool false), (10, vI x131), (0, sl A_l l c_l), (5, sl (sa g11) l125 l1.length), (6, vI i128), (7, vI i105), (8, sl A122 x111 c123), (16, sl A_layers layers c_layers), (17, vI (layers.length : Int)), (18, vI i105), (23, sl A122 x111 c123), (24, vI (x111.length : Int)), (25, vI i129)] (by kernel_rfl) ?_
          obtain ⟨x175, hv176, hp⟩ := obind hp
          obtain ⟨m177, hm178, hx179⟩ := idx_some hv176
          have hl182 := (List.getElem?_eq_some_iff.1 hx179).1
          obtain ⟨ad183, vs180, hA184, hr181, hq185⟩ := RdS.el h124 hx179
          obtain rfl := hr181
          refine ops_val (op := (.indexAddr 26 (.tmp 49) (.tmp 51))) (d := some 52) (v := .pointer (some (ad183.add (m177 * 1)))) ⟨by kernel_rfl⟩ (run_indexA hA184 Try.underlying26 (z := 1) (by kernel_rfl) rfl rfl hm178 hl182) ?_
          refine ops_mem (d := some 53) (an := [.v (vI x175)]) (evs := [.load (ad183.add (m177 * 1)) (vI x175)]) (v := vI x175) ⟨by kernel_rfl⟩ (fun w_ hM hS => ⟨w_, ⟨hM.elcell 1 rfl hq185 0 rfl, rfl⟩, hM, trivial⟩) ?_
          refine oQ [oF 24, oF 25, oF 26, oF 27] [(57, .bool (decide (x131 ≤ x175))), (10, vI x131), (0, sl A_l l c_l), (5, sl (sa g11) l125 l1.length), (6, vI i128), (7, vI i105), (8, sl A122 x111 c123), (16, sl A_layers layers c_layers), (17, vI (layers.length : Int)), (18, vI i105), (23, sl A122 x111 c123), (24, vI (x111.length : Int)), (25, vI i129)] (by kernel_rfl) ?_
          refine ops_nil (fin_then ?_)
          refine st_if (b := decide (x131 ≤ x175)) rfl (fun hc186 => ?_) (fun hc186 => ?_)
          ·
           have hp := cnd_t hc186 hp
           refine st_seq (st_region [oF 0] (by rfl) ?_)
           refine oQ [oF 0] [(4, .bool false)] (by kernel_rfl) ?_
           refine ops_nil (fin_then (st_ret (fin_ret_then (fin_ret_block (fin_ret_then (fin_ret_then (fin_ret_block (fin_ret_block (fin_ret_then (fin_ret_then (fin_ret_block (fin_ret_then ?_))))))))))))
           obtain hq_ := Option.some.inj hp
           subst hq_
           obtain hq_ := hd9 _ rfl
           subst hq_
           have hp : some (.inr (.inl false)) = some o7 := hk9
           obtain hq_ := Option.some.inj hp
           subst hq_
           obtain hq_ := hd7 _ rfl
           subst hq_
           have hp : some false = some t9001 := hk7
           have hq_ := Option.some.inj hp
           have hr0_ := hq_
           subst hr0_
           refine fin_ret [.tmp 4] [.bool false] rfl rfl (fun w_ hM => (.tmp rfl .nil)) (fun w_ hM => ?_)
           exact ⟨trivial, rfl, hM.pick 2 [1] (by kernel_rfl) (by decide) rfl⟩
          ·
           have hp := cnd_f hc186 hp
           refine st_skip ?_
           exact fin_join HJ10 () hp (look_has ⟨rfl, rfl, rfl, rfl, rfl, rfl, rfl, rfl, rfl, rfl, rfl, rfl, trivial⟩) (fun w_ hM => hM)
         ·
          have hp := cnd_f hc174 hp
          refine oQ [oF 19, oF 20, oF 21, oF 22, oF 23, oF 24, oF 25, oF 26, oF 27] [(57, .bool false), (10, vI x131), (0, sl A_l l c_l), (5, sl (sa g11) l125 l1.length), (6, vI i128), (7, vI i105), (8, sl A122 x111 c123), (16, sl A_layers layers c_layers), (17, vI (layers.length : Int)), (18, vI i105), (23, sl A122 x111 c123), (24, vI (x111.length : Int)), (25, vI i129)] (by kernel_rfl) ?_
          refine ops_nil (fin_then (st_false rfl (st_skip ?_)))
          exact fin_join HJ10 () hp (look_has ⟨rfl, rfl, rfl, rfl, rfl, rfl, rfl, rfl, rfl, rfl, rfl, rfl, trivial⟩) (fun w_ hM => hM)
    ·
     have hp := cnd_f hc130 hp
     refine st_exit (fin_exit_then (fin_exit_then (fin_exit (fin_block ?_))))
     obtain hq_ := Option.some.inj hp
     subst hq_
     obtain hq_ := hd9 _ rfl
     subst hq_
     have hp : (plan_Right_j8 i105) l125 i128 = some o7 := hk9
     exact fin_join HJ8 (l125, y126, i128) ⟨hp, h127⟩ (look_has ⟨rfl, rfl, rfl, rfl, rfl, rfl, trivial⟩) (fun w_ hM => hM)
  ·
   have hp := cnd_f hc106 hp
   refine st_exit (fin_exit_then (fin_exit_then (fin_exit ?_)))
   obtain hq_ := Option.some.inj hp
   subst hq_
   obtain hq_ := hd7 _ rfl
   subst hq_
   have hp : (plan_Right_j1 l) l101 i104 = some t9001 := hk7
   exact fin_join HJ1 (l101, y102, i104) ⟨hp, h103⟩ (look_has ⟨rfl, rfl, rfl, trivial⟩) (fun w_ hM => hM)
theorem cmp_isNaN_int_ok (w0 w : World) (cs : List Chunk) (F : Nat → Prop) (W : World) (x : Int) (hM0 : Mem w0 (Fz F W :: cs) w) (hp : cmp_isNaN_int x = some ()) : Calls Try.prog 131 #[vI x] w fun e w' => (True) ∧ e = .returned (.bool false) ∧ Mem w0 (Fz F W :: cs) w' := by
 unfold cmp_isNaN_int at hp
 refine sx_calls Try.func131 rfl (n := 6) (by kernel_rfl) (l := [(0, vI x)]) rfl (by rfl) hM0 ?_
 refine st_seq (st_region [oF 0] (by rfl) ?_)
 refine oQ [oF 0] [(0, vI x)] (by kernel_rfl) ?_
 refine ops_nil (fin_then (st_seq (st_region [oF 0, oF 1, oF 2, oF 3] (by rfl) ?_)))
 refine oQ [oF 0, oF 1] [(4, vI x), (3, vI x)] (by kernel_rfl) ?_
 refine ops_val (op := (.binOp Go.BinOp.neq 3 (.tmp 3) (.tmp 4) 3)) (d := some 5) (v := .bool false) ⟨by kernel_rfl⟩ (run_neq_same rfl rfl) ?_
 refine oQ [oF 3] [(2, .bool false)] (by kernel_rfl) ?_
 refine ops_nil (fin_then (st_ret ?_))
 refine fin_ret [.tmp 2] [.bool false] rfl rfl (fun w_ hM => (.tmp rfl .nil)) (fun w_ hM => ?_)
 exact ⟨trivial, rfl, hM⟩
theorem cmp_Less_int_ok (w0 w : World) (cs : List Chunk) (F : Nat → Prop) (W : World) (x : Int) (y : Int) (hM0 : Mem w0 (Fz F W :: cs) w) (t9001 : Bool) (hp : cmp_Less_int x y = some t9001) : Calls Try.prog 128 #[vI x, vI y] w fun e w' => (True) ∧ e = .returned (.bool t9001) ∧ Mem w0 (Fz F W :: cs) w' := by
 unfold cmp_Less_int at hp
 refine sx_calls Try.func128 rfl (n := 17) (by kernel_rfl) (l := [(0, vI x), (1, vI y)]) rfl (by rfl) hM0 ?_
 refine st_seq (st_region [oF 0] (by rfl) ?_)
 refine oQ [oF 0] [(0, vI x), (1, vI y)] (by kernel_rfl) ?_
 refine ops_nil (fin_then (st_seq (st_region [oF 0, oF 1, oF 2, oF 3, oF 4, oF 5, oF 6, oF 7, oF 8, oF 9, oF 10, oF 11, oF 12] (by rfl) ?_)))
 refine oQ [oF 0] [(5, vI x), (0, vI x), (1, vI y)] (by kernel_rfl) ?_
 obtain ⟨_, hv1, hp⟩ := obind hp
 refine ops_callI (σ := Unit) (d := some 6) (f := 131) (args := #[vI x]) (v := (fun _ => .bool false)) (I := (fun _ => True)) (M' := (fun _ => Mem w0 (Fz F W :: cs))) ⟨by kernel_rfl⟩ (fun w_ hM hS => (cmp_isNaN_int_ok w0 w_ (cs) F W x hM   hv1).mono (by rintro e w' ⟨-, rfl, h'⟩; have h' : Mem w0 (Fz F W :: cs) w' := h'; exact ⟨(), trivial, rfl, h', trivial⟩)) ?_
 rintro _ -
 refine oQ [oF 2, oF 3, oF 4, oF 5, oF 6, oF 7, oF 8, oF 9, oF 10, oF 11, oF 12] [(4, .bool (decide (x < y)))] (by kernel_rfl) ?_
 refine ops_nil (fin_then (st_ret ?_))
 have hq_ := Option.some.inj hp
 have hr0_ := hq_
 subst hr0_
 refine fin_ret [.tmp 4] [.bool (decide (x < y))] rfl rfl (fun w_ hM => (.tmp rfl .nil)) (fun w_ hM => ?_)
 exact ⟨trivial, rfl, hM⟩
theorem slices_IsSorted_int_int_ok (w0 w : World) (cs : List Chunk) (F : Nat → Prop) (W : World) (A_x : Option Addr) (c_x : Nat) (x : List Int) (hM0 : Mem w0 (Fz F W :: cs) w) (h_x : RdS (Rep.int .i64) F W A_x c_x x) (t9001 : Bool) (hp : slices_IsSorted_int_int x = some t9001) : Calls Try.prog 83 #[sl A_x x c_x] w fun e w' => (True) ∧ e = .returned (.bool t9001) ∧ Mem w0 (Fz F W :: cs) w' := by
 unfold slices_IsSorted_int_int at hp
 refine sx_calls Try.func83 rfl (n := 21) (by kernel_rfl) (l := [(0, sl A_x x c_x)]) rfl (by rfl) hM0 ?_
 refine st_seq (st_region [oF 0] (by rfl) ?_)
 refine oQ [oF 0] [(0, sl A_x x c_x)] (by kernel_rfl) ?_
 refine ops_nil (fin_then ?_)
 refine st_join1 (σ := Unit) (L := fun _ => []) (N := fun _ => Mem w0 (Fz F W :: cs)) (I := fun _ => (slices_IsSorted_int_int_j1 = some t9001)) ?_ ?_
 ·
  rintro _ hp
  unfold slices_IsSorted_int_int_j1 at hp
  refine st_seq (st_region [oF 0] (by rfl) ?_)
  refine oQ [oF 0] [(2, .bool true)] (by kernel_rfl) ?_
  refine ops_nil (fin_then (st_ret ?_))
  have hq_ := Option.some.inj hp
  have hr0_ := hq_
  subst hr0_
  refine fin_ret [.tmp 2] [.bool true] rfl rfl (fun w_ hM => (.tmp rfl .nil)) (fun w_ hM => ?_)
  exact ⟨trivial, rfl, hM⟩
 ·
  intro HJ1
  refine st_seq (st_seq (st_region [oF 0, oF 1, oF 2, oF 3] (by rfl) ?_))
  refine oQ [oF 0, oF 1, oF 2, oF 3] [(3, vI (IntKind.i64.wrap ((x.length : Int) - 1))), (0, sl A_x x c_x)] (by kernel_rfl) ?_
  refine ops_nil (fin_then (st_block ?_))
  obtain ⟨r2, hl2, hk2⟩ := obind hp
  refine st_loopP (σ := Int) (ρ := (Bool ⊕ Unit)) (γ := Unit) hl2 () (fun s_ g_ => match s_, g_ with | i1, _ => [(0, sl A_x x c_x), (3, vI i1)]) (fun s_ g_ => match s_, g_ with | i1, _ => Mem w0 (Fz F W :: cs)) (fun s_ g_ => match s_, g_ with | i1, _ => True) trivial (look_has ⟨rfl, rfl, trivial⟩) (fun w_ hM => hM) ?_
  rintro i1 _ o2 - hs_ hd2
  have hp : (slices_IsSorted_int_int_l2 x) i1 = some o2 := hs_
  clear hs_
  unfold slices_IsSorted_int_int_l2 at hp
  refine st_seq (st_seq (st_region [oF 0, oF 1] (by rfl) ?_))
  refine oQ [oF 0, oF 1] [(8, .bool (decide (0 < i1))), (0, sl A_x x c_x), (3, vI i1)] (by kernel_rfl) ?_
  refine ops_nil (fin_then ?_)
  refine st_if (b := decide (0 < i1)) rfl (fun hc2 => ?_) (fun hc2 => ?_)
  ·
   have hp := cnd_t hc2 hp
   refine st_skip (fin_then (st_seq (st_block (st_seq ?_))))
   refine st_region_draw [oT 0, oT 1, oT 2, oT 3, oT 4, oT 5, oT 6, oT 7, oT 8, oF 9] (Mem w0 (Fz F W :: cs)) (by kernel_rfl) (by kernel_rfl) (by kernel_rfl) (fun _ d _ _ _ h => by cases d <;> exact h) (M' := Mem w0 (Fz F W :: cs)) (fun w_ hM => ⟨hM.drew, hM.drew.sub (.cons_cons _ (.refl _))⟩) ?_
   refine oQ [oT 0, oT 1] [(12, vI i1), (11, sl A_x x c_x), (0, sl A_x x c_x), (3, vI i1)] (by kernel_rfl) ?_
   obtain ⟨x3, hv4, hp⟩ := obind hp
   obtain ⟨m5, hm6, hx7⟩ := idx_some hv4
   have hl10 := (List.getElem?_eq_some_iff.1 hx7).1
   obtain ⟨ad11, vs8, hA12, hr9, hq13⟩ := RdS.el h_x hx7
   obtain rfl := hr9
   refine ops_val (op := (.indexAddr 26 (.tmp 11) (.tmp 12))) (d := some 13) (v := .pointer (some (ad11.add (m5 * 1)))) ⟨by kernel_rfl⟩ (run_indexA hA12 Try.underlying26 (z := 1) (by kernel_rfl) rfl rfl hm6 hl10) ?_
   refine ops_load (d := some 14) (an := [.v (vI x3)]) (evs := [.load (ad11.add (m5 * 1)) (vI x3)]) (v := vI x3) ⟨by kernel_rfl⟩ (fun w_ hM => ⟨hM.elcell 0 rfl hq13 0 rfl, rfl⟩) ?_
   refine oQ [oT 4, oT 5, oT 6] [(17, vI (IntKind.i64.wrap (i1 - 1))), (15, sl A_x x c_x), (14, vI x3), (0, sl A_x x c_x), (3, vI i1)] (by kernel_rfl) ?_
   obtain ⟨x14, hv15, hp⟩ := obind hp
   obtain ⟨m16, hm17, hx18⟩ := idx_some hv15
   have hl21 := (List.getElem?_eq_some_iff.1 hx18).1
   obtain ⟨ad22, vs19, hA23, hr20, hq24⟩ := RdS.el h_x hx18
   obtain rfl := hr20
   refine ops_val (op := (.indexAddr 26 (.tmp 15) (.tmp 17))) (d := some 18) (v := .pointer (some (ad22.add (m16 * 1)))) ⟨by kernel_rfl⟩ (run_indexA hA23 Try.underlying26 (z := 1) (by kernel_rfl) rfl rfl hm17 hl21) ?_
   refine ops_load (d := some 19) (an := [.v (vI x14)]) (evs := [.load (ad22.add (m16 * 1)) (vI x14)]) (v := vI x14) ⟨by kernel_rfl⟩ (fun w_ hM => ⟨hM.elcell 0 rfl hq24 0 rfl, rfl⟩) ?_
   obtain ⟨x25, hv26, hp⟩ := obind hp
   refine ops_callI (σ := Unit) (d := some 20) (f := 128) (args := #[vI x3, vI x14]) (v := (fun _ => .bool x25)) (I := (fun _ => True)) (M' := (fun _ => Mem w0 (Fz F W :: cs))) ⟨by kernel_rfl⟩ (fun w_ hM hS => (cmp_Less_int_ok w0 w_ (cs) F W x3 x14 hM  x25 hv26).mono (by rintro e w' ⟨-, rfl, h'⟩; have h' : Mem w0 (Fz F W :: cs) w' := h'; exact ⟨(), trivial, rfl, h', (by exact h'.sub (.cons_cons _ (.refl _)))⟩)) ?_
   rintro _ -
   refine ops_nil (fin_then ?_)
   refine st_if (b := x25) rfl (fun hc27 => ?_) (fun hc27 => ?_)
   ·
    have hp := cnd_t hc27 hp
    refine st_seq (st_region [oF 0] (by rfl) ?_)
    refine oQ [oF 0] [(2, .bool false)] (by kernel_rfl) ?_
    refine ops_nil (fin_then (st_ret (fin_ret_block (fin_ret_then (fin_ret_then (fin_ret_block (fin_ret_then ?_)))))))
    obtain hq_ := Option.some.inj hp
    subst hq_
    obtain hq_ := hd2 _ rfl
    subst hq_
    have hp : some false = some t9001 := hk2
    have hq_ := Option.some.inj hp
    have hr0_ := hq_
    subst hr0_
    refine fin_ret [.tmp 2] [.bool false] rfl rfl (fun w_ hM => (.tmp rfl .nil)) (fun w_ hM => ?_)
    exact ⟨trivial, rfl, hM⟩
   ·
    have hp := cnd_f hc27 hp
    refine st_skip (fin_block (fin_then (st_region [oF 0, oF 1, oF 2] (by rfl) ?_)))
    refine oQ [oF 0, oF 1, oF 2] [(3, vI (IntKind.i64.wrap (i1 - 1))), (0, sl A_x x c_x)] (by kernel_rfl) ?_
    refine ops_nil ?_
    exact fin_again (IntKind.i64.wrap (i1 - 1)) () (Option.some.inj hp).symm trivial (look_has ⟨rfl, rfl, trivial⟩) (fun w_ hM => hM)
  ·
   have hp := cnd_f hc2 hp
   refine st_exit (fin_exit_then (fin_exit_then (fin_exit ?_)))
   obtain hq_ := Option.some.inj hp
   subst hq_
   obtain hq_ := hd2 _ rfl
   subst hq_
   have hp : slices_IsSorted_int_int_j1 = some t9001 := hk2
   exact fin_join HJ1 () hp (look_has trivial) (fun w_ hM => hM)
end Go.Proofs.Ytnnhijlgohlaeaa.P
