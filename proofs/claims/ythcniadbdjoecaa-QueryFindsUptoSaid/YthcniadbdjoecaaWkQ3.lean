/- The Go functions come to what the plain functions tell. No condition. -/
import Derived.Test.YthcniadbdjoecaaProg
import Derived.Test.YthcniadbdjoecaaFnQ
import Derived.Test.YthcniadbdjoecaaExRf
import Derived.Test.YthcniadbdjoecaaWkQ0
import Derived.Test.YthcniadbdjoecaaWkQ1
import Derived.Test.YthcniadbdjoecaaWkQ2
namespace Go.Proofs.Ythcniadbdjoecaa.Q
open Go Go.RowKit Go.Proofs.Ythcniadbdjoecaa.Sx
set_option linter.unusedVariables false
set_option maxHeartbeats 4000000
set_option maxRecDepth 100000
def tourlaw3_QueryFinds__t0 : List Row := [⟨0, 34359738368, 1024⟩, ⟨1, 68719476736, 34359738368⟩, ⟨2, 137438953472, 68719476736⟩, ⟨4, 274877906944, 137438954496⟩, ⟨4, 549755813888, 137438953488⟩, ⟨20, 1099511627776, 687194767360⟩, ⟨36, 2199023255552, 1236950581248⟩, ⟨76, 4398046511104, 2611340115968⟩, ⟨132, 8796093022208, 4535485464576⟩, ⟨260, 17592186044416, 8796093022208⟩, ⟨512, 35184372088832, 17592186046464⟩, ⟨512, 70368744177664, 17592186044432⟩, ⟨2560, 140737488355328, 87960930222080⟩, ⟨512, 281474976710656, 17592186045440⟩, ⟨12800, 562949953421312, 439804651110400⟩, ⟨16896, 1125899906842624, 580542139465728⟩, ⟨34304, 2251799813685248, 1178676464975872⟩, ⟨66048, 4503599627370496, 2269391999729664⟩, ⟨131584, 9007199254740992, 4521191813414912⟩]
theorem tourlaw3_QueryFinds_ok (w0 w : World) (cs : List Chunk) (F : Nat → Prop) (W : World) (A_w_0 : Option Addr) (c_w_0 : Nat) (w_0 : List api_Kind) (A_w_1 : Option Addr) (c_w_1 : Nat) (w_1 : List Int) (A_w_2 : Option Addr) (c_w_2 : Nat) (w_2 : List api_Item) (A_with : Option Addr) (c_with : Nat) (with_1 : List Int) (A_without : Option Addr) (c_without : Nat) (without : List Int) (r_0 : Int) (r_1 : Int) (hM0 : Mem w0 (Fz F W :: cs) w) (h_w_0 : RdS R_api_Kind F W A_w_0 c_w_0 w_0) (h_w_1 : RdS (Rep.int .i64) F W A_w_1 c_w_1 w_1) (h_w_2 : RdS R_api_Item F W A_w_2 c_w_2 w_2) (h_with : RdS (Rep.int .i64) F W A_with c_with with_1) (h_without : RdS (Rep.int .i64) F W A_without c_without without) (t9001 : Bool) (hp : tourlaw3_QueryFinds w_0 w_1 w_2 with_1 without r_0 r_1 = some t9001) : Calls Try.prog 3 #[.agg #[sl A_w_0 w_0 c_w_0, sl A_w_1 w_1 c_w_1, sl A_w_2 w_2 c_w_2], sl A_with with_1 c_with, sl A_without without c_without, .agg #[vI r_0, vI r_1]] w fun e w' => ∃ (F9002 : Nat → Prop), ∃ (W9003 : World), ((Ext w0 F W F9002 W9003)) ∧ e = .returned (.bool t9001) ∧ Mem w0 (Fz F9002 W9003 :: cs) w' := by
 unfold tourlaw3_QueryFinds at hp
 refine sx_callsM Try.func3 rfl (n := 147) (by kernel_rfl) (l := [(0, .agg #[sl A_w_0 w_0 c_w_0, sl A_w_1 w_1 c_w_1, sl A_w_2 w_2 c_w_2]), (1, sl A_with with_1 c_with), (2, sl A_without without c_without), (3, .agg #[vI r_0, vI r_1])]) rfl (by rfl) hM0 ?_
 refine st_seq (st_region [oF 0, oF 1, oF 2] (by rfl) ?_)
 refine ops_newB (d := some 4) [sl A_w_0 w_0 c_w_0, sl A_w_1 w_1 c_w_1, sl A_w_2 w_2 c_w_2] 26 (fun b1 => ⟨by kernel_rfl⟩) (fun w_ hM hS => trivial) (fun b1 => ?_)
 refine ops_newB (d := some 7) [vI r_0, vI r_1] 28 (fun b2 => ⟨by kernel_rfl⟩) (fun w_ hM hS => trivial) (fun b2 => ?_)
 refine ops_newB (d := some 8) [.bool false] 4 (fun b3 => ⟨by kernel_rfl⟩) (fun w_ hM hS => trivial) (fun b3 => ?_)
 refine ops_nil (fin_then (st_seq (st_seq (st_region [oF 0, oF 1, oF 2, oF 3, oF 4] (by rfl) ?_))))
 obtain ⟨x4, x5, x6, hv7, hp⟩ := obind3 hp
 refine ops_callI (σ := (Option Addr) × (List Value) × (Option Addr) × (List Value) × (Option Addr) × (List Value) × (Nat → Prop) × World) (d := some 24) (f := 8) (args := #[]) (v := (fun x_ => match x_ with | (A8, y9, A10, y11, A12, y13, F14, W15) => .agg #[sl A8 x4 2, sl A10 x5 2, sl A12 x6 2])) (I := (fun x_ => match x_ with | (A8, y9, A10, y11, A12, y13, F14, W15) => (RepL R_api_Kind F14 W15 x4 y9) ∧ (RepL (Rep.int .i64) F14 W15 x5 y11) ∧ (RepL R_api_Item F14 W15 x6 y13) ∧ (Ext w0 F W F14 W15))) (M' := (fun x_ => match x_ with | (A8, y9, A10, y11, A12, y13, F14, W15) => Mem w0 (ow A8 x4 2 143 2 y9 :: ow A10 x5 2 3 1 y11 :: ow A12 x6 2 38 3 y13 :: .blk b3 [.bool false] 4 :: .blk b2 [vI r_0, vI r_1] 28 :: .blk b1 [sl A_w_0 w_0 c_w_0, sl A_w_1 w_1 c_w_1, sl A_w_2 w_2 c_w_2] 26 :: Fz F14 W15 :: cs))) ⟨by kernel_rfl⟩ (fun w_ hM hS => (tourlaw3_pair_ok w0 w_ (.blk b3 [.bool false] 4 :: .blk b2 [vI r_0, vI r_1] 28 :: .blk b1 [sl A_w_0 w_0 c_w_0, sl A_w_1 w_1 c_w_1, sl A_w_2 w_2 c_w_2] 26 :: cs) F W  (hM.pick 4 [3, 0, 1, 2] (by kernel_rfl) (by decide) rfl)  x4 x5 x6 hv7).mono (by rintro e w' ⟨A8, y9, A10, y11, A12, y13, F14, W15, ⟨h16, h17, h18, h19⟩, rfl, h'⟩; have h' : Mem w0 (ow A8 x4 2 143 2 y9 :: ow A10 x5 2 3 1 y11 :: ow A12 x6 2 38 3 y13 :: .blk b3 [.bool false] 4 :: .blk b2 [vI r_0, vI r_1] 28 :: .blk b1 [sl A_w_0 w_0 c_w_0, sl A_w_1 w_1 c_w_1, sl A_w_2 w_2 c_w_2] 26 :: Fz F14 W15 :: cs) w' := (h'.pick 7 [0, 1, 2, 4, 5, 6, 3] (by kernel_rfl) (by decide) rfl); exact ⟨(A8, y9, A10, y11, A12, y13, F14, W15), ⟨h16, h17, h18, h19⟩, rfl, h', trivial⟩)) ?_
 rintro ⟨A8, y9, A10, y11, A12, y13, F14, W15⟩ ⟨h16, h17, h18, h19⟩
 have h_with := h_with.ext h19
 have h_without := h_without.ext h19
 have h_w_0 := h_w_0.ext h19
 have h_w_1 := h_w_1.ext h19
 have h_w_2 := h_w_2.ext h19
 have h20 : RepL (Rep.int .i64) F14 W15 ([1] : List Int) ([vI 1]) := (RepL.cons (R := (Rep.int .i64)) (F := F14) (w := W15) (vs := [vI 1]) (ys := []) rfl RepL.nil)
 refine ops_new (d := some 25) (o := .cells ([vI 1] : List Value).toArray 3) (v := fun g21 => .slice (sa g21) ([1] : List Int).length 1) (M' := fun g21 => Mem w0 (orow (sa g21) ([1] : List Int).length 1 3 1 ([vI 1]) :: ow A8 x4 2 143 2 y9 :: ow A10 x5 2 3 1 y11 :: ow A12 x6 2 38 3 y13 :: .blk b3 [.bool false] 4 :: .blk b2 [vI r_0, vI r_1] 28 :: .blk b1 [sl A_w_0 w_0 c_w_0, sl A_w_1 w_1 c_w_1, sl A_w_2 w_2 c_w_2] 26 :: Fz F14 W15 :: cs)) (fun g21 => ⟨by kernel_rfl⟩) (fun w_ hM hS => ⟨hM.onew [vI 1] 3 1 1 rfl (by decide), trivial⟩) (fun g21 => ?_)
 have h22 : RepL (Rep.int .i64) F14 W15 ([0] : List Int) ([vI 0]) := (RepL.cons (R := (Rep.int .i64)) (F := F14) (w := W15) (vs := [vI 0]) (ys := []) rfl RepL.nil)
 refine ops_new (d := some 26) (o := .cells ([vI 0] : List Value).toArray 3) (v := fun g23 => .slice (sa g23) ([0] : List Int).length 1) (M' := fun g23 => Mem w0 (orow (sa g23) ([0] : List Int).length 1 3 1 ([vI 0]) :: orow (sa g21) ([1] : List Int).length 1 3 1 ([vI 1]) :: ow A8 x4 2 143 2 y9 :: ow A10 x5 2 3 1 y11 :: ow A12 x6 2 38 3 y13 :: .blk b3 [.bool false] 4 :: .blk b2 [vI r_0, vI r_1] 28 :: .blk b1 [sl A_w_0 w_0 c_w_0, sl A_w_1 w_1 c_w_1, sl A_w_2 w_2 c_w_2] 26 :: Fz F14 W15 :: cs)) (fun g23 => ⟨by kernel_rfl⟩) (fun w_ hM hS => ⟨hM.onew [vI 0] 3 1 1 rfl (by decide), trivial⟩) (fun g23 => ?_)
 refine ops_ex (σ := (Nat → Prop) × World) (I := fun x_ => Ext w0 F14 W15 x_.1 x_.2 ∧ RdS R_api_Kind x_.1 x_.2 A8 2 x4) (M' := fun x_ => Mem w0 (orow (sa g23) ([0] : List Int).length 1 3 1 ([vI 0]) :: orow (sa g21) ([1] : List Int).length 1 3 1 ([vI 1]) :: ow A10 x5 2 3 1 y11 :: ow A12 x6 2 38 3 y13 :: .blk b3 [.bool false] 4 :: .blk b2 [vI r_0, vI r_1] 28 :: .blk b1 [sl A_w_0 w_0 c_w_0, sl A_w_1 w_1 c_w_1, sl A_w_2 w_2 c_w_2] 26 :: Fz x_.1 x_.2 :: cs)) (fun w_ hM => ?_) ?_
 · obtain ⟨F_, h1_, h2_, h3_⟩ := (hM.pick 9 [2, 8, 0, 1, 3, 4, 5, 6, 7] (by kernel_rfl) (by decide) rfl : Mem w0 (ow A8 x4 2 143 2 y9 :: Fz F14 W15 :: orow (sa g23) ([0] : List Int).length 1 3 1 ([vI 0]) :: orow (sa g21) ([1] : List Int).length 1 3 1 ([vI 1]) :: ow A10 x5 2 3 1 y11 :: ow A12 x6 2 38 3 y13 :: .blk b3 [.bool false] 4 :: .blk b2 [vI r_0, vI r_1] 28 :: .blk b1 [sl A_w_0 w_0 c_w_0, sl A_w_1 w_1 c_w_1, sl A_w_2 w_2 c_w_2] 26 :: cs) w_).freeze (z := 2) h16 rfl rfl
   exact ⟨(F_, w_), ⟨h1_, h2_⟩, h3_.pick 8 [1, 2, 3, 4, 5, 6, 7, 0] (by kernel_rfl) (by decide) rfl⟩
 rintro ⟨F24, W25⟩ ⟨hx26, h27⟩
 have hx26 : Ext w0 F14 W15 F24 W25 := hx26
 have h27 : RdS R_api_Kind F24 W25 A8 2 x4 := h27
 have h_with := h_with.ext hx26
 have h_without := h_without.ext hx26
 have h22 := h22.ext hx26
 have h20 := h20.ext hx26
 have h17 := h17.ext hx26
 have h18 := h18.ext hx26
 have h_w_0 := h_w_0.ext hx26
 have h_w_1 := h_w_1.ext hx26
 have h_w_2 := h_w_2.ext hx26
 refine ops_ex (σ := (Nat → Prop) × World) (I := fun x_ => Ext w0 F24 W25 x_.1 x_.2 ∧ RdS (Rep.int .i64) x_.1 x_.2 A10 2 x5) (M' := fun x_ => Mem w0 (orow (sa g23) ([0] : List Int).length 1 3 1 ([vI 0]) :: orow (sa g21) ([1] : List Int).length 1 3 1 ([vI 1]) :: ow A12 x6 2 38 3 y13 :: .blk b3 [.bool false] 4 :: .blk b2 [vI r_0, vI r_1] 28 :: .blk b1 [sl A_w_0 w_0 c_w_0, sl A_w_1 w_1 c_w_1, sl A_w_2 w_2 c_w_2] 26 :: Fz x_.1 x_.2 :: cs)) (fun w_ hM => ?_) ?_
 · obtain ⟨F_, h1_, h2_, h3_⟩ := (hM.pick 8 [2, 7, 0, 1, 3, 4, 5, 6] (by kernel_rfl) (by decide) rfl : Mem w0 (ow A10 x5 2 3 1 y11 :: Fz F24 W25 :: orow (sa g23) ([0] : List Int).length 1 3 1 ([vI 0]) :: orow (sa g21) ([1] : List Int).length 1 3 1 ([vI 1]) :: ow A12 x6 2 38 3 y13 :: .blk b3 [.bool false] 4 :: .blk b2 [vI r_0, vI r_1] 28 :: .blk b1 [sl A_w_0 w_0 c_w_0, sl A_w_1 w_1 c_w_1, sl A_w_2 w_2 c_w_2] 26 :: cs) w_).freeze (z := 1) h17 rfl rfl
   exact ⟨(F_, w_), ⟨h1_, h2_⟩, h3_.pick 7 [1, 2, 3, 4, 5, 6, 0] (by kernel_rfl) (by decide) rfl⟩
 rintro ⟨F28, W29⟩ ⟨hx30, h31⟩
 have hx30 : Ext w0 F24 W25 F28 W29 := hx30
 have h31 : RdS (Rep.int .i64) F28 W29 A10 2 x5 := h31
 have h27 := h27.ext hx30
 have h_with := h_with.ext hx30
 have h_without := h_without.ext hx30
 have h22 := h22.ext hx30
 have h20 := h20.ext hx30
 have h18 := h18.ext hx30
 have h_w_0 := h_w_0.ext hx30
 have h_w_1 := h_w_1.ext hx30
 have h_w_2 := h_w_2.ext hx30
 refine ops_ex (σ := (Nat → Prop) × World) (I := fun x_ => Ext w0 F28 W29 x_.1 x_.2 ∧ RdS R_api_Item x_.1 x_.2 A12 2 x6) (M' := fun x_ => Mem w0 (orow (sa g23) ([0] : List Int).length 1 3 1 ([vI 0]) :: orow (sa g21) ([1] : List Int).length 1 3 1 ([vI 1]) :: .blk b3 [.bool false] 4 :: .blk b2 [vI r_0, vI r_1] 28 :: .blk b1 [sl A_w_0 w_0 c_w_0, sl A_w_1 w_1 c_w_1, sl A_w_2 w_2 c_w_2] 26 :: Fz x_.1 x_.2 :: cs)) (fun w_ hM => ?_) ?_
 · obtain ⟨F_, h1_, h2_, h3_⟩ := (hM.pick 7 [2, 6, 0, 1, 3, 4, 5] (by kernel_rfl) (by decide) rfl : Mem w0 (ow A12 x6 2 38 3 y13 :: Fz F28 W29 :: orow (sa g23) ([0] : List Int).length 1 3 1 ([vI 0]) :: orow (sa g21) ([1] : List Int).length 1 3 1 ([vI 1]) :: .blk b3 [.bool false] 4 :: .blk b2 [vI r_0, vI r_1] 28 :: .blk b1 [sl A_w_0 w_0 c_w_0, sl A_w_1 w_1 c_w_1, sl A_w_2 w_2 c_w_2] 26 :: cs) w_).freeze (z := 3) h18 rfl rfl
   exact ⟨(F_, w_), ⟨h1_, h2_⟩, h3_.pick 6 [1, 2, 3, 4, 5, 0] (by kernel_rfl) (by decide) rfl⟩
 rintro ⟨F32, W33⟩ ⟨hx34, h35⟩
 have hx34 : Ext w0 F28 W29 F32 W33 := hx34
 have h35 : RdS R_api_Item F32 W33 A12 2 x6 := h35
 have h27 := h27.ext hx34
 have h31 := h31.ext hx34
 have h_with := h_with.ext hx34
 have h_without := h_without.ext hx34
 have h22 := h22.ext hx34
 have h20 := h20.ext hx34
 have h_w_0 := h_w_0.ext hx34
 have h_w_1 := h_w_1.ext hx34
 have h_w_2 := h_w_2.ext hx34
 refine ops_ex (σ := (Nat → Prop) × World) (I := fun x_ => Ext w0 F32 W33 x_.1 x_.2 ∧ RdS (Rep.int .i64) x_.1 x_.2 (sa g21) 1 ([1] : List Int)) (M' := fun x_ => Mem w0 (orow (sa g23) ([0] : List Int).length 1 3 1 ([vI 0]) :: .blk b3 [.bool false] 4 :: .blk b2 [vI r_0, vI r_1] 28 :: .blk b1 [sl A_w_0 w_0 c_w_0, sl A_w_1 w_1 c_w_1, sl A_w_2 w_2 c_w_2] 26 :: Fz x_.1 x_.2 :: cs)) (fun w_ hM => ?_) ?_
 · obtain ⟨F_, h1_, h2_, h3_⟩ := (hM.pick 6 [1, 5, 0, 2, 3, 4] (by kernel_rfl) (by decide) rfl : Mem w0 (orow (sa g21) ([1] : List Int).length 1 3 1 ([vI 1]) :: Fz F32 W33 :: orow (sa g23) ([0] : List Int).length 1 3 1 ([vI 0]) :: .blk b3 [.bool false] 4 :: .blk b2 [vI r_0, vI r_1] 28 :: .blk b1 [sl A_w_0 w_0 c_w_0, sl A_w_1 w_1 c_w_1, sl A_w_2 w_2 c_w_2] 26 :: cs) w_).freeze (z := 1) h20 rfl rfl
   exact ⟨(F_, w_), ⟨h1_, h2_⟩, h3_.pick 5 [1, 2, 3, 4, 0] (by kernel_rfl) (by decide) rfl⟩
 rintro ⟨F36, W37⟩ ⟨hx38, h39⟩
 have hx38 : Ext w0 F32 W33 F36 W37 := hx38
 have h39 : RdS (Rep.int .i64) F36 W37 (sa g21) 1 ([1] : List Int) := h39
 have h27 := h27.ext hx38
 have h31 := h31.ext hx38
 have h35 := h35.ext hx38
 have h_with := h_with.ext hx38
 have h_without := h_without.ext hx38
 have h22 := h22.ext hx38
 have h_w_0 := h_w_0.ext hx38
 have h_w_1 := h_w_1.ext hx38
 have h_w_2 := h_w_2.ext hx38
 refine ops_ex (σ := (Nat → Prop) × World) (I := fun x_ => Ext w0 F36 W37 x_.1 x_.2 ∧ RdS (Rep.int .i64) x_.1 x_.2 (sa g23) 1 ([0] : List Int)) (M' := fun x_ => Mem w0 (.blk b3 [.bool false] 4 :: .blk b2 [vI r_0, vI r_1] 28 :: .blk b1 [sl A_w_0 w_0 c_w_0, sl A_w_1 w_1 c_w_1, sl A_w_2 w_2 c_w_2] 26 :: Fz x_.1 x_.2 :: cs)) (fun w_ hM => ?_) ?_
 · obtain ⟨F_, h1_, h2_, h3_⟩ := (hM.pick 5 [0, 4, 1, 2, 3] (by kernel_rfl) (by decide) rfl : Mem w0 (orow (sa g23) ([0] : List Int).length 1 3 1 ([vI 0]) :: Fz F36 W37 :: .blk b3 [.bool false] 4 :: .blk b2 [vI r_0, vI r_1] 28 :: .blk b1 [sl A_w_0 w_0 c_w_0, sl A_w_1 w_1 c_w_1, sl A_w_2 w_2 c_w_2] 26 :: cs) w_).freeze (z := 1) h22 rfl rfl
   exact ⟨(F_, w_), ⟨h1_, h2_⟩, h3_.pick 4 [1, 2, 3, 0] (by kernel_rfl) (by decide) rfl⟩
 rintro ⟨F40, W41⟩ ⟨hx42, h43⟩
 have hx42 : Ext w0 F36 W37 F40 W41 := hx42
 have h43 : RdS (Rep.int .i64) F40 W41 (sa g23) 1 ([0] : List Int) := h43
 have h39 := h39.ext hx42
 have h27 := h27.ext hx42
 have h31 := h31.ext hx42
 have h35 := h35.ext hx42
 have h_with := h_with.ext hx42
 have h_without := h_without.ext hx42
 have h_w_0 := h_w_0.ext hx42
 have h_w_1 := h_w_1.ext hx42
 have h_w_2 := h_w_2.ext hx42
 obtain ⟨x44, hv45, hp⟩ := obind hp
 refine ops_callI (σ := (Nat → Prop) × World) (d := some 27) (f := 7) (args := #[.agg #[sl A8 x4 2, sl A10 x5 2, sl A12 x6 2], .slice (sa g21) ([1] : List Int).length 1, .slice (sa g23) ([0] : List Int).length 1]) (v := (fun x_ => match x_ with | (F46, W47) => vI x44)) (I := (fun x_ => match x_ with | (F46, W47) => (Ext w0 F40 W41 F46 W47))) (M' := (fun x_ => match x_ with | (F46, W47) => Mem w0 (.blk b3 [.bool false] 4 :: .blk b2 [vI r_0, vI r_1] 28 :: .blk b1 [sl A_w_0 w_0 c_w_0, sl A_w_1 w_1 c_w_1, sl A_w_2 w_2 c_w_2] 26 :: Fz F46 W47 :: cs))) ⟨by kernel_rfl⟩ (fun w_ hM hS => (query_Count_ok w0 w_ (.blk b3 [.bool false] 4 :: .blk b2 [vI r_0, vI r_1] 28 :: .blk b1 [sl A_w_0 w_0 c_w_0, sl A_w_1 w_1 c_w_1, sl A_w_2 w_2 c_w_2] 26 :: cs) F40 W41 A8 2 x4 A10 2 x5 A12 2 x6 (sa g21) 1 ([1] : List Int) (sa g23) 1 ([0] : List Int) (hM.pick 4 [3, 0, 1, 2] (by kernel_rfl) (by decide) rfl) h27 h31 h35 h39 h43 x44 hv45).mono (by rintro e w' ⟨F46, W47, h48, rfl, h'⟩; have h' : Mem w0 (.blk b3 [.bool false] 4 :: .blk b2 [vI r_0, vI r_1] 28 :: .blk b1 [sl A_w_0 w_0 c_w_0, sl A_w_1 w_1 c_w_1, sl A_w_2 w_2 c_w_2] 26 :: Fz F46 W47 :: cs) w' := (h'.pick 4 [1, 2, 3, 0] (by kernel_rfl) (by decide) rfl); exact ⟨(F46, W47), h48, rfl, h', trivial⟩)) ?_
 rintro ⟨F46, W47⟩ h48
 have h43 := h43.ext h48
 have h39 := h39.ext h48
 have h27 := h27.ext h48
 have h31 := h31.ext h48
 have h35 := h35.ext h48
 have h_with := h_with.ext h48
 have h_without := h_without.ext h48
 have h_w_0 := h_w_0.ext h48
 have h_w_1 := h_w_1.ext h48
 have h_w_2 := h_w_2.ext h48
 refine oQ [oF 4] [(28, .bool (!(x44 == 1))), (8, vP b3 0), (7, vP b2 0), (4, vP b1 0), (1, sl A_with with_1 c_with), (2, sl A_without without c_without)] (by kernel_rfl) ?_
 refine ops_nil (fin_then ?_)
 refine st_if (b := !(x44 == 1)) rfl (fun hc49 => ?_) (fun hc49 => ?_)
 ·
  have hp := cnd_t hc49 hp
  refine st_seq (st_region [oF 0] (by rfl) ?_)
  refine ops_store (an := []) (evs := [sr b3 0 (.bool false)]) ⟨by kernel_rfl⟩ (fun w_ hM hS => let ⟨w', he, h'⟩ := hM.evs_stores [.bool false] 0 rfl 0 (Nat.le_of_ble_eq_true rfl); ⟨w', he, h', trivial⟩) ?_
  refine ops_nil (fin_then (st_ret (fin_ret_then ?_)))
  refine fin_outs rfl ?_
  refine outs_conv (M' := Mem w0 (.blk b3 [.bool false] 4 :: .blk b2 [vI r_0, vI r_1] 28 :: .blk b1 [sl A_w_0 w_0 c_w_0, sl A_w_1 w_1 c_w_1, sl A_w_2 w_2 c_w_2] 26 :: Fz F46 W47 :: cs)) (fun _ h => h) ?_
  have hq_ := Option.some.inj hp
  have hr0_ := hq_
  subst hr0_
  refine outs_nil [.cell 8 4] [.bool false] rfl (fun w_ hM => (.cell rfl (tr_run _ [.v (.bool false)] [ld b3 0 (.bool false)] (.bool false : Value) _ _ (by kernel_rfl) ⟨hM.cell 0 rfl rfl, rfl⟩) .nil)) (fun w_ hM => ?_)
  exact ⟨F46, W47, ((((((h19.trans hx26).trans hx30).trans hx34).trans hx38).trans hx42).trans h48), rfl, hM.pick 4 [3] (by kernel_rfl) (by decide) rfl⟩
 ·
  have hp := cnd_f hc49 hp
  refine st_skip (fin_then (st_seq (st_region [oF 0] (by rfl) ?_)))
  refine ops_newB (d := some 9) [.slice none 0 0] 23 (fun b50 => ⟨by kernel_rfl⟩) (fun w_ hM hS => trivial) (fun b50 => ?_)
  refine ops_nil (fin_then ?_)
  refine st_joinN1 (σ := (Option Addr) × Nat × (List Int) × (List Value) × Nat × (Nat → Prop) × World) (nn := fun x_ => match x_ with | (A51, c52, l53, y54, b56, F57, W58) => ⟨147, [markOf b56]⟩) (L := fun x_ => match x_ with | (A51, c52, l53, y54, b56, F57, W58) => [(1, sl A_with with_1 c_with), (2, sl A_without without c_without), (4, vP b1 0), (7, vP b2 0), (8, vP b3 0), (9, vP b50 0)]) (N := fun x_ => match x_ with | (A51, c52, l53, y54, b56, F57, W58) => Mem w0 (.blk b1 [sl A_w_0 w_0 c_w_0, sl A_w_1 w_1 c_w_1, sl A_w_2 w_2 c_w_2] 26 :: .blk b2 [vI r_0, vI r_1] 28 :: .blk b3 [.bool false] 4 :: .blk b50 [sl A51 l53 c52] 23 :: ow A51 l53 c52 3 1 y54 :: .obj b56 (.deferred (some [])) :: Fz F57 W58 :: cs)) (I := fun x_ => match x_ with | (A51, c52, l53, y54, b56, F57, W58) => ((tourlaw3_QueryFinds_j1 w_2 with_1 without r_0 r_1 w_0 w_1) l53 = some t9001) ∧ (RepL (Rep.int .i64) F57 W58 l53 y54) ∧ (Ext w0 F46 W47 F57 W58)) ?_ ?_
  ·
   rintro ⟨A51, c52, l53, y54, b56, F57, W58⟩ ⟨hp, h55, hx1⟩
   have h_with := h_with.ext hx1
   have h_without := h_without.ext hx1
   have h_w_0 := h_w_0.ext hx1
   have h_w_1 := h_w_1.ext hx1
   have h_w_2 := h_w_2.ext hx1
   unfold tourlaw3_QueryFinds_j1 at hp
   refine st_seq (st_region [oF 0] (by rfl) ?_)
   refine oQ [oF 0] [(12, .slice none 0 0), (1, sl A_with with_1 c_with), (2, sl A_without without c_without), (4, vP b1 0), (7, vP b2 0), (8, vP b3 0), (9, vP b50 0)] (by kernel_rfl) ?_
   refine ops_nil (fin_then (st_seq (st_region [oF 0] (by rfl) ?_)))
   refine oQ [oF 0] [(13, .slice none 0 0), (12, .slice none 0 0), (1, sl A_with with_1 c_with), (2, sl A_without without c_without), (4, vP b1 0), (7, vP b2 0), (8, vP b3 0), (9, vP b50 0)] (by kernel_rfl) ?_
   refine ops_nil (fin_then (st_seq (st_region [oF 0] (by rfl) ?_)))
   refine oQ [oF 0] [(14, .slice none 0 0), (13, .slice none 0 0), (12, .slice none 0 0), (1, sl A_with with_1 c_with), (2, sl A_without without c_without), (4, vP b1 0), (7, vP b2 0), (8, vP b3 0), (9, vP b50 0)] (by kernel_rfl) ?_
   refine ops_nil (fin_then ?_)
   refine st_join1 (σ := (Option Addr) × Nat × (List Int) × (List Value) × (Option Addr) × Nat × (List api_Ent) × (List Value) × (Option Addr) × Nat × (List Int) × (List Value)) (L := fun x_ => match x_ with | (A59, c60, l61, y62, A64, c65, l66, y67, A69, c70, l71, y72) => [(1, sl A_with with_1 c_with), (2, sl A_without without c_without), (4, vP b1 0), (7, vP b2 0), (8, vP b3 0), (9, vP b50 0), (12, sl A59 l61 c60), (13, sl A64 l66 c65), (14, sl A69 l71 c70)]) (N := fun x_ => match x_ with | (A59, c60, l61, y62, A64, c65, l66, y67, A69, c70, l71, y72) => Mem w0 (.blk b1 [sl A_w_0 w_0 c_w_0, sl A_w_1 w_1 c_w_1, sl A_w_2 w_2 c_w_2] 26 :: .blk b2 [vI r_0, vI r_1] 28 :: .blk b3 [.bool false] 4 :: .blk b50 [sl A51 l53 c52] 23 :: ow A51 l53 c52 3 1 y54 :: ow A59 l61 c60 3 1 y62 :: ow A64 l66 c65 35 2 y67 :: ow A69 l71 c70 3 1 y72 :: .obj b56 (.deferred (some [])) :: Fz F57 W58 :: cs)) (I := fun x_ => match x_ with | (A59, c60, l61, y62, A64, c65, l66, y67, A69, c70, l71, y72) => ((tourlaw3_QueryFinds_j2 w_0 w_1 w_2 r_0 r_1 l53 with_1 without) l61 l66 l71 = some t9001) ∧ (RepL (Rep.int .i64) F57 W58 l61 y62) ∧ (RepL R_api_Ent F57 W58 l66 y67) ∧ (RepL (Rep.int .i64) F57 W58 l71 y72)) ?_ ?_
   ·
    rintro ⟨A59, c60, l61, y62, A64, c65, l66, y67, A69, c70, l71, y72⟩ ⟨hp, h63, h68, h73⟩
    unfold tourlaw3_QueryFinds_j2 at hp
    refine st_seq (st_region [oF 0, oF 1, oF 2, oF 3, oF 4, oF 5, oF 6, oF 7] (by rfl) ?_)
    refine ops_mem (d := some 120) (an := [.v (sl A_w_0 w_0 c_w_0), .v (sl A_w_1 w_1 c_w_1), .v (sl A_w_2 w_2 c_w_2)]) (evs := [ld b1 0 (sl A_w_0 w_0 c_w_0), ld b1 1 (sl A_w_1 w_1 c_w_1), ld b1 2 (sl A_w_2 w_2 c_w_2)]) (v := .agg #[sl A_w_0 w_0 c_w_0, sl A_w_1 w_1 c_w_1, sl A_w_2 w_2 c_w_2]) ⟨by kernel_rfl⟩ (fun w_ hM hS => ⟨w_, ⟨hM.cell 0 rfl rfl, hM.cell 0 rfl rfl, hM.cell 0 rfl rfl, rfl⟩, hM, trivial⟩) ?_
    refine ops_mem (d := some 121) (an := [.v (vI r_0), .v (vI r_1)]) (evs := [ld b2 0 (vI r_0), ld b2 1 (vI r_1)]) (v := .agg #[vI r_0, vI r_1]) ⟨by kernel_rfl⟩ (fun w_ hM hS => ⟨w_, ⟨hM.cell 1 rfl rfl, hM.cell 1 rfl rfl, rfl⟩, hM, trivial⟩) ?_
    obtain ⟨x74, x75, hv76, hp⟩ := obind2 hp
    refine ops_callI (σ := (Option Addr) × Nat × (List Value) × (Option Addr) × Nat × (List Value)) (d := some 122) (f := 13) (args := #[.agg #[sl A_w_0 w_0 c_w_0, sl A_w_1 w_1 c_w_1, sl A_w_2 w_2 c_w_2], .agg #[vI r_0, vI r_1]]) (v := (fun x_ => match x_ with | (A77, c78, y79, A80, c81, y82) => .tuple #[sl A77 x74 c78, sl A80 x75 c81])) (I := (fun x_ => match x_ with | (A77, c78, y79, A80, c81, y82) => (RepL R_api_Ent F57 W58 x74 y79) ∧ (RepL (Rep.int .i64) F57 W58 x75 y82))) (M' := (fun x_ => match x_ with | (A77, c78, y79, A80, c81, y82) => Mem w0 (ow A77 x74 c78 35 2 y79 :: ow A80 x75 c81 3 1 y82 :: .blk b1 [sl A_w_0 w_0 c_w_0, sl A_w_1 w_1 c_w_1, sl A_w_2 w_2 c_w_2] 26 :: .blk b2 [vI r_0, vI r_1] 28 :: .blk b3 [.bool false] 4 :: .blk b50 [sl A51 l53 c52] 23 :: ow A51 l53 c52 3 1 y54 :: ow A59 l61 c60 3 1 y62 :: ow A64 l66 c65 35 2 y67 :: ow A69 l71 c70 3 1 y72 :: .obj b56 (.deferred (some [])) :: Fz F57 W58 :: cs))) ⟨by kernel_rfl⟩ (fun w_ hM hS => (query_Fields_ok w0 w_ (.blk b1 [sl A_w_0 w_0 c_w_0, sl A_w_1 w_1 c_w_1, sl A_w_2 w_2 c_w_2] 26 :: .blk b2 [vI r_0, vI r_1] 28 :: .blk b3 [.bool false] 4 :: .blk b50 [sl A51 l53 c52] 23 :: ow A51 l53 c52 3 1 y54 :: ow A59 l61 c60 3 1 y62 :: ow A64 l66 c65 35 2 y67 :: ow A69 l71 c70 3 1 y72 :: .obj b56 (.deferred (some [])) :: cs) F57 W58 A_w_0 c_w_0 w_0 A_w_1 c_w_1 w_1 A_w_2 c_w_2 w_2 r_0 r_1 (hM.pick 10 [9, 0, 1, 2, 3, 4, 5, 6, 7, 8] (by kernel_rfl) (by decide) rfl) h_w_0 h_w_1 h_w_2 x74 x75 hv76).mono (by rintro e w' ⟨A77, c78, y79, A80, c81, y82, ⟨h83, h84⟩, rfl, h'⟩; have h' : Mem w0 (ow A77 x74 c78 35 2 y79 :: ow A80 x75 c81 3 1 y82 :: .blk b1 [sl A_w_0 w_0 c_w_0, sl A_w_1 w_1 c_w_1, sl A_w_2 w_2 c_w_2] 26 :: .blk b2 [vI r_0, vI r_1] 28 :: .blk b3 [.bool false] 4 :: .blk b50 [sl A51 l53 c52] 23 :: ow A51 l53 c52 3 1 y54 :: ow A59 l61 c60 3 1 y62 :: ow A64 l66 c65 35 2 y67 :: ow A69 l71 c70 3 1 y72 :: .obj b56 (.deferred (some [])) :: Fz F57 W58 :: cs) w' := (h'.pick 12 [0, 1, 3, 4, 5, 6, 7, 8, 9, 10, 11, 2] (by kernel_rfl) (by decide) rfl); exact ⟨(A77, c78, y79, A80, c81, y82), ⟨h83, h84⟩, rfl, h', trivial⟩)) ?_
    rintro ⟨A77, c78, y79, A80, c81, y82⟩ ⟨h83, h84⟩
    refine oQ [oF 3, oF 4, oF 5, oF 6, oF 7] [(23, sl A80 x75 c81), (22, sl A77 x74 c78), (1, sl A_with with_1 c_with), (2, sl A_without without c_without), (4, vP b1 0), (8, vP b3 0), (9, vP b50 0), (12, sl A59 l61 c60), (13, sl A64 l66 c65), (14, sl A69 l71 c70)] (by kernel_rfl) ?_
    refine ops_nil (fin_then ?_)
    refine st_join1 (σ := Bool × (Nat → Prop) × World) (L := fun x_ => match x_ with | (t85, F86, W87) => [(8, vP b3 0)]) (N := fun x_ => match x_ with | (t85, F86, W87) => Mem w0 (.blk b3 [.bool t85] 4 :: .obj b56 (.deferred (some [])) :: Fz F86 W87 :: cs)) (I := fun x_ => match x_ with | (t85, F86, W87) => (tourlaw3_QueryFinds_j3 t85 = some t9001) ∧ (Ext w0 F57 W58 F86 W87)) ?_ ?_
    ·
     rintro ⟨t85, F86, W87⟩ ⟨hp, hx3⟩
     unfold tourlaw3_QueryFinds_j3 at hp
     refine st_ret ?_
     refine fin_outs rfl ?_
     refine outs_mark 1 rfl ?_
     refine outs_conv (M' := Mem w0 (.blk b3 [.bool t85] 4 :: Fz F86 W87 :: cs)) (fun _ h => h) ?_
     have hq_ := Option.some.inj hp
     have hr0_ := hq_
     subst hr0_
     refine outs_nil [.cell 8 4] [.bool t85] rfl (fun w_ hM => (.cell rfl (tr_run _ [.v (.bool t85)] [ld b3 0 (.bool t85)] (.bool t85 : Value) _ _ (by kernel_rfl) ⟨hM.cell 0 rfl rfl, rfl⟩) .nil)) (fun w_ hM => ?_)
     exact ⟨F86, W87, ((((((((h19.trans hx26).trans hx30).trans hx34).trans hx38).trans hx42).trans h48).trans hx1).trans hx3), rfl, hM.pick 2 [1] (by kernel_rfl) (by decide) rfl⟩
    ·
     intro HJ3
     refine st_seq (st_region [oF 0, oF 1, oF 2, oF 3, oF 4, oF 5, oF 6, oF 7, oF 8, oF 9, oF 10, oF 11, oF 12, oF 13, oF 14, oF 15, oF 16, oF 17, oF 18, oF 19, oF 20, oF 21, oF 22] (by rfl) ?_)
     refine ops_mem (d := some 125) (an := [.v (sl A51 l53 c52)]) (evs := [ld b50 0 (sl A51 l53 c52)]) (v := sl A51 l53 c52) ⟨by kernel_rfl⟩ (fun w_ hM hS => ⟨w_, ⟨hM.cell 5 rfl rfl, rfl⟩, hM, trivial⟩) ?_
     refine oQ [oF 1] [(126, sl A59 l61 c60), (125, sl A51 l53 c52), (23, sl A80 x75 c81), (22, sl A77 x74 c78), (1, sl A_with with_1 c_with), (2, sl A_without without c_without), (4, vP b1 0), (8, vP b3 0), (12, sl A59 l61 c60), (13, sl A64 l66 c65), (14, sl A69 l71 c70)] (by kernel_rfl) ?_
     obtain ⟨x88, hv89, hp⟩ := obind hp
     refine ops_callI (σ := Unit) (d := some 127) (f := 14) (args := #[sl A51 l53 c52, sl A59 l61 c60]) (v := (fun _ => .bool x88)) (I := (fun _ => True)) (M' := (fun _ => Mem w0 (ow A77 x74 c78 35 2 y79 :: ow A80 x75 c81 3 1 y82 :: .blk b1 [sl A_w_0 w_0 c_w_0, sl A_w_1 w_1 c_w_1, sl A_w_2 w_2 c_w_2] 26 :: .blk b2 [vI r_0, vI r_1] 28 :: .blk b3 [.bool false] 4 :: .blk b50 [sl A51 l53 c52] 23 :: ow A51 l53 c52 3 1 y54 :: ow A59 l61 c60 3 1 y62 :: ow A64 l66 c65 35 2 y67 :: ow A69 l71 c70 3 1 y72 :: .obj b56 (.deferred (some [])) :: Fz F57 W58 :: cs))) ⟨by kernel_rfl⟩ (fun w_ hM hS => (slices_Equal_int_int_ok w_ w_ [] (fun b => b < w_.heap.size) w_ A51 c52 l53 A59 c60 l61 (Mem.fz0 w_) (hM.ordS 6 11 rfl rfl h55 rfl rfl) (hM.ordS 7 11 rfl rfl h63 rfl rfl) x88 hv89).mono (by rintro e w' ⟨-, rfl, h'⟩; have h' : Mem w_ [] w' := h'.pick 1 [] (by kernel_rfl) (by decide) rfl; exact ⟨(), trivial, rfl, hM.join h' rfl, trivial⟩)) ?_
     rintro _ -
     refine oQ [oF 3] [(128, .bool x88), (23, sl A80 x75 c81), (22, sl A77 x74 c78), (1, sl A_with with_1 c_with), (2, sl A_without without c_without), (4, vP b1 0), (8, vP b3 0), (12, sl A59 l61 c60), (13, sl A64 l66 c65), (14, sl A69 l71 c70)] (by kernel_rfl) ?_
     refine ops_bool (t := x88) (l1 := [(128, .bool true), (23, sl A80 x75 c81), (22, sl A77 x74 c78), (1, sl A_with with_1 c_with), (2, sl A_without without c_without), (4, vP b1 0), (8, vP b3 0), (12, sl A59 l61 c60), (13, sl A64 l66 c65), (14, sl A69 l71 c70)]) (l2 := [(128, .bool false), (23, sl A80 x75 c81), (22, sl A77 x74 c78), (1, sl A_with with_1 c_with), (2, sl A_without without c_without), (4, vP b1 0), (8, vP b3 0), (12, sl A59 l61 c60), (13, sl A64 l66 c65), (14, sl A69 l71 c70)]) (fun h => by rw [h]) (fun h => by rw [h]) (fun hc90 => ?_) (fun hc90 => ?_)
     ·
      have hp := cnd_t hc90 hp
      refine ops_mem (d := some 129) (an := [.v (sl A_w_0 w_0 c_w_0), .v (sl A_w_1 w_1 c_w_1), .v (sl A_w_2 w_2 c_w_2)]) (evs := [ld b1 0 (sl A_w_0 w_0 c_w_0), ld b1 1 (sl A_w_1 w_1 c_w_1), ld b1 2 (sl A_w_2 w_2 c_w_2)]) (v := .agg #[sl A_w_0 w_0 c_w_0, sl A_w_1 w_1 c_w_1, sl A_w_2 w_2 c_w_2]) ⟨by kernel_rfl⟩ (fun w_ hM hS => ⟨w_, ⟨hM.cell 2 rfl rfl, hM.cell 2 rfl rfl, hM.cell 2 rfl rfl, rfl⟩, hM, trivial⟩) ?_
      refine oQ [oF 5, oF 6] [(131, sl A_without without c_without), (130, sl A_with with_1 c_with), (129, .agg #[sl A_w_0 w_0 c_w_0, sl A_w_1 w_1 c_w_1, sl A_w_2 w_2 c_w_2]), (128, .bool true), (23, sl A80 x75 c81), (22, sl A77 x74 c78), (8, vP b3 0), (12, sl A59 l61 c60), (13, sl A64 l66 c65), (14, sl A69 l71 c70)] (by kernel_rfl) ?_
      obtain ⟨x91, hv92, hp⟩ := obind hp
      refine ops_callI (σ := (Nat → Prop) × World) (d := some 132) (f := 7) (args := #[.agg #[sl A_w_0 w_0 c_w_0, sl A_w_1 w_1 c_w_1, sl A_w_2 w_2 c_w_2], sl A_with with_1 c_with, sl A_without without c_without]) (v := (fun x_ => match x_ with | (F93, W94) => vI x91)) (I := (fun x_ => match x_ with | (F93, W94) => (Ext w0 F57 W58 F93 W94))) (M' := (fun x_ => match x_ with | (F93, W94) => Mem w0 (ow A77 x74 c78 35 2 y79 :: ow A80 x75 c81 3 1 y82 :: .blk b1 [sl A_w_0 w_0 c_w_0, sl A_w_1 w_1 c_w_1, sl A_w_2 w_2 c_w_2] 26 :: .blk b2 [vI r_0, vI r_1] 28 :: .blk b3 [.bool false] 4 :: .blk b50 [sl A51 l53 c52] 23 :: ow A51 l53 c52 3 1 y54 :: ow A59 l61 c60 3 1 y62 :: ow A64 l66 c65 35 2 y67 :: ow A69 l71 c70 3 1 y72 :: .obj b56 (.deferred (some [])) :: Fz F93 W94 :: cs))) ⟨by kernel_rfl⟩ (fun w_ hM hS => (query_Count_ok w0 w_ (ow A77 x74 c78 35 2 y79 :: ow A80 x75 c81 3 1 y82 :: .blk b1 [sl A_w_0 w_0 c_w_0, sl A_w_1 w_1 c_w_1, sl A_w_2 w_2 c_w_2] 26 :: .blk b2 [vI r_0, vI r_1] 28 :: .blk b3 [.bool false] 4 :: .blk b50 [sl A51 l53 c52] 23 :: ow A51 l53 c52 3 1 y54 :: ow A59 l61 c60 3 1 y62 :: ow A64 l66 c65 35 2 y67 :: ow A69 l71 c70 3 1 y72 :: .obj b56 (.deferred (some [])) :: cs) F57 W58 A_w_0 c_w_0 w_0 A_w_1 c_w_1 w_1 A_w_2 c_w_2 w_2 A_with c_with with_1 A_without c_without without (hM.pick 12 [11, 0, 1, 2, 3, 4, 5, 6, 7, 8, 9, 10] (by kernel_rfl) (by decide) rfl) h_w_0 h_w_1 h_w_2 h_with h_without x91 hv92).mono (by rintro e w' ⟨F93, W94, h95, rfl, h'⟩; have h' : Mem w0 (ow A77 x74 c78 35 2 y79 :: ow A80 x75 c81 3 1 y82 :: .blk b1 [sl A_w_0 w_0 c_w_0, sl A_w_1 w_1 c_w_1, sl A_w_2 w_2 c_w_2] 26 :: .blk b2 [vI r_0, vI r_1] 28 :: .blk b3 [.bool false] 4 :: .blk b50 [sl A51 l53 c52] 23 :: ow A51 l53 c52 3 1 y54 :: ow A59 l61 c60 3 1 y62 :: ow A64 l66 c65 35 2 y67 :: ow A69 l71 c70 3 1 y72 :: .obj b56 (.deferred (some [])) :: Fz F93 W94 :: cs) w' := (h'.pick 12 [1, 2, 3, 4, 5, 6, 7, 8, 9, 10, 11, 0] (by kernel_rfl) (by decide) rfl); exact ⟨(F93, W94), h95, rfl, h', trivial⟩)) ?_
      rintro ⟨F93, W94⟩ h95
      have h_without := h_without.ext h95
      have h_with := h_with.ext h95
      have h_w_0 := h_w_0.ext h95
      have h_w_1 := h_w_1.ext h95
      have h_w_2 := h_w_2.ext h95
      have h83 := h83.ext h95
      have h84 := h84.ext h95
      have h55 := h55.ext h95
      have h63 := h63.ext h95
      have h68 := h68.ext h95
      have h73 := h73.ext h95
      refine oQ [oF 8, oF 9, oF 10, oF 11, oF 12] [(137, .bool (x91 == (l61.length : Int))), (23, sl A80 x75 c81), (22, sl A77 x74 c78), (8, vP b3 0), (13, sl A64 l66 c65), (14, sl A69 l71 c70)] (by kernel_rfl) ?_
      refine ops_bool (t := (x91 == (l61.length : Int))) (l1 := [(137, .bool true), (23, sl A80 x75 c81), (22, sl A77 x74 c78), (8, vP b3 0), (13, sl A64 l66 c65), (14, sl A69 l71 c70)]) (l2 := [(137, .bool false), (23, sl A80 x75 c81), (22, sl A77 x74 c78), (8, vP b3 0), (13, sl A64 l66 c65), (14, sl A69 l71 c70)]) (fun h => by rw [h]) (fun h => by rw [h]) (fun hc96 => ?_) (fun hc96 => ?_)
      ·
       have hp := cnd_t hc96 hp
       refine oQ [oF 13, oF 14] [(139, sl A64 l66 c65), (138, sl A77 x74 c78), (137, .bool true), (23, sl A80 x75 c81), (8, vP b3 0), (14, sl A69 l71 c70)] (by kernel_rfl) ?_
       obtain ⟨x97, hv98, hp⟩ := obind hp
       refine ops_callI (σ := Unit) (d := some 140) (f := 15) (args := #[sl A77 x74 c78, sl A64 l66 c65]) (v := (fun _ => .bool x97)) (I := (fun _ => True)) (M' := (fun _ => Mem w0 (ow A77 x74 c78 35 2 y79 :: ow A80 x75 c81 3 1 y82 :: .blk b1 [sl A_w_0 w_0 c_w_0, sl A_w_1 w_1 c_w_1, sl A_w_2 w_2 c_w_2] 26 :: .blk b2 [vI r_0, vI r_1] 28 :: .blk b3 [.bool false] 4 :: .blk b50 [sl A51 l53 c52] 23 :: ow A51 l53 c52 3 1 y54 :: ow A59 l61 c60 3 1 y62 :: ow A64 l66 c65 35 2 y67 :: ow A69 l71 c70 3 1 y72 :: .obj b56 (.deferred (some [])) :: Fz F93 W94 :: cs))) ⟨by kernel_rfl⟩ (fun w_ hM hS => (slices_Equal_api_Ent_api_Ent_ok w_ w_ [] (fun b => b < w_.heap.size) w_ A77 c78 x74 A64 c65 l66 (Mem.fz0 w_) (hM.ordS 0 11 rfl rfl h83 rfl rfl) (hM.ordS 8 11 rfl rfl h68 rfl rfl) x97 hv98).mono (by rintro e w' ⟨-, rfl, h'⟩; have h' : Mem w_ [] w' := h'.pick 1 [] (by kernel_rfl) (by decide) rfl; exact ⟨(), trivial, rfl, hM.join h' rfl, trivial⟩)) ?_
       rintro _ -
       refine oQ [oF 16, oF 17] [(142, .bool x97), (23, sl A80 x75 c81), (8, vP b3 0), (14, sl A69 l71 c70)] (by kernel_rfl) ?_
       refine ops_bool (t := x97) (l1 := [(142, .bool true), (23, sl A80 x75 c81), (8, vP b3 0), (14, sl A69 l71 c70)]) (l2 := [(142, .bool false), (23, sl A80 x75 c81), (8, vP b3 0), (14, sl A69 l71 c70)]) (fun h => by rw [h]) (fun h => by rw [h]) (fun hc99 => ?_) (fun hc99 => ?_)
       ·
        have hp := cnd_t hc99 hp
        refine oQ [oF 18, oF 19] [(144, sl A69 l71 c70), (143, sl A80 x75 c81), (142, .bool true), (8, vP b3 0)] (by kernel_rfl) ?_
        obtain ⟨x100, hv101, hp⟩ := obind hp
        refine ops_callI (σ := Unit) (d := some 145) (f := 14) (args := #[sl A80 x75 c81, sl A69 l71 c70]) (v := (fun _ => .bool x100)) (I := (fun _ => True)) (M' := (fun _ => Mem w0 (ow A77 x74 c78 35 2 y79 :: ow A80 x75 c81 3 1 y82 :: .blk b1 [sl A_w_0 w_0 c_w_0, sl A_w_1 w_1 c_w_1, sl A_w_2 w_2 c_w_2] 26 :: .blk b2 [vI r_0, vI r_1] 28 :: .blk b3 [.bool false] 4 :: .blk b50 [sl A51 l53 c52] 23 :: ow A51 l53 c52 3 1 y54 :: ow A59 l61 c60 3 1 y62 :: ow A64 l66 c65 35 2 y67 :: ow A69 l71 c70 3 1 y72 :: .obj b56 (.deferred (some [])) :: Fz F93 W94 :: cs))) ⟨by kernel_rfl⟩ (fun w_ hM hS => (slices_Equal_int_int_ok w_ w_ [] (fun b => b < w_.heap.size) w_ A80 c81 x75 A69 c70 l71 (Mem.fz0 w_) (hM.ordS 1 11 rfl rfl h84 rfl rfl) (hM.ordS 9 11 rfl rfl h73 rfl rfl) x100 hv101).mono (by rintro e w' ⟨-, rfl, h'⟩; have h' : Mem w_ [] w' := h'.pick 1 [] (by kernel_rfl) (by decide) rfl; exact ⟨(), trivial, rfl, hM.join h' rfl, trivial⟩)) ?_
        rintro _ -
        refine oQ [oF 21] [(146, .bool x100), (8, vP b3 0)] (by kernel_rfl) ?_
        refine ops_store (an := []) (evs := [sr b3 0 (.bool x100)]) ⟨by kernel_rfl⟩ (fun w_ hM hS => let ⟨w', he, h'⟩ := hM.evs_stores [.bool x100] 4 rfl 0 (Nat.le_of_ble_eq_true rfl); ⟨w', he, h', trivial⟩) ?_
        refine ops_nil ?_
        exact fin_join HJ3 (x100, F93, W94) ⟨hp, h95⟩ (look_has ⟨rfl, trivial⟩) (fun w_ hM => hM.pick 12 [4, 10, 11] (by kernel_rfl) (by decide) rfl)
       ·
        have hp := cnd_f hc99 hp
        refine oQ [oF 18, oF 19, oF 20, oF 21] [(146, .bool false), (8, vP b3 0)] (by kernel_rfl) ?_
        refine ops_store (an := []) (evs := [sr b3 0 (.bool false)]) ⟨by kernel_rfl⟩ (fun w_ hM hS => let ⟨w', he, h'⟩ := hM.evs_stores [.bool false] 4 rfl 0 (Nat.le_of_ble_eq_true rfl); ⟨w', he, h', trivial⟩) ?_
        refine ops_nil ?_
        exact fin_join HJ3 (false, F93, W94) ⟨hp, h95⟩ (look_has ⟨rfl, trivial⟩) (fun w_ hM => hM.pick 12 [4, 10, 11] (by kernel_rfl) (by decide) rfl)
      ·
       have hp := cnd_f hc96 hp
       refine oQ [oF 13, oF 14, oF 15, oF 16, oF 17, oF 18, oF 19, oF 20, oF 21] [(146, .bool false), (8, vP b3 0)] (by kernel_rfl) ?_
       refine ops_store (an := []) (evs := [sr b3 0 (.bool false)]) ⟨by kernel_rfl⟩ (fun w_ hM hS => let ⟨w', he, h'⟩ := hM.evs_stores [.bool false] 4 rfl 0 (Nat.le_of_ble_eq_true rfl); ⟨w', he, h', trivial⟩) ?_
       refine ops_nil ?_
       exact fin_join HJ3 (false, F93, W94) ⟨hp, h95⟩ (look_has ⟨rfl, trivial⟩) (fun w_ hM => hM.pick 12 [4, 10, 11] (by kernel_rfl) (by decide) rfl)
     ·
      have hp := cnd_f hc90 hp
      refine oQ [oF 4, oF 5, oF 6, oF 7, oF 8, oF 9, oF 10, oF 11, oF 12, oF 13, oF 14, oF 15, oF 16, oF 17, oF 18, oF 19, oF 20, oF 21] [(146, .bool false), (8, vP b3 0)] (by kernel_rfl) ?_
      refine ops_store (an := []) (evs := [sr b3 0 (.bool false)]) ⟨by kernel_rfl⟩ (fun w_ hM hS => let ⟨w', he, h'⟩ := hM.evs_stores [.bool false] 4 rfl 0 (Nat.le_of_ble_eq_true rfl); ⟨w', he, h', trivial⟩) ?_
      refine ops_nil ?_
      exact fin_join HJ3 (false, F57, W58) ⟨hp, (Ext.refl _ _ _)⟩ (look_has ⟨rfl, trivial⟩) (fun w_ hM => hM.pick 12 [4, 10, 11] (by kernel_rfl) (by decide) rfl)
   ·
    intro HJ2
    refine st_seq (st_seq (st_region [oF 0, oF 1, oF 2, oF 3] (by rfl) ?_))
    refine oQ [oF 0] [(58, vP b1 2), (14, .slice none 0 0), (13, .slice none 0 0), (12, .slice none 0 0), (1, sl A_with with_1 c_with), (2, sl A_without without c_without), (4, vP b1 0), (7, vP b2 0), (8, vP b3 0), (9, vP b50 0)] (by kernel_rfl) ?_
    refine ops_mem (d := some 59) (an := [.v (sl A_w_2 w_2 c_w_2)]) (evs := [ld b1 2 (sl A_w_2 w_2 c_w_2)]) (v := sl A_w_2 w_2 c_w_2) ⟨by kernel_rfl⟩ (fun w_ hM hS => ⟨w_, ⟨hM.cell 0 rfl rfl, rfl⟩, hM, trivial⟩) ?_
    refine oQ [oF 2, oF 3] [(61, vI 0), (60, vI (w_2.length : Int)), (59, sl A_w_2 w_2 c_w_2), (14, .slice none 0 0), (13, .slice none 0 0), (12, .slice none 0 0), (1, sl A_with with_1 c_with), (2, sl A_without without c_without), (4, vP b1 0), (7, vP b2 0), (8, vP b3 0), (9, vP b50 0)] (by kernel_rfl) ?_
    refine ops_nil (fin_then (st_block ?_))
    refine st_conv (l' := [(61, vI 0), (60, vI (w_2.length : Int)), (59, sl A_w_2 w_2 c_w_2), (14, .slice none 0 0), (13, .slice none 0 0), (12, .slice none 0 0), (1, sl A_with with_1 c_with), (2, sl A_without without c_without), (4, vP b1 0), (7, vP b2 0), (8, vP b3 0), (9, vP b50 0)]) (M' := Mem w0 (ow none ([] : List Int) 0 3 1 [] :: .blk b1 [sl A_w_0 w_0 c_w_0, sl A_w_1 w_1 c_w_1, sl A_w_2 w_2 c_w_2] 26 :: .blk b2 [vI r_0, vI r_1] 28 :: .blk b3 [.bool false] 4 :: .blk b50 [sl A51 l53 c52] 23 :: ow A51 l53 c52 3 1 y54 :: .obj b56 (.deferred (some [])) :: Fz F57 W58 :: cs)) rfl (fun w_ h => h.onil none 3 1) ?_
    refine st_conv (l' := [(61, vI 0), (60, vI (w_2.length : Int)), (59, sl A_w_2 w_2 c_w_2), (14, .slice none 0 0), (13, .slice none 0 0), (12, .slice none 0 0), (1, sl A_with with_1 c_with), (2, sl A_without without c_without), (4, vP b1 0), (7, vP b2 0), (8, vP b3 0), (9, vP b50 0)]) (M' := Mem w0 (ow none ([] : List api_Ent) 0 35 2 [] :: ow none ([] : List Int) 0 3 1 [] :: .blk b1 [sl A_w_0 w_0 c_w_0, sl A_w_1 w_1 c_w_1, sl A_w_2 w_2 c_w_2] 26 :: .blk b2 [vI r_0, vI r_1] 28 :: .blk b3 [.bool false] 4 :: .blk b50 [sl A51 l53 c52] 23 :: ow A51 l53 c52 3 1 y54 :: .obj b56 (.deferred (some [])) :: Fz F57 W58 :: cs)) rfl (fun w_ h => h.onil none 35 2) ?_
    refine st_conv (l' := [(61, vI 0), (60, vI (w_2.length : Int)), (59, sl A_w_2 w_2 c_w_2), (14, .slice none 0 0), (13, .slice none 0 0), (12, .slice none 0 0), (1, sl A_with with_1 c_with), (2, sl A_without without c_without), (4, vP b1 0), (7, vP b2 0), (8, vP b3 0), (9, vP b50 0)]) (M' := Mem w0 (ow none ([] : List Int) 0 3 1 [] :: ow none ([] : List api_Ent) 0 35 2 [] :: ow none ([] : List Int) 0 3 1 [] :: .blk b1 [sl A_w_0 w_0 c_w_0, sl A_w_1 w_1 c_w_1, sl A_w_2 w_2 c_w_2] 26 :: .blk b2 [vI r_0, vI r_1] 28 :: .blk b3 [.bool false] 4 :: .blk b50 [sl A51 l53 c52] 23 :: ow A51 l53 c52 3 1 y54 :: .obj b56 (.deferred (some [])) :: Fz F57 W58 :: cs)) rfl (fun w_ h => h.onil none 3 1) ?_
    obtain ⟨r4, hl4, hk4⟩ := obind hp
    refine st_loopP (σ := (List Int) × (List api_Ent) × (List Int) × Int) (ρ := (Bool ⊕ (List Int) × (List api_Ent) × (List Int))) (γ := (Option Addr) × Nat × (List Value) × (Option Addr) × Nat × (List Value) × (Option Addr) × Nat × (List Value)) hl4 (none, 0, [], none, 0, [], none, 0, []) (fun s_ g_ => match s_, g_ with | (l104, l109, l114, i117), (A102, c103, y105, A107, c108, y110, A112, c113, y115) => [(1, sl A_with with_1 c_with), (2, sl A_without without c_without), (4, vP b1 0), (7, vP b2 0), (8, vP b3 0), (9, vP b50 0), (12, sl A102 l104 c103), (13, sl A107 l109 c108), (14, sl A112 l114 c113), (59, sl A_w_2 w_2 c_w_2), (60, vI (w_2.length : Int)), (61, vI i117)]) (fun s_ g_ => match s_, g_ with | (l104, l109, l114, i117), (A102, c103, y105, A107, c108, y110, A112, c113, y115) => Mem w0 (.blk b1 [sl A_w_0 w_0 c_w_0, sl A_w_1 w_1 c_w_1, sl A_w_2 w_2 c_w_2] 26 :: .blk b2 [vI r_0, vI r_1] 28 :: .blk b3 [.bool false] 4 :: .blk b50 [sl A51 l53 c52] 23 :: ow A51 l53 c52 3 1 y54 :: ow A102 l104 c103 3 1 y105 :: ow A107 l109 c108 35 2 y110 :: ow A112 l114 c113 3 1 y115 :: .obj b56 (.deferred (some [])) :: Fz F57 W58 :: cs)) (fun s_ g_ => match s_, g_ with | (l104, l109, l114, i117), (A102, c103, y105, A107, c108, y110, A112, c113, y115) => (RepL (Rep.int .i64) F57 W58 l104 y105) ∧ (RepL R_api_Ent F57 W58 l109 y110) ∧ (RepL (Rep.int .i64) F57 W58 l114 y115)) ⟨(RepL.nil (R := (Rep.int .i64))), (RepL.nil (R := R_api_Ent)), (RepL.nil (R := (Rep.int .i64)))⟩ (look_has ⟨rfl, rfl, rfl, rfl, rfl, rfl, rfl, rfl, rfl, rfl, rfl, rfl, trivial⟩) (fun w_ hM => hM.pick 10 [3, 4, 5, 6, 7, 2, 1, 0, 8, 9] (by kernel_rfl) (by decide) rfl) ?_
    rintro ⟨l104, l109, l114, i117⟩ ⟨A102, c103, y105, A107, c108, y110, A112, c113, y115⟩ o4 ⟨h106, h111, h116⟩ hs_ hd4
    have hp : (tourlaw3_QueryFinds_l4 w_2 with_1 without r_0 r_1) l104 l109 l114 i117 = some o4 := hs_
    clear hs_
    unfold tourlaw3_QueryFinds_l4 at hp
    refine st_seq (st_region [oF 0] (by rfl) ?_)
    refine oQ [oF 0] [(62, .bool (decide (i117 < (w_2.length : Int)))), (1, sl A_with with_1 c_with), (2, sl A_without without c_without), (4, vP b1 0), (7, vP b2 0), (8, vP b3 0), (9, vP b50 0), (12, sl A102 l104 c103), (13, sl A107 l109 c108), (14, sl A112 l114 c113), (59, sl A_w_2 w_2 c_w_2), (60, vI (w_2.length : Int)), (61, vI i117)] (by kernel_rfl) ?_
    refine ops_nil (fin_then (st_seq ?_))
    refine st_if (b := decide (i117 < (w_2.length : Int))) rfl (fun hc118 => ?_) (fun hc118 => ?_)
    ·
     have hp := cnd_t hc118 hp
     refine st_skip (fin_then ?_)
     refine st_join1 (σ := (Option Addr) × Nat × (List Int) × (List Value) × (Option Addr) × Nat × (List api_Ent) × (List Value) × (Option Addr) × Nat × (List Int) × (List Value)) (L := fun x_ => match x_ with | (A119, c120, l121, y122, A124, c125, l126, y127, A129, c130, l131, y132) => [(1, sl A_with with_1 c_with), (2, sl A_without without c_without), (4, vP b1 0), (7, vP b2 0), (8, vP b3 0), (9, vP b50 0), (12, sl A119 l121 c120), (13, sl A124 l126 c125), (14, sl A129 l131 c130), (59, sl A_w_2 w_2 c_w_2), (60, vI (w_2.length : Int)), (61, vI i117)]) (N := fun x_ => match x_ with | (A119, c120, l121, y122, A124, c125, l126, y127, A129, c130, l131, y132) => Mem w0 (.blk b1 [sl A_w_0 w_0 c_w_0, sl A_w_1 w_1 c_w_1, sl A_w_2 w_2 c_w_2] 26 :: .blk b2 [vI r_0, vI r_1] 28 :: .blk b3 [.bool false] 4 :: .blk b50 [sl A51 l53 c52] 23 :: ow A51 l53 c52 3 1 y54 :: ow A119 l121 c120 3 1 y122 :: ow A124 l126 c125 35 2 y127 :: ow A129 l131 c130 3 1 y132 :: .obj b56 (.deferred (some [])) :: Fz F57 W58 :: cs)) (I := fun x_ => match x_ with | (A119, c120, l121, y122, A124, c125, l126, y127, A129, c130, l131, y132) => ((tourlaw3_QueryFinds_j5 i117) l121 l126 l131 = some o4) ∧ (RepL (Rep.int .i64) F57 W58 l121 y122) ∧ (RepL R_api_Ent F57 W58 l126 y127) ∧ (RepL (Rep.int .i64) F57 W58 l131 y132)) ?_ ?_
     ·
      rintro ⟨A119, c120, l121, y122, A124, c125, l126, y127, A129, c130, l131, y132⟩ ⟨hp, h123, h128, h133⟩
      unfold tourlaw3_QueryFinds_j5 at hp
      refine st_region [oF 0, oF 1] (by rfl) ?_
      refine oQ [oF 0, oF 1] [(61, vI (IntKind.i64.wrap (i117 + 1))), (1, sl A_with with_1 c_with), (2, sl A_without without c_without), (4, vP b1 0), (7, vP b2 0), (8, vP b3 0), (9, vP b50 0), (12, sl A119 l121 c120), (13, sl A124 l126 c125), (14, sl A129 l131 c130), (59, sl A_w_2 w_2 c_w_2), (60, vI (w_2.length : Int))] (by kernel_rfl) ?_
      refine ops_nil ?_
      exact fin_again (l121, l126, l131, IntKind.i64.wrap (i117 + 1)) (A119, c120, y122, A124, c125, y127, A129, c130, y132) (Option.some.inj hp).symm ⟨h123, h128, h133⟩ (look_has ⟨rfl, rfl, rfl, rfl, rfl, rfl, rfl, rfl, rfl, rfl, rfl, rfl, trivial⟩) (fun w_ hM => hM)
     ·
      intro HJ5
      refine st_seq (st_block (st_seq (st_region [oF 0, oF 1, oF 2, oF 3, oF 4, oF 5] (by rfl) ?_)))
      refine oQ [oF 0] [(63, vI i117), (1, sl A_with with_1 c_with), (2, sl A_without without c_without), (4, vP b1 0), (7, vP b2 0), (8, vP b3 0), (9, vP b50 0), (12, sl A102 l104 c103), (13, sl A107 l109 c108), (14, sl A112 l114 c113), (59, sl A_w_2 w_2 c_w_2), (60, vI (w_2.length : Int)), (61, vI i117)] (by kernel_rfl) ?_
      obtain ⟨x134, hv135, hp⟩ := obind hp
      obtain ⟨m136, hm137, hx138⟩ := idx_some hv135
      have hl141 := (List.getElem?_eq_some_iff.1 hx138).1
      obtain ⟨ad142, vs139, hA143, hr140, hq144⟩ := RdS.el h_w_2 hx138
      obtain ⟨A145, c146, rfl, h147⟩ := dec_api_Item hr140
      refine ops_val (op := (.indexAddr 24 (.tmp 59) (.tmp 61))) (d := some 64) (v := .pointer (some (ad142.add (m136 * 3)))) ⟨by kernel_rfl⟩ (run_indexA hA143 Try.underlying24 (z := 3) (by kernel_rfl) rfl rfl hm137 hl141) ?_
      refine ops_mem (d := some 65) (an := [.v (vI x134.Ent.N), .v (vI x134.Ent.Gen), .v (sl A145 x134.Comps c146)]) (evs := [.load (ad142.add (m136 * 3)) (vI x134.Ent.N), .load ((ad142.add (m136 * 3)).add 1) (vI x134.Ent.Gen), .load ((ad142.add (m136 * 3)).add 2) (sl A145 x134.Comps c146)]) (v := .agg #[vI x134.Ent.N, vI x134.Ent.Gen, sl A145 x134.Comps c146]) ⟨by kernel_rfl⟩ (fun w_ hM hS => ⟨w_, ⟨hM.elcell 9 rfl hq144 0 rfl, hM.elcell 9 rfl hq144 1 rfl, hM.elcell 9 rfl hq144 2 rfl, rfl⟩, hM, trivial⟩) ?_
      refine ops_newB (d := some 16) [vI 0, vI 0, .slice none 0 0] 38 (fun b148 => ⟨by kernel_rfl⟩) (fun w_ hM hS => trivial) (fun b148 => ?_)
      refine oQ [oF 4] [(15, vI i117), (16, vP b148 0), (65, .agg #[vI x134.Ent.N, vI x134.Ent.Gen, sl A145 x134.Comps c146]), (1, sl A_with with_1 c_with), (2, sl A_without without c_without), (4, vP b1 0), (7, vP b2 0), (8, vP b3 0), (9, vP b50 0), (12, sl A102 l104 c103), (13, sl A107 l109 c108), (14, sl A112 l114 c113), (59, sl A_w_2 w_2 c_w_2), (60, vI (w_2.length : Int)), (61, vI i117)] (by kernel_rfl) ?_
      refine ops_store (an := []) (evs := [sr b148 0 (vI x134.Ent.N), sr b148 1 (vI x134.Ent.Gen), sr b148 2 (sl A145 x134.Comps c146)]) ⟨by kernel_rfl⟩ (fun w_ hM hS => let ⟨w', he, h'⟩ := hM.evs_stores [vI x134.Ent.N, vI x134.Ent.Gen, sl A145 x134.Comps c146] 0 rfl 0 (Nat.le_of_ble_eq_true rfl); ⟨w', he, h', trivial⟩) ?_
      refine ops_nil (fin_then (st_seq (st_region [oF 0, oF 1, oF 2, oF 3, oF 4] (by rfl) ?_)))
      refine ops_mem (d := some 66) (an := [.v (vI x134.Ent.N), .v (vI x134.Ent.Gen), .v (sl A145 x134.Comps c146)]) (evs := [ld b148 0 (vI x134.Ent.N), ld b148 1 (vI x134.Ent.Gen), ld b148 2 (sl A145 x134.Comps c146)]) (v := .agg #[vI x134.Ent.N, vI x134.Ent.Gen, sl A145 x134.Comps c146]) ⟨by kernel_rfl⟩ (fun w_ hM hS => ⟨w_, ⟨hM.cell 0 rfl rfl, hM.cell 0 rfl rfl, hM.cell 0 rfl rfl, rfl⟩, hM, trivial⟩) ?_
      refine oQ [oF 1, oF 2] [(68, sl A_without without c_without), (67, sl A_with with_1 c_with), (66, .agg #[vI x134.Ent.N, vI x134.Ent.Gen, sl A145 x134.Comps c146]), (15, vI i117), (16, vP b148 0), (1, sl A_with with_1 c_with), (2, sl A_without without c_without), (4, vP b1 0), (7, vP b2 0), (8, vP b3 0), (9, vP b50 0), (12, sl A102 l104 c103), (13, sl A107 l109 c108), (14, sl A112 l114 c113), (59, sl A_w_2 w_2 c_w_2), (60, vI (w_2.length : Int)), (61, vI i117)] (by kernel_rfl) ?_
      obtain ⟨x149, hv150, hp⟩ := obind hp
      refine ops_callI (σ := Unit) (d := some 69) (f := 11) (args := #[.agg #[vI x134.Ent.N, vI x134.Ent.Gen, sl A145 x134.Comps c146], sl A_with with_1 c_with, sl A_without without c_without]) (v := (fun _ => .bool x149)) (I := (fun _ => True)) (M' := (fun _ => Mem w0 (.blk b148 [vI x134.Ent.N, vI x134.Ent.Gen, sl A145 x134.Comps c146] 38 :: .blk b1 [sl A_w_0 w_0 c_w_0, sl A_w_1 w_1 c_w_1, sl A_w_2 w_2 c_w_2] 26 :: .blk b2 [vI r_0, vI r_1] 28 :: .blk b3 [.bool false] 4 :: .blk b50 [sl A51 l53 c52] 23 :: ow A51 l53 c52 3 1 y54 :: ow A102 l104 c103 3 1 y105 :: ow A107 l109 c108 35 2 y110 :: ow A112 l114 c113 3 1 y115 :: .obj b56 (.deferred (some [])) :: Fz F57 W58 :: cs))) ⟨by kernel_rfl⟩ (fun w_ hM hS => (tourref3_Fits_ok w0 w_ (.blk b148 [vI x134.Ent.N, vI x134.Ent.Gen, sl A145 x134.Comps c146] 38 :: .blk b1 [sl A_w_0 w_0 c_w_0, sl A_w_1 w_1 c_w_1, sl A_w_2 w_2 c_w_2] 26 :: .blk b2 [vI r_0, vI r_1] 28 :: .blk b3 [.bool false] 4 :: .blk b50 [sl A51 l53 c52] 23 :: ow A51 l53 c52 3 1 y54 :: ow A102 l104 c103 3 1 y105 :: ow A107 l109 c108 35 2 y110 :: ow A112 l114 c113 3 1 y115 :: .obj b56 (.deferred (some [])) :: cs) F57 W58 x134.Ent.N x134.Ent.Gen A145 c146 x134.Comps A_with c_with with_1 A_without c_without without (hM.pick 11 [10, 0, 1, 2, 3, 4, 5, 6, 7, 8, 9] (by kernel_rfl) (by decide) rfl) h147 h_with h_without x149 hv150).mono (by rintro e w' ⟨-, rfl, h'⟩; have h' : Mem w0 (.blk b148 [vI x134.Ent.N, vI x134.Ent.Gen, sl A145 x134.Comps c146] 38 :: .blk b1 [sl A_w_0 w_0 c_w_0, sl A_w_1 w_1 c_w_1, sl A_w_2 w_2 c_w_2] 26 :: .blk b2 [vI r_0, vI r_1] 28 :: .blk b3 [.bool false] 4 :: .blk b50 [sl A51 l53 c52] 23 :: ow A51 l53 c52 3 1 y54 :: ow A102 l104 c103 3 1 y105 :: ow A107 l109 c108 35 2 y110 :: ow A112 l114 c113 3 1 y115 :: .obj b56 (.deferred (some [])) :: Fz F57 W58 :: cs) w' := (h'.pick 11 [1, 2, 3, 4, 5, 6, 7, 8, 9, 10, 0] (by kernel_rfl) (by decide) rfl); exact ⟨(), trivial, rfl, h', trivial⟩)) ?_
      rintro _ -
      refine oQ [oF 4] [(17, .bool x149), (15, vI i117), (16, vP b148 0), (1, sl A_with with_1 c_with), (2, sl A_without without c_without), (4, vP b1 0), (7, vP b2 0), (8, vP b3 0), (9, vP b50 0), (12, sl A102 l104 c103), (13, sl A107 l109 c108), (14, sl A112 l114 c113), (59, sl A_w_2 w_2 c_w_2), (60, vI (w_2.length : Int)), (61, vI i117)] (by kernel_rfl) ?_
      refine ops_nil (fin_then (st_seq (st_seq (st_region [oF 0, oF 1, oF 2, oF 3, oF 4, oF 5] (by rfl) ?_))))
      refine ops_mem (d := some 70) (an := [.v (vI x134.Ent.N), .v (vI x134.Ent.Gen), .v (sl A145 x134.Comps c146)]) (evs := [ld b148 0 (vI x134.Ent.N), ld b148 1 (vI x134.Ent.Gen), ld b148 2 (sl A145 x134.Comps c146)]) (v := .agg #[vI x134.Ent.N, vI x134.Ent.Gen, sl A145 x134.Comps c146]) ⟨by kernel_rfl⟩ (fun w_ hM hS => ⟨w_, ⟨hM.cell 0 rfl rfl, hM.cell 0 rfl rfl, hM.cell 0 rfl rfl, rfl⟩, hM, trivial⟩) ?_
      refine oQ [oF 1, oF 2] [(72, sl A_without without c_without), (71, sl A_with with_1 c_with), (70, .agg #[vI x134.Ent.N, vI x134.Ent.Gen, sl A145 x134.Comps c146]), (17, .bool x149), (15, vI i117), (16, vP b148 0), (1, sl A_with with_1 c_with), (2, sl A_without without c_without), (4, vP b1 0), (7, vP b2 0), (8, vP b3 0), (9, vP b50 0), (12, sl A102 l104 c103), (13, sl A107 l109 c108), (14, sl A112 l114 c113), (59, sl A_w_2 w_2 c_w_2), (60, vI (w_2.length : Int)), (61, vI i117)] (by kernel_rfl) ?_
      obtain ⟨x151, hv152, hp⟩ := obind hp
      refine ops_callI (σ := Unit) (d := some 73) (f := 12) (args := #[.agg #[vI x134.Ent.N, vI x134.Ent.Gen, sl A145 x134.Comps c146], sl A_with with_1 c_with, sl A_without without c_without]) (v := (fun _ => .bool x151)) (I := (fun _ => True)) (M' := (fun _ => Mem w0 (.blk b148 [vI x134.Ent.N, vI x134.Ent.Gen, sl A145 x134.Comps c146] 38 :: .blk b1 [sl A_w_0 w_0 c_w_0, sl A_w_1 w_1 c_w_1, sl A_w_2 w_2 c_w_2] 26 :: .blk b2 [vI r_0, vI r_1] 28 :: .blk b3 [.bool false] 4 :: .blk b50 [sl A51 l53 c52] 23 :: ow A51 l53 c52 3 1 y54 :: ow A102 l104 c103 3 1 y105 :: ow A107 l109 c108 35 2 y110 :: ow A112 l114 c113 3 1 y115 :: .obj b56 (.deferred (some [])) :: Fz F57 W58 :: cs))) ⟨by kernel_rfl⟩ (fun w_ hM hS => (query_Match_ok w0 w_ (.blk b148 [vI x134.Ent.N, vI x134.Ent.Gen, sl A145 x134.Comps c146] 38 :: .blk b1 [sl A_w_0 w_0 c_w_0, sl A_w_1 w_1 c_w_1, sl A_w_2 w_2 c_w_2] 26 :: .blk b2 [vI r_0, vI r_1] 28 :: .blk b3 [.bool false] 4 :: .blk b50 [sl A51 l53 c52] 23 :: ow A51 l53 c52 3 1 y54 :: ow A102 l104 c103 3 1 y105 :: ow A107 l109 c108 35 2 y110 :: ow A112 l114 c113 3 1 y115 :: .obj b56 (.deferred (some [])) :: cs) F57 W58 x134.Ent.N x134.Ent.Gen A145 c146 x134.Comps A_with c_with with_1 A_without c_without without (hM.pick 11 [10, 0, 1, 2, 3, 4, 5, 6, 7, 8, 9] (by kernel_rfl) (by decide) rfl) h147 h_with h_without x151 hv152).mono (by rintro e w' ⟨-, rfl, h'⟩; have h' : Mem w0 (.blk b148 [vI x134.Ent.N, vI x134.Ent.Gen, sl A145 x134.Comps c146] 38 :: .blk b1 [sl A_w_0 w_0 c_w_0, sl A_w_1 w_1 c_w_1, sl A_w_2 w_2 c_w_2] 26 :: .blk b2 [vI r_0, vI r_1] 28 :: .blk b3 [.bool false] 4 :: .blk b50 [sl A51 l53 c52] 23 :: ow A51 l53 c52 3 1 y54 :: ow A102 l104 c103 3 1 y105 :: ow A107 l109 c108 35 2 y110 :: ow A112 l114 c113 3 1 y115 :: .obj b56 (.deferred (some [])) :: Fz F57 W58 :: cs) w' := (h'.pick 11 [1, 2, 3, 4, 5, 6, 7, 8, 9, 10, 0] (by kernel_rfl) (by decide) rfl); exact ⟨(), trivial, rfl, h', trivial⟩)) ?_
      rintro _ -
      refine oQ [oF 4, oF 5] [(75, .bool (!(x151 == x149))), (17, .bool x149), (15, vI i117), (16, vP b148 0), (1, sl A_with with_1 c_with), (2, sl A_without without c_without), (4, vP b1 0), (7, vP b2 0), (8, vP b3 0), (9, vP b50 0), (12, sl A102 l104 c103), (13, sl A107 l109 c108), (14, sl A112 l114 c113), (59, sl A_w_2 w_2 c_w_2), (60, vI (w_2.length : Int)), (61, vI i117)] (by kernel_rfl) ?_
      refine ops_nil (fin_then ?_)
      refine st_if (b := !(x151 == x149)) rfl (fun hc153 => ?_) (fun hc153 => ?_)
      ·
       have hp := cnd_t hc153 hp
       refine st_seq (st_region [oF 0] (by rfl) ?_)
       refine ops_store (an := []) (evs := [sr b3 0 (.bool false)]) ⟨by kernel_rfl⟩ (fun w_ hM hS => let ⟨w', he, h'⟩ := hM.evs_stores [.bool false] 3 rfl 0 (Nat.le_of_ble_eq_true rfl); ⟨w', he, h', trivial⟩) ?_
       refine ops_nil (fin_then (st_ret (fin_ret_then (fin_ret_block (fin_ret_then (fin_ret_then (fin_ret_block (fin_ret_then ?_))))))))
       refine fin_outs rfl ?_
       refine outs_mark 9 rfl ?_
       refine outs_conv (M' := Mem w0 (.blk b148 [vI x134.Ent.N, vI x134.Ent.Gen, sl A145 x134.Comps c146] 38 :: .blk b1 [sl A_w_0 w_0 c_w_0, sl A_w_1 w_1 c_w_1, sl A_w_2 w_2 c_w_2] 26 :: .blk b2 [vI r_0, vI r_1] 28 :: .blk b3 [.bool false] 4 :: .blk b50 [sl A51 l53 c52] 23 :: ow A51 l53 c52 3 1 y54 :: ow A102 l104 c103 3 1 y105 :: ow A107 l109 c108 35 2 y110 :: ow A112 l114 c113 3 1 y115 :: Fz F57 W58 :: cs)) (fun _ h => h) ?_
       obtain hq_ := Option.some.inj hp
       subst hq_
       obtain hq_ := hd4 _ rfl
       subst hq_
       have hp : some false = some t9001 := hk4
       have hq_ := Option.some.inj hp
       have hr0_ := hq_
       subst hr0_
       refine outs_nil [.cell 8 4] [.bool false] rfl (fun w_ hM => (.cell rfl (tr_run _ [.v (.bool false)] [ld b3 0 (.bool false)] (.bool false : Value) _ _ (by kernel_rfl) ⟨hM.cell 3 rfl rfl, rfl⟩) .nil)) (fun w_ hM => ?_)
       exact ⟨F57, W58, (((((((h19.trans hx26).trans hx30).trans hx34).trans hx38).trans hx42).trans h48).trans hx1), rfl, hM.pick 10 [9] (by kernel_rfl) (by decide) rfl⟩
      ·
       have hp := cnd_f hc153 hp
       refine st_skip (fin_then ?_)
       refine st_join1 (σ := (Option Addr) × Nat × (List Int) × (List Value)) (L := fun x_ => match x_ with | (A154, c155, l156, y157) => [(1, sl A_with with_1 c_with), (2, sl A_without without c_without), (4, vP b1 0), (7, vP b2 0), (8, vP b3 0), (9, vP b50 0), (12, sl A154 l156 c155), (13, sl A107 l109 c108), (14, sl A112 l114 c113), (16, vP b148 0), (59, sl A_w_2 w_2 c_w_2), (60, vI (w_2.length : Int)), (61, vI i117)]) (N := fun x_ => match x_ with | (A154, c155, l156, y157) => Mem w0 (.blk b1 [sl A_w_0 w_0 c_w_0, sl A_w_1 w_1 c_w_1, sl A_w_2 w_2 c_w_2] 26 :: .blk b2 [vI r_0, vI r_1] 28 :: .blk b3 [.bool false] 4 :: .blk b50 [sl A51 l53 c52] 23 :: ow A51 l53 c52 3 1 y54 :: ow A154 l156 c155 3 1 y157 :: ow A107 l109 c108 35 2 y110 :: ow A112 l114 c113 3 1 y115 :: .blk b148 [vI x134.Ent.N, vI x134.Ent.Gen, sl A145 x134.Comps c146] 38 :: .obj b56 (.deferred (some [])) :: Fz F57 W58 :: cs)) (I := fun x_ => match x_ with | (A154, c155, l156, y157) => ((tourlaw3_QueryFinds_j6 x134 r_0 r_1 l109 l114 i117) l156 = some o4) ∧ (RepL (Rep.int .i64) F57 W58 l156 y157)) ?_ ?_
       ·
        rintro ⟨A154, c155, l156, y157⟩ ⟨hp, h158⟩
        unfold tourlaw3_QueryFinds_j6 at hp
        refine st_seq (st_region [oF 0, oF 1, oF 2, oF 3] (by rfl) ?_)
        refine oQ [oF 0] [(81, vP b148 2), (1, sl A_with with_1 c_with), (2, sl A_without without c_without), (4, vP b1 0), (7, vP b2 0), (8, vP b3 0), (9, vP b50 0), (12, sl A154 l156 c155), (13, sl A107 l109 c108), (14, sl A112 l114 c113), (16, vP b148 0), (59, sl A_w_2 w_2 c_w_2), (60, vI (w_2.length : Int)), (61, vI i117)] (by kernel_rfl) ?_
        refine ops_mem (d := some 82) (an := [.v (sl A145 x134.Comps c146)]) (evs := [ld b148 2 (sl A145 x134.Comps c146)]) (v := sl A145 x134.Comps c146) ⟨by kernel_rfl⟩ (fun w_ hM hS => ⟨w_, ⟨hM.cell 8 rfl rfl, rfl⟩, hM, trivial⟩) ?_
        refine oQ [oF 2, oF 3] [(84, vI 0), (83, vI (x134.Comps.length : Int)), (82, sl A145 x134.Comps c146), (1, sl A_with with_1 c_with), (2, sl A_without without c_without), (4, vP b1 0), (7, vP b2 0), (8, vP b3 0), (9, vP b50 0), (12, sl A154 l156 c155), (13, sl A107 l109 c108), (14, sl A112 l114 c113), (16, vP b148 0), (59, sl A_w_2 w_2 c_w_2), (60, vI (w_2.length : Int)), (61, vI i117)] (by kernel_rfl) ?_
        refine ops_nil (fin_then (st_block ?_))
        obtain ⟨r7, hl7, hk7⟩ := obind hp
        refine st_loopP (σ := (List api_Ent) × (List Int) × Int) (ρ := (List Int) × (List api_Ent) × (List Int)) (γ := (Option Addr) × Nat × (List Value) × (Option Addr) × Nat × (List Value)) hl7 (A107, c108, y110, A112, c113, y115) (fun s_ g_ => match s_, g_ with | (l161, l166, i169), (A159, c160, y162, A164, c165, y167) => [(1, sl A_with with_1 c_with), (2, sl A_without without c_without), (4, vP b1 0), (7, vP b2 0), (8, vP b3 0), (9, vP b50 0), (12, sl A154 l156 c155), (13, sl A159 l161 c160), (14, sl A164 l166 c165), (16, vP b148 0), (59, sl A_w_2 w_2 c_w_2), (60, vI (w_2.length : Int)), (61, vI i117), (82, sl A145 x134.Comps c146), (83, vI (x134.Comps.length : Int)), (84, vI i169)]) (fun s_ g_ => match s_, g_ with | (l161, l166, i169), (A159, c160, y162, A164, c165, y167) => Mem w0 (.blk b1 [sl A_w_0 w_0 c_w_0, sl A_w_1 w_1 c_w_1, sl A_w_2 w_2 c_w_2] 26 :: .blk b2 [vI r_0, vI r_1] 28 :: .blk b3 [.bool false] 4 :: .blk b50 [sl A51 l53 c52] 23 :: ow A51 l53 c52 3 1 y54 :: ow A154 l156 c155 3 1 y157 :: ow A159 l161 c160 35 2 y162 :: ow A164 l166 c165 3 1 y167 :: .blk b148 [vI x134.Ent.N, vI x134.Ent.Gen, sl A145 x134.Comps c146] 38 :: .obj b56 (.deferred (some [])) :: Fz F57 W58 :: cs)) (fun s_ g_ => match s_, g_ with | (l161, l166, i169), (A159, c160, y162, A164, c165, y167) => (RepL R_api_Ent F57 W58 l161 y162) ∧ (RepL (Rep.int .i64) F57 W58 l166 y167)) ⟨h111, h116⟩ (look_has ⟨rfl, rfl, rfl, rfl, rfl, rfl, rfl, rfl, rfl, rfl, rfl, rfl, rfl, rfl, rfl, rfl, trivial⟩) (fun w_ hM => hM) ?_
        rintro ⟨l161, l166, i169⟩ ⟨A159, c160, y162, A164, c165, y167⟩ o7 ⟨h163, h168⟩ hs_ hd7
        have hp : (tourlaw3_QueryFinds_l7 x134 r_0 r_1 l156) l161 l166 i169 = some o7 := hs_
        clear hs_
        unfold tourlaw3_QueryFinds_l7 at hp
        refine st_seq (st_region [oF 0] (by rfl) ?_)
        refine oQ [oF 0] [(85, .bool (decide (i169 < (x134.Comps.length : Int)))), (1, sl A_with with_1 c_with), (2, sl A_without without c_without), (4, vP b1 0), (7, vP b2 0), (8, vP b3 0), (9, vP b50 0), (12, sl A154 l156 c155), (13, sl A159 l161 c160), (14, sl A164 l166 c165), (16, vP b148 0), (59, sl A_w_2 w_2 c_w_2), (60, vI (w_2.length : Int)), (61, vI i117), (82, sl A145 x134.Comps c146), (83, vI (x134.Comps.length : Int)), (84, vI i169)] (by kernel_rfl) ?_
        refine ops_nil (fin_then (st_seq ?_))
        refine st_if (b := decide (i169 < (x134.Comps.length : Int))) rfl (fun hc170 => ?_) (fun hc170 => ?_)
        ·
         have hp := cnd_t hc170 hp
         refine st_skip (fin_then ?_)
         refine st_join1 (σ := (Option Addr) × Nat × (List api_Ent) × (List Value) × (Option Addr) × Nat × (List Int) × (List Value)) (L := fun x_ => match x_ with | (A171, c172, l173, y174, A176, c177, l178, y179) => [(1, sl A_with with_1 c_with), (2, sl A_without without c_without), (4, vP b1 0), (7, vP b2 0), (8, vP b3 0), (9, vP b50 0), (12, sl A154 l156 c155), (13, sl A171 l173 c172), (14, sl A176 l178 c177), (16, vP b148 0), (59, sl A_w_2 w_2 c_w_2), (60, vI (w_2.length : Int)), (61, vI i117), (82, sl A145 x134.Comps c146), (83, vI (x134.Comps.length : Int)), (84, vI i169)]) (N := fun x_ => match x_ with | (A171, c172, l173, y174, A176, c177, l178, y179) => Mem w0 (.blk b1 [sl A_w_0 w_0 c_w_0, sl A_w_1 w_1 c_w_1, sl A_w_2 w_2 c_w_2] 26 :: .blk b2 [vI r_0, vI r_1] 28 :: .blk b3 [.bool false] 4 :: .blk b50 [sl A51 l53 c52] 23 :: ow A51 l53 c52 3 1 y54 :: ow A154 l156 c155 3 1 y157 :: ow A171 l173 c172 35 2 y174 :: ow A176 l178 c177 3 1 y179 :: .blk b148 [vI x134.Ent.N, vI x134.Ent.Gen, sl A145 x134.Comps c146] 38 :: .obj b56 (.deferred (some [])) :: Fz F57 W58 :: cs)) (I := fun x_ => match x_ with | (A171, c172, l173, y174, A176, c177, l178, y179) => ((tourlaw3_QueryFinds_j8 i169) l173 l178 = some o7) ∧ (RepL R_api_Ent F57 W58 l173 y174) ∧ (RepL (Rep.int .i64) F57 W58 l178 y179)) ?_ ?_
         ·
          rintro ⟨A171, c172, l173, y174, A176, c177, l178, y179⟩ ⟨hp, h175, h180⟩
          unfold tourlaw3_QueryFinds_j8 at hp
          refine st_region [oF 0, oF 1] (by rfl) ?_
          refine oQ [oF 0, oF 1] [(84, vI (IntKind.i64.wrap (i169 + 1))), (1, sl A_with with_1 c_with), (2, sl A_without without c_without), (4, vP b1 0), (7, vP b2 0), (8, vP b3 0), (9, vP b50 0), (12, sl A154 l156 c155), (13, sl A171 l173 c172), (14, sl A176 l178 c177), (16, vP b148 0), (59, sl A_w_2 w_2 c_w_2), (60, vI (w_2.length : Int)), (61, vI i117), (82, sl A145 x134.Comps c146), (83, vI (x134.Comps.length : Int))] (by kernel_rfl) ?_
          refine ops_nil ?_
          exact fin_again (l173, l178, IntKind.i64.wrap (i169 + 1)) (A171, c172, y174, A176, c177, y179) (Option.some.inj hp).symm ⟨h175, h180⟩ (look_has ⟨rfl, rfl, rfl, rfl, rfl, rfl, rfl, rfl, rfl, rfl, rfl, rfl, rfl, rfl, rfl, rfl, trivial⟩) (fun w_ hM => hM)
         ·
          intro HJ8
          refine st_seq (st_block (st_seq (st_region [oF 0, oF 1, oF 2, oF 3] (by rfl) ?_)))
          obtain ⟨x181, hv182, hp⟩ := obind hp
          obtain ⟨m183, hm184, hx185⟩ := idx_some hv182
          have hl188 := (List.getElem?_eq_some_iff.1 hx185).1
          obtain ⟨ad189, vs186, hA190, hr187, hq191⟩ := RdS.el h147 hx185
          obtain ⟨A192, c193, rfl, h194⟩ := dec_api_Comp hr187
          refine ops_val (op := (.indexAddr 36 (.tmp 82) (.tmp 84))) (d := some 86) (v := .pointer (some (ad189.add (m183 * 2)))) ⟨by kernel_rfl⟩ (run_indexA hA190 Try.underlying36 (z := 2) (by kernel_rfl) rfl rfl hm184 hl188) ?_
          refine ops_mem (d := some 87) (an := [.v (vI x181.Kind), .v (sl A192 x181.Vals c193)]) (evs := [.load (ad189.add (m183 * 2)) (vI x181.Kind), .load ((ad189.add (m183 * 2)).add 1) (sl A192 x181.Vals c193)]) (v := .agg #[vI x181.Kind, sl A192 x181.Vals c193]) ⟨by kernel_rfl⟩ (fun w_ hM hS => ⟨w_, ⟨hM.elcell 10 rfl hq191 0 rfl, hM.elcell 10 rfl hq191 1 rfl, rfl⟩, hM, trivial⟩) ?_
          refine ops_newB (d := some 19) [vI 0, .slice none 0 0] 43 (fun b195 => ⟨by kernel_rfl⟩) (fun w_ hM hS => trivial) (fun b195 => ?_)
          refine ops_store (an := []) (evs := [sr b195 0 (vI x181.Kind), sr b195 1 (sl A192 x181.Vals c193)]) ⟨by kernel_rfl⟩ (fun w_ hM hS => let ⟨w', he, h'⟩ := hM.evs_stores [vI x181.Kind, sl A192 x181.Vals c193] 0 rfl 0 (Nat.le_of_ble_eq_true rfl); ⟨w', he, h', trivial⟩) ?_
          refine ops_nil (fin_then (st_seq (st_region [oF 0, oF 1, oF 2, oF 3] (by rfl) ?_)))
          refine oQ [oF 0] [(88, vP b195 1), (19, vP b195 0), (1, sl A_with with_1 c_with), (2, sl A_without without c_without), (4, vP b1 0), (7, vP b2 0), (8, vP b3 0), (9, vP b50 0), (12, sl A154 l156 c155), (13, sl A159 l161 c160), (14, sl A164 l166 c165), (16, vP b148 0), (59, sl A_w_2 w_2 c_w_2), (60, vI (w_2.length : Int)), (61, vI i117), (82, sl A145 x134.Comps c146), (83, vI (x134.Comps.length : Int)), (84, vI i169)] (by kernel_rfl) ?_
          refine ops_mem (d := some 89) (an := [.v (sl A192 x181.Vals c193)]) (evs := [ld b195 1 (sl A192 x181.Vals c193)]) (v := sl A192 x181.Vals c193) ⟨by kernel_rfl⟩ (fun w_ hM hS => ⟨w_, ⟨hM.cell 0 rfl rfl, rfl⟩, hM, trivial⟩) ?_
          refine oQ [oF 2, oF 3] [(91, vI 0), (90, vI (x181.Vals.length : Int)), (89, sl A192 x181.Vals c193), (19, vP b195 0), (1, sl A_with with_1 c_with), (2, sl A_without without c_without), (4, vP b1 0), (7, vP b2 0), (8, vP b3 0), (9, vP b50 0), (12, sl A154 l156 c155), (13, sl A159 l161 c160), (14, sl A164 l166 c165), (16, vP b148 0), (59, sl A_w_2 w_2 c_w_2), (60, vI (w_2.length : Int)), (61, vI i117), (82, sl A145 x134.Comps c146), (83, vI (x134.Comps.length : Int)), (84, vI i169)] (by kernel_rfl) ?_
          refine ops_nil (fin_then (st_block ?_))
          obtain ⟨r9, hl9, hk9⟩ := obind hp
          refine st_loopP (σ := (List api_Ent) × (List Int) × Int) (ρ := (List api_Ent) × (List Int)) (γ := (Option Addr) × Nat × (List Value) × (Option Addr) × Nat × (List Value)) hl9 (A159, c160, y162, A164, c165, y167) (fun s_ g_ => match s_, g_ with | (l198, l203, i206), (A196, c197, y199, A201, c202, y204) => [(1, sl A_with with_1 c_with), (2, sl A_without without c_without), (4, vP b1 0), (7, vP b2 0), (8, vP b3 0), (9, vP b50 0), (12, sl A154 l156 c155), (13, sl A196 l198 c197), (14, sl A201 l203 c202), (16, vP b148 0), (19, vP b195 0), (59, sl A_w_2 w_2 c_w_2), (60, vI (w_2.length : Int)), (61, vI i117), (82, sl A145 x134.Comps c146), (83, vI (x134.Comps.length : Int)), (84, vI i169), (89, sl A192 x181.Vals c193), (90, vI (x181.Vals.length : Int)), (91, vI i206)]) (fun s_ g_ => match s_, g_ with | (l198, l203, i206), (A196, c197, y199, A201, c202, y204) => Mem w0 (.blk b1 [sl A_w_0 w_0 c_w_0, sl A_w_1 w_1 c_w_1, sl A_w_2 w_2 c_w_2] 26 :: .blk b2 [vI r_0, vI r_1] 28 :: .blk b3 [.bool false] 4 :: .blk b50 [sl A51 l53 c52] 23 :: ow A51 l53 c52 3 1 y54 :: ow A154 l156 c155 3 1 y157 :: ow A196 l198 c197 35 2 y199 :: ow A201 l203 c202 3 1 y204 :: .blk b148 [vI x134.Ent.N, vI x134.Ent.Gen, sl A145 x134.Comps c146] 38 :: .blk b195 [vI x181.Kind, sl A192 x181.Vals c193] 43 :: .obj b56 (.deferred (some [])) :: Fz F57 W58 :: cs)) (fun s_ g_ => match s_, g_ with | (l198, l203, i206), (A196, c197, y199, A201, c202, y204) => (RepL R_api_Ent F57 W58 l198 y199) ∧ (RepL (Rep.int .i64) F57 W58 l203 y204)) ⟨h163, h168⟩ (look_has ⟨rfl, rfl, rfl, rfl, rfl, rfl, rfl, rfl, rfl, rfl, rfl, rfl, rfl, rfl, rfl, rfl, rfl, rfl, rfl, rfl, trivial⟩) (fun w_ hM => hM.pick 12 [1, 2, 3, 4, 5, 6, 7, 8, 9, 0, 10, 11] (by kernel_rfl) (by decide) rfl) ?_
          rintro ⟨l198, l203, i206⟩ ⟨A196, c197, y199, A201, c202, y204⟩ o9 ⟨h200, h205⟩ hs_ hd9
          have hp : (tourlaw3_QueryFinds_l9 x181 r_0 r_1 x134) l198 l203 i206 = some o9 := hs_
          clear hs_
          unfold tourlaw3_QueryFinds_l9 at hp
          refine st_seq (st_region [oF 0] (by rfl) ?_)
          refine oQ [oF 0] [(92, .bool (decide (i206 < (x181.Vals.length : Int)))), (1, sl A_with with_1 c_with), (2, sl A_without without c_without), (4, vP b1 0), (7, vP b2 0), (8, vP b3 0), (9, vP b50 0), (12, sl A154 l156 c155), (13, sl A196 l198 c197), (14, sl A201 l203 c202), (16, vP b148 0), (19, vP b195 0), (59, sl A_w_2 w_2 c_w_2), (60, vI (w_2.length : Int)), (61, vI i117), (82, sl A145 x134.Comps c146), (83, vI (x134.Comps.length : Int)), (84, vI i169), (89, sl A192 x181.Vals c193), (90, vI (x181.Vals.length : Int)), (91, vI i206)] (by kernel_rfl) ?_
          refine ops_nil (fin_then (st_seq ?_))
          refine st_if (b := decide (i206 < (x181.Vals.length : Int))) rfl (fun hc207 => ?_) (fun hc207 => ?_)
          ·
           have hp := cnd_t hc207 hp
           refine st_skip (fin_then ?_)
           refine st_join1 (σ := (Option Addr) × Nat × (List api_Ent) × (List Value) × (Option Addr) × Nat × (List Int) × (List Value)) (L := fun x_ => match x_ with | (A208, c209, l210, y211, A213, c214, l215, y216) => [(1, sl A_with with_1 c_with), (2, sl A_without without c_without), (4, vP b1 0), (7, vP b2 0), (8, vP b3 0), (9, vP b50 0), (12, sl A154 l156 c155), (13, sl A208 l210 c209), (14, sl A213 l215 c214), (16, vP b148 0), (19, vP b195 0), (59, sl A_w_2 w_2 c_w_2), (60, vI (w_2.length : Int)), (61, vI i117), (82, sl A145 x134.Comps c146), (83, vI (x134.Comps.length : Int)), (84, vI i169), (89, sl A192 x181.Vals c193), (90, vI (x181.Vals.length : Int)), (91, vI i206)]) (N := fun x_ => match x_ with | (A208, c209, l210, y211, A213, c214, l215, y216) => Mem w0 (.blk b1 [sl A_w_0 w_0 c_w_0, sl A_w_1 w_1 c_w_1, sl A_w_2 w_2 c_w_2] 26 :: .blk b2 [vI r_0, vI r_1] 28 :: .blk b3 [.bool false] 4 :: .blk b50 [sl A51 l53 c52] 23 :: ow A51 l53 c52 3 1 y54 :: ow A154 l156 c155 3 1 y157 :: ow A208 l210 c209 35 2 y211 :: ow A213 l215 c214 3 1 y216 :: .blk b148 [vI x134.Ent.N, vI x134.Ent.Gen, sl A145 x134.Comps c146] 38 :: .blk b195 [vI x181.Kind, sl A192 x181.Vals c193] 43 :: .obj b56 (.deferred (some [])) :: Fz F57 W58 :: cs)) (I := fun x_ => match x_ with | (A208, c209, l210, y211, A213, c214, l215, y216) => ((tourlaw3_QueryFinds_j10 i206) l210 l215 = some o9) ∧ (RepL R_api_Ent F57 W58 l210 y211) ∧ (RepL (Rep.int .i64) F57 W58 l215 y216)) ?_ ?_
           ·
            rintro ⟨A208, c209, l210, y211, A213, c214, l215, y216⟩ ⟨hp, h212, h217⟩
            unfold tourlaw3_QueryFinds_j10 at hp
            refine st_region [oF 0, oF 1] (by rfl) ?_
            refine oQ [oF 0, oF 1] [(91, vI (IntKind.i64.wrap (i206 + 1))), (1, sl A_with with_1 c_with), (2, sl A_without without c_without), (4, vP b1 0), (7, vP b2 0), (8, vP b3 0), (9, vP b50 0), (12, sl A154 l156 c155), (13, sl A208 l210 c209), (14, sl A213 l215 c214), (16, vP b148 0), (19, vP b195 0), (59, sl A_w_2 w_2 c_w_2), (60, vI (w_2.length : Int)), (61, vI i117), (82, sl A145 x134.Comps c146), (83, vI (x134.Comps.length : Int)), (84, vI i169), (89, sl A192 x181.Vals c193), (90, vI (x181.Vals.length : Int))] (by kernel_rfl) ?_
            refine ops_nil ?_
            exact fin_again (l210, l215, IntKind.i64.wrap (i206 + 1)) (A208, c209, y211, A213, c214, y216) (Option.some.inj hp).symm ⟨h212, h217⟩ (look_has ⟨rfl, rfl, rfl, rfl, rfl, rfl, rfl, rfl, rfl, rfl, rfl, rfl, rfl, rfl, rfl, rfl, rfl, rfl, rfl, rfl, trivial⟩) (fun w_ hM => hM)
           ·
            intro HJ10
            refine st_seq (st_block (st_seq (st_region [oF 0, oF 1, oF 2, oF 3, oF 4] (by rfl) ?_)))
            refine oQ [oF 0] [(93, vI i206), (1, sl A_with with_1 c_with), (2, sl A_without without c_without), (4, vP b1 0), (7, vP b2 0), (8, vP b3 0), (9, vP b50 0), (12, sl A154 l156 c155), (13, sl A196 l198 c197), (14, sl A201 l203 c202), (16, vP b148 0), (19, vP b195 0), (59, sl A_w_2 w_2 c_w_2), (60, vI (w_2.length : Int)), (61, vI i117), (82, sl A145 x134.Comps c146), (83, vI (x134.Comps.length : Int)), (84, vI i169), (89, sl A192 x181.Vals c193), (90, vI (x181.Vals.length : Int)), (91, vI i206)] (by kernel_rfl) ?_
            obtain ⟨x218, hv219, hp⟩ := obind hp
            obtain ⟨m220, hm221, hx222⟩ := idx_some hv219
            have hl225 := (List.getElem?_eq_some_iff.1 hx222).1
            obtain ⟨ad226, vs223, hA227, hr224, hq228⟩ := RdS.el h194 hx222
            obtain rfl := hr224
            refine ops_val (op := (.indexAddr 23 (.tmp 89) (.tmp 91))) (d := some 94) (v := .pointer (some (ad226.add (m220 * 1)))) ⟨by kernel_rfl⟩ (run_indexA hA227 Try.underlying23 (z := 1) (by kernel_rfl) rfl rfl hm221 hl225) ?_
            refine ops_mem (d := some 95) (an := [.v (vI x218)]) (evs := [.load (ad226.add (m220 * 1)) (vI x218)]) (v := vI x218) ⟨by kernel_rfl⟩ (fun w_ hM hS => ⟨w_, ⟨hM.elcell 11 rfl hq228 0 rfl, rfl⟩, hM, trivial⟩) ?_
            refine oQ [oF 3, oF 4] [(21, vI x218), (20, vI i206), (1, sl A_with with_1 c_with), (2, sl A_without without c_without), (4, vP b1 0), (7, vP b2 0), (8, vP b3 0), (9, vP b50 0), (12, sl A154 l156 c155), (13, sl A196 l198 c197), (14, sl A201 l203 c202), (16, vP b148 0), (19, vP b195 0), (59, sl A_w_2 w_2 c_w_2), (60, vI (w_2.length : Int)), (61, vI i117), (82, sl A145 x134.Comps c146), (83, vI (x134.Comps.length : Int)), (84, vI i169), (89, sl A192 x181.Vals c193), (90, vI (x181.Vals.length : Int)), (91, vI i206)] (by kernel_rfl) ?_
            refine ops_nil (fin_then (st_seq (st_region [oF 0, oF 1, oF 2, oF 3, oF 4, oF 5, oF 6, oF 7, oF 8, oF 9, oF 10] (by rfl) ?_)))
            refine oQ [oF 0] [(96, vP b195 0), (21, vI x218), (20, vI i206), (1, sl A_with with_1 c_with), (2, sl A_without without c_without), (4, vP b1 0), (7, vP b2 0), (8, vP b3 0), (9, vP b50 0), (12, sl A154 l156 c155), (13, sl A196 l198 c197), (14, sl A201 l203 c202), (16, vP b148 0), (19, vP b195 0), (59, sl A_w_2 w_2 c_w_2), (60, vI (w_2.length : Int)), (61, vI i117), (82, sl A145 x134.Comps c146), (83, vI (x134.Comps.length : Int)), (84, vI i169), (89, sl A192 x181.Vals c193), (90, vI (x181.Vals.length : Int)), (91, vI i206)] (by kernel_rfl) ?_
            refine ops_mem (d := some 97) (an := [.v (vI x181.Kind)]) (evs := [ld b195 0 (vI x181.Kind)]) (v := vI x181.Kind) ⟨by kernel_rfl⟩ (fun w_ hM hS => ⟨w_, ⟨hM.cell 9 rfl rfl, rfl⟩, hM, trivial⟩) ?_
            refine oQ [oF 2] [(98, vP b2 0), (97, vI x181.Kind), (21, vI x218), (20, vI i206), (1, sl A_with with_1 c_with), (2, sl A_without without c_without), (4, vP b1 0), (7, vP b2 0), (8, vP b3 0), (9, vP b50 0), (12, sl A154 l156 c155), (13, sl A196 l198 c197), (14, sl A201 l203 c202), (16, vP b148 0), (19, vP b195 0), (59, sl A_w_2 w_2 c_w_2), (60, vI (w_2.length : Int)), (61, vI i117), (82, sl A145 x134.Comps c146), (83, vI (x134.Comps.length : Int)), (84, vI i169), (89, sl A192 x181.Vals c193), (90, vI (x181.Vals.length : Int)), (91, vI i206)] (by kernel_rfl) ?_
            refine ops_mem (d := some 99) (an := [.v (vI r_0)]) (evs := [ld b2 0 (vI r_0)]) (v := vI r_0) ⟨by kernel_rfl⟩ (fun w_ hM hS => ⟨w_, ⟨hM.cell 1 rfl rfl, rfl⟩, hM, trivial⟩) ?_
            refine oQ [oF 4, oF 5] [(101, .bool (x181.Kind == r_0)), (21, vI x218), (20, vI i206), (1, sl A_with with_1 c_with), (2, sl A_without without c_without), (4, vP b1 0), (7, vP b2 0), (8, vP b3 0), (9, vP b50 0), (12, sl A154 l156 c155), (13, sl A196 l198 c197), (14, sl A201 l203 c202), (16, vP b148 0), (19, vP b195 0), (59, sl A_w_2 w_2 c_w_2), (60, vI (w_2.length : Int)), (61, vI i117), (82, sl A145 x134.Comps c146), (83, vI (x134.Comps.length : Int)), (84, vI i169), (89, sl A192 x181.Vals c193), (90, vI (x181.Vals.length : Int)), (91, vI i206)] (by kernel_rfl) ?_
            refine ops_bool (t := (x181.Kind == r_0)) (l1 := [(101, .bool true), (21, vI x218), (20, vI i206), (1, sl A_with with_1 c_with), (2, sl A_without without c_without), (4, vP b1 0), (7, vP b2 0), (8, vP b3 0), (9, vP b50 0), (12, sl A154 l156 c155), (13, sl A196 l198 c197), (14, sl A201 l203 c202), (16, vP b148 0), (19, vP b195 0), (59, sl A_w_2 w_2 c_w_2), (60, vI (w_2.length : Int)), (61, vI i117), (82, sl A145 x134.Comps c146), (83, vI (x134.Comps.length : Int)), (84, vI i169), (89, sl A192 x181.Vals c193), (90, vI (x181.Vals.length : Int)), (91, vI i206)]) (l2 := [(101, .bool false), (21, vI x218), (20, vI i206), (1, sl A_with with_1 c_with), (2, sl A_without without c_without), (4, vP b1 0), (7, vP b2 0), (8, vP b3 0), (9, vP b50 0), (12, sl A154 l156 c155), (13, sl A196 l198 c197), (14, sl A201 l203 c202), (16, vP b148 0), (19, vP b195 0), (59, sl A_w_2 w_2 c_w_2), (60, vI (w_2.length : Int)), (61, vI i117), (82, sl A145 x134.Comps c146), (83, vI (x134.Comps.length : Int)), (84, vI i169), (89, sl A192 x181.Vals c193), (90, vI (x181.Vals.length : Int)), (91, vI i206)]) (fun h => by rw [h]) (fun h => by rw [h]) (fun hc229 => ?_) (fun hc229 => ?_)
            ·
             have hp := cnd_t hc229 hp
             refine oQ [oF 6, oF 7] [(103, vP b2 1), (102, vI i206), (101, .bool true), (21, vI x218), (1, sl A_with with_1 c_with), (2, sl A_without without c_without), (4, vP b1 0), (7, vP b2 0), (8, vP b3 0), (9, vP b50 0), (12, sl A154 l156 c155), (13, sl A196 l198 c197), (14, sl A201 l203 c202), (16, vP b148 0), (19, vP b195 0), (59, sl A_w_2 w_2 c_w_2), (60, vI (w_2.length : Int)), (61, vI i117), (82, sl A145 x134.Comps c146), (83, vI (x134.Comps.length : Int)), (84, vI i169), (89, sl A192 x181.Vals c193), (90, vI (x181.Vals.length : Int)), (91, vI i206)] (by kernel_rfl) ?_
             refine ops_mem (d := some 104) (an := [.v (vI r_1)]) (evs := [ld b2 1 (vI r_1)]) (v := vI r_1) ⟨by kernel_rfl⟩ (fun w_ hM hS => ⟨w_, ⟨hM.cell 1 rfl rfl, rfl⟩, hM, trivial⟩) ?_
             refine oQ [oF 9, oF 10] [(106, .bool (i206 == r_1)), (21, vI x218), (1, sl A_with with_1 c_with), (2, sl A_without without c_without), (4, vP b1 0), (7, vP b2 0), (8, vP b3 0), (9, vP b50 0), (12, sl A154 l156 c155), (13, sl A196 l198 c197), (14, sl A201 l203 c202), (16, vP b148 0), (19, vP b195 0), (59, sl A_w_2 w_2 c_w_2), (60, vI (w_2.length : Int)), (61, vI i117), (82, sl A145 x134.Comps c146), (83, vI (x134.Comps.length : Int)), (84, vI i169), (89, sl A192 x181.Vals c193), (90, vI (x181.Vals.length : Int)), (91, vI i206)] (by kernel_rfl) ?_
             refine ops_nil (fin_then ?_)
             refine st_if (b := (i206 == r_1)) rfl (fun hc230 => ?_) (fun hc230 => ?_)
             ·
              have hp := cnd_t hc230 hp
              refine st_region [oF 0, oF 1, oF 2, oF 3, oF 4, oF 5, oF 6, oF 7, oF 8, oF 9, oF 10] (by rfl) ?_
              refine oQ [oF 0, oF 1] [(108, vP b148 0), (107, sl A196 l198 c197), (21, vI x218), (1, sl A_with with_1 c_with), (2, sl A_without without c_without), (4, vP b1 0), (7, vP b2 0), (8, vP b3 0), (9, vP b50 0), (12, sl A154 l156 c155), (13, sl A196 l198 c197), (14, sl A201 l203 c202), (16, vP b148 0), (19, vP b195 0), (59, sl A_w_2 w_2 c_w_2), (60, vI (w_2.length : Int)), (61, vI i117), (82, sl A145 x134.Comps c146), (83, vI (x134.Comps.length : Int)), (84, vI i169), (89, sl A192 x181.Vals c193), (90, vI (x181.Vals.length : Int)), (91, vI i206)] (by kernel_rfl) ?_
              refine ops_mem (d := some 109) (an := [.v (vI x134.Ent.N), .v (vI x134.Ent.Gen)]) (evs := [ld b148 0 (vI x134.Ent.N), ld b148 1 (vI x134.Ent.Gen)]) (v := .agg #[vI x134.Ent.N, vI x134.Ent.Gen]) ⟨by kernel_rfl⟩ (fun w_ hM hS => ⟨w_, ⟨hM.cell 8 rfl rfl, hM.cell 8 rfl rfl, rfl⟩, hM, trivial⟩) ?_
              have h231 : RepL R_api_Ent F57 W58 ([(api_Ent.mk x134.Ent.N x134.Ent.Gen)] : List api_Ent) ([vI x134.Ent.N, vI x134.Ent.Gen]) := (RepL.cons (R := R_api_Ent) (F := F57) (w := W58) (vs := [vI x134.Ent.N, vI x134.Ent.Gen]) (ys := []) (enc_api_Ent) RepL.nil)
              refine ops_new (d := some 110) (o := .cells ([vI x134.Ent.N, vI x134.Ent.Gen] : List Value).toArray 35) (v := fun g232 => .slice (sa g232) ([(api_Ent.mk x134.Ent.N x134.Ent.Gen)] : List api_Ent).length 1) (M' := fun g232 => Mem w0 (orow (sa g232) ([(api_Ent.mk x134.Ent.N x134.Ent.Gen)] : List api_Ent).length 1 35 2 ([vI x134.Ent.N, vI x134.Ent.Gen]) :: .blk b1 [sl A_w_0 w_0 c_w_0, sl A_w_1 w_1 c_w_1, sl A_w_2 w_2 c_w_2] 26 :: .blk b2 [vI r_0, vI r_1] 28 :: .blk b3 [.bool false] 4 :: .blk b50 [sl A51 l53 c52] 23 :: ow A51 l53 c52 3 1 y54 :: ow A154 l156 c155 3 1 y157 :: ow A196 l198 c197 35 2 y199 :: ow A201 l203 c202 3 1 y204 :: .blk b148 [vI x134.Ent.N, vI x134.Ent.Gen, sl A145 x134.Comps c146] 38 :: .blk b195 [vI x181.Kind, sl A192 x181.Vals c193] 43 :: .obj b56 (.deferred (some [])) :: Fz F57 W58 :: cs)) (fun g232 => ⟨by kernel_rfl⟩) (fun w_ hM hS => ⟨hM.onew [vI x134.Ent.N, vI x134.Ent.Gen] 35 1 2 rfl (by decide), trivial⟩) (fun g232 => ?_)
              obtain ⟨l233, hv234, hp⟩ := obind hp
              obtain ⟨he235, hb236⟩ := app_some hv234
              obtain ⟨y237, hy238⟩ : ∃ y_, y199 ++ ([vI x134.Ent.N, vI x134.Ent.Gen]) = y_ := ⟨_, rfl⟩
              have h239 : RepL R_api_Ent F57 W58 l233 y237 := by rw [he235, ← hy238]; exact RepL.app h200 h231
              refine ops_appendO (x := (Go.Operand.tmp 107)) (y := (Go.Operand.tmp 110)) (t := 40) (e := 35) (d := some 111) (n' := l233.length) (z := 2) (m := ([(api_Ent.mk x134.Ent.N x134.Ent.Gen)] : List api_Ent).length) (bytes := 16) (xs' := y237) (news := ([vI x134.Ent.N, vI x134.Ent.Gen])) (zv := .agg #[vI 0, vI 0]) 7 ⟨by kernel_rfl⟩ rfl rfl Try.underlying40 (by kernel_rfl) (by rfl) rfl (fun w_ hM => hM.srcO 0 rfl) h231.len h231.one hb236 (by have z_ := congrArg List.length he235; rw [List.length_append] at z_; exact z_.symm) hy238 (fun _ _ _ _ hS h' => trivial) ?_
              rintro ⟨A240, c241⟩
              refine oQ [oF 5, oF 6] [(113, vI x218), (112, sl A201 l203 c202), (111, sl A240 l233 c241), (1, sl A_with with_1 c_with), (2, sl A_without without c_without), (4, vP b1 0), (7, vP b2 0), (8, vP b3 0), (9, vP b50 0), (12, sl A154 l156 c155), (13, sl A196 l198 c197), (14, sl A201 l203 c202), (16, vP b148 0), (19, vP b195 0), (59, sl A_w_2 w_2 c_w_2), (60, vI (w_2.length : Int)), (61, vI i117), (82, sl A145 x134.Comps c146), (83, vI (x134.Comps.length : Int)), (84, vI i169), (89, sl A192 x181.Vals c193), (90, vI (x181.Vals.length : Int)), (91, vI i206)] (by kernel_rfl) ?_
              have h242 : RepL (Rep.int .i64) F57 W58 ([x218] : List Int) ([vI x218]) := (RepL.cons (R := (Rep.int .i64)) (F := F57) (w := W58) (vs := [vI x218]) (ys := []) rfl RepL.nil)
              refine ops_new (d := some 114) (o := .cells ([vI x218] : List Value).toArray 3) (v := fun g243 => .slice (sa g243) ([x218] : List Int).length 1) (M' := fun g243 => Mem w0 (orow (sa g243) ([x218] : List Int).length 1 3 1 ([vI x218]) :: orow (sa g232) ([(api_Ent.mk x134.Ent.N x134.Ent.Gen)] : List api_Ent).length 1 35 2 ([vI x134.Ent.N, vI x134.Ent.Gen]) :: .blk b1 [sl A_w_0 w_0 c_w_0, sl A_w_1 w_1 c_w_1, sl A_w_2 w_2 c_w_2] 26 :: .blk b2 [vI r_0, vI r_1] 28 :: .blk b3 [.bool false] 4 :: .blk b50 [sl A51 l53 c52] 23 :: ow A51 l53 c52 3 1 y54 :: ow A154 l156 c155 3 1 y157 :: ow A240 l233 c241 35 2 y237 :: ow A201 l203 c202 3 1 y204 :: .blk b148 [vI x134.Ent.N, vI x134.Ent.Gen, sl A145 x134.Comps c146] 38 :: .blk b195 [vI x181.Kind, sl A192 x181.Vals c193] 43 :: .obj b56 (.deferred (some [])) :: Fz F57 W58 :: cs)) (fun g243 => ⟨by kernel_rfl⟩) (fun w_ hM hS => ⟨hM.onew [vI x218] 3 1 1 rfl (by decide), trivial⟩) (fun g243 => ?_)
              obtain ⟨l244, hv245, hp⟩ := obind hp
              obtain ⟨he246, hb247⟩ := app_some hv245
              obtain ⟨y248, hy249⟩ : ∃ y_, y204 ++ ([vI x218]) = y_ := ⟨_, rfl⟩
              have h250 : RepL (Rep.int .i64) F57 W58 l244 y248 := by rw [he246, ← hy249]; exact RepL.app h205 h242
              refine ops_appendO (x := (Go.Operand.tmp 112)) (y := (Go.Operand.tmp 114)) (t := 23) (e := 3) (d := some 115) (n' := l244.length) (z := 1) (m := ([x218] : List Int).length) (bytes := 8) (xs' := y248) (news := ([vI x218])) (zv := vI 0) 9 ⟨by kernel_rfl⟩ rfl rfl Try.underlying23 (by kernel_rfl) (by rfl) rfl (fun w_ hM => hM.srcO 0 rfl) h242.len h242.one hb247 (by have z_ := congrArg List.length he246; rw [List.length_append] at z_; exact z_.symm) hy249 (fun _ _ _ _ hS h' => trivial) ?_
              rintro ⟨A251, c252⟩
              refine oQ [oF 9, oF 10] [(14, sl A251 l244 c252), (13, sl A240 l233 c241), (1, sl A_with with_1 c_with), (2, sl A_without without c_without), (4, vP b1 0), (7, vP b2 0), (8, vP b3 0), (9, vP b50 0), (12, sl A154 l156 c155), (16, vP b148 0), (19, vP b195 0), (59, sl A_w_2 w_2 c_w_2), (60, vI (w_2.length : Int)), (61, vI i117), (82, sl A145 x134.Comps c146), (83, vI (x134.Comps.length : Int)), (84, vI i169), (89, sl A192 x181.Vals c193), (90, vI (x181.Vals.length : Int)), (91, vI i206)] (by kernel_rfl) ?_
              refine ops_nil (fin_block ?_)
              exact fin_join HJ10 (A240, c241, l233, y237, A251, c252, l244, y248) ⟨hp, h239, h250⟩ (look_has ⟨rfl, rfl, rfl, rfl, rfl, rfl, rfl, rfl, rfl, rfl, rfl, rfl, rfl, rfl, rfl, rfl, rfl, rfl, rfl, rfl, trivial⟩) (fun w_ hM => hM.pick 14 [2, 3, 4, 5, 6, 7, 8, 9, 10, 11, 12, 13] (by kernel_rfl) (by decide) rfl)
             ·
              have hp := cnd_f hc230 hp
              refine st_skip (fin_block ?_)
              exact fin_join HJ10 (A196, c197, l198, y199, A201, c202, l203, y204) ⟨hp, h200, h205⟩ (look_has ⟨rfl, rfl, rfl, rfl, rfl, rfl, rfl, rfl, rfl, rfl, rfl, rfl, rfl, rfl, rfl, rfl, rfl, rfl, rfl, rfl, trivial⟩) (fun w_ hM => hM)
            ·
             have hp := cnd_f hc229 hp
             refine oQ [oF 6, oF 7, oF 8, oF 9, oF 10] [(106, .bool false), (21, vI x218), (1, sl A_with with_1 c_with), (2, sl A_without without c_without), (4, vP b1 0), (7, vP b2 0), (8, vP b3 0), (9, vP b50 0), (12, sl A154 l156 c155), (13, sl A196 l198 c197), (14, sl A201 l203 c202), (16, vP b148 0), (19, vP b195 0), (59, sl A_w_2 w_2 c_w_2), (60, vI (w_2.length : Int)), (61, vI i117), (82, sl A145 x134.Comps c146), (83, vI (x134.Comps.length : Int)), (84, vI i169), (89, sl A192 x181.Vals c193), (90, vI (x181.Vals.length : Int)), (91, vI i206)] (by kernel_rfl) ?_
             refine ops_nil (fin_then (st_false rfl (st_skip (fin_block ?_))))
             exact fin_join HJ10 (A196, c197, l198, y199, A201, c202, l203, y204) ⟨hp, h200, h205⟩ (look_has ⟨rfl, rfl, rfl, rfl, rfl, rfl, rfl, rfl, rfl, rfl, rfl, rfl, rfl, rfl, rfl, rfl, rfl, rfl, rfl, rfl, trivial⟩) (fun w_ hM => hM)
          ·
           have hp := cnd_f hc207 hp
           refine st_exit (fin_exit_then (fin_exit_then (fin_exit (fin_block ?_))))
           obtain hq_ := Option.some.inj hp
           subst hq_
           obtain hq_ := hd9 _ rfl
           subst hq_
           have hp : (tourlaw3_QueryFinds_j8 i169) l198 l203 = some o7 := hk9
           exact fin_join HJ8 (A196, c197, l198, y199, A201, c202, l203, y204) ⟨hp, h200, h205⟩ (look_has ⟨rfl, rfl, rfl, rfl, rfl, rfl, rfl, rfl, rfl, rfl, rfl, rfl, rfl, rfl, rfl, rfl, trivial⟩) (fun w_ hM => hM.pick 12 [0, 1, 2, 3, 4, 5, 6, 7, 8, 10, 11] (by kernel_rfl) (by decide) rfl)
        ·
         have hp := cnd_f hc170 hp
         refine st_exit (fin_exit_then (fin_exit_then (fin_exit (fin_block ?_))))
         obtain hq_ := Option.some.inj hp
         subst hq_
         obtain hq_ := hd7 _ rfl
         subst hq_
         have hp : (tourlaw3_QueryFinds_j5 i117) l156 l161 l166 = some o4 := hk7
         exact fin_join HJ5 (A154, c155, l156, y157, A159, c160, l161, y162, A164, c165, l166, y167) ⟨hp, h158, h163, h168⟩ (look_has ⟨rfl, rfl, rfl, rfl, rfl, rfl, rfl, rfl, rfl, rfl, rfl, rfl, trivial⟩) (fun w_ hM => hM.pick 11 [0, 1, 2, 3, 4, 5, 6, 7, 9, 10] (by kernel_rfl) (by decide) rfl)
       ·
        intro HJ6
        refine st_seq (st_seq (st_region [oF 0] (by rfl) ?_))
        refine oQ [oF 0] [(76, .bool x149), (15, vI i117), (16, vP b148 0), (1, sl A_with with_1 c_with), (2, sl A_without without c_without), (4, vP b1 0), (7, vP b2 0), (8, vP b3 0), (9, vP b50 0), (12, sl A102 l104 c103), (13, sl A107 l109 c108), (14, sl A112 l114 c113), (59, sl A_w_2 w_2 c_w_2), (60, vI (w_2.length : Int)), (61, vI i117)] (by kernel_rfl) ?_
        refine ops_nil (fin_then ?_)
        refine st_if (b := x149) rfl (fun hc253 => ?_) (fun hc253 => ?_)
        ·
         have hp := cnd_t hc253 hp
         refine st_region [oF 0, oF 1, oF 2, oF 3, oF 4] (by rfl) ?_
         refine oQ [oF 0, oF 1] [(78, vI i117), (77, sl A102 l104 c103), (16, vP b148 0), (1, sl A_with with_1 c_with), (2, sl A_without without c_without), (4, vP b1 0), (7, vP b2 0), (8, vP b3 0), (9, vP b50 0), (12, sl A102 l104 c103), (13, sl A107 l109 c108), (14, sl A112 l114 c113), (59, sl A_w_2 w_2 c_w_2), (60, vI (w_2.length : Int)), (61, vI i117)] (by kernel_rfl) ?_
         have h254 : RepL (Rep.int .i64) F57 W58 ([i117] : List Int) ([vI i117]) := (RepL.cons (R := (Rep.int .i64)) (F := F57) (w := W58) (vs := [vI i117]) (ys := []) rfl RepL.nil)
         refine ops_new (d := some 79) (o := .cells ([vI i117] : List Value).toArray 3) (v := fun g255 => .slice (sa g255) ([i117] : List Int).length 1) (M' := fun g255 => Mem w0 (orow (sa g255) ([i117] : List Int).length 1 3 1 ([vI i117]) :: .blk b148 [vI x134.Ent.N, vI x134.Ent.Gen, sl A145 x134.Comps c146] 38 :: .blk b1 [sl A_w_0 w_0 c_w_0, sl A_w_1 w_1 c_w_1, sl A_w_2 w_2 c_w_2] 26 :: .blk b2 [vI r_0, vI r_1] 28 :: .blk b3 [.bool false] 4 :: .blk b50 [sl A51 l53 c52] 23 :: ow A51 l53 c52 3 1 y54 :: ow A102 l104 c103 3 1 y105 :: ow A107 l109 c108 35 2 y110 :: ow A112 l114 c113 3 1 y115 :: .obj b56 (.deferred (some [])) :: Fz F57 W58 :: cs)) (fun g255 => ⟨by kernel_rfl⟩) (fun w_ hM hS => ⟨hM.onew [vI i117] 3 1 1 rfl (by decide), trivial⟩) (fun g255 => ?_)
         obtain ⟨l256, hv257, hp⟩ := obind hp
         obtain ⟨he258, hb259⟩ := app_some hv257
         obtain ⟨y260, hy261⟩ : ∃ y_, y105 ++ ([vI i117]) = y_ := ⟨_, rfl⟩
         have h262 : RepL (Rep.int .i64) F57 W58 l256 y260 := by rw [he258, ← hy261]; exact RepL.app h106 h254
         refine ops_appendO (x := (Go.Operand.tmp 77)) (y := (Go.Operand.tmp 79)) (t := 23) (e := 3) (d := some 80) (n' := l256.length) (z := 1) (m := ([i117] : List Int).length) (bytes := 8) (xs' := y260) (news := ([vI i117])) (zv := vI 0) 7 ⟨by kernel_rfl⟩ rfl rfl Try.underlying23 (by kernel_rfl) (by rfl) rfl (fun w_ hM => hM.srcO 0 rfl) h254.len h254.one hb259 (by have z_ := congrArg List.length he258; rw [List.length_append] at z_; exact z_.symm) hy261 (fun _ _ _ _ hS h' => trivial) ?_
         rintro ⟨A263, c264⟩
         refine oQ [oF 4] [(12, sl A263 l256 c264), (16, vP b148 0), (1, sl A_with with_1 c_with), (2, sl A_without without c_without), (4, vP b1 0), (7, vP b2 0), (8, vP b3 0), (9, vP b50 0), (13, sl A107 l109 c108), (14, sl A112 l114 c113), (59, sl A_w_2 w_2 c_w_2), (60, vI (w_2.length : Int)), (61, vI i117)] (by kernel_rfl) ?_
         refine ops_nil ?_
         exact fin_join HJ6 (A263, c264, l256, y260) ⟨hp, h262⟩ (look_has ⟨rfl, rfl, rfl, rfl, rfl, rfl, rfl, rfl, rfl, rfl, rfl, rfl, rfl, trivial⟩) (fun w_ hM => hM.pick 12 [2, 3, 4, 5, 6, 7, 8, 9, 1, 10, 11] (by kernel_rfl) (by decide) rfl)
        ·
         have hp := cnd_f hc253 hp
         refine st_skip ?_
         exact fin_join HJ6 (A102, c103, l104, y105) ⟨hp, h106⟩ (look_has ⟨rfl, rfl, rfl, rfl, rfl, rfl, rfl, rfl, rfl, rfl, rfl, rfl, rfl, trivial⟩) (fun w_ hM => hM.pick 11 [1, 2, 3, 4, 5, 6, 7, 8, 0, 9, 10] (by kernel_rfl) (by decide) rfl)
    ·
     have hp := cnd_f hc118 hp
     refine st_exit (fin_exit_then (fin_exit_then (fin_exit ?_)))
     obtain hq_ := Option.some.inj hp
     subst hq_
     obtain hq_ := hd4 _ rfl
     subst hq_
     have hp : (tourlaw3_QueryFinds_j2 w_0 w_1 w_2 r_0 r_1 l53 with_1 without) l104 l109 l114 = some t9001 := hk4
     exact fin_join HJ2 (A102, c103, l104, y105, A107, c108, l109, y110, A112, c113, l114, y115) ⟨hp, h106, h111, h116⟩ (look_has ⟨rfl, rfl, rfl, rfl, rfl, rfl, rfl, rfl, rfl, trivial⟩) (fun w_ hM => hM)
  ·
   intro HJ1
   refine st_seq (st_seq (st_region [oF 0, oF 1, oF 2, oF 3] (by rfl) ?_))
   refine ops_mem (d := some 29) (an := [.v (sl A_w_0 w_0 c_w_0), .v (sl A_w_1 w_1 c_w_1), .v (sl A_w_2 w_2 c_w_2)]) (evs := [ld b1 0 (sl A_w_0 w_0 c_w_0), ld b1 1 (sl A_w_1 w_1 c_w_1), ld b1 2 (sl A_w_2 w_2 c_w_2)]) (v := .agg #[sl A_w_0 w_0 c_w_0, sl A_w_1 w_1 c_w_1, sl A_w_2 w_2 c_w_2]) ⟨by kernel_rfl⟩ (fun w_ hM hS => ⟨w_, ⟨hM.cell 3 rfl rfl, hM.cell 3 rfl rfl, hM.cell 3 rfl rfl, rfl⟩, hM, trivial⟩) ?_
   refine oQ [oF 1, oF 2] [(31, sl A_without without c_without), (30, sl A_with with_1 c_with), (29, .agg #[sl A_w_0 w_0 c_w_0, sl A_w_1 w_1 c_w_1, sl A_w_2 w_2 c_w_2]), (9, vP b50 0), (8, vP b3 0), (7, vP b2 0), (4, vP b1 0), (1, sl A_with with_1 c_with), (2, sl A_without without c_without)] (by kernel_rfl) ?_
   obtain ⟨x265, hv266, hp⟩ := obind hp
   refine ops_callI (σ := Nat × (Option Addr) × Nat × (List Value) × (Nat → Prop) × World) (d := some 32) (f := 9) (args := #[.agg #[sl A_w_0 w_0 c_w_0, sl A_w_1 w_1 c_w_1, sl A_w_2 w_2 c_w_2], sl A_with with_1 c_with, sl A_without without c_without]) (v := (fun x_ => match x_ with | (b267, A268, c269, y270, F271, W272) => .func (.func 58) #[] #[vP b267 0])) (I := (fun x_ => match x_ with | (b267, A268, c269, y270, F271, W272) => (RepL R_query_row F271 W272 x265 y270) ∧ (Ext w0 F46 W47 F271 W272))) (M' := (fun x_ => match x_ with | (b267, A268, c269, y270, F271, W272) => Mem w0 (.blk b267 [sl A268 x265 c269] 107 :: ow A268 x265 c269 110 4 y270 :: .blk b50 [.slice none 0 0] 23 :: .blk b3 [.bool false] 4 :: .blk b2 [vI r_0, vI r_1] 28 :: .blk b1 [sl A_w_0 w_0 c_w_0, sl A_w_1 w_1 c_w_1, sl A_w_2 w_2 c_w_2] 26 :: Fz F271 W272 :: cs))) ⟨by kernel_rfl⟩ (fun w_ hM hS => (query_All_ok w0 w_ (.blk b50 [.slice none 0 0] 23 :: .blk b3 [.bool false] 4 :: .blk b2 [vI r_0, vI r_1] 28 :: .blk b1 [sl A_w_0 w_0 c_w_0, sl A_w_1 w_1 c_w_1, sl A_w_2 w_2 c_w_2] 26 :: cs) F46 W47 A_w_0 c_w_0 w_0 A_w_1 c_w_1 w_1 A_w_2 c_w_2 w_2 A_with c_with with_1 A_without c_without without (hM.pick 5 [4, 0, 1, 2, 3] (by kernel_rfl) (by decide) rfl) h_w_0 h_w_1 h_w_2 h_with h_without x265 hv266).mono (by rintro e w' ⟨b267, A268, c269, y270, F271, W272, ⟨h273, h274⟩, rfl, h'⟩; have h' : Mem w0 (.blk b267 [sl A268 x265 c269] 107 :: ow A268 x265 c269 110 4 y270 :: .blk b50 [.slice none 0 0] 23 :: .blk b3 [.bool false] 4 :: .blk b2 [vI r_0, vI r_1] 28 :: .blk b1 [sl A_w_0 w_0 c_w_0, sl A_w_1 w_1 c_w_1, sl A_w_2 w_2 c_w_2] 26 :: Fz F271 W272 :: cs) w' := (h'.pick 7 [0, 1, 3, 4, 5, 6, 2] (by kernel_rfl) (by decide) rfl); exact ⟨(b267, A268, c269, y270, F271, W272), ⟨h273, h274⟩, rfl, h', trivial⟩)) ?_
   rintro ⟨b267, A268, c269, y270, F271, W272⟩ ⟨h273, h274⟩
   have h_without := h_without.ext h274
   have h_with := h_with.ext h274
   have h_w_0 := h_w_0.ext h274
   have h_w_1 := h_w_1.ext h274
   have h_w_2 := h_w_2.ext h274
   refine ops_nil (fin_then (st_block ?_))
   refine st_keep (l' := [(32, .func (.func 58) #[] #[vP b267 0]), (9, vP b50 0), (8, vP b3 0), (7, vP b2 0), (4, vP b1 0), (1, sl A_with with_1 c_with), (2, sl A_without without c_without)]) [32, 9, 8, 7, 4, 1, 2] (by kernel_rfl) ?_
   refine st_rangeFunc (tg := 32) (caps := #[vP b267 0]) (nf := 25) (lf := fun L_ => [(0, yv L_), (1, vP b267 0)]) rfl Try.func58 rfl (by kernel_rfl) (by kernel_rfl) (fun L_ => by kernel_rfl) (fun _ => rfl) ?_
   intro g_ a_rf277 b275 b276 rc_rf277 hrc_rf277 hk_rf277
   refine st_seq (st_region [oF 0, oF 1, oF 2] (by rfl) ?_)
   refine ops_mem (d := some 5) (an := [.v (sl A268 x265 c269)]) (evs := [ld b267 0 (sl A268 x265 c269)]) (v := sl A268 x265 c269) ⟨by kernel_rfl⟩ (fun w_ hM hS => ⟨w_, ⟨hM.cell 2 rfl rfl, rfl⟩, hM, trivial⟩) ?_
   refine oQ [oF 1, oF 2] [(7, vI 0), (6, vI (x265.length : Int)), (5, sl A268 x265 c269), (0, yv b276)] (by kernel_rfl) ?_
   refine ops_nil (fin_then (st_block ?_))
   refine st_conv (l' := [(7, vI 0), (6, vI (x265.length : Int)), (5, sl A268 x265 c269), (0, yv b276)]) (M' := Mem w0 (ow none ([] : List Int) 0 3 1 [] :: .obj b276 (rc_rf277 .ready none) :: .obj b275 (.deferred (some [])) :: .blk b267 [sl A268 x265 c269] 107 :: ow A268 x265 c269 110 4 y270 :: .blk b50 [.slice none 0 0] 23 :: .blk b3 [.bool false] 4 :: .blk b2 [vI r_0, vI r_1] 28 :: .blk b1 [sl A_w_0 w_0 c_w_0, sl A_w_1 w_1 c_w_1, sl A_w_2 w_2 c_w_2] 26 :: Fz F271 W272 :: cs)) rfl (fun w_ h => h.onil none 3 1) ?_
   obtain ⟨r11, hl11, hk11⟩ := obind hp
   refine st_loopP (σ := Int × (List Int)) (ρ := (Bool ⊕ (List Int))) (γ := (Option Addr) × Nat × (List Value) × (Nat → Prop) × World) hl11 (none, 0, [], F271, W272) (fun s_ g_ => match s_, g_ with | (i282, l285), (A283, c284, y286, F288, W289) => [(0, yv b276), (5, sl A268 x265 c269), (6, vI (x265.length : Int)), (7, vI i282)]) (fun s_ g_ => match s_, g_ with | (i282, l285), (A283, c284, y286, F288, W289) => Mem w0 (ow A268 x265 c269 110 4 y270 :: .blk b267 [sl A268 x265 c269] 107 :: .blk b50 [sl A283 l285 c284] 23 :: ow A283 l285 c284 3 1 y286 :: .blk b3 [.bool false] 4 :: .blk b2 [vI r_0, vI r_1] 28 :: .blk b1 [sl A_w_0 w_0 c_w_0, sl A_w_1 w_1 c_w_1, sl A_w_2 w_2 c_w_2] 26 :: .obj b276 (rc_rf277 .ready none) :: .obj b275 (.deferred (some [])) :: Fz F288 W289 :: cs)) (fun s_ g_ => match s_, g_ with | (i282, l285), (A283, c284, y286, F288, W289) => (RepL (Rep.int .i64) F288 W289 l285 y286) ∧ (Ext w0 F271 W272 F288 W289)) ⟨(RepL.nil (R := (Rep.int .i64))), (Ext.refl _ _ _)⟩ (look_has ⟨rfl, rfl, rfl, rfl, trivial⟩) (fun w_ hM => hM.pick 10 [4, 3, 5, 0, 6, 7, 8, 1, 2, 9] (by kernel_rfl) (by decide) rfl) ?_
   rintro ⟨i282, l285⟩ ⟨A283, c284, y286, F288, W289⟩ o11 ⟨h287, hx11⟩ hs_ hd11
   have hp : (tourlaw3_QueryFinds_l11 x265 w_2) i282 l285 = some o11 := hs_
   clear hs_
   unfold tourlaw3_QueryFinds_l11 at hp
   have h_with := h_with.ext hx11
   have h_without := h_without.ext hx11
   have h273 := h273.ext hx11
   have h_w_0 := h_w_0.ext hx11
   have h_w_1 := h_w_1.ext hx11
   have h_w_2 := h_w_2.ext hx11
   refine st_seq (st_region [oF 0] (by rfl) ?_)
   refine oQ [oF 0] [(8, .bool (decide (i282 < (x265.length : Int)))), (0, yv b276), (5, sl A268 x265 c269), (6, vI (x265.length : Int)), (7, vI i282)] (by kernel_rfl) ?_
   refine ops_nil (fin_then (st_seq ?_))
   refine st_if (b := decide (i282 < (x265.length : Int))) rfl (fun hc290 => ?_) (fun hc290 => ?_)
   ·
    have hp := cnd_t hc290 hp
    refine st_skip (fin_then (st_seq (st_block (st_seq (st_region [oF 0, oF 1, oF 2, oF 3] (by rfl) ?_)))))
    obtain ⟨x291, hv292, hp⟩ := obind hp
    obtain ⟨m293, hm294, hx295⟩ := idx_some hv292
    have hl298 := (List.getElem?_eq_some_iff.1 hx295).1
    refine ops_fact (fun w_ hM => hM.orowSome 0 rfl (Nat.lt_of_le_of_lt (Nat.zero_le _) hl298)) ?_
    rintro ⟨g299, rfl, -⟩
    obtain ⟨vs296, hr297, hq300⟩ := h273.at_ m293 x291 hx295
    obtain ⟨A301, c302, rfl, h303⟩ := dec_query_row hr297
    refine ops_val (op := (.indexAddr 107 (.tmp 5) (.tmp 7))) (d := some 9) (v := vP g299 (m293 * 4)) ⟨by kernel_rfl⟩ (run_indexRow Try.underlying107 (z := 4) (by kernel_rfl) rfl rfl hm294 hl298 rfl) ?_
    refine ops_mem (d := some 10) (an := [.v (vI x291.i), .v (vI x291.it.Ent.N), .v (vI x291.it.Ent.Gen), .v (sl A301 x291.it.Comps c302)]) (evs := [.load ⟨g299, m293 * 4, none⟩ (vI x291.i), .load ⟨g299, m293 * 4 + 1, none⟩ (vI x291.it.Ent.N), .load ⟨g299, m293 * 4 + 2, none⟩ (vI x291.it.Ent.Gen), .load ⟨g299, m293 * 4 + 3, none⟩ (sl A301 x291.it.Comps c302)]) (v := .agg #[vI x291.i, vI x291.it.Ent.N, vI x291.it.Ent.Gen, sl A301 x291.it.Comps c302]) ⟨by kernel_rfl⟩ (fun w_ hM hS => ⟨w_, ⟨hM.ocell 0 rfl (hq300 0 _ rfl), hM.ocell 0 rfl (hq300 1 _ rfl), hM.ocell 0 rfl (hq300 2 _ rfl), hM.ocell 0 rfl (hq300 3 _ rfl), rfl⟩, hM, trivial⟩) ?_
    refine ops_newB (d := some 4) [vI 0, vI 0, vI 0, .slice none 0 0] 110 (fun b304 => ⟨by kernel_rfl⟩) (fun w_ hM hS => trivial) (fun b304 => ?_)
    refine ops_store (an := []) (evs := [sr b304 0 (vI x291.i), sr b304 1 (vI x291.it.Ent.N), sr b304 2 (vI x291.it.Ent.Gen), sr b304 3 (sl A301 x291.it.Comps c302)]) ⟨by kernel_rfl⟩ (fun w_ hM hS => let ⟨w', he, h'⟩ := hM.evs_stores [vI x291.i, vI x291.it.Ent.N, vI x291.it.Ent.Gen, sl A301 x291.it.Comps c302] 0 rfl 0 (Nat.le_of_ble_eq_true rfl); ⟨w', he, h', trivial⟩) ?_
    refine ops_nil (fin_then (st_seq ?_))
    refine st_region_draw [oT 0, oT 1, oT 2, oT 3, oT 4, oT 5, oT 6, oT 7, oT 8, oF 9, oT 10, oF 11, oT 12] (Mem w0 (.blk b304 [vI x291.i, vI x291.it.Ent.N, vI x291.it.Ent.Gen, sl A301 x291.it.Comps c302] 110 :: Fz F288 W289 :: cs)) (by kernel_rfl) (by kernel_rfl) (by kernel_rfl) (fun _ d _ _ _ h => by cases d <;> exact h) (M' := Mem w0 (.blk b304 [vI x291.i, vI x291.it.Ent.N, vI x291.it.Ent.Gen, sl A301 x291.it.Comps c302] 110 :: ow (sa g299) x265 c269 110 4 y270 :: .blk b267 [sl (sa g299) x265 c269] 107 :: .blk b50 [sl A283 l285 c284] 23 :: ow A283 l285 c284 3 1 y286 :: .blk b3 [.bool false] 4 :: .blk b2 [vI r_0, vI r_1] 28 :: .blk b1 [sl A_w_0 w_0 c_w_0, sl A_w_1 w_1 c_w_1, sl A_w_2 w_2 c_w_2] 26 :: .obj b276 (rc_rf277 .ready none) :: .obj b275 (.deferred (some [])) :: Fz F288 W289 :: cs)) (fun w_ hM => ⟨hM.drew, hM.drew.sub (.cons_cons _ (.cons _ (.cons _ (.cons _ (.cons _ (.cons _ (.cons _ (.cons _ (.cons _ (.cons _ (.cons_cons _ (.refl _))))))))))))⟩) ?_
    refine oQ [oT 0, oT 1] [(12, vP b304 0), (11, yv b276), (4, vP b304 0), (0, yv b276), (5, sl (sa g299) x265 c269), (6, vI (x265.length : Int)), (7, vI i282)] (by kernel_rfl) ?_
    refine ops_load (d := some 13) (an := [.v (vI x291.i)]) (evs := [ld b304 0 (vI x291.i)]) (v := vI x291.i) ⟨by kernel_rfl⟩ (fun w_ hM => ⟨hM.cell 0 rfl rfl, rfl⟩) ?_
    refine oQ [oT 3, oT 4] [(15, vP b304 1), (13, vI x291.i), (11, yv b276), (4, vP b304 0), (0, yv b276), (5, sl (sa g299) x265 c269), (6, vI (x265.length : Int)), (7, vI i282)] (by kernel_rfl) ?_
    refine ops_load (d := some 16) (an := [.v (vI x291.it.Ent.N), .v (vI x291.it.Ent.Gen)]) (evs := [ld b304 1 (vI x291.it.Ent.N), ld b304 2 (vI x291.it.Ent.Gen)]) (v := .agg #[vI x291.it.Ent.N, vI x291.it.Ent.Gen]) ⟨by kernel_rfl⟩ (fun w_ hM => ⟨hM.cell 0 rfl rfl, hM.cell 0 rfl rfl, rfl⟩) ?_
    refine oQ [oT 6, oT 7] [(18, vP b304 3), (16, .agg #[vI x291.it.Ent.N, vI x291.it.Ent.Gen]), (13, vI x291.i), (11, yv b276), (0, yv b276), (5, sl (sa g299) x265 c269), (6, vI (x265.length : Int)), (7, vI i282)] (by kernel_rfl) ?_
    refine ops_load (d := some 19) (an := [.v (sl A301 x291.it.Comps c302)]) (evs := [ld b304 3 (sl A301 x291.it.Comps c302)]) (v := sl A301 x291.it.Comps c302) ⟨by kernel_rfl⟩ (fun w_ hM => ⟨hM.cell 0 rfl rfl, rfl⟩) ?_
    obtain ⟨x305, hv306, hp⟩ := obind hp
    refine ops_callI (σ := (Option Addr) × Nat × (List Value) × (Nat → Prop) × World) (d := some 20) (f := 57) (args := #[sl A301 x291.it.Comps c302]) (v := (fun x_ => match x_ with | (A307, c308, y309, F310, W311) => sl A307 x305 c308)) (I := (fun x_ => match x_ with | (A307, c308, y309, F310, W311) => (RepL R_api_Comp F310 W311 x305 y309) ∧ (Ext w0 F288 W289 F310 W311))) (M' := (fun x_ => match x_ with | (A307, c308, y309, F310, W311) => Mem w0 (ow A307 x305 c308 43 2 y309 :: .blk b304 [vI x291.i, vI x291.it.Ent.N, vI x291.it.Ent.Gen, sl A301 x291.it.Comps c302] 110 :: ow (sa g299) x265 c269 110 4 y270 :: .blk b267 [sl (sa g299) x265 c269] 107 :: .blk b50 [sl A283 l285 c284] 23 :: ow A283 l285 c284 3 1 y286 :: .blk b3 [.bool false] 4 :: .blk b2 [vI r_0, vI r_1] 28 :: .blk b1 [sl A_w_0 w_0 c_w_0, sl A_w_1 w_1 c_w_1, sl A_w_2 w_2 c_w_2] 26 :: .obj b276 (rc_rf277 .ready none) :: .obj b275 (.deferred (some [])) :: Fz F310 W311 :: cs))) ⟨by kernel_rfl⟩ (fun w_ hM hS => (world_CopyComps_ok w0 w_ (.blk b304 [vI x291.i, vI x291.it.Ent.N, vI x291.it.Ent.Gen, sl A301 x291.it.Comps c302] 110 :: ow (sa g299) x265 c269 110 4 y270 :: .blk b267 [sl (sa g299) x265 c269] 107 :: .blk b50 [sl A283 l285 c284] 23 :: ow A283 l285 c284 3 1 y286 :: .blk b3 [.bool false] 4 :: .blk b2 [vI r_0, vI r_1] 28 :: .blk b1 [sl A_w_0 w_0 c_w_0, sl A_w_1 w_1 c_w_1, sl A_w_2 w_2 c_w_2] 26 :: .obj b276 (rc_rf277 .ready none) :: .obj b275 (.deferred (some [])) :: cs) F288 W289 A301 c302 x291.it.Comps (hM.pick 11 [10, 0, 1, 2, 3, 4, 5, 6, 7, 8, 9] (by kernel_rfl) (by decide) rfl) h303 x305 hv306).mono (by rintro e w' ⟨A307, c308, y309, F310, W311, ⟨h312, h313⟩, rfl, h'⟩; have h' : Mem w0 (ow A307 x305 c308 43 2 y309 :: .blk b304 [vI x291.i, vI x291.it.Ent.N, vI x291.it.Ent.Gen, sl A301 x291.it.Comps c302] 110 :: ow (sa g299) x265 c269 110 4 y270 :: .blk b267 [sl (sa g299) x265 c269] 107 :: .blk b50 [sl A283 l285 c284] 23 :: ow A283 l285 c284 3 1 y286 :: .blk b3 [.bool false] 4 :: .blk b2 [vI r_0, vI r_1] 28 :: .blk b1 [sl A_w_0 w_0 c_w_0, sl A_w_1 w_1 c_w_1, sl A_w_2 w_2 c_w_2] 26 :: .obj b276 (rc_rf277 .ready none) :: .obj b275 (.deferred (some [])) :: Fz F310 W311 :: cs) w' := (h'.pick 12 [0, 2, 3, 4, 5, 6, 7, 8, 9, 10, 11, 1] (by kernel_rfl) (by decide) rfl); exact ⟨(A307, c308, y309, F310, W311), ⟨h312, h313⟩, rfl, h', (by first | exact (Mem.fzback h' 11 rfl h313).sub (.cons _ (.cons_cons _ (.cons _ (.cons _ (.cons _ (.cons _ (.cons _ (.cons _ (.cons _ (.cons _ (.cons _ (.cons_cons _ (.refl _))))))))))))) | exact (Mem.fzback h' 11 rfl (hx11.trans h313)).sub (.cons _ (.cons_cons _ (.cons _ (.cons _ (.cons _ (.cons _ (.cons _ (.cons _ (.cons _ (.cons _ (.cons _ (.cons_cons _ (.refl _))))))))))))) | exact (Mem.fzback h' 11 rfl ((h274.trans hx11).trans h313)).sub (.cons _ (.cons_cons _ (.cons _ (.cons _ (.cons _ (.cons _ (.cons _ (.cons _ (.cons _ (.cons _ (.cons _ (.cons_cons _ (.refl _))))))))))))) | exact (Mem.fzback h' 11 rfl (((h48.trans h274).trans hx11).trans h313)).sub (.cons _ (.cons_cons _ (.cons _ (.cons _ (.cons _ (.cons _ (.cons _ (.cons _ (.cons _ (.cons _ (.cons _ (.cons_cons _ (.refl _))))))))))))) | exact (Mem.fzback h' 11 rfl ((((hx42.trans h48).trans h274).trans hx11).trans h313)).sub (.cons _ (.cons_cons _ (.cons _ (.cons _ (.cons _ (.cons _ (.cons _ (.cons _ (.cons _ (.cons _ (.cons _ (.cons_cons _ (.refl _))))))))))))) | exact (Mem.fzback h' 11 rfl (((((hx38.trans hx42).trans h48).trans h274).trans hx11).trans h313)).sub (.cons _ (.cons_cons _ (.cons _ (.cons _ (.cons _ (.cons _ (.cons _ (.cons _ (.cons _ (.cons _ (.cons _ (.cons_cons _ (.refl _))))))))))))) | exact (Mem.fzback h' 11 rfl ((((((hx34.trans hx38).trans hx42).trans h48).trans h274).trans hx11).trans h313)).sub (.cons _ (.cons_cons _ (.cons _ (.cons _ (.cons _ (.cons _ (.cons _ (.cons _ (.cons _ (.cons _ (.cons _ (.cons_cons _ (.refl _))))))))))))) | exact (Mem.fzback h' 11 rfl (((((((hx30.trans hx34).trans hx38).trans hx42).trans h48).trans h274).trans hx11).trans h313)).sub (.cons _ (.cons_cons _ (.cons _ (.cons _ (.cons _ (.cons _ (.cons _ (.cons _ (.cons _ (.cons _ (.cons _ (.cons_cons _ (.refl _))))))))))))) | exact (Mem.fzback h' 11 rfl ((((((((hx26.trans hx30).trans hx34).trans hx38).trans hx42).trans h48).trans h274).trans hx11).trans h313)).sub (.cons _ (.cons_cons _ (.cons _ (.cons _ (.cons _ (.cons _ (.cons _ (.cons _ (.cons _ (.cons _ (.cons _ (.cons_cons _ (.refl _))))))))))))) | exact (Mem.fzback h' 11 rfl (((((((((h19.trans hx26).trans hx30).trans hx34).trans hx38).trans hx42).trans h48).trans h274).trans hx11).trans h313)).sub (.cons _ (.cons_cons _ (.cons _ (.cons _ (.cons _ (.cons _ (.cons _ (.cons _ (.cons _ (.cons _ (.cons _ (.cons_cons _ (.refl _))))))))))))))⟩)) ?_
    rintro ⟨A307, c308, y309, F310, W311⟩ ⟨h312, h313⟩
    have h303 := h303.ext h313
    have h_with := h_with.ext h313
    have h_without := h_without.ext h313
    have h273 := h273.ext h313
    have h287 := h287.ext h313
    have h_w_0 := h_w_0.ext h313
    have h_w_1 := h_w_1.ext h313
    have h_w_2 := h_w_2.ext h313
    refine oQ [oT 10] [(21, .agg #[vI x291.it.Ent.N, vI x291.it.Ent.Gen, sl A307 x305 c308]), (13, vI x291.i), (11, yv b276), (0, yv b276), (5, sl (sa g299) x265 c269), (6, vI (x265.length : Int)), (7, vI i282)] (by kernel_rfl) ?_
    refine ops_yield (d := some 22) (args := #[vI x291.i, .agg #[vI x291.it.Ent.N, vI x291.it.Ent.Gen, sl A307 x305 c308]]) (l := [(21, .agg #[vI x291.it.Ent.N, vI x291.it.Ent.Gen, sl A307 x305 c308]), (13, vI x291.i), (11, yv b276), (0, yv b276), (5, sl (sa g299) x265 c269), (6, vI (x265.length : Int)), (7, vI i282)]) (lr := [(34, .agg #[vI x291.it.Ent.N, vI x291.it.Ent.Gen, sl A307 x305 c308]), (33, vI x291.i), (32, .func (.func 58) #[] #[vP b267 0]), (9, vP b50 0), (8, vP b3 0), (7, vP b2 0), (4, vP b1 0), (1, sl A_with with_1 c_with), (2, sl A_without without c_without)]) 9 rfl hrc_rf277 ⟨by kernel_rfl⟩ hk_rf277 (by kernel_rfl) (by kernel_rfl) ?_
    intro a_rd314 hk_rd314
    refine st_seq (st_region [oF 0] (by rfl) ?_)
    refine oQ [oF 0] [(10, vI x291.i), (34, .agg #[vI x291.it.Ent.N, vI x291.it.Ent.Gen, sl A307 x305 c308]), (9, vP b50 0), (8, vP b3 0), (4, vP b1 0)] (by kernel_rfl) ?_
    refine ops_nil (fin_then (st_region [oF 0, oF 1] (by rfl) ?_))
    refine ops_newB (d := some 11) [vI 0, vI 0, .slice none 0 0] 38 (fun b315 => ⟨by kernel_rfl⟩) (fun w_ hM hS => trivial) (fun b315 => ?_)
    refine ops_store (an := []) (evs := [sr b315 0 (vI x291.it.Ent.N), sr b315 1 (vI x291.it.Ent.Gen), sr b315 2 (sl A307 x305 c308)]) ⟨by kernel_rfl⟩ (fun w_ hM hS => let ⟨w', he, h'⟩ := hM.evs_stores [vI x291.it.Ent.N, vI x291.it.Ent.Gen, sl A307 x305 c308] 0 rfl 0 (Nat.le_of_ble_eq_true rfl); ⟨w', he, h', trivial⟩) ?_
    refine ops_nil ?_
    refine fin_begin 10 rfl hrc_rf277 ?_
    refine st_block (st_seq (st_seq ?_))
    refine st_region_fast tourlaw3_QueryFinds__t0 [oT 0, oT 1, oT 2, oT 3, oT 4, oT 5, oT 6, oT 7, oT 8, oT 9, oT 10, oT 11, oT 12, oT 13, oT 14, oT 15, oF 16, oT 17, oT 18] (Mem w0 (.blk b315 [vI x291.it.Ent.N, vI x291.it.Ent.Gen, sl A307 x305 c308] 38 :: ow A307 x305 c308 43 2 y309 :: .blk b304 [vI x291.i, vI x291.it.Ent.N, vI x291.it.Ent.Gen, sl A301 x291.it.Comps c302] 110 :: ow (sa g299) x265 c269 110 4 y270 :: .blk b267 [sl (sa g299) x265 c269] 107 :: .blk b50 [sl A283 l285 c284] 23 :: ow A283 l285 c284 3 1 y286 :: .blk b3 [.bool false] 4 :: .blk b2 [vI r_0, vI r_1] 28 :: .blk b1 [sl A_w_0 w_0 c_w_0, sl A_w_1 w_1 c_w_1, sl A_w_2 w_2 c_w_2] 26 :: .obj b276 (rc_rf277 .busy none) :: .obj b275 (.deferred (some [])) :: Fz F310 W311 :: cs)) (by kernel_rfl) (by kernel_rfl) (by kernel_rfl) (by kernel_rfl) (by kernel_rfl) (fun _ d _ _ _ h => by cases d <;> exact h) (M' := Mem w0 (.blk b315 [vI x291.it.Ent.N, vI x291.it.Ent.Gen, sl A307 x305 c308] 38 :: ow A307 x305 c308 43 2 y309 :: .blk b304 [vI x291.i, vI x291.it.Ent.N, vI x291.it.Ent.Gen, sl A301 x291.it.Comps c302] 110 :: ow (sa g299) x265 c269 110 4 y270 :: .blk b267 [sl (sa g299) x265 c269] 107 :: .blk b50 [sl A283 l285 c284] 23 :: ow A283 l285 c284 3 1 y286 :: .blk b3 [.bool false] 4 :: .blk b2 [vI r_0, vI r_1] 28 :: .blk b1 [sl A_w_0 w_0 c_w_0, sl A_w_1 w_1 c_w_1, sl A_w_2 w_2 c_w_2] 26 :: .obj b276 (rc_rf277 .busy none) :: .obj b275 (.deferred (some [])) :: Fz F310 W311 :: cs)) (fun w_ hM => ⟨hM.drew, hM.drew.sub (.cons_cons _ (.cons_cons _ (.cons_cons _ (.cons_cons _ (.cons_cons _ (.cons_cons _ (.cons_cons _ (.cons_cons _ (.cons_cons _ (.cons_cons _ (.cons_cons _ (.cons_cons _ (.cons_cons _ (.refl _))))))))))))))⟩) ?_
    refine oQ [oT 0, oT 1, oT 2] [(37, .bool (decide (x291.i < 0))), (11, vP b315 0), (10, vI x291.i), (9, vP b50 0), (8, vP b3 0), (4, vP b1 0)] (by kernel_rfl) ?_
    refine ops_bool (t := decide (x291.i < 0)) (l1 := [(37, .bool true), (11, vP b315 0), (10, vI x291.i), (9, vP b50 0), (8, vP b3 0), (4, vP b1 0)]) (l2 := [(37, .bool false), (11, vP b315 0), (10, vI x291.i), (9, vP b50 0), (8, vP b3 0), (4, vP b1 0)]) (fun h => by rw [h]) (fun h => by rw [h]) (fun hc316 => ?_) (fun hc316 => ?_)
    ·
     have hp := cnd_t hc316 hp
     refine oQ [oT 3, oT 4, oT 5, oT 6, oT 7, oT 8, oT 9, oT 10, oT 11, oT 12, oT 13, oT 14, oT 15, oF 16, oT 17, oT 18] [(53, .bool true), (10, vI x291.i), (9, vP b50 0), (8, vP b3 0)] (by kernel_rfl) ?_
     refine ops_nil (fin_then (st_true rfl (st_seq (st_region [oF 0] (by rfl) ?_))))
     refine ops_store (an := []) (evs := [sr b3 0 (.bool false)]) ⟨by kernel_rfl⟩ (fun w_ hM hS => let ⟨w', he, h'⟩ := hM.evs_stores [.bool false] 7 rfl 0 (Nat.le_of_ble_eq_true rfl); ⟨w', he, h', trivial⟩) ?_
     refine ops_nil (fin_then (st_ret (fin_ret_then (fin_ret_block ?_))))
     refine fin_round_off (e := .ret) (c := .ret) rfl 10 rfl hrc_rf277 hk_rd314 (by intro t_ h_; cases h_; decide) (fun w_ h' => (by first | exact (Mem.fzback h' 12 rfl h313).sub (.cons _ (.cons _ (.cons_cons _ (.cons _ (.cons _ (.cons _ (.cons _ (.cons _ (.cons _ (.cons _ (.cons _ (.cons _ (.cons_cons _ (.refl _)))))))))))))) | exact (Mem.fzback h' 12 rfl (hx11.trans h313)).sub (.cons _ (.cons _ (.cons_cons _ (.cons _ (.cons _ (.cons _ (.cons _ (.cons _ (.cons _ (.cons _ (.cons _ (.cons _ (.cons_cons _ (.refl _)))))))))))))) | exact (Mem.fzback h' 12 rfl ((h274.trans hx11).trans h313)).sub (.cons _ (.cons _ (.cons_cons _ (.cons _ (.cons _ (.cons _ (.cons _ (.cons _ (.cons _ (.cons _ (.cons _ (.cons _ (.cons_cons _ (.refl _)))))))))))))) | exact (Mem.fzback h' 12 rfl (((h48.trans h274).trans hx11).trans h313)).sub (.cons _ (.cons _ (.cons_cons _ (.cons _ (.cons _ (.cons _ (.cons _ (.cons _ (.cons _ (.cons _ (.cons _ (.cons _ (.cons_cons _ (.refl _)))))))))))))) | exact (Mem.fzback h' 12 rfl ((((hx42.trans h48).trans h274).trans hx11).trans h313)).sub (.cons _ (.cons _ (.cons_cons _ (.cons _ (.cons _ (.cons _ (.cons _ (.cons _ (.cons _ (.cons _ (.cons _ (.cons _ (.cons_cons _ (.refl _)))))))))))))) | exact (Mem.fzback h' 12 rfl (((((hx38.trans hx42).trans h48).trans h274).trans hx11).trans h313)).sub (.cons _ (.cons _ (.cons_cons _ (.cons _ (.cons _ (.cons _ (.cons _ (.cons _ (.cons _ (.cons _ (.cons _ (.cons _ (.cons_cons _ (.refl _)))))))))))))) | exact (Mem.fzback h' 12 rfl ((((((hx34.trans hx38).trans hx42).trans h48).trans h274).trans hx11).trans h313)).sub (.cons _ (.cons _ (.cons_cons _ (.cons _ (.cons _ (.cons _ (.cons _ (.cons _ (.cons _ (.cons _ (.cons _ (.cons _ (.cons_cons _ (.refl _)))))))))))))) | exact (Mem.fzback h' 12 rfl (((((((hx30.trans hx34).trans hx38).trans hx42).trans h48).trans h274).trans hx11).trans h313)).sub (.cons _ (.cons _ (.cons_cons _ (.cons _ (.cons _ (.cons _ (.cons _ (.cons _ (.cons _ (.cons _ (.cons _ (.cons _ (.cons_cons _ (.refl _)))))))))))))) | exact (Mem.fzback h' 12 rfl ((((((((hx26.trans hx30).trans hx34).trans hx38).trans hx42).trans h48).trans h274).trans hx11).trans h313)).sub (.cons _ (.cons _ (.cons_cons _ (.cons _ (.cons _ (.cons _ (.cons _ (.cons _ (.cons _ (.cons _ (.cons _ (.cons _ (.cons_cons _ (.refl _)))))))))))))) | exact (Mem.fzback h' 12 rfl (((((((((h19.trans hx26).trans hx30).trans hx34).trans hx38).trans hx42).trans h48).trans h274).trans hx11).trans h313)).sub (.cons _ (.cons _ (.cons_cons _ (.cons _ (.cons _ (.cons _ (.cons _ (.cons _ (.cons _ (.cons _ (.cons _ (.cons _ (.cons_cons _ (.refl _)))))))))))))))) ?_
     refine oQ [oT 12] [(23, .bool true), (0, yv b276), (5, sl (sa g299) x265 c269), (6, vI (x265.length : Int)), (7, vI i282)] (by kernel_rfl) ?_
     refine ops_nil (fin_then (st_true rfl (st_ret (fin_ret_block (fin_ret_then (fin_ret_then (fin_ret_block ?_)))))))
     refine fin_rf_off (e' := .ret) (c := .ret) rfl rfl rfl 10 rfl hrc_rf277 hk_rf277 ?_
     refine fin_conv (l' := [(32, .func (.func 58) #[] #[vP b267 0]), (9, vP b50 0), (8, vP b3 0), (7, vP b2 0), (4, vP b1 0), (1, sl A_with with_1 c_with), (2, sl A_without without c_without)]) (M' := Mem w0 (.blk b315 [vI x291.it.Ent.N, vI x291.it.Ent.Gen, sl A307 x305 c308] 38 :: ow A307 x305 c308 43 2 y309 :: .blk b304 [vI x291.i, vI x291.it.Ent.N, vI x291.it.Ent.Gen, sl A301 x291.it.Comps c302] 110 :: ow (sa g299) x265 c269 110 4 y270 :: .blk b267 [sl (sa g299) x265 c269] 107 :: .blk b50 [sl A283 l285 c284] 23 :: ow A283 l285 c284 3 1 y286 :: .blk b3 [.bool false] 4 :: .blk b2 [vI r_0, vI r_1] 28 :: .blk b1 [sl A_w_0 w_0 c_w_0, sl A_w_1 w_1 c_w_1, sl A_w_2 w_2 c_w_2] 26 :: .obj b275 (.deferred (some [])) :: Fz F310 W311 :: cs)) rfl (fun _ h => h) ?_
     refine fin_ret_block (fin_ret_then ?_)
     refine fin_outs rfl ?_
     refine outs_mark 10 rfl ?_
     refine outs_conv (M' := Mem w0 (.blk b315 [vI x291.it.Ent.N, vI x291.it.Ent.Gen, sl A307 x305 c308] 38 :: ow A307 x305 c308 43 2 y309 :: .blk b304 [vI x291.i, vI x291.it.Ent.N, vI x291.it.Ent.Gen, sl A301 x291.it.Comps c302] 110 :: ow (sa g299) x265 c269 110 4 y270 :: .blk b267 [sl (sa g299) x265 c269] 107 :: .blk b50 [sl A283 l285 c284] 23 :: ow A283 l285 c284 3 1 y286 :: .blk b3 [.bool false] 4 :: .blk b2 [vI r_0, vI r_1] 28 :: .blk b1 [sl A_w_0 w_0 c_w_0, sl A_w_1 w_1 c_w_1, sl A_w_2 w_2 c_w_2] 26 :: Fz F310 W311 :: cs)) (fun _ h => h) ?_
     obtain hq_ := Option.some.inj hp
     subst hq_
     obtain hq_ := hd11 _ rfl
     subst hq_
     have hp : some false = some t9001 := hk11
     have hq_ := Option.some.inj hp
     have hr0_ := hq_
     subst hr0_
     refine outs_nil [.cell 8 4] [.bool false] rfl (fun w_ hM => (.cell rfl (tr_run _ [.v (.bool false)] [ld b3 0 (.bool false)] (.bool false : Value) _ _ (by kernel_rfl) ⟨hM.cell 7 rfl rfl, rfl⟩) .nil)) (fun w_ hM => ?_)
     exact ⟨F310, W311, (((((((((h19.trans hx26).trans hx30).trans hx34).trans hx38).trans hx42).trans h48).trans h274).trans hx11).trans h313), rfl, hM.pick 11 [10] (by kernel_rfl) (by decide) rfl⟩
    ·
     have hp := cnd_f hc316 hp
     refine oQ [oT 3, oT 4] [(39, vP b1 2), (38, vI x291.i), (37, .bool false), (11, vP b315 0), (10, vI x291.i), (9, vP b50 0), (8, vP b3 0), (4, vP b1 0)] (by kernel_rfl) ?_
     refine ops_load (d := some 40) (an := [.v (sl A_w_2 w_2 c_w_2)]) (evs := [ld b1 2 (sl A_w_2 w_2 c_w_2)]) (v := sl A_w_2 w_2 c_w_2) ⟨by kernel_rfl⟩ (fun w_ hM => ⟨hM.cell 9 rfl rfl, rfl⟩) ?_
     refine oQ [oT 6, oT 7, oT 8, oT 9] [(44, .bool (decide ((w_2.length : Int) ≤ x291.i))), (11, vP b315 0), (10, vI x291.i), (9, vP b50 0), (8, vP b3 0), (4, vP b1 0)] (by kernel_rfl) ?_
     refine ops_bool (t := decide ((w_2.length : Int) ≤ x291.i)) (l1 := [(44, .bool true), (11, vP b315 0), (10, vI x291.i), (9, vP b50 0), (8, vP b3 0), (4, vP b1 0)]) (l2 := [(44, .bool false), (11, vP b315 0), (10, vI x291.i), (9, vP b50 0), (8, vP b3 0), (4, vP b1 0)]) (fun h => by rw [h]) (fun h => by rw [h]) (fun hc317 => ?_) (fun hc317 => ?_)
     ·
      have hp := cnd_t hc317 hp
      refine oQ [oT 10, oT 11, oT 12, oT 13, oT 14, oT 15, oF 16, oT 17, oT 18] [(53, .bool true), (10, vI x291.i), (9, vP b50 0), (8, vP b3 0)] (by kernel_rfl) ?_
      refine ops_nil (fin_then (st_true rfl (st_seq (st_region [oF 0] (by rfl) ?_))))
      refine ops_store (an := []) (evs := [sr b3 0 (.bool false)]) ⟨by kernel_rfl⟩ (fun w_ hM hS => let ⟨w', he, h'⟩ := hM.evs_stores [.bool false] 7 rfl 0 (Nat.le_of_ble_eq_true rfl); ⟨w', he, h', trivial⟩) ?_
      refine ops_nil (fin_then (st_ret (fin_ret_then (fin_ret_block ?_))))
      refine fin_round_off (e := .ret) (c := .ret) rfl 10 rfl hrc_rf277 hk_rd314 (by intro t_ h_; cases h_; decide) (fun w_ h' => (by first | exact (Mem.fzback h' 12 rfl h313).sub (.cons _ (.cons _ (.cons_cons _ (.cons _ (.cons _ (.cons _ (.cons _ (.cons _ (.cons _ (.cons _ (.cons _ (.cons _ (.cons_cons _ (.refl _)))))))))))))) | exact (Mem.fzback h' 12 rfl (hx11.trans h313)).sub (.cons _ (.cons _ (.cons_cons _ (.cons _ (.cons _ (.cons _ (.cons _ (.cons _ (.cons _ (.cons _ (.cons _ (.cons _ (.cons_cons _ (.refl _)))))))))))))) | exact (Mem.fzback h' 12 rfl ((h274.trans hx11).trans h313)).sub (.cons _ (.cons _ (.cons_cons _ (.cons _ (.cons _ (.cons _ (.cons _ (.cons _ (.cons _ (.cons _ (.cons _ (.cons _ (.cons_cons _ (.refl _)))))))))))))) | exact (Mem.fzback h' 12 rfl (((h48.trans h274).trans hx11).trans h313)).sub (.cons _ (.cons _ (.cons_cons _ (.cons _ (.cons _ (.cons _ (.cons _ (.cons _ (.cons _ (.cons _ (.cons _ (.cons _ (.cons_cons _ (.refl _)))))))))))))) | exact (Mem.fzback h' 12 rfl ((((hx42.trans h48).trans h274).trans hx11).trans h313)).sub (.cons _ (.cons _ (.cons_cons _ (.cons _ (.cons _ (.cons _ (.cons _ (.cons _ (.cons _ (.cons _ (.cons _ (.cons _ (.cons_cons _ (.refl _)))))))))))))) | exact (Mem.fzback h' 12 rfl (((((hx38.trans hx42).trans h48).trans h274).trans hx11).trans h313)).sub (.cons _ (.cons _ (.cons_cons _ (.cons _ (.cons _ (.cons _ (.cons _ (.cons _ (.cons _ (.cons _ (.cons _ (.cons _ (.cons_cons _ (.refl _)))))))))))))) | exact (Mem.fzback h' 12 rfl ((((((hx34.trans hx38).trans hx42).trans h48).trans h274).trans hx11).trans h313)).sub (.cons _ (.cons _ (.cons_cons _ (.cons _ (.cons _ (.cons _ (.cons _ (.cons _ (.cons _ (.cons _ (.cons _ (.cons _ (.cons_cons _ (.refl _)))))))))))))) | exact (Mem.fzback h' 12 rfl (((((((hx30.trans hx34).trans hx38).trans hx42).trans h48).trans h274).trans hx11).trans h313)).sub (.cons _ (.cons _ (.cons_cons _ (.cons _ (.cons _ (.cons _ (.cons _ (.cons _ (.cons _ (.cons _ (.cons _ (.cons _ (.cons_cons _ (.refl _)))))))))))))) | exact (Mem.fzback h' 12 rfl ((((((((hx26.trans hx30).trans hx34).trans hx38).trans hx42).trans h48).trans h274).trans hx11).trans h313)).sub (.cons _ (.cons _ (.cons_cons _ (.cons _ (.cons _ (.cons _ (.cons _ (.cons _ (.cons _ (.cons _ (.cons _ (.cons _ (.cons_cons _ (.refl _)))))))))))))) | exact (Mem.fzback h' 12 rfl (((((((((h19.trans hx26).trans hx30).trans hx34).trans hx38).trans hx42).trans h48).trans h274).trans hx11).trans h313)).sub (.cons _ (.cons _ (.cons_cons _ (.cons _ (.cons _ (.cons _ (.cons _ (.cons _ (.cons _ (.cons _ (.cons _ (.cons _ (.cons_cons _ (.refl _)))))))))))))))) ?_
      refine oQ [oT 12] [(23, .bool true), (0, yv b276), (5, sl (sa g299) x265 c269), (6, vI (x265.length : Int)), (7, vI i282)] (by kernel_rfl) ?_
      refine ops_nil (fin_then (st_true rfl (st_ret (fin_ret_block (fin_ret_then (fin_ret_then (fin_ret_block ?_)))))))
      refine fin_rf_off (e' := .ret) (c := .ret) rfl rfl rfl 10 rfl hrc_rf277 hk_rf277 ?_
      refine fin_conv (l' := [(32, .func (.func 58) #[] #[vP b267 0]), (9, vP b50 0), (8, vP b3 0), (7, vP b2 0), (4, vP b1 0), (1, sl A_with with_1 c_with), (2, sl A_without without c_without)]) (M' := Mem w0 (.blk b315 [vI x291.it.Ent.N, vI x291.it.Ent.Gen, sl A307 x305 c308] 38 :: ow A307 x305 c308 43 2 y309 :: .blk b304 [vI x291.i, vI x291.it.Ent.N, vI x291.it.Ent.Gen, sl A301 x291.it.Comps c302] 110 :: ow (sa g299) x265 c269 110 4 y270 :: .blk b267 [sl (sa g299) x265 c269] 107 :: .blk b50 [sl A283 l285 c284] 23 :: ow A283 l285 c284 3 1 y286 :: .blk b3 [.bool false] 4 :: .blk b2 [vI r_0, vI r_1] 28 :: .blk b1 [sl A_w_0 w_0 c_w_0, sl A_w_1 w_1 c_w_1, sl A_w_2 w_2 c_w_2] 26 :: .obj b275 (.deferred (some [])) :: Fz F310 W311 :: cs)) rfl (fun _ h => h) ?_
      refine fin_ret_block (fin_ret_then ?_)
      refine fin_outs rfl ?_
      refine outs_mark 10 rfl ?_
      refine outs_conv (M' := Mem w0 (.blk b315 [vI x291.it.Ent.N, vI x291.it.Ent.Gen, sl A307 x305 c308] 38 :: ow A307 x305 c308 43 2 y309 :: .blk b304 [vI x291.i, vI x291.it.Ent.N, vI x291.it.Ent.Gen, sl A301 x291.it.Comps c302] 110 :: ow (sa g299) x265 c269 110 4 y270 :: .blk b267 [sl (sa g299) x265 c269] 107 :: .blk b50 [sl A283 l285 c284] 23 :: ow A283 l285 c284 3 1 y286 :: .blk b3 [.bool false] 4 :: .blk b2 [vI r_0, vI r_1] 28 :: .blk b1 [sl A_w_0 w_0 c_w_0, sl A_w_1 w_1 c_w_1, sl A_w_2 w_2 c_w_2] 26 :: Fz F310 W311 :: cs)) (fun _ h => h) ?_
      obtain hq_ := Option.some.inj hp
      subst hq_
      obtain hq_ := hd11 _ rfl
      subst hq_
      have hp : some false = some t9001 := hk11
      have hq_ := Option.some.inj hp
      have hr0_ := hq_
      subst hr0_
      refine outs_nil [.cell 8 4] [.bool false] rfl (fun w_ hM => (.cell rfl (tr_run _ [.v (.bool false)] [ld b3 0 (.bool false)] (.bool false : Value) _ _ (by kernel_rfl) ⟨hM.cell 7 rfl rfl, rfl⟩) .nil)) (fun w_ hM => ?_)
      exact ⟨F310, W311, (((((((((h19.trans hx26).trans hx30).trans hx34).trans hx38).trans hx42).trans h48).trans h274).trans hx11).trans h313), rfl, hM.pick 11 [10] (by kernel_rfl) (by decide) rfl⟩
     ·
      have hp := cnd_f hc317 hp
      refine ops_load (d := some 45) (an := [.v (vI x291.it.Ent.N), .v (vI x291.it.Ent.Gen), .v (sl A307 x305 c308)]) (evs := [ld b315 0 (vI x291.it.Ent.N), ld b315 1 (vI x291.it.Ent.Gen), ld b315 2 (sl A307 x305 c308)]) (v := .agg #[vI x291.it.Ent.N, vI x291.it.Ent.Gen, sl A307 x305 c308]) ⟨by kernel_rfl⟩ (fun w_ hM => ⟨hM.cell 0 rfl rfl, hM.cell 0 rfl rfl, hM.cell 0 rfl rfl, rfl⟩) ?_
      refine oQ [oT 11] [(46, vP b1 2), (45, .agg #[vI x291.it.Ent.N, vI x291.it.Ent.Gen, sl A307 x305 c308]), (44, .bool false), (10, vI x291.i), (9, vP b50 0), (8, vP b3 0)] (by kernel_rfl) ?_
      refine ops_load (d := some 47) (an := [.v (sl A_w_2 w_2 c_w_2)]) (evs := [ld b1 2 (sl A_w_2 w_2 c_w_2)]) (v := sl A_w_2 w_2 c_w_2) ⟨by kernel_rfl⟩ (fun w_ hM => ⟨hM.cell 9 rfl rfl, rfl⟩) ?_
      refine oQ [oT 13] [(48, vI x291.i), (47, sl A_w_2 w_2 c_w_2), (45, .agg #[vI x291.it.Ent.N, vI x291.it.Ent.Gen, sl A307 x305 c308]), (44, .bool false), (10, vI x291.i), (9, vP b50 0), (8, vP b3 0)] (by kernel_rfl) ?_
      obtain ⟨x318, hv319, hp⟩ := obind hp
      obtain ⟨m320, hm321, hx322⟩ := idx_some hv319
      have hl325 := (List.getElem?_eq_some_iff.1 hx322).1
      obtain ⟨ad326, vs323, hA327, hr324, hq328⟩ := RdS.el h_w_2 hx322
      obtain ⟨A329, c330, rfl, h331⟩ := dec_api_Item hr324
      refine ops_val (op := (.indexAddr 24 (.tmp 47) (.tmp 48))) (d := some 49) (v := .pointer (some (ad326.add (m320 * 3)))) ⟨by kernel_rfl⟩ (run_indexA hA327 Try.underlying24 (z := 3) (by kernel_rfl) rfl rfl hm321 hl325) ?_
      refine ops_load (d := some 50) (an := [.v (vI x318.Ent.N), .v (vI x318.Ent.Gen), .v (sl A329 x318.Comps c330)]) (evs := [.load (ad326.add (m320 * 3)) (vI x318.Ent.N), .load ((ad326.add (m320 * 3)).add 1) (vI x318.Ent.Gen), .load ((ad326.add (m320 * 3)).add 2) (sl A329 x318.Comps c330)]) (v := .agg #[vI x318.Ent.N, vI x318.Ent.Gen, sl A329 x318.Comps c330]) ⟨by kernel_rfl⟩ (fun w_ hM => ⟨hM.elcell 12 rfl hq328 0 rfl, hM.elcell 12 rfl hq328 1 rfl, hM.elcell 12 rfl hq328 2 rfl, rfl⟩) ?_
      obtain ⟨x332, hv333, hp⟩ := obind hp
      refine ops_callI (σ := Unit) (d := some 51) (f := 10) (args := #[.agg #[vI x291.it.Ent.N, vI x291.it.Ent.Gen, sl A307 x305 c308], .agg #[vI x318.Ent.N, vI x318.Ent.Gen, sl A329 x318.Comps c330]]) (v := (fun _ => .bool x332)) (I := (fun _ => True)) (M' := (fun _ => Mem w0 (.blk b315 [vI x291.it.Ent.N, vI x291.it.Ent.Gen, sl A307 x305 c308] 38 :: ow A307 x305 c308 43 2 y309 :: .blk b304 [vI x291.i, vI x291.it.Ent.N, vI x291.it.Ent.Gen, sl A301 x291.it.Comps c302] 110 :: ow (sa g299) x265 c269 110 4 y270 :: .blk b267 [sl (sa g299) x265 c269] 107 :: .blk b50 [sl A283 l285 c284] 23 :: ow A283 l285 c284 3 1 y286 :: .blk b3 [.bool false] 4 :: .blk b2 [vI r_0, vI r_1] 28 :: .blk b1 [sl A_w_0 w_0 c_w_0, sl A_w_1 w_1 c_w_1, sl A_w_2 w_2 c_w_2] 26 :: .obj b276 (rc_rf277 .busy none) :: .obj b275 (.deferred (some [])) :: Fz F310 W311 :: cs))) ⟨by kernel_rfl⟩ (fun w_ hM hS => (tourref3_SameItem_ok w_ w_ [] (fun b => b < w_.heap.size) w_ x291.it.Ent.N x291.it.Ent.Gen A307 c308 x305 x318.Ent.N x318.Ent.Gen A329 c330 x318.Comps (Mem.fz0 w_) (hM.ordS 1 12 rfl rfl h312 rfl rfl) (hM.now 12 rfl h331) x332 hv333).mono (by rintro e w' ⟨-, rfl, h'⟩; have h' : Mem w_ [] w' := h'.pick 1 [] (by kernel_rfl) (by decide) rfl; exact ⟨(), trivial, rfl, hM.join h' rfl, (hS.step h'.below)⟩)) ?_
      rintro _ -
      refine oQ [oT 17, oT 18] [(53, .bool (!x332)), (10, vI x291.i), (9, vP b50 0), (8, vP b3 0)] (by kernel_rfl) ?_
      refine ops_nil (fin_then ?_)
      refine st_if (b := !x332) rfl (fun hc334 => ?_) (fun hc334 => ?_)
      ·
       have hp := cnd_t hc334 hp
       refine st_seq (st_region [oF 0] (by rfl) ?_)
       refine ops_store (an := []) (evs := [sr b3 0 (.bool false)]) ⟨by kernel_rfl⟩ (fun w_ hM hS => let ⟨w', he, h'⟩ := hM.evs_stores [.bool false] 7 rfl 0 (Nat.le_of_ble_eq_true rfl); ⟨w', he, h', trivial⟩) ?_
       refine ops_nil (fin_then (st_ret (fin_ret_then (fin_ret_block ?_))))
       refine fin_round_off (e := .ret) (c := .ret) rfl 10 rfl hrc_rf277 hk_rd314 (by intro t_ h_; cases h_; decide) (fun w_ h' => (by first | exact (Mem.fzback h' 12 rfl h313).sub (.cons _ (.cons _ (.cons_cons _ (.cons _ (.cons _ (.cons _ (.cons _ (.cons _ (.cons _ (.cons _ (.cons _ (.cons _ (.cons_cons _ (.refl _)))))))))))))) | exact (Mem.fzback h' 12 rfl (hx11.trans h313)).sub (.cons _ (.cons _ (.cons_cons _ (.cons _ (.cons _ (.cons _ (.cons _ (.cons _ (.cons _ (.cons _ (.cons _ (.cons _ (.cons_cons _ (.refl _)))))))))))))) | exact (Mem.fzback h' 12 rfl ((h274.trans hx11).trans h313)).sub (.cons _ (.cons _ (.cons_cons _ (.cons _ (.cons _ (.cons _ (.cons _ (.cons _ (.cons _ (.cons _ (.cons _ (.cons _ (.cons_cons _ (.refl _)))))))))))))) | exact (Mem.fzback h' 12 rfl (((h48.trans h274).trans hx11).trans h313)).sub (.cons _ (.cons _ (.cons_cons _ (.cons _ (.cons _ (.cons _ (.cons _ (.cons _ (.cons _ (.cons _ (.cons _ (.cons _ (.cons_cons _ (.refl _)))))))))))))) | exact (Mem.fzback h' 12 rfl ((((hx42.trans h48).trans h274).trans hx11).trans h313)).sub (.cons _ (.cons _ (.cons_cons _ (.cons _ (.cons _ (.cons _ (.cons _ (.cons _ (.cons _ (.cons _ (.cons _ (.cons _ (.cons_cons _ (.refl _)))))))))))))) | exact (Mem.fzback h' 12 rfl (((((hx38.trans hx42).trans h48).trans h274).trans hx11).trans h313)).sub (.cons _ (.cons _ (.cons_cons _ (.cons _ (.cons _ (.cons _ (.cons _ (.cons _ (.cons _ (.cons _ (.cons _ (.cons _ (.cons_cons _ (.refl _)))))))))))))) | exact (Mem.fzback h' 12 rfl ((((((hx34.trans hx38).trans hx42).trans h48).trans h274).trans hx11).trans h313)).sub (.cons _ (.cons _ (.cons_cons _ (.cons _ (.cons _ (.cons _ (.cons _ (.cons _ (.cons _ (.cons _ (.cons _ (.cons _ (.cons_cons _ (.refl _)))))))))))))) | exact (Mem.fzback h' 12 rfl (((((((hx30.trans hx34).trans hx38).trans hx42).trans h48).trans h274).trans hx11).trans h313)).sub (.cons _ (.cons _ (.cons_cons _ (.cons _ (.cons _ (.cons _ (.cons _ (.cons _ (.cons _ (.cons _ (.cons _ (.cons _ (.cons_cons _ (.refl _)))))))))))))) | exact (Mem.fzback h' 12 rfl ((((((((hx26.trans hx30).trans hx34).trans hx38).trans hx42).trans h48).trans h274).trans hx11).trans h313)).sub (.cons _ (.cons _ (.cons_cons _ (.cons _ (.cons _ (.cons _ (.cons _ (.cons _ (.cons _ (.cons _ (.cons _ (.cons _ (.cons_cons _ (.refl _)))))))))))))) | exact (Mem.fzback h' 12 rfl (((((((((h19.trans hx26).trans hx30).trans hx34).trans hx38).trans hx42).trans h48).trans h274).trans hx11).trans h313)).sub (.cons _ (.cons _ (.cons_cons _ (.cons _ (.cons _ (.cons _ (.cons _ (.cons _ (.cons _ (.cons _ (.cons _ (.cons _ (.cons_cons _ (.refl _)))))))))))))))) ?_
       refine oQ [oT 12] [(23, .bool true), (0, yv b276), (5, sl (sa g299) x265 c269), (6, vI (x265.length : Int)), (7, vI i282)] (by kernel_rfl) ?_
       refine ops_nil (fin_then (st_true rfl (st_ret (fin_ret_block (fin_ret_then (fin_ret_then (fin_ret_block ?_)))))))
       refine fin_rf_off (e' := .ret) (c := .ret) rfl rfl rfl 10 rfl hrc_rf277 hk_rf277 ?_
       refine fin_conv (l' := [(32, .func (.func 58) #[] #[vP b267 0]), (9, vP b50 0), (8, vP b3 0), (7, vP b2 0), (4, vP b1 0), (1, sl A_with with_1 c_with), (2, sl A_without without c_without)]) (M' := Mem w0 (.blk b315 [vI x291.it.Ent.N, vI x291.it.Ent.Gen, sl A307 x305 c308] 38 :: ow A307 x305 c308 43 2 y309 :: .blk b304 [vI x291.i, vI x291.it.Ent.N, vI x291.it.Ent.Gen, sl A301 x291.it.Comps c302] 110 :: ow (sa g299) x265 c269 110 4 y270 :: .blk b267 [sl (sa g299) x265 c269] 107 :: .blk b50 [sl A283 l285 c284] 23 :: ow A283 l285 c284 3 1 y286 :: .blk b3 [.bool false] 4 :: .blk b2 [vI r_0, vI r_1] 28 :: .blk b1 [sl A_w_0 w_0 c_w_0, sl A_w_1 w_1 c_w_1, sl A_w_2 w_2 c_w_2] 26 :: .obj b275 (.deferred (some [])) :: Fz F310 W311 :: cs)) rfl (fun _ h => h) ?_
       refine fin_ret_block (fin_ret_then ?_)
       refine fin_outs rfl ?_
       refine outs_mark 10 rfl ?_
       refine outs_conv (M' := Mem w0 (.blk b315 [vI x291.it.Ent.N, vI x291.it.Ent.Gen, sl A307 x305 c308] 38 :: ow A307 x305 c308 43 2 y309 :: .blk b304 [vI x291.i, vI x291.it.Ent.N, vI x291.it.Ent.Gen, sl A301 x291.it.Comps c302] 110 :: ow (sa g299) x265 c269 110 4 y270 :: .blk b267 [sl (sa g299) x265 c269] 107 :: .blk b50 [sl A283 l285 c284] 23 :: ow A283 l285 c284 3 1 y286 :: .blk b3 [.bool false] 4 :: .blk b2 [vI r_0, vI r_1] 28 :: .blk b1 [sl A_w_0 w_0 c_w_0, sl A_w_1 w_1 c_w_1, sl A_w_2 w_2 c_w_2] 26 :: Fz F310 W311 :: cs)) (fun _ h => h) ?_
       obtain hq_ := Option.some.inj hp
       subst hq_
       obtain hq_ := hd11 _ rfl
       subst hq_
       have hp : some false = some t9001 := hk11
       have hq_ := Option.some.inj hp
       have hr0_ := hq_
       subst hr0_
       refine outs_nil [.cell 8 4] [.bool false] rfl (fun w_ hM => (.cell rfl (tr_run _ [.v (.bool false)] [ld b3 0 (.bool false)] (.bool false : Value) _ _ (by kernel_rfl) ⟨hM.cell 7 rfl rfl, rfl⟩) .nil)) (fun w_ hM => ?_)
       exact ⟨F310, W311, (((((((((h19.trans hx26).trans hx30).trans hx34).trans hx38).trans hx42).trans h48).trans h274).trans hx11).trans h313), rfl, hM.pick 11 [10] (by kernel_rfl) (by decide) rfl⟩
      ·
       have hp := cnd_f hc334 hp
       refine st_skip (fin_then (st_region [oF 0, oF 1, oF 2, oF 3, oF 4] (by rfl) ?_))
       refine ops_mem (d := some 54) (an := [.v (sl A283 l285 c284)]) (evs := [ld b50 0 (sl A283 l285 c284)]) (v := sl A283 l285 c284) ⟨by kernel_rfl⟩ (fun w_ hM hS => ⟨w_, ⟨hM.cell 5 rfl rfl, rfl⟩, hM, trivial⟩) ?_
       refine oQ [oF 1] [(55, vI x291.i), (54, sl A283 l285 c284), (9, vP b50 0)] (by kernel_rfl) ?_
       have h335 : RepL (Rep.int .i64) F310 W311 ([x291.i] : List Int) ([vI x291.i]) := (RepL.cons (R := (Rep.int .i64)) (F := F310) (w := W311) (vs := [vI x291.i]) (ys := []) rfl RepL.nil)
       refine ops_new (d := some 56) (o := .cells ([vI x291.i] : List Value).toArray 3) (v := fun g336 => .slice (sa g336) ([x291.i] : List Int).length 1) (M' := fun g336 => Mem w0 (orow (sa g336) ([x291.i] : List Int).length 1 3 1 ([vI x291.i]) :: .blk b315 [vI x291.it.Ent.N, vI x291.it.Ent.Gen, sl A307 x305 c308] 38 :: ow A307 x305 c308 43 2 y309 :: .blk b304 [vI x291.i, vI x291.it.Ent.N, vI x291.it.Ent.Gen, sl A301 x291.it.Comps c302] 110 :: ow (sa g299) x265 c269 110 4 y270 :: .blk b267 [sl (sa g299) x265 c269] 107 :: .blk b50 [sl A283 l285 c284] 23 :: ow A283 l285 c284 3 1 y286 :: .blk b3 [.bool false] 4 :: .blk b2 [vI r_0, vI r_1] 28 :: .blk b1 [sl A_w_0 w_0 c_w_0, sl A_w_1 w_1 c_w_1, sl A_w_2 w_2 c_w_2] 26 :: .obj b276 (rc_rf277 .busy none) :: .obj b275 (.deferred (some [])) :: Fz F310 W311 :: cs)) (fun g336 => ⟨by kernel_rfl⟩) (fun w_ hM hS => ⟨hM.onew [vI x291.i] 3 1 1 rfl (by decide), trivial⟩) (fun g336 => ?_)
       obtain ⟨l337, hv338, hp⟩ := obind hp
       obtain ⟨he339, hb340⟩ := app_some hv338
       obtain ⟨y341, hy342⟩ : ∃ y_, y286 ++ ([vI x291.i]) = y_ := ⟨_, rfl⟩
       have h343 : RepL (Rep.int .i64) F310 W311 l337 y341 := by rw [he339, ← hy342]; exact RepL.app h287 h335
       refine ops_appendO (x := (Go.Operand.tmp 54)) (y := (Go.Operand.tmp 56)) (t := 23) (e := 3) (d := some 57) (n' := l337.length) (z := 1) (m := ([x291.i] : List Int).length) (bytes := 8) (xs' := y341) (news := ([vI x291.i])) (zv := vI 0) 7 ⟨by kernel_rfl⟩ rfl rfl Try.underlying23 (by kernel_rfl) (by rfl) rfl (fun w_ hM => hM.srcO 0 rfl) h335.len h335.one hb340 (by have z_ := congrArg List.length he339; rw [List.length_append] at z_; exact z_.symm) hy342 (fun _ _ _ _ hS h' => trivial) ?_
       rintro ⟨A344, c345⟩
       refine ops_store (an := []) (evs := [sr b50 0 (sl A344 l337 c345)]) ⟨by kernel_rfl⟩ (fun w_ hM hS => let ⟨w', he, h'⟩ := hM.evs_stores [sl A344 l337 c345] 6 rfl 0 (Nat.le_of_ble_eq_true rfl); ⟨w', he, h', trivial⟩) ?_
       refine ops_nil (fin_block ?_)
       refine fin_round_on 11 rfl hrc_rf277 hk_rd314 (by intro t_ h_; cases h_; decide) (fun w_ h' => (by first | exact (Mem.fzback h' 13 rfl h313).sub (.cons _ (.cons _ (.cons _ (.cons_cons _ (.cons _ (.cons _ (.cons _ (.cons _ (.cons _ (.cons _ (.cons _ (.cons _ (.cons _ (.cons_cons _ (.refl _))))))))))))))) | exact (Mem.fzback h' 13 rfl (hx11.trans h313)).sub (.cons _ (.cons _ (.cons _ (.cons_cons _ (.cons _ (.cons _ (.cons _ (.cons _ (.cons _ (.cons _ (.cons _ (.cons _ (.cons _ (.cons_cons _ (.refl _))))))))))))))) | exact (Mem.fzback h' 13 rfl ((h274.trans hx11).trans h313)).sub (.cons _ (.cons _ (.cons _ (.cons_cons _ (.cons _ (.cons _ (.cons _ (.cons _ (.cons _ (.cons _ (.cons _ (.cons _ (.cons _ (.cons_cons _ (.refl _))))))))))))))) | exact (Mem.fzback h' 13 rfl (((h48.trans h274).trans hx11).trans h313)).sub (.cons _ (.cons _ (.cons _ (.cons_cons _ (.cons _ (.cons _ (.cons _ (.cons _ (.cons _ (.cons _ (.cons _ (.cons _ (.cons _ (.cons_cons _ (.refl _))))))))))))))) | exact (Mem.fzback h' 13 rfl ((((hx42.trans h48).trans h274).trans hx11).trans h313)).sub (.cons _ (.cons _ (.cons _ (.cons_cons _ (.cons _ (.cons _ (.cons _ (.cons _ (.cons _ (.cons _ (.cons _ (.cons _ (.cons _ (.cons_cons _ (.refl _))))))))))))))) | exact (Mem.fzback h' 13 rfl (((((hx38.trans hx42).trans h48).trans h274).trans hx11).trans h313)).sub (.cons _ (.cons _ (.cons _ (.cons_cons _ (.cons _ (.cons _ (.cons _ (.cons _ (.cons _ (.cons _ (.cons _ (.cons _ (.cons _ (.cons_cons _ (.refl _))))))))))))))) | exact (Mem.fzback h' 13 rfl ((((((hx34.trans hx38).trans hx42).trans h48).trans h274).trans hx11).trans h313)).sub (.cons _ (.cons _ (.cons _ (.cons_cons _ (.cons _ (.cons _ (.cons _ (.cons _ (.cons _ (.cons _ (.cons _ (.cons _ (.cons _ (.cons_cons _ (.refl _))))))))))))))) | exact (Mem.fzback h' 13 rfl (((((((hx30.trans hx34).trans hx38).trans hx42).trans h48).trans h274).trans hx11).trans h313)).sub (.cons _ (.cons _ (.cons _ (.cons_cons _ (.cons _ (.cons _ (.cons _ (.cons _ (.cons _ (.cons _ (.cons _ (.cons _ (.cons _ (.cons_cons _ (.refl _))))))))))))))) | exact (Mem.fzback h' 13 rfl ((((((((hx26.trans hx30).trans hx34).trans hx38).trans hx42).trans h48).trans h274).trans hx11).trans h313)).sub (.cons _ (.cons _ (.cons _ (.cons_cons _ (.cons _ (.cons _ (.cons _ (.cons _ (.cons _ (.cons _ (.cons _ (.cons _ (.cons _ (.cons_cons _ (.refl _))))))))))))))) | exact (Mem.fzback h' 13 rfl (((((((((h19.trans hx26).trans hx30).trans hx34).trans hx38).trans hx42).trans h48).trans h274).trans hx11).trans h313)).sub (.cons _ (.cons _ (.cons _ (.cons_cons _ (.cons _ (.cons _ (.cons _ (.cons _ (.cons _ (.cons _ (.cons _ (.cons _ (.cons _ (.cons_cons _ (.refl _))))))))))))))))) ?_
       refine oQ [oT 12] [(23, .bool false), (0, yv b276), (5, sl (sa g299) x265 c269), (6, vI (x265.length : Int)), (7, vI i282)] (by kernel_rfl) ?_
       refine ops_nil (fin_then (st_false rfl (st_skip (fin_block (fin_then (st_region [oF 0, oF 1] (by rfl) ?_))))))
       refine oQ [oF 0, oF 1] [(7, vI (IntKind.i64.wrap (i282 + 1))), (0, yv b276), (5, sl (sa g299) x265 c269), (6, vI (x265.length : Int))] (by kernel_rfl) ?_
       refine ops_nil ?_
       exact fin_again (IntKind.i64.wrap (i282 + 1), l337) (A344, c345, y341, F310, W311) (Option.some.inj hp).symm ⟨h343, (hx11.trans h313)⟩ (look_has ⟨rfl, rfl, rfl, rfl, trivial⟩) (fun w_ hM => hM.pick 14 [4, 5, 6, 7, 8, 9, 10, 11, 12, 13] (by kernel_rfl) (by decide) rfl)
   ·
    have hp := cnd_f hc290 hp
    refine st_exit (fin_exit_then (fin_exit_then (fin_exit ?_)))
    refine fin_rf_on rfl rfl 7 rfl hrc_rf277 hk_rf277 ?_
    refine fin_conv (l' := [(32, .func (.func 58) #[] #[vP b267 0]), (9, vP b50 0), (8, vP b3 0), (7, vP b2 0), (4, vP b1 0), (1, sl A_with with_1 c_with), (2, sl A_without without c_without)]) (M' := Mem w0 (ow A268 x265 c269 110 4 y270 :: .blk b267 [sl A268 x265 c269] 107 :: .blk b50 [sl A283 l285 c284] 23 :: ow A283 l285 c284 3 1 y286 :: .blk b3 [.bool false] 4 :: .blk b2 [vI r_0, vI r_1] 28 :: .blk b1 [sl A_w_0 w_0 c_w_0, sl A_w_1 w_1 c_w_1, sl A_w_2 w_2 c_w_2] 26 :: .obj b275 (.deferred (some [])) :: Fz F288 W289 :: cs)) rfl (fun _ h => h) ?_
    refine fin_block ?_
    obtain hq_ := Option.some.inj hp
    subst hq_
    obtain hq_ := hd11 _ rfl
    subst hq_
    have hp : (tourlaw3_QueryFinds_j1 w_2 with_1 without r_0 r_1 w_0 w_1) l285 = some t9001 := hk11
    exact fin_joinN HJ1 (A283, c284, l285, y286, b275, F288, W289) rfl ⟨hp, h287, (h274.trans hx11)⟩ (look_has ⟨rfl, rfl, rfl, rfl, rfl, rfl, trivial⟩) (fun w_ hM => hM.pick 9 [6, 5, 4, 2, 3, 7, 8] (by kernel_rfl) (by decide) rfl)
end Go.Proofs.Ythcniadbdjoecaa.Q
