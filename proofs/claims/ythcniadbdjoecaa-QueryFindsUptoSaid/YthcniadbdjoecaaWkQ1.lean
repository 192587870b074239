/- The Go functions come to what the plain functions tell. No condition. -/
import Derived.Test.YthcniadbdjoecaaProg
import Derived.Test.YthcniadbdjoecaaFnQ
import Derived.Test.YthcniadbdjoecaaExRf
import Derived.Test.YthcniadbdjoecaaWkQ0
import Derived.Test.YthcniadbdjoecaaEqQ
namespace Go.Proofs.Ythcniadbdjoecaa.Q
open Go Go.RowKit Go.Proofs.Ythcniadbdjoecaa.Sx
set_option linter.unusedVariables false
set_option maxHeartbeats 4000000
set_option maxRecDepth 100000
theorem query_All_ok (w0 w : World) (cs : List Chunk) (F : Nat → Prop) (W : World) (A_w_0 : Option Addr) (c_w_0 : Nat) (w_0 : List api_Kind) (A_w_1 : Option Addr) (c_w_1 : Nat) (w_1 : List Int) (A_w_2 : Option Addr) (c_w_2 : Nat) (w_2 : List api_Item) (A_with : Option Addr) (c_with : Nat) (with_1 : List Int) (A_without : Option Addr) (c_without : Nat) (without : List Int) (hM0 : Mem w0 (Fz F W :: cs) w) (h_w_0 : RdS R_api_Kind F W A_w_0 c_w_0 w_0) (h_w_1 : RdS (Rep.int .i64) F W A_w_1 c_w_1 w_1) (h_w_2 : RdS R_api_Item F W A_w_2 c_w_2 w_2) (h_with : RdS (Rep.int .i64) F W A_with c_with with_1) (h_without : RdS (Rep.int .i64) F W A_without c_without without) (l9004 : List query_row) (hp : query_All w_0 w_1 w_2 with_1 without = some l9004) : Calls Try.prog 9 #[.agg #[sl A_w_0 w_0 c_w_0, sl A_w_1 w_1 c_w_1, sl A_w_2 w_2 c_w_2], sl A_with with_1 c_with, sl A_without without c_without] w fun e w' => ∃ (b9001 : Nat), ∃ (A9002 : Option Addr), ∃ (c9003 : Nat), ∃ (y9005 : List Value), ∃ (F9007 : Nat → Prop), ∃ (W9008 : World), ((RepL R_query_row F9007 W9008 l9004 y9005) ∧ (Ext w0 F W F9007 W9008)) ∧ e = .returned (.func (.func 58) #[] #[vP b9001 0]) ∧ Mem w0 (.blk b9001 [sl A9002 l9004 c9003] 107 :: ow A9002 l9004 c9003 110 4 y9005 :: Fz F9007 W9008 :: cs) w' := by
 unfold query_All at hp
 refine sx_calls Try.func9 rfl (n := 35) (by kernel_rfl) (l := [(0, .agg #[sl A_w_0 w_0 c_w_0, sl A_w_1 w_1 c_w_1, sl A_w_2 w_2 c_w_2]), (1, sl A_with with_1 c_with), (2, sl A_without without c_without)]) rfl (by rfl) hM0 ?_
 refine st_seq (st_region [oF 0, oF 1] (by rfl) ?_)
 refine ops_newB (d := some 3) [sl A_w_0 w_0 c_w_0, sl A_w_1 w_1 c_w_1, sl A_w_2 w_2 c_w_2] 26 (fun b1 => ⟨by kernel_rfl⟩) (fun w_ hM hS => trivial) (fun b1 => ?_)
 refine oQ [oF 1] [(3, vP b1 0), (1, sl A_with with_1 c_with), (2, sl A_without without c_without)] (by kernel_rfl) ?_
 refine ops_nil (fin_then (st_seq (st_region [oF 0] (by rfl) ?_)))
 refine ops_newB (d := some 7) [.slice none 0 0] 107 (fun b2 => ⟨by kernel_rfl⟩) (fun w_ hM hS => trivial) (fun b2 => ?_)
 refine ops_nil (fin_then ?_)
 refine st_join1 (σ := (Option Addr) × Nat × (List query_row) × (List Value) × (Nat → Prop) × World) (L := fun x_ => match x_ with | (A3, c4, l5, y6, F8, W9) => [(7, vP b2 0)]) (N := fun x_ => match x_ with | (A3, c4, l5, y6, F8, W9) => Mem w0 (.blk b2 [sl A3 l5 c4] 107 :: ow A3 l5 c4 110 4 y6 :: Fz F8 W9 :: cs)) (I := fun x_ => match x_ with | (A3, c4, l5, y6, F8, W9) => (query_All_j1 l5 = some l9004) ∧ (RepL R_query_row F8 W9 l5 y6) ∧ (Ext w0 F W F8 W9)) ?_ ?_
 ·
  rintro ⟨A3, c4, l5, y6, F8, W9⟩ ⟨hp, h7, hx1⟩
  unfold query_All_j1 at hp
  refine st_seq (st_region [oF 0, oF 1] (by rfl) ?_)
  refine oQ [oF 0, oF 1] [(6, .func (.func 58) #[] #[vP b2 0])] (by kernel_rfl) ?_
  refine ops_nil (fin_then (st_ret ?_))
  have hq_ := Option.some.inj hp
  have hr0_ := hq_
  subst hr0_
  refine fin_ret [.tmp 6] [.func (.func 58) #[] #[vP b2 0]] rfl rfl (fun w_ hM => (.tmp rfl .nil)) (fun w_ hM => ?_)
  exact ⟨b2, A3, c4, y6, F8, W9, ⟨h7, hx1⟩, rfl, hM⟩
 ·
  intro HJ1
  refine st_seq (st_seq (st_region [oF 0, oF 1, oF 2, oF 3] (by rfl) ?_))
  refine oQ [oF 0] [(10, vP b1 2), (7, vP b2 0), (1, sl A_with with_1 c_with), (2, sl A_without without c_without)] (by kernel_rfl) ?_
  refine ops_mem (d := some 11) (an := [.v (sl A_w_2 w_2 c_w_2)]) (evs := [ld b1 2 (sl A_w_2 w_2 c_w_2)]) (v := sl A_w_2 w_2 c_w_2) ⟨by kernel_rfl⟩ (fun w_ hM hS => ⟨w_, ⟨hM.cell 1 rfl rfl, rfl⟩, hM, trivial⟩) ?_
  refine oQ [oF 2, oF 3] [(13, vI 0), (12, vI (w_2.length : Int)), (11, sl A_w_2 w_2 c_w_2), (7, vP b2 0), (1, sl A_with with_1 c_with), (2, sl A_without without c_without)] (by kernel_rfl) ?_
  refine ops_nil (fin_then (st_block ?_))
  refine st_conv (l' := [(13, vI 0), (12, vI (w_2.length : Int)), (11, sl A_w_2 w_2 c_w_2), (7, vP b2 0), (1, sl A_with with_1 c_with), (2, sl A_without without c_without)]) (M' := Mem w0 (ow none ([] : List query_row) 0 110 4 [] :: .blk b2 [.slice none 0 0] 107 :: .blk b1 [sl A_w_0 w_0 c_w_0, sl A_w_1 w_1 c_w_1, sl A_w_2 w_2 c_w_2] 26 :: Fz F W :: cs)) rfl (fun w_ h => h.onil none 110 4) ?_
  obtain ⟨r2, hl2, hk2⟩ := obind hp
  refine st_loopP (σ := (List query_row) × Int) (ρ := (List query_row)) (γ := (Option Addr) × Nat × (List Value) × (Nat → Prop) × World) hl2 (none, 0, [], F, W) (fun s_ g_ => match s_, g_ with | (l16, i19), (A14, c15, y17, F20, W21) => [(1, sl A_with with_1 c_with), (2, sl A_without without c_without), (7, vP b2 0), (11, sl A_w_2 w_2 c_w_2), (12, vI (w_2.length : Int)), (13, vI i19)]) (fun s_ g_ => match s_, g_ with | (l16, i19), (A14, c15, y17, F20, W21) => Mem w0 (.blk b2 [sl A14 l16 c15] 107 :: ow A14 l16 c15 110 4 y17 :: Fz F20 W21 :: cs)) (fun s_ g_ => match s_, g_ with | (l16, i19), (A14, c15, y17, F20, W21) => (RepL R_query_row F20 W21 l16 y17) ∧ (Ext w0 F W F20 W21)) ⟨(RepL.nil (R := R_query_row)), (Ext.refl _ _ _)⟩ (look_has ⟨rfl, rfl, rfl, rfl, rfl, rfl, trivial⟩) (fun w_ hM => hM.pick 4 [1, 0, 3] (by kernel_rfl) (by decide) rfl) ?_
  rintro ⟨l16, i19⟩ ⟨A14, c15, y17, F20, W21⟩ o2 ⟨h18, hx2⟩ hs_ hd2
  have hp : (query_All_l2 w_2 with_1 without) l16 i19 = some o2 := hs_
  clear hs_
  unfold query_All_l2 at hp
  have h_with := h_with.ext hx2
  have h_without := h_without.ext hx2
  have h_w_2 := h_w_2.ext hx2
  refine st_seq (st_region [oF 0] (by rfl) ?_)
  refine oQ [oF 0] [(14, .bool (decide (i19 < (w_2.length : Int)))), (1, sl A_with with_1 c_with), (2, sl A_without without c_without), (7, vP b2 0), (11, sl A_w_2 w_2 c_w_2), (12, vI (w_2.length : Int)), (13, vI i19)] (by kernel_rfl) ?_
  refine ops_nil (fin_then (st_seq ?_))
  refine st_if (b := decide (i19 < (w_2.length : Int))) rfl (fun hc22 => ?_) (fun hc22 => ?_)
  ·
   have hp := cnd_t hc22 hp
   refine st_skip (fin_then ?_)
   refine st_join1 (σ := (Option Addr) × Nat × (List query_row) × (List Value) × (Nat → Prop) × World) (L := fun x_ => match x_ with | (A23, c24, l25, y26, F28, W29) => [(1, sl A_with with_1 c_with), (2, sl A_without without c_without), (7, vP b2 0), (11, sl A_w_2 w_2 c_w_2), (12, vI (w_2.length : Int)), (13, vI i19)]) (N := fun x_ => match x_ with | (A23, c24, l25, y26, F28, W29) => Mem w0 (.blk b2 [sl A23 l25 c24] 107 :: ow A23 l25 c24 110 4 y26 :: Fz F28 W29 :: cs)) (I := fun x_ => match x_ with | (A23, c24, l25, y26, F28, W29) => ((query_All_j3 i19) l25 = some o2) ∧ (RepL R_query_row F28 W29 l25 y26) ∧ (Ext w0 F20 W21 F28 W29)) ?_ ?_
   ·
    rintro ⟨A23, c24, l25, y26, F28, W29⟩ ⟨hp, h27, hx3⟩
    have h_with := h_with.ext hx3
    have h_without := h_without.ext hx3
    have h_w_2 := h_w_2.ext hx3
    unfold query_All_j3 at hp
    refine st_region [oF 0, oF 1] (by rfl) ?_
    refine oQ [oF 0, oF 1] [(13, vI (IntKind.i64.wrap (i19 + 1))), (1, sl A_with with_1 c_with), (2, sl A_without without c_without), (7, vP b2 0), (11, sl A_w_2 w_2 c_w_2), (12, vI (w_2.length : Int))] (by kernel_rfl) ?_
    refine ops_nil ?_
    exact fin_again (l25, IntKind.i64.wrap (i19 + 1)) (A23, c24, y26, F28, W29) (Option.some.inj hp).symm ⟨h27, (hx2.trans hx3)⟩ (look_has ⟨rfl, rfl, rfl, rfl, rfl, rfl, trivial⟩) (fun w_ hM => hM)
   ·
    intro HJ3
    refine st_seq (st_block (st_seq (st_region [oF 0, oF 1, oF 2, oF 3, oF 4, oF 5] (by rfl) ?_)))
    refine oQ [oF 0] [(15, vI i19), (1, sl A_with with_1 c_with), (2, sl A_without without c_without), (7, vP b2 0), (11, sl A_w_2 w_2 c_w_2), (12, vI (w_2.length : Int)), (13, vI i19)] (by kernel_rfl) ?_
    obtain ⟨x30, hv31, hp⟩ := obind hp
    obtain ⟨m32, hm33, hx34⟩ := idx_some hv31
    have hl37 := (List.getElem?_eq_some_iff.1 hx34).1
    obtain ⟨ad38, vs35, hA39, hr36, hq40⟩ := RdS.el h_w_2 hx34
    obtain ⟨A41, c42, rfl, h43⟩ := dec_api_Item hr36
    refine ops_val (op := (.indexAddr 24 (.tmp 11) (.tmp 13))) (d := some 16) (v := .pointer (some (ad38.add (m32 * 3)))) ⟨by kernel_rfl⟩ (run_indexA hA39 Try.underlying24 (z := 3) (by kernel_rfl) rfl rfl hm33 hl37) ?_
    refine ops_mem (d := some 17) (an := [.v (vI x30.Ent.N), .v (vI x30.Ent.Gen), .v (sl A41 x30.Comps c42)]) (evs := [.load (ad38.add (m32 * 3)) (vI x30.Ent.N), .load ((ad38.add (m32 * 3)).add 1) (vI x30.Ent.Gen), .load ((ad38.add (m32 * 3)).add 2) (sl A41 x30.Comps c42)]) (v := .agg #[vI x30.Ent.N, vI x30.Ent.Gen, sl A41 x30.Comps c42]) ⟨by kernel_rfl⟩ (fun w_ hM hS => ⟨w_, ⟨hM.elcell 2 rfl hq40 0 rfl, hM.elcell 2 rfl hq40 1 rfl, hM.elcell 2 rfl hq40 2 rfl, rfl⟩, hM, trivial⟩) ?_
    refine ops_newB (d := some 9) [vI 0, vI 0, .slice none 0 0] 38 (fun b44 => ⟨by kernel_rfl⟩) (fun w_ hM hS => trivial) (fun b44 => ?_)
    refine oQ [oF 4] [(8, vI i19), (9, vP b44 0), (17, .agg #[vI x30.Ent.N, vI x30.Ent.Gen, sl A41 x30.Comps c42]), (1, sl A_with with_1 c_with), (2, sl A_without without c_without), (7, vP b2 0), (11, sl A_w_2 w_2 c_w_2), (12, vI (w_2.length : Int)), (13, vI i19)] (by kernel_rfl) ?_
    refine ops_store (an := []) (evs := [sr b44 0 (vI x30.Ent.N), sr b44 1 (vI x30.Ent.Gen), sr b44 2 (sl A41 x30.Comps c42)]) ⟨by kernel_rfl⟩ (fun w_ hM hS => let ⟨w', he, h'⟩ := hM.evs_stores [vI x30.Ent.N, vI x30.Ent.Gen, sl A41 x30.Comps c42] 0 rfl 0 (Nat.le_of_ble_eq_true rfl); ⟨w', he, h', trivial⟩) ?_
    refine ops_nil (fin_then (st_seq (st_region [oF 0, oF 1, oF 2, oF 3] (by rfl) ?_)))
    refine ops_mem (d := some 18) (an := [.v (vI x30.Ent.N), .v (vI x30.Ent.Gen), .v (sl A41 x30.Comps c42)]) (evs := [ld b44 0 (vI x30.Ent.N), ld b44 1 (vI x30.Ent.Gen), ld b44 2 (sl A41 x30.Comps c42)]) (v := .agg #[vI x30.Ent.N, vI x30.Ent.Gen, sl A41 x30.Comps c42]) ⟨by kernel_rfl⟩ (fun w_ hM hS => ⟨w_, ⟨hM.cell 0 rfl rfl, hM.cell 0 rfl rfl, hM.cell 0 rfl rfl, rfl⟩, hM, trivial⟩) ?_
    refine oQ [oF 1, oF 2] [(20, sl A_without without c_without), (19, sl A_with with_1 c_with), (18, .agg #[vI x30.Ent.N, vI x30.Ent.Gen, sl A41 x30.Comps c42]), (8, vI i19), (9, vP b44 0), (1, sl A_with with_1 c_with), (2, sl A_without without c_without), (7, vP b2 0), (11, sl A_w_2 w_2 c_w_2), (12, vI (w_2.length : Int)), (13, vI i19)] (by kernel_rfl) ?_
    obtain ⟨x45, hv46, hp⟩ := obind hp
    refine ops_callI (σ := Unit) (d := some 21) (f := 12) (args := #[.agg #[vI x30.Ent.N, vI x30.Ent.Gen, sl A41 x30.Comps c42], sl A_with with_1 c_with, sl A_without without c_without]) (v := (fun _ => .bool x45)) (I := (fun _ => True)) (M' := (fun _ => Mem w0 (.blk b44 [vI x30.Ent.N, vI x30.Ent.Gen, sl A41 x30.Comps c42] 38 :: .blk b2 [sl A14 l16 c15] 107 :: ow A14 l16 c15 110 4 y17 :: Fz F20 W21 :: cs))) ⟨by kernel_rfl⟩ (fun w_ hM hS => (query_Match_ok w0 w_ (.blk b44 [vI x30.Ent.N, vI x30.Ent.Gen, sl A41 x30.Comps c42] 38 :: .blk b2 [sl A14 l16 c15] 107 :: ow A14 l16 c15 110 4 y17 :: cs) F20 W21 x30.Ent.N x30.Ent.Gen A41 c42 x30.Comps A_with c_with with_1 A_without c_without without (hM.pick 4 [3, 0, 1, 2] (by kernel_rfl) (by decide) rfl) h43 h_with h_without x45 hv46).mono (by rintro e w' ⟨-, rfl, h'⟩; have h' : Mem w0 (.blk b44 [vI x30.Ent.N, vI x30.Ent.Gen, sl A41 x30.Comps c42] 38 :: .blk b2 [sl A14 l16 c15] 107 :: ow A14 l16 c15 110 4 y17 :: Fz F20 W21 :: cs) w' := (h'.pick 4 [1, 2, 3, 0] (by kernel_rfl) (by decide) rfl); exact ⟨(), trivial, rfl, h', trivial⟩)) ?_
    rintro _ -
    refine ops_nil (fin_then ?_)
    refine st_if (b := x45) rfl (fun hc47 => ?_) (fun hc47 => ?_)
    ·
     have hp := cnd_t hc47 hp
     obtain ⟨x48, hv49, hp⟩ := obind hp
     obtain ⟨l63, hv64, hp⟩ := obind hp
     refine st_region_tree (.node [oT 1, oT 2, oT 3, oT 4, oT 5] (.leaf [oF 0, oF 6, oT 7, oT 8, oF 9, oF 10, oF 11]) (.node [oF 6, oT 7, oT 8] (.leaf [oF 0, oF 9, oF 10, oF 11]) (.leaf [oF 9, oF 0, oF 10, oF 11]))) (Mem w0 (.blk b44 [vI x30.Ent.N, vI x30.Ent.Gen, sl A41 x30.Comps c42] 38 :: Fz F20 W21 :: cs)) (by kernel_rfl) (by kernel_rfl) (by kernel_rfl) (fun _ d _ _ _ h => by cases d <;> exact h) (M' := Mem w0 (.blk b44 [vI x30.Ent.N, vI x30.Ent.Gen, sl A41 x30.Comps c42] 38 :: .blk b2 [sl A14 l16 c15] 107 :: ow A14 l16 c15 110 4 y17 :: Fz F20 W21 :: cs)) (fun w_ hM => ⟨hM.drew, hM.drew.sub (.cons_cons _ (.cons _ (.cons _ (.cons_cons _ (.refl _)))))⟩) ?_
     refine tree_node ?_
     refine oQ [oT 1, oT 2] [(24, vP b44 0), (23, vI i19), (9, vP b44 0), (1, sl A_with with_1 c_with), (2, sl A_without without c_without), (7, vP b2 0), (11, sl A_w_2 w_2 c_w_2), (12, vI (w_2.length : Int)), (13, vI i19)] (by kernel_rfl) ?_
     refine ops_load (d := some 25) (an := [.v (vI x30.Ent.N), .v (vI x30.Ent.Gen)]) (evs := [ld b44 0 (vI x30.Ent.N), ld b44 1 (vI x30.Ent.Gen)]) (v := .agg #[vI x30.Ent.N, vI x30.Ent.Gen]) ⟨by kernel_rfl⟩ (fun w_ hM => ⟨hM.cell 0 rfl rfl, hM.cell 0 rfl rfl, rfl⟩) ?_
     refine oQ [oT 4] [(26, vP b44 2), (25, .agg #[vI x30.Ent.N, vI x30.Ent.Gen]), (23, vI i19), (1, sl A_with with_1 c_with), (2, sl A_without without c_without), (7, vP b2 0), (11, sl A_w_2 w_2 c_w_2), (12, vI (w_2.length : Int)), (13, vI i19)] (by kernel_rfl) ?_
     refine ops_load (d := some 27) (an := [.v (sl A41 x30.Comps c42)]) (evs := [ld b44 2 (sl A41 x30.Comps c42)]) (v := sl A41 x30.Comps c42) ⟨by kernel_rfl⟩ (fun w_ hM => ⟨hM.cell 0 rfl rfl, rfl⟩) ?_
     refine ops_nil ?_
     refine tree_both ?_ ?_
     ·
      refine tree_leaf ?_
      refine ops_mem (d := some 22) (an := [.v (sl A14 l16 c15)]) (evs := [ld b2 0 (sl A14 l16 c15)]) (v := sl A14 l16 c15) ⟨by kernel_rfl⟩ (fun w_ hM hS => ⟨w_, ⟨hM.cell 1 rfl rfl, rfl⟩, hM, hS⟩) ?_
      refine ops_callI (σ := (Option Addr) × Nat × (List Value) × (Nat → Prop) × World) (d := some 28) (f := 57) (args := #[sl A41 x30.Comps c42]) (v := (fun x_ => match x_ with | (A65, c66, y67, F68, W69) => sl A65 x48 c66)) (I := (fun x_ => match x_ with | (A65, c66, y67, F68, W69) => (RepL R_api_Comp F68 W69 x48 y67) ∧ (Ext w0 F20 W21 F68 W69))) (M' := (fun x_ => match x_ with | (A65, c66, y67, F68, W69) => Mem w0 (ow A65 x48 c66 43 2 y67 :: .blk b44 [vI x30.Ent.N, vI x30.Ent.Gen, sl A41 x30.Comps c42] 38 :: .blk b2 [sl A14 l16 c15] 107 :: ow A14 l16 c15 110 4 y17 :: Fz F68 W69 :: cs))) ⟨by kernel_rfl⟩ (fun w_ hM hS => (world_CopyComps_ok w0 w_ (.blk b44 [vI x30.Ent.N, vI x30.Ent.Gen, sl A41 x30.Comps c42] 38 :: .blk b2 [sl A14 l16 c15] 107 :: ow A14 l16 c15 110 4 y17 :: cs) F20 W21 A41 c42 x30.Comps (hM.pick 4 [3, 0, 1, 2] (by kernel_rfl) (by decide) rfl) h43 x48 hv49).mono (by rintro e w' ⟨A65, c66, y67, F68, W69, ⟨h70, h71⟩, rfl, h'⟩; have h' : Mem w0 (ow A65 x48 c66 43 2 y67 :: .blk b44 [vI x30.Ent.N, vI x30.Ent.Gen, sl A41 x30.Comps c42] 38 :: .blk b2 [sl A14 l16 c15] 107 :: ow A14 l16 c15 110 4 y17 :: Fz F68 W69 :: cs) w' := (h'.pick 5 [0, 2, 3, 4, 1] (by kernel_rfl) (by decide) rfl); exact ⟨(A65, c66, y67, F68, W69), ⟨h70, h71⟩, rfl, h', (by first | exact (Mem.fzback h' 4 rfl h71).sub (.cons _ (.cons_cons _ (.cons _ (.cons _ (.cons_cons _ (.refl _)))))) | exact (Mem.fzback h' 4 rfl (hx2.trans h71)).sub (.cons _ (.cons_cons _ (.cons _ (.cons _ (.cons_cons _ (.refl _)))))))⟩)) ?_
      rintro ⟨A65, c66, y67, F68, W69⟩ ⟨h70, h71⟩
      have h43 := h43.ext h71
      have h_with := h_with.ext h71
      have h_without := h_without.ext h71
      have h_w_2 := h_w_2.ext h71
      have h18 := h18.ext h71
      refine oQ [oT 7, oT 8] [(30, .agg #[vI i19, vI x30.Ent.N, vI x30.Ent.Gen, sl A65 x48 c66]), (22, sl A14 l16 c15), (1, sl A_with with_1 c_with), (2, sl A_without without c_without), (7, vP b2 0), (11, sl A_w_2 w_2 c_w_2), (12, vI (w_2.length : Int)), (13, vI i19)] (by kernel_rfl) ?_
      refine ops_ex (σ := (Nat → Prop) × World) (I := fun x_ => Ext w0 F68 W69 x_.1 x_.2 ∧ RdS R_api_Comp x_.1 x_.2 A65 c66 x48) (M' := fun x_ => Mem w0 (.blk b44 [vI x30.Ent.N, vI x30.Ent.Gen, sl A41 x30.Comps c42] 38 :: .blk b2 [sl A14 l16 c15] 107 :: ow A14 l16 c15 110 4 y17 :: Fz x_.1 x_.2 :: cs)) (fun w_ hM => ?_) ?_
      · obtain ⟨F_, h1_, h2_, h3_⟩ := (hM.pick 5 [0, 4, 1, 2, 3] (by kernel_rfl) (by decide) rfl : Mem w0 (ow A65 x48 c66 43 2 y67 :: Fz F68 W69 :: .blk b44 [vI x30.Ent.N, vI x30.Ent.Gen, sl A41 x30.Comps c42] 38 :: .blk b2 [sl A14 l16 c15] 107 :: ow A14 l16 c15 110 4 y17 :: cs) w_).freeze (z := 2) h70 rfl rfl
        exact ⟨(F_, w_), ⟨h1_, h2_⟩, h3_.pick 4 [1, 2, 3, 0] (by kernel_rfl) (by decide) rfl⟩
      rintro ⟨F72, W73⟩ ⟨hx74, h75⟩
      have hx74 : Ext w0 F68 W69 F72 W73 := hx74
      have h75 : RdS R_api_Comp F72 W73 A65 c66 x48 := h75
      have h_with := h_with.ext hx74
      have h_without := h_without.ext hx74
      have h_w_2 := h_w_2.ext hx74
      have h43 := h43.ext hx74
      have h18 := h18.ext hx74
      have h76 : RepL R_query_row F72 W73 ([(query_row.mk i19 (api_Item.mk (api_Ent.mk x30.Ent.N x30.Ent.Gen) x48))] : List query_row) ([vI i19, vI x30.Ent.N, vI x30.Ent.Gen, sl A65 x48 c66]) := (RepL.cons (R := R_query_row) (F := F72) (w := W73) (vs := [vI i19, vI x30.Ent.N, vI x30.Ent.Gen, sl A65 x48 c66]) (ys := []) (enc_query_row h75) RepL.nil)
      refine ops_new (d := some 31) (o := .cells ([vI i19, vI x30.Ent.N, vI x30.Ent.Gen, sl A65 x48 c66] : List Value).toArray 110) (v := fun g77 => .slice (sa g77) ([(query_row.mk i19 (api_Item.mk (api_Ent.mk x30.Ent.N x30.Ent.Gen) x48))] : List query_row).length 1) (M' := fun g77 => Mem w0 (orow (sa g77) ([(query_row.mk i19 (api_Item.mk (api_Ent.mk x30.Ent.N x30.Ent.Gen) x48))] : List query_row).length 1 110 4 ([vI i19, vI x30.Ent.N, vI x30.Ent.Gen, sl A65 x48 c66]) :: .blk b44 [vI x30.Ent.N, vI x30.Ent.Gen, sl A41 x30.Comps c42] 38 :: .blk b2 [sl A14 l16 c15] 107 :: ow A14 l16 c15 110 4 y17 :: Fz F72 W73 :: cs)) (fun g77 => ⟨by kernel_rfl⟩) (fun w_ hM hS => ⟨hM.onew [vI i19, vI x30.Ent.N, vI x30.Ent.Gen, sl A65 x48 c66] 110 1 4 rfl (by decide), hS.alloc _⟩) (fun g77 => ?_)
      obtain ⟨he78, hb79⟩ := app_some hv64
      obtain ⟨y80, hy81⟩ : ∃ y_, y17 ++ ([vI i19, vI x30.Ent.N, vI x30.Ent.Gen, sl A65 x48 c66]) = y_ := ⟨_, rfl⟩
      have h82 : RepL R_query_row F72 W73 l63 y80 := by rw [he78, ← hy81]; exact RepL.app h18 h76
      refine ops_appendO (x := (Go.Operand.tmp 22)) (y := (Go.Operand.tmp 31)) (t := 107) (e := 110) (d := some 32) (n' := l63.length) (z := 4) (m := ([(query_row.mk i19 (api_Item.mk (api_Ent.mk x30.Ent.N x30.Ent.Gen) x48))] : List query_row).length) (bytes := 48) (xs' := y80) (news := ([vI i19, vI x30.Ent.N, vI x30.Ent.Gen, sl A65 x48 c66])) (zv := .agg #[vI 0, vI 0, vI 0, .slice none 0 0]) 3 ⟨by kernel_rfl⟩ rfl rfl Try.underlying107 (by kernel_rfl) (by rfl) rfl (fun w_ hM => hM.srcO 0 rfl) h76.len h76.one hb79 (by have z_ := congrArg List.length he78; rw [List.length_append] at z_; exact z_.symm) hy81 (fun _ _ _ _ hS h' => (by first | exact (Mem.fzback h' 4 rfl hx74).sub (.cons _ (.cons_cons _ (.cons _ (.cons _ (.cons_cons _ (.refl _)))))) | exact (Mem.fzback h' 4 rfl (h71.trans hx74)).sub (.cons _ (.cons_cons _ (.cons _ (.cons _ (.cons_cons _ (.refl _)))))) | exact (Mem.fzback h' 4 rfl ((hx2.trans h71).trans hx74)).sub (.cons _ (.cons_cons _ (.cons _ (.cons _ (.cons_cons _ (.refl _)))))))) ?_
      rintro ⟨A83, c84⟩
      refine ops_store (an := []) (evs := [sr b2 0 (sl A83 l63 c84)]) ⟨by kernel_rfl⟩ (fun w_ hM hS => let ⟨w', he, h'⟩ := hM.evs_stores [sl A83 l63 c84] 2 rfl 0 (Nat.le_of_ble_eq_true rfl); ⟨w', he, h', (by first | exact (Mem.fzback h' 4 rfl hx74).sub (.cons _ (.cons_cons _ (.cons _ (.cons _ (.cons_cons _ (.refl _)))))) | exact (Mem.fzback h' 4 rfl (h71.trans hx74)).sub (.cons _ (.cons_cons _ (.cons _ (.cons _ (.cons_cons _ (.refl _)))))) | exact (Mem.fzback h' 4 rfl ((hx2.trans h71).trans hx74)).sub (.cons _ (.cons_cons _ (.cons _ (.cons _ (.cons_cons _ (.refl _)))))))⟩) ?_
      refine ops_nil (fin_block ?_)
      exact fin_join HJ3 (A83, c84, l63, y80, F72, W73) ⟨hp, h82, (h71.trans hx74)⟩ (look_has ⟨rfl, rfl, rfl, rfl, rfl, rfl, trivial⟩) (fun w_ hM => hM.pick 5 [2, 3, 4] (by kernel_rfl) (by decide) rfl)
     ·
      refine tree_node ?_
      refine ops_callI (σ := (Option Addr) × Nat × (List Value) × (Nat → Prop) × World) (d := some 28) (f := 57) (args := #[sl A41 x30.Comps c42]) (v := (fun x_ => match x_ with | (A85, c86, y87, F88, W89) => sl A85 x48 c86)) (I := (fun x_ => match x_ with | (A85, c86, y87, F88, W89) => (RepL R_api_Comp F88 W89 x48 y87) ∧ (Ext w0 F20 W21 F88 W89))) (M' := (fun x_ => match x_ with | (A85, c86, y87, F88, W89) => Mem w0 (ow A85 x48 c86 43 2 y87 :: .blk b44 [vI x30.Ent.N, vI x30.Ent.Gen, sl A41 x30.Comps c42] 38 :: .blk b2 [sl A14 l16 c15] 107 :: ow A14 l16 c15 110 4 y17 :: Fz F88 W89 :: cs))) ⟨by kernel_rfl⟩ (fun w_ hM hS => (world_CopyComps_ok w0 w_ (.blk b44 [vI x30.Ent.N, vI x30.Ent.Gen, sl A41 x30.Comps c42] 38 :: .blk b2 [sl A14 l16 c15] 107 :: ow A14 l16 c15 110 4 y17 :: cs) F20 W21 A41 c42 x30.Comps (hM.pick 4 [3, 0, 1, 2] (by kernel_rfl) (by decide) rfl) h43 x48 hv49).mono (by rintro e w' ⟨A85, c86, y87, F88, W89, ⟨h90, h91⟩, rfl, h'⟩; have h' : Mem w0 (ow A85 x48 c86 43 2 y87 :: .blk b44 [vI x30.Ent.N, vI x30.Ent.Gen, sl A41 x30.Comps c42] 38 :: .blk b2 [sl A14 l16 c15] 107 :: ow A14 l16 c15 110 4 y17 :: Fz F88 W89 :: cs) w' := (h'.pick 5 [0, 2, 3, 4, 1] (by kernel_rfl) (by decide) rfl); exact ⟨(A85, c86, y87, F88, W89), ⟨h90, h91⟩, rfl, h', (by first | exact (Mem.fzback h' 4 rfl h91).sub (.cons _ (.cons_cons _ (.cons _ (.cons _ (.cons_cons _ (.refl _)))))) | exact (Mem.fzback h' 4 rfl (hx2.trans h91)).sub (.cons _ (.cons_cons _ (.cons _ (.cons _ (.cons_cons _ (.refl _)))))))⟩)) ?_
      rintro ⟨A85, c86, y87, F88, W89⟩ ⟨h90, h91⟩
      have h43 := h43.ext h91
      have h_with := h_with.ext h91
      have h_without := h_without.ext h91
      have h_w_2 := h_w_2.ext h91
      have h18 := h18.ext h91
      refine oQ [oT 7, oT 8] [(30, .agg #[vI i19, vI x30.Ent.N, vI x30.Ent.Gen, sl A85 x48 c86]), (1, sl A_with with_1 c_with), (2, sl A_without without c_without), (7, vP b2 0), (11, sl A_w_2 w_2 c_w_2), (12, vI (w_2.length : Int)), (13, vI i19)] (by kernel_rfl) ?_
      refine ops_nil ?_
      refine tree_both ?_ ?_
      ·
       refine tree_leaf ?_
       refine ops_mem (d := some 22) (an := [.v (sl A14 l16 c15)]) (evs := [ld b2 0 (sl A14 l16 c15)]) (v := sl A14 l16 c15) ⟨by kernel_rfl⟩ (fun w_ hM hS => ⟨w_, ⟨hM.cell 2 rfl rfl, rfl⟩, hM, hS⟩) ?_
       refine ops_ex (σ := (Nat → Prop) × World) (I := fun x_ => Ext w0 F88 W89 x_.1 x_.2 ∧ RdS R_api_Comp x_.1 x_.2 A85 c86 x48) (M' := fun x_ => Mem w0 (.blk b44 [vI x30.Ent.N, vI x30.Ent.Gen, sl A41 x30.Comps c42] 38 :: .blk b2 [sl A14 l16 c15] 107 :: ow A14 l16 c15 110 4 y17 :: Fz x_.1 x_.2 :: cs)) (fun w_ hM => ?_) ?_
       · obtain ⟨F_, h1_, h2_, h3_⟩ := (hM.pick 5 [0, 4, 1, 2, 3] (by kernel_rfl) (by decide) rfl : Mem w0 (ow A85 x48 c86 43 2 y87 :: Fz F88 W89 :: .blk b44 [vI x30.Ent.N, vI x30.Ent.Gen, sl A41 x30.Comps c42] 38 :: .blk b2 [sl A14 l16 c15] 107 :: ow A14 l16 c15 110 4 y17 :: cs) w_).freeze (z := 2) h90 rfl rfl
         exact ⟨(F_, w_), ⟨h1_, h2_⟩, h3_.pick 4 [1, 2, 3, 0] (by kernel_rfl) (by decide) rfl⟩
       rintro ⟨F92, W93⟩ ⟨hx94, h95⟩
       have hx94 : Ext w0 F88 W89 F92 W93 := hx94
       have h95 : RdS R_api_Comp F92 W93 A85 c86 x48 := h95
       have h_with := h_with.ext hx94
       have h_without := h_without.ext hx94
       have h_w_2 := h_w_2.ext hx94
       have h43 := h43.ext hx94
       have h18 := h18.ext hx94
       have h96 : RepL R_query_row F92 W93 ([(query_row.mk i19 (api_Item.mk (api_Ent.mk x30.Ent.N x30.Ent.Gen) x48))] : List query_row) ([vI i19, vI x30.Ent.N, vI x30.Ent.Gen, sl A85 x48 c86]) := (RepL.cons (R := R_query_row) (F := F92) (w := W93) (vs := [vI i19, vI x30.Ent.N, vI x30.Ent.Gen, sl A85 x48 c86]) (ys := []) (enc_query_row h95) RepL.nil)
       refine ops_new (d := some 31) (o := .cells ([vI i19, vI x30.Ent.N, vI x30.Ent.Gen, sl A85 x48 c86] : List Value).toArray 110) (v := fun g97 => .slice (sa g97) ([(query_row.mk i19 (api_Item.mk (api_Ent.mk x30.Ent.N x30.Ent.Gen) x48))] : List query_row).length 1) (M' := fun g97 => Mem w0 (orow (sa g97) ([(query_row.mk i19 (api_Item.mk (api_Ent.mk x30.Ent.N x30.Ent.Gen) x48))] : List query_row).length 1 110 4 ([vI i19, vI x30.Ent.N, vI x30.Ent.Gen, sl A85 x48 c86]) :: .blk b44 [vI x30.Ent.N, vI x30.Ent.Gen, sl A41 x30.Comps c42] 38 :: .blk b2 [sl A14 l16 c15] 107 :: ow A14 l16 c15 110 4 y17 :: Fz F92 W93 :: cs)) (fun g97 => ⟨by kernel_rfl⟩) (fun w_ hM hS => ⟨hM.onew [vI i19, vI x30.Ent.N, vI x30.Ent.Gen, sl A85 x48 c86] 110 1 4 rfl (by decide), hS.alloc _⟩) (fun g97 => ?_)
       obtain ⟨he98, hb99⟩ := app_some hv64
       obtain ⟨y100, hy101⟩ : ∃ y_, y17 ++ ([vI i19, vI x30.Ent.N, vI x30.Ent.Gen, sl A85 x48 c86]) = y_ := ⟨_, rfl⟩
       have h102 : RepL R_query_row F92 W93 l63 y100 := by rw [he98, ← hy101]; exact RepL.app h18 h96
       refine ops_appendO (x := (Go.Operand.tmp 22)) (y := (Go.Operand.tmp 31)) (t := 107) (e := 110) (d := some 32) (n' := l63.length) (z := 4) (m := ([(query_row.mk i19 (api_Item.mk (api_Ent.mk x30.Ent.N x30.Ent.Gen) x48))] : List query_row).length) (bytes := 48) (xs' := y100) (news := ([vI i19, vI x30.Ent.N, vI x30.Ent.Gen, sl A85 x48 c86])) (zv := .agg #[vI 0, vI 0, vI 0, .slice none 0 0]) 3 ⟨by kernel_rfl⟩ rfl rfl Try.underlying107 (by kernel_rfl) (by rfl) rfl (fun w_ hM => hM.srcO 0 rfl) h96.len h96.one hb99 (by have z_ := congrArg List.length he98; rw [List.length_append] at z_; exact z_.symm) hy101 (fun _ _ _ _ hS h' => (by first | exact (Mem.fzback h' 4 rfl hx94).sub (.cons _ (.cons_cons _ (.cons _ (.cons _ (.cons_cons _ (.refl _)))))) | exact (Mem.fzback h' 4 rfl (h91.trans hx94)).sub (.cons _ (.cons_cons _ (.cons _ (.cons _ (.cons_cons _ (.refl _)))))) | exact (Mem.fzback h' 4 rfl ((hx2.trans h91).trans hx94)).sub (.cons _ (.cons_cons _ (.cons _ (.cons _ (.cons_cons _ (.refl _)))))))) ?_
       rintro ⟨A103, c104⟩
       refine ops_store (an := []) (evs := [sr b2 0 (sl A103 l63 c104)]) ⟨by kernel_rfl⟩ (fun w_ hM hS => let ⟨w', he, h'⟩ := hM.evs_stores [sl A103 l63 c104] 2 rfl 0 (Nat.le_of_ble_eq_true rfl); ⟨w', he, h', (by first | exact (Mem.fzback h' 4 rfl hx94).sub (.cons _ (.cons_cons _ (.cons _ (.cons _ (.cons_cons _ (.refl _)))))) | exact (Mem.fzback h' 4 rfl (h91.trans hx94)).sub (.cons _ (.cons_cons _ (.cons _ (.cons _ (.cons_cons _ (.refl _)))))) | exact (Mem.fzback h' 4 rfl ((hx2.trans h91).trans hx94)).sub (.cons _ (.cons_cons _ (.cons _ (.cons _ (.cons_cons _ (.refl _)))))))⟩) ?_
       refine ops_nil (fin_block ?_)
       exact fin_join HJ3 (A103, c104, l63, y100, F92, W93) ⟨hp, h102, (h91.trans hx94)⟩ (look_has ⟨rfl, rfl, rfl, rfl, rfl, rfl, trivial⟩) (fun w_ hM => hM.pick 5 [2, 3, 4] (by kernel_rfl) (by decide) rfl)
      ·
       refine tree_leaf ?_
       refine ops_ex (σ := (Nat → Prop) × World) (I := fun x_ => Ext w0 F88 W89 x_.1 x_.2 ∧ RdS R_api_Comp x_.1 x_.2 A85 c86 x48) (M' := fun x_ => Mem w0 (.blk b44 [vI x30.Ent.N, vI x30.Ent.Gen, sl A41 x30.Comps c42] 38 :: .blk b2 [sl A14 l16 c15] 107 :: ow A14 l16 c15 110 4 y17 :: Fz x_.1 x_.2 :: cs)) (fun w_ hM => ?_) ?_
       · obtain ⟨F_, h1_, h2_, h3_⟩ := (hM.pick 5 [0, 4, 1, 2, 3] (by kernel_rfl) (by decide) rfl : Mem w0 (ow A85 x48 c86 43 2 y87 :: Fz F88 W89 :: .blk b44 [vI x30.Ent.N, vI x30.Ent.Gen, sl A41 x30.Comps c42] 38 :: .blk b2 [sl A14 l16 c15] 107 :: ow A14 l16 c15 110 4 y17 :: cs) w_).freeze (z := 2) h90 rfl rfl
         exact ⟨(F_, w_), ⟨h1_, h2_⟩, h3_.pick 4 [1, 2, 3, 0] (by kernel_rfl) (by decide) rfl⟩
       rintro ⟨F105, W106⟩ ⟨hx107, h108⟩
       have hx107 : Ext w0 F88 W89 F105 W106 := hx107
       have h108 : RdS R_api_Comp F105 W106 A85 c86 x48 := h108
       have h_with := h_with.ext hx107
       have h_without := h_without.ext hx107
       have h_w_2 := h_w_2.ext hx107
       have h43 := h43.ext hx107
       have h18 := h18.ext hx107
       have h109 : RepL R_query_row F105 W106 ([(query_row.mk i19 (api_Item.mk (api_Ent.mk x30.Ent.N x30.Ent.Gen) x48))] : List query_row) ([vI i19, vI x30.Ent.N, vI x30.Ent.Gen, sl A85 x48 c86]) := (RepL.cons (R := R_query_row) (F := F105) (w := W106) (vs := [vI i19, vI x30.Ent.N, vI x30.Ent.Gen, sl A85 x48 c86]) (ys := []) (enc_query_row h108) RepL.nil)
       refine ops_new (d := some 31) (o := .cells ([vI i19, vI x30.Ent.N, vI x30.Ent.Gen, sl A85 x48 c86] : List Value).toArray 110) (v := fun g110 => .slice (sa g110) ([(query_row.mk i19 (api_Item.mk (api_Ent.mk x30.Ent.N x30.Ent.Gen) x48))] : List query_row).length 1) (M' := fun g110 => Mem w0 (orow (sa g110) ([(query_row.mk i19 (api_Item.mk (api_Ent.mk x30.Ent.N x30.Ent.Gen) x48))] : List query_row).length 1 110 4 ([vI i19, vI x30.Ent.N, vI x30.Ent.Gen, sl A85 x48 c86]) :: .blk b44 [vI x30.Ent.N, vI x30.Ent.Gen, sl A41 x30.Comps c42] 38 :: .blk b2 [sl A14 l16 c15] 107 :: ow A14 l16 c15 110 4 y17 :: Fz F105 W106 :: cs)) (fun g110 => ⟨by kernel_rfl⟩) (fun w_ hM hS => ⟨hM.onew [vI i19, vI x30.Ent.N, vI x30.Ent.Gen, sl A85 x48 c86] 110 1 4 rfl (by decide), hS.alloc _⟩) (fun g110 => ?_)
       refine ops_mem (d := some 22) (an := [.v (sl A14 l16 c15)]) (evs := [ld b2 0 (sl A14 l16 c15)]) (v := sl A14 l16 c15) ⟨by kernel_rfl⟩ (fun w_ hM hS => ⟨w_, ⟨hM.cell 2 rfl rfl, rfl⟩, hM, hS⟩) ?_
       obtain ⟨he111, hb112⟩ := app_some hv64
       obtain ⟨y113, hy114⟩ : ∃ y_, y17 ++ ([vI i19, vI x30.Ent.N, vI x30.Ent.Gen, sl A85 x48 c86]) = y_ := ⟨_, rfl⟩
       have h115 : RepL R_query_row F105 W106 l63 y113 := by rw [he111, ← hy114]; exact RepL.app h18 h109
       refine ops_appendO (x := (Go.Operand.tmp 22)) (y := (Go.Operand.tmp 31)) (t := 107) (e := 110) (d := some 32) (n' := l63.length) (z := 4) (m := ([(query_row.mk i19 (api_Item.mk (api_Ent.mk x30.Ent.N x30.Ent.Gen) x48))] : List query_row).length) (bytes := 48) (xs' := y113) (news := ([vI i19, vI x30.Ent.N, vI x30.Ent.Gen, sl A85 x48 c86])) (zv := .agg #[vI 0, vI 0, vI 0, .slice none 0 0]) 3 ⟨by kernel_rfl⟩ rfl rfl Try.underlying107 (by kernel_rfl) (by rfl) rfl (fun w_ hM => hM.srcO 0 rfl) h109.len h109.one hb112 (by have z_ := congrArg List.length he111; rw [List.length_append] at z_; exact z_.symm) hy114 (fun _ _ _ _ hS h' => (by first | exact (Mem.fzback h' 4 rfl hx107).sub (.cons _ (.cons_cons _ (.cons _ (.cons _ (.cons_cons _ (.refl _)))))) | exact (Mem.fzback h' 4 rfl (h91.trans hx107)).sub (.cons _ (.cons_cons _ (.cons _ (.cons _ (.cons_cons _ (.refl _)))))) | exact (Mem.fzback h' 4 rfl ((hx2.trans h91).trans hx107)).sub (.cons _ (.cons_cons _ (.cons _ (.cons _ (.cons_cons _ (.refl _)))))))) ?_
       rintro ⟨A116, c117⟩
       refine ops_store (an := []) (evs := [sr b2 0 (sl A116 l63 c117)]) ⟨by kernel_rfl⟩ (fun w_ hM hS => let ⟨w', he, h'⟩ := hM.evs_stores [sl A116 l63 c117] 2 rfl 0 (Nat.le_of_ble_eq_true rfl); ⟨w', he, h', (by first | exact (Mem.fzback h' 4 rfl hx107).sub (.cons _ (.cons_cons _ (.cons _ (.cons _ (.cons_cons _ (.refl _)))))) | exact (Mem.fzback h' 4 rfl (h91.trans hx107)).sub (.cons _ (.cons_cons _ (.cons _ (.cons _ (.cons_cons _ (.refl _)))))) | exact (Mem.fzback h' 4 rfl ((hx2.trans h91).trans hx107)).sub (.cons _ (.cons_cons _ (.cons _ (.cons _ (.cons_cons _ (.refl _)))))))⟩) ?_
       refine ops_nil (fin_block ?_)
       exact fin_join HJ3 (A116, c117, l63, y113, F105, W106) ⟨hp, h115, (h91.trans hx107)⟩ (look_has ⟨rfl, rfl, rfl, rfl, rfl, rfl, trivial⟩) (fun w_ hM => hM.pick 5 [2, 3, 4] (by kernel_rfl) (by decide) rfl)
    ·
     have hp := cnd_f hc47 hp
     refine st_skip (fin_block ?_)
     exact fin_join HJ3 (A14, c15, l16, y17, F20, W21) ⟨hp, h18, (Ext.refl _ _ _)⟩ (look_has ⟨rfl, rfl, rfl, rfl, rfl, rfl, trivial⟩) (fun w_ hM => hM.pick 4 [1, 2, 3] (by kernel_rfl) (by decide) rfl)
  ·
   have hp := cnd_f hc22 hp
   refine st_exit (fin_exit_then (fin_exit_then (fin_exit ?_)))
   obtain hq_ := Option.some.inj hp
   subst hq_
   obtain hq_ := hd2 _ rfl
   subst hq_
   have hp : query_All_j1 l16 = some l9004 := hk2
   exact fin_join HJ1 (A14, c15, l16, y17, F20, W21) ⟨hp, h18, hx2⟩ (look_has ⟨rfl, trivial⟩) (fun w_ hM => hM)
theorem query_Count_ok (w0 w : World) (cs : List Chunk) (F : Nat → Prop) (W : World) (A_w_0 : Option Addr) (c_w_0 : Nat) (w_0 : List api_Kind) (A_w_1 : Option Addr) (c_w_1 : Nat) (w_1 : List Int) (A_w_2 : Option Addr) (c_w_2 : Nat) (w_2 : List api_Item) (A_with : Option Addr) (c_with : Nat) (with_1 : List Int) (A_without : Option Addr) (c_without : Nat) (without : List Int) (hM0 : Mem w0 (Fz F W :: cs) w) (h_w_0 : RdS R_api_Kind F W A_w_0 c_w_0 w_0) (h_w_1 : RdS (Rep.int .i64) F W A_w_1 c_w_1 w_1) (h_w_2 : RdS R_api_Item F W A_w_2 c_w_2 w_2) (h_with : RdS (Rep.int .i64) F W A_with c_with with_1) (h_without : RdS (Rep.int .i64) F W A_without c_without without) (i9001 : Int) (hp : query_Count w_0 w_1 w_2 with_1 without = some i9001) : Calls Try.prog 7 #[.agg #[sl A_w_0 w_0 c_w_0, sl A_w_1 w_1 c_w_1, sl A_w_2 w_2 c_w_2], sl A_with with_1 c_with, sl A_without without c_without] w fun e w' => ∃ (F9002 : Nat → Prop), ∃ (W9003 : World), ((Ext w0 F W F9002 W9003)) ∧ e = .returned (vI i9001) ∧ Mem w0 (Fz F9002 W9003 :: cs) w' := by
 unfold query_Count at hp
 refine sx_callsM Try.func7 rfl (n := 17) (by kernel_rfl) (l := [(0, .agg #[sl A_w_0 w_0 c_w_0, sl A_w_1 w_1 c_w_1, sl A_w_2 w_2 c_w_2]), (1, sl A_with with_1 c_with), (2, sl A_without without c_without)]) rfl (by rfl) hM0 ?_
 refine st_seq (st_region [oF 0, oF 1] (by rfl) ?_)
 refine ops_newB (d := some 3) [sl A_w_0 w_0 c_w_0, sl A_w_1 w_1 c_w_1, sl A_w_2 w_2 c_w_2] 26 (fun b1 => ⟨by kernel_rfl⟩) (fun w_ hM hS => trivial) (fun b1 => ?_)
 refine oQ [oF 1] [(6, vI 0), (3, vP b1 0), (1, sl A_with with_1 c_with), (2, sl A_without without c_without)] (by kernel_rfl) ?_
 refine ops_nil (fin_then (st_seq (st_region [oF 0, oF 1] (by rfl) ?_)))
 refine ops_newB (d := some 7) [vI 0] 3 (fun b2 => ⟨by kernel_rfl⟩) (fun w_ hM hS => trivial) (fun b2 => ?_)
 refine ops_store (an := []) (evs := [sr b2 0 (vI 0)]) ⟨by kernel_rfl⟩ (fun w_ hM hS => let ⟨w', he, h'⟩ := hM.evs_stores [vI 0] 0 rfl 0 (Nat.le_of_ble_eq_true rfl); ⟨w', he, h', trivial⟩) ?_
 refine ops_nil (fin_then ?_)
 refine st_joinN1 (σ := Int × Nat × (Nat → Prop) × World) (nn := fun x_ => match x_ with | (i3, b4, F5, W6) => ⟨17, [markOf b4]⟩) (L := fun x_ => match x_ with | (i3, b4, F5, W6) => [(7, vP b2 0)]) (N := fun x_ => match x_ with | (i3, b4, F5, W6) => Mem w0 (.blk b2 [vI i3] 3 :: .obj b4 (.deferred (some [])) :: Fz F5 W6 :: cs)) (I := fun x_ => match x_ with | (i3, b4, F5, W6) => (query_Count_j1 i3 = some i9001) ∧ (Ext w0 F W F5 W6)) ?_ ?_
 ·
  rintro ⟨i3, b4, F5, W6⟩ ⟨hp, hx1⟩
  unfold query_Count_j1 at hp
  refine st_seq (st_region [oF 0, oF 1] (by rfl) ?_)
  refine ops_mem (d := some 16) (an := [.v (vI i3)]) (evs := [ld b2 0 (vI i3)]) (v := vI i3) ⟨by kernel_rfl⟩ (fun w_ hM hS => ⟨w_, ⟨hM.cell 0 rfl rfl, rfl⟩, hM, trivial⟩) ?_
  refine oQ [oF 1] [(6, vI i3)] (by kernel_rfl) ?_
  refine ops_nil (fin_then (st_ret ?_))
  refine fin_outs rfl ?_
  refine outs_mark 1 rfl ?_
  refine outs_conv (M' := Mem w0 (.blk b2 [vI i3] 3 :: Fz F5 W6 :: cs)) (fun _ h => h) ?_
  have hq_ := Option.some.inj hp
  have hr0_ := hq_
  subst hr0_
  refine outs_nil [.tmp 6] [vI i3] rfl (fun w_ hM => (.tmp rfl .nil)) (fun w_ hM => ?_)
  exact ⟨F5, W6, hx1, rfl, hM.pick 2 [1] (by kernel_rfl) (by decide) rfl⟩
 ·
  intro HJ1
  refine st_seq (st_seq (st_region [oF 0, oF 1, oF 2, oF 3] (by rfl) ?_))
  refine ops_mem (d := some 8) (an := [.v (sl A_w_0 w_0 c_w_0), .v (sl A_w_1 w_1 c_w_1), .v (sl A_w_2 w_2 c_w_2)]) (evs := [ld b1 0 (sl A_w_0 w_0 c_w_0), ld b1 1 (sl A_w_1 w_1 c_w_1), ld b1 2 (sl A_w_2 w_2 c_w_2)]) (v := .agg #[sl A_w_0 w_0 c_w_0, sl A_w_1 w_1 c_w_1, sl A_w_2 w_2 c_w_2]) ⟨by kernel_rfl⟩ (fun w_ hM hS => ⟨w_, ⟨hM.cell 1 rfl rfl, hM.cell 1 rfl rfl, hM.cell 1 rfl rfl, rfl⟩, hM, trivial⟩) ?_
  refine oQ [oF 1, oF 2] [(10, sl A_without without c_without), (9, sl A_with with_1 c_with), (8, .agg #[sl A_w_0 w_0 c_w_0, sl A_w_1 w_1 c_w_1, sl A_w_2 w_2 c_w_2]), (7, vP b2 0), (6, vI 0)] (by kernel_rfl) ?_
  obtain ⟨x7, hv8, hp⟩ := obind hp
  refine ops_callI (σ := Nat × (Option Addr) × Nat × (List Value) × (Nat → Prop) × World) (d := some 11) (f := 9) (args := #[.agg #[sl A_w_0 w_0 c_w_0, sl A_w_1 w_1 c_w_1, sl A_w_2 w_2 c_w_2], sl A_with with_1 c_with, sl A_without without c_without]) (v := (fun x_ => match x_ with | (b9, A10, c11, y12, F13, W14) => .func (.func 58) #[] #[vP b9 0])) (I := (fun x_ => match x_ with | (b9, A10, c11, y12, F13, W14) => (RepL R_query_row F13 W14 x7 y12) ∧ (Ext w0 F W F13 W14))) (M' := (fun x_ => match x_ with | (b9, A10, c11, y12, F13, W14) => Mem w0 (.blk b9 [sl A10 x7 c11] 107 :: ow A10 x7 c11 110 4 y12 :: .blk b2 [vI 0] 3 :: .blk b1 [sl A_w_0 w_0 c_w_0, sl A_w_1 w_1 c_w_1, sl A_w_2 w_2 c_w_2] 26 :: Fz F13 W14 :: cs))) ⟨by kernel_rfl⟩ (fun w_ hM hS => (query_All_ok w0 w_ (.blk b2 [vI 0] 3 :: .blk b1 [sl A_w_0 w_0 c_w_0, sl A_w_1 w_1 c_w_1, sl A_w_2 w_2 c_w_2] 26 :: cs) F W A_w_0 c_w_0 w_0 A_w_1 c_w_1 w_1 A_w_2 c_w_2 w_2 A_with c_with with_1 A_without c_without without (hM.pick 3 [2, 0, 1] (by kernel_rfl) (by decide) rfl) h_w_0 h_w_1 h_w_2 h_with h_without x7 hv8).mono (by rintro e w' ⟨b9, A10, c11, y12, F13, W14, ⟨h15, h16⟩, rfl, h'⟩; have h' : Mem w0 (.blk b9 [sl A10 x7 c11] 107 :: ow A10 x7 c11 110 4 y12 :: .blk b2 [vI 0] 3 :: .blk b1 [sl A_w_0 w_0 c_w_0, sl A_w_1 w_1 c_w_1, sl A_w_2 w_2 c_w_2] 26 :: Fz F13 W14 :: cs) w' := (h'.pick 5 [0, 1, 3, 4, 2] (by kernel_rfl) (by decide) rfl); exact ⟨(b9, A10, c11, y12, F13, W14), ⟨h15, h16⟩, rfl, h', trivial⟩)) ?_
  rintro ⟨b9, A10, c11, y12, F13, W14⟩ ⟨h15, h16⟩
  have h_without := h_without.ext h16
  have h_with := h_with.ext h16
  have h_w_0 := h_w_0.ext h16
  have h_w_1 := h_w_1.ext h16
  have h_w_2 := h_w_2.ext h16
  refine ops_nil (fin_then (st_block ?_))
  refine st_keep (l' := [(11, .func (.func 58) #[] #[vP b9 0]), (7, vP b2 0), (6, vI 0)]) [11, 7, 6] (by kernel_rfl) ?_
  refine st_rangeFunc (tg := 11) (caps := #[vP b9 0]) (nf := 25) (lf := fun L_ => [(0, yv L_), (1, vP b9 0)]) rfl Try.func58 rfl (by kernel_rfl) (by kernel_rfl) (fun L_ => by kernel_rfl) (fun _ => rfl) ?_
  intro g_ a_rf19 b17 b18 rc_rf19 hrc_rf19 hk_rf19
  refine st_seq (st_region [oF 0, oF 1, oF 2] (by rfl) ?_)
  refine ops_mem (d := some 5) (an := [.v (sl A10 x7 c11)]) (evs := [ld b9 0 (sl A10 x7 c11)]) (v := sl A10 x7 c11) ⟨by kernel_rfl⟩ (fun w_ hM hS => ⟨w_, ⟨hM.cell 2 rfl rfl, rfl⟩, hM, trivial⟩) ?_
  refine oQ [oF 1, oF 2] [(7, vI 0), (6, vI (x7.length : Int)), (5, sl A10 x7 c11), (0, yv b18)] (by kernel_rfl) ?_
  refine ops_nil (fin_then (st_block ?_))
  obtain ⟨r2, hl2, hk2⟩ := obind hp
  refine st_loopP (σ := Int) (ρ := Int) (γ := (Nat → Prop) × World) hl2 (F13, W14) (fun s_ g_ => match s_, g_ with | i20, (F21, W22) => [(0, yv b18), (5, sl A10 x7 c11), (6, vI (x7.length : Int)), (7, vI i20)]) (fun s_ g_ => match s_, g_ with | i20, (F21, W22) => Mem w0 (ow A10 x7 c11 110 4 y12 :: .blk b9 [sl A10 x7 c11] 107 :: .blk b2 [vI i20] 3 :: .obj b18 (rc_rf19 .ready none) :: .obj b17 (.deferred (some [])) :: Fz F21 W22 :: cs)) (fun s_ g_ => match s_, g_ with | i20, (F21, W22) => (Ext w0 F13 W14 F21 W22)) (Ext.refl _ _ _) (look_has ⟨rfl, rfl, rfl, rfl, trivial⟩) (fun w_ hM => hM.pick 7 [3, 2, 4, 0, 1, 6] (by kernel_rfl) (by decide) rfl) ?_
  rintro i20 ⟨F21, W22⟩ o2 hx2 hs_ hd2
  have hp : (query_Count_l2 x7) i20 = some o2 := hs_
  clear hs_
  unfold query_Count_l2 at hp
  have h15 := h15.ext hx2
  refine st_seq (st_region [oF 0] (by rfl) ?_)
  refine oQ [oF 0] [(8, .bool (decide (i20 < (x7.length : Int)))), (0, yv b18), (5, sl A10 x7 c11), (6, vI (x7.length : Int)), (7, vI i20)] (by kernel_rfl) ?_
  refine ops_nil (fin_then (st_seq ?_))
  refine st_if (b := decide (i20 < (x7.length : Int))) rfl (fun hc23 => ?_) (fun hc23 => ?_)
  ·
   have hp := cnd_t hc23 hp
   refine st_skip (fin_then (st_seq (st_block (st_seq (st_region [oF 0, oF 1, oF 2, oF 3] (by rfl) ?_)))))
   obtain ⟨x24, hv25, hp⟩ := obind hp
   obtain ⟨m26, hm27, hx28⟩ := idx_some hv25
   have hl31 := (List.getElem?_eq_some_iff.1 hx28).1
   refine ops_fact (fun w_ hM => hM.orowSome 0 rfl (Nat.lt_of_le_of_lt (Nat.zero_le _) hl31)) ?_
   rintro ⟨g32, rfl, -⟩
   obtain ⟨vs29, hr30, hq33⟩ := h15.at_ m26 x24 hx28
   obtain ⟨A34, c35, rfl, h36⟩ := dec_query_row hr30
   refine ops_val (op := (.indexAddr 107 (.tmp 5) (.tmp 7))) (d := some 9) (v := vP g32 (m26 * 4)) ⟨by kernel_rfl⟩ (run_indexRow Try.underlying107 (z := 4) (by kernel_rfl) rfl rfl hm27 hl31 rfl) ?_
   refine ops_mem (d := some 10) (an := [.v (vI x24.i), .v (vI x24.it.Ent.N), .v (vI x24.it.Ent.Gen), .v (sl A34 x24.it.Comps c35)]) (evs := [.load ⟨g32, m26 * 4, none⟩ (vI x24.i), .load ⟨g32, m26 * 4 + 1, none⟩ (vI x24.it.Ent.N), .load ⟨g32, m26 * 4 + 2, none⟩ (vI x24.it.Ent.Gen), .load ⟨g32, m26 * 4 + 3, none⟩ (sl A34 x24.it.Comps c35)]) (v := .agg #[vI x24.i, vI x24.it.Ent.N, vI x24.it.Ent.Gen, sl A34 x24.it.Comps c35]) ⟨by kernel_rfl⟩ (fun w_ hM hS => ⟨w_, ⟨hM.ocell 0 rfl (hq33 0 _ rfl), hM.ocell 0 rfl (hq33 1 _ rfl), hM.ocell 0 rfl (hq33 2 _ rfl), hM.ocell 0 rfl (hq33 3 _ rfl), rfl⟩, hM, trivial⟩) ?_
   refine ops_newB (d := some 4) [vI 0, vI 0, vI 0, .slice none 0 0] 110 (fun b37 => ⟨by kernel_rfl⟩) (fun w_ hM hS => trivial) (fun b37 => ?_)
   refine ops_store (an := []) (evs := [sr b37 0 (vI x24.i), sr b37 1 (vI x24.it.Ent.N), sr b37 2 (vI x24.it.Ent.Gen), sr b37 3 (sl A34 x24.it.Comps c35)]) ⟨by kernel_rfl⟩ (fun w_ hM hS => let ⟨w', he, h'⟩ := hM.evs_stores [vI x24.i, vI x24.it.Ent.N, vI x24.it.Ent.Gen, sl A34 x24.it.Comps c35] 0 rfl 0 (Nat.le_of_ble_eq_true rfl); ⟨w', he, h', trivial⟩) ?_
   refine ops_nil (fin_then (st_seq ?_))
   refine st_region_draw [oT 0, oT 1, oT 2, oT 3, oT 4, oT 5, oT 6, oT 7, oT 8, oF 9, oT 10, oF 11, oT 12] (Mem w0 (.blk b37 [vI x24.i, vI x24.it.Ent.N, vI x24.it.Ent.Gen, sl A34 x24.it.Comps c35] 110 :: Fz F21 W22 :: cs)) (by kernel_rfl) (by kernel_rfl) (by kernel_rfl) (fun _ d _ _ _ h => by cases d <;> exact h) (M' := Mem w0 (.blk b37 [vI x24.i, vI x24.it.Ent.N, vI x24.it.Ent.Gen, sl A34 x24.it.Comps c35] 110 :: ow (sa g32) x7 c11 110 4 y12 :: .blk b9 [sl (sa g32) x7 c11] 107 :: .blk b2 [vI i20] 3 :: .obj b18 (rc_rf19 .ready none) :: .obj b17 (.deferred (some [])) :: Fz F21 W22 :: cs)) (fun w_ hM => ⟨hM.drew, hM.drew.sub (.cons_cons _ (.cons _ (.cons _ (.cons _ (.cons _ (.cons _ (.cons_cons _ (.refl _))))))))⟩) ?_
   refine oQ [oT 0, oT 1] [(12, vP b37 0), (11, yv b18), (4, vP b37 0), (0, yv b18), (5, sl (sa g32) x7 c11), (6, vI (x7.length : Int)), (7, vI i20)] (by kernel_rfl) ?_
   refine ops_load (d := some 13) (an := [.v (vI x24.i)]) (evs := [ld b37 0 (vI x24.i)]) (v := vI x24.i) ⟨by kernel_rfl⟩ (fun w_ hM => ⟨hM.cell 0 rfl rfl, rfl⟩) ?_
   refine oQ [oT 3, oT 4] [(15, vP b37 1), (13, vI x24.i), (11, yv b18), (4, vP b37 0), (0, yv b18), (5, sl (sa g32) x7 c11), (6, vI (x7.length : Int)), (7, vI i20)] (by kernel_rfl) ?_
   refine ops_load (d := some 16) (an := [.v (vI x24.it.Ent.N), .v (vI x24.it.Ent.Gen)]) (evs := [ld b37 1 (vI x24.it.Ent.N), ld b37 2 (vI x24.it.Ent.Gen)]) (v := .agg #[vI x24.it.Ent.N, vI x24.it.Ent.Gen]) ⟨by kernel_rfl⟩ (fun w_ hM => ⟨hM.cell 0 rfl rfl, hM.cell 0 rfl rfl, rfl⟩) ?_
   refine oQ [oT 6, oT 7] [(18, vP b37 3), (16, .agg #[vI x24.it.Ent.N, vI x24.it.Ent.Gen]), (13, vI x24.i), (11, yv b18), (0, yv b18), (5, sl (sa g32) x7 c11), (6, vI (x7.length : Int)), (7, vI i20)] (by kernel_rfl) ?_
   refine ops_load (d := some 19) (an := [.v (sl A34 x24.it.Comps c35)]) (evs := [ld b37 3 (sl A34 x24.it.Comps c35)]) (v := sl A34 x24.it.Comps c35) ⟨by kernel_rfl⟩ (fun w_ hM => ⟨hM.cell 0 rfl rfl, rfl⟩) ?_
   obtain ⟨x38, hv39, hp⟩ := obind hp
   refine ops_callI (σ := (Option Addr) × Nat × (List Value) × (Nat → Prop) × World) (d := some 20) (f := 57) (args := #[sl A34 x24.it.Comps c35]) (v := (fun x_ => match x_ with | (A40, c41, y42, F43, W44) => sl A40 x38 c41)) (I := (fun x_ => match x_ with | (A40, c41, y42, F43, W44) => (RepL R_api_Comp F43 W44 x38 y42) ∧ (Ext w0 F21 W22 F43 W44))) (M' := (fun x_ => match x_ with | (A40, c41, y42, F43, W44) => Mem w0 (ow A40 x38 c41 43 2 y42 :: .blk b37 [vI x24.i, vI x24.it.Ent.N, vI x24.it.Ent.Gen, sl A34 x24.it.Comps c35] 110 :: ow (sa g32) x7 c11 110 4 y12 :: .blk b9 [sl (sa g32) x7 c11] 107 :: .blk b2 [vI i20] 3 :: .obj b18 (rc_rf19 .ready none) :: .obj b17 (.deferred (some [])) :: Fz F43 W44 :: cs))) ⟨by kernel_rfl⟩ (fun w_ hM hS => (world_CopyComps_ok w0 w_ (.blk b37 [vI x24.i, vI x24.it.Ent.N, vI x24.it.Ent.Gen, sl A34 x24.it.Comps c35] 110 :: ow (sa g32) x7 c11 110 4 y12 :: .blk b9 [sl (sa g32) x7 c11] 107 :: .blk b2 [vI i20] 3 :: .obj b18 (rc_rf19 .ready none) :: .obj b17 (.deferred (some [])) :: cs) F21 W22 A34 c35 x24.it.Comps (hM.pick 7 [6, 0, 1, 2, 3, 4, 5] (by kernel_rfl) (by decide) rfl) h36 x38 hv39).mono (by rintro e w' ⟨A40, c41, y42, F43, W44, ⟨h45, h46⟩, rfl, h'⟩; have h' : Mem w0 (ow A40 x38 c41 43 2 y42 :: .blk b37 [vI x24.i, vI x24.it.Ent.N, vI x24.it.Ent.Gen, sl A34 x24.it.Comps c35] 110 :: ow (sa g32) x7 c11 110 4 y12 :: .blk b9 [sl (sa g32) x7 c11] 107 :: .blk b2 [vI i20] 3 :: .obj b18 (rc_rf19 .ready none) :: .obj b17 (.deferred (some [])) :: Fz F43 W44 :: cs) w' := (h'.pick 8 [0, 2, 3, 4, 5, 6, 7, 1] (by kernel_rfl) (by decide) rfl); exact ⟨(A40, c41, y42, F43, W44), ⟨h45, h46⟩, rfl, h', (by first | exact (Mem.fzback h' 7 rfl h46).sub (.cons _ (.cons_cons _ (.cons _ (.cons _ (.cons _ (.cons _ (.cons _ (.cons_cons _ (.refl _))))))))) | exact (Mem.fzback h' 7 rfl (hx2.trans h46)).sub (.cons _ (.cons_cons _ (.cons _ (.cons _ (.cons _ (.cons _ (.cons _ (.cons_cons _ (.refl _))))))))) | exact (Mem.fzback h' 7 rfl ((h16.trans hx2).trans h46)).sub (.cons _ (.cons_cons _ (.cons _ (.cons _ (.cons _ (.cons _ (.cons _ (.cons_cons _ (.refl _))))))))))⟩)) ?_
   rintro ⟨A40, c41, y42, F43, W44⟩ ⟨h45, h46⟩
   have h36 := h36.ext h46
   have h15 := h15.ext h46
   refine oQ [oT 10] [(21, .agg #[vI x24.it.Ent.N, vI x24.it.Ent.Gen, sl A40 x38 c41]), (13, vI x24.i), (11, yv b18), (0, yv b18), (5, sl (sa g32) x7 c11), (6, vI (x7.length : Int)), (7, vI i20)] (by kernel_rfl) ?_
   refine ops_yield (d := some 22) (args := #[vI x24.i, .agg #[vI x24.it.Ent.N, vI x24.it.Ent.Gen, sl A40 x38 c41]]) (l := [(21, .agg #[vI x24.it.Ent.N, vI x24.it.Ent.Gen, sl A40 x38 c41]), (13, vI x24.i), (11, yv b18), (0, yv b18), (5, sl (sa g32) x7 c11), (6, vI (x7.length : Int)), (7, vI i20)]) (lr := [(13, .agg #[vI x24.it.Ent.N, vI x24.it.Ent.Gen, sl A40 x38 c41]), (12, vI x24.i), (11, .func (.func 58) #[] #[vP b9 0]), (7, vP b2 0), (6, vI 0)]) 5 rfl hrc_rf19 ⟨by kernel_rfl⟩ hk_rf19 (by kernel_rfl) (by kernel_rfl) ?_
   intro a_rd47 hk_rd47
   refine st_skip ?_
   refine fin_begin 5 rfl hrc_rf19 ?_
   refine st_block (st_region [oF 0, oF 1, oF 2] (by rfl) ?_)
   refine ops_mem (d := some 14) (an := [.v (vI i20)]) (evs := [ld b2 0 (vI i20)]) (v := vI i20) ⟨by kernel_rfl⟩ (fun w_ hM hS => ⟨w_, ⟨hM.cell 4 rfl rfl, rfl⟩, hM, trivial⟩) ?_
   refine oQ [oF 1] [(15, vI (IntKind.i64.wrap (i20 + 1))), (7, vP b2 0)] (by kernel_rfl) ?_
   refine ops_store (an := []) (evs := [sr b2 0 (vI (IntKind.i64.wrap (i20 + 1)))]) ⟨by kernel_rfl⟩ (fun w_ hM hS => let ⟨w', he, h'⟩ := hM.evs_stores [vI (IntKind.i64.wrap (i20 + 1))] 4 rfl 0 (Nat.le_of_ble_eq_true rfl); ⟨w', he, h', trivial⟩) ?_
   refine ops_nil (fin_block ?_)
   refine fin_round_on 5 rfl hrc_rf19 hk_rd47 (by intro t_ h_; cases h_; decide) (fun w_ h' => (by first | exact (Mem.fzback h' 7 rfl h46).sub (.cons _ (.cons_cons _ (.cons _ (.cons _ (.cons _ (.cons _ (.cons _ (.cons_cons _ (.refl _))))))))) | exact (Mem.fzback h' 7 rfl (hx2.trans h46)).sub (.cons _ (.cons_cons _ (.cons _ (.cons _ (.cons _ (.cons _ (.cons _ (.cons_cons _ (.refl _))))))))) | exact (Mem.fzback h' 7 rfl ((h16.trans hx2).trans h46)).sub (.cons _ (.cons_cons _ (.cons _ (.cons _ (.cons _ (.cons _ (.cons _ (.cons_cons _ (.refl _))))))))))) ?_
   refine oQ [oT 12] [(23, .bool false), (0, yv b18), (5, sl (sa g32) x7 c11), (6, vI (x7.length : Int)), (7, vI i20)] (by kernel_rfl) ?_
   refine ops_nil (fin_then (st_false rfl (st_skip (fin_block (fin_then (st_region [oF 0, oF 1] (by rfl) ?_))))))
   refine oQ [oF 0, oF 1] [(7, vI (IntKind.i64.wrap (i20 + 1))), (0, yv b18), (5, sl (sa g32) x7 c11), (6, vI (x7.length : Int))] (by kernel_rfl) ?_
   refine ops_nil ?_
   exact fin_again (IntKind.i64.wrap (i20 + 1)) (F43, W44) (Option.some.inj hp).symm (hx2.trans h46) (look_has ⟨rfl, rfl, rfl, rfl, trivial⟩) (fun w_ hM => hM.pick 8 [2, 3, 4, 5, 6, 7] (by kernel_rfl) (by decide) rfl)
  ·
   have hp := cnd_f hc23 hp
   refine st_exit (fin_exit_then (fin_exit_then (fin_exit ?_)))
   refine fin_rf_on rfl rfl 3 rfl hrc_rf19 hk_rf19 ?_
   refine fin_conv (l' := [(11, .func (.func 58) #[] #[vP b9 0]), (7, vP b2 0), (6, vI 0)]) (M' := Mem w0 (ow A10 x7 c11 110 4 y12 :: .blk b9 [sl A10 x7 c11] 107 :: .blk b2 [vI i20] 3 :: .obj b17 (.deferred (some [])) :: Fz F21 W22 :: cs)) rfl (fun _ h => h) ?_
   refine fin_block ?_
   obtain hq_ := Option.some.inj hp
   subst hq_
   obtain hq_ := hd2 _ rfl
   subst hq_
   have hp : query_Count_j1 i20 = some i9001 := hk2
   exact fin_joinN HJ1 (i20, b17, F21, W22) rfl ⟨hp, (h16.trans hx2)⟩ (look_has ⟨rfl, trivial⟩) (fun w_ hM => hM.pick 5 [2, 3, 4] (by kernel_rfl) (by decide) rfl)
theorem slices_Equal_int_int_ok (w0 w : World) (cs : List Chunk) (F : Nat → Prop) (W : World) (A_s1 : Option Addr) (c_s1 : Nat) (s1_1 : List Int) (A_s2 : Option Addr) (c_s2 : Nat) (s2_1 : List Int) (hM0 : Mem w0 (Fz F W :: cs) w) (h_s1 : RdS (Rep.int .i64) F W A_s1 c_s1 s1_1) (h_s2 : RdS (Rep.int .i64) F W A_s2 c_s2 s2_1) (t9001 : Bool) (hp : slices_Equal_int_int s1_1 s2_1 = some t9001) : Calls Try.prog 14 #[sl A_s1 s1_1 c_s1, sl A_s2 s2_1 c_s2] w fun e w' => (True) ∧ e = .returned (.bool t9001) ∧ Mem w0 (Fz F W :: cs) w' := by
 unfold slices_Equal_int_int at hp
 refine sx_calls Try.func14 rfl (n := 26) (by kernel_rfl) (l := [(0, sl A_s1 s1_1 c_s1), (1, sl A_s2 s2_1 c_s2)]) rfl (by rfl) hM0 ?_
 refine st_seq (st_region [oF 0] (by rfl) ?_)
 refine oQ [oF 0] [(0, sl A_s1 s1_1 c_s1), (1, sl A_s2 s2_1 c_s2)] (by kernel_rfl) ?_
 refine ops_nil (fin_then (st_seq (st_seq (st_region [oF 0, oF 1, oF 2, oF 3, oF 4] (by rfl) ?_))))
 refine oQ [oF 0, oF 1, oF 2, oF 3, oF 4] [(10, .bool (!((s1_1.length : Int) == (s2_1.length : Int)))), (0, sl A_s1 s1_1 c_s1), (1, sl A_s2 s2_1 c_s2)] (by kernel_rfl) ?_
 refine ops_nil (fin_then ?_)
 refine st_if (b := !((s1_1.length : Int) == (s2_1.length : Int))) rfl (fun hc1 => ?_) (fun hc1 => ?_)
 ·
  have hp := cnd_t hc1 hp
  refine st_seq (st_region [oF 0] (by rfl) ?_)
  refine oQ [oF 0] [(4, .bool false)] (by kernel_rfl) ?_
  refine ops_nil (fin_then (st_ret (fin_ret_then ?_)))
  have hq_ := Option.some.inj hp
  have hr0_ := hq_
  subst hr0_
  refine fin_ret [.tmp 4] [.bool false] rfl rfl (fun w_ hM => (.tmp rfl .nil)) (fun w_ hM => ?_)
  exact ⟨trivial, rfl, hM⟩
 ·
  have hp := cnd_f hc1 hp
  refine st_skip (fin_then ?_)
  refine st_join1 (σ := Unit) (L := fun _ => []) (N := fun _ => Mem w0 (Fz F W :: cs)) (I := fun _ => (slices_Equal_int_int_j1 = some t9001)) ?_ ?_
  ·
   rintro _ hp
   unfold slices_Equal_int_int_j1 at hp
   refine st_seq (st_region [oF 0] (by rfl) ?_)
   refine oQ [oF 0] [(4, .bool true)] (by kernel_rfl) ?_
   refine ops_nil (fin_then (st_ret ?_))
   have hq_ := Option.some.inj hp
   have hr0_ := hq_
   subst hr0_
   refine fin_ret [.tmp 4] [.bool true] rfl rfl (fun w_ hM => (.tmp rfl .nil)) (fun w_ hM => ?_)
   exact ⟨trivial, rfl, hM⟩
  ·
   intro HJ1
   refine st_seq (st_seq (st_region [oF 0, oF 1, oF 2] (by rfl) ?_))
   refine oQ [oF 0, oF 1, oF 2] [(13, vI 0), (12, vI (s1_1.length : Int)), (0, sl A_s1 s1_1 c_s1), (1, sl A_s2 s2_1 c_s2)] (by kernel_rfl) ?_
   refine ops_nil (fin_then (st_block ?_))
   obtain ⟨r2, hl2, hk2⟩ := obind hp
   refine st_loopP (σ := Int) (ρ := (Bool ⊕ Unit)) (γ := Unit) hl2 () (fun s_ g_ => match s_, g_ with | i2, _ => [(0, sl A_s1 s1_1 c_s1), (1, sl A_s2 s2_1 c_s2), (12, vI (s1_1.length : Int)), (13, vI i2)]) (fun s_ g_ => match s_, g_ with | i2, _ => Mem w0 (Fz F W :: cs)) (fun s_ g_ => match s_, g_ with | i2, _ => True) trivial (look_has ⟨rfl, rfl, rfl, rfl, trivial⟩) (fun w_ hM => hM) ?_
   rintro i2 _ o2 - hs_ hd2
   have hp : (slices_Equal_int_int_l2 s1_1 s2_1) i2 = some o2 := hs_
   clear hs_
   unfold slices_Equal_int_int_l2 at hp
   refine st_seq (st_region [oF 0] (by rfl) ?_)
   refine oQ [oF 0] [(14, .bool (decide (i2 < (s1_1.length : Int)))), (0, sl A_s1 s1_1 c_s1), (1, sl A_s2 s2_1 c_s2), (12, vI (s1_1.length : Int)), (13, vI i2)] (by kernel_rfl) ?_
   refine ops_nil (fin_then (st_seq ?_))
   refine st_if (b := decide (i2 < (s1_1.length : Int))) rfl (fun hc3 => ?_) (fun hc3 => ?_)
   ·
    have hp := cnd_t hc3 hp
    refine st_skip (fin_then (st_seq (st_block (st_seq (st_region [oF 0, oF 1] (by rfl) ?_)))))
    refine oQ [oF 0, oF 1] [(5, vI i2), (0, sl A_s1 s1_1 c_s1), (1, sl A_s2 s2_1 c_s2), (12, vI (s1_1.length : Int)), (13, vI i2)] (by kernel_rfl) ?_
    refine ops_nil (fin_then (st_seq ?_))
    refine st_region_draw [oT 0, oT 1, oT 2, oT 3, oT 4, oT 5, oT 6, oT 7, oT 8] (Mem w0 (Fz F W :: cs)) (by kernel_rfl) (by kernel_rfl) (by kernel_rfl) (fun _ d _ _ _ h => by cases d <;> exact h) (M' := Mem w0 (Fz F W :: cs)) (fun w_ hM => ⟨hM.drew, hM.drew.sub (.cons_cons _ (.refl _))⟩) ?_
    refine oQ [oT 0, oT 1] [(17, vI i2), (16, sl A_s1 s1_1 c_s1), (5, vI i2), (0, sl A_s1 s1_1 c_s1), (1, sl A_s2 s2_1 c_s2), (12, vI (s1_1.length : Int)), (13, vI i2)] (by kernel_rfl) ?_
    obtain ⟨x4, hv5, hp⟩ := obind hp
    obtain ⟨m6, hm7, hx8⟩ := idx_some hv5
    have hl11 := (List.getElem?_eq_some_iff.1 hx8).1
    obtain ⟨ad12, vs9, hA13, hr10, hq14⟩ := RdS.el h_s1 hx8
    obtain rfl := hr10
    refine ops_val (op := (.indexAddr 23 (.tmp 16) (.tmp 17))) (d := some 18) (v := .pointer (some (ad12.add (m6 * 1)))) ⟨by kernel_rfl⟩ (run_indexA hA13 Try.underlying23 (z := 1) (by kernel_rfl) rfl rfl hm7 hl11) ?_
    refine ops_load (d := some 19) (an := [.v (vI x4)]) (evs := [.load (ad12.add (m6 * 1)) (vI x4)]) (v := vI x4) ⟨by kernel_rfl⟩ (fun w_ hM => ⟨hM.elcell 0 rfl hq14 0 rfl, rfl⟩) ?_
    refine oQ [oT 4, oT 5] [(21, vI i2), (20, sl A_s2 s2_1 c_s2), (19, vI x4), (0, sl A_s1 s1_1 c_s1), (1, sl A_s2 s2_1 c_s2), (12, vI (s1_1.length : Int)), (13, vI i2)] (by kernel_rfl) ?_
    obtain ⟨x15, hv16, hp⟩ := obind hp
    obtain ⟨m17, hm18, hx19⟩ := idx_some hv16
    have hl22 := (List.getElem?_eq_some_iff.1 hx19).1
    obtain ⟨ad23, vs20, hA24, hr21, hq25⟩ := RdS.el h_s2 hx19
    obtain rfl := hr21
    refine ops_val (op := (.indexAddr 23 (.tmp 20) (.tmp 21))) (d := some 22) (v := .pointer (some (ad23.add (m17 * 1)))) ⟨by kernel_rfl⟩ (run_indexA hA24 Try.underlying23 (z := 1) (by kernel_rfl) rfl rfl hm18 hl22) ?_
    refine ops_load (d := some 23) (an := [.v (vI x15)]) (evs := [.load (ad23.add (m17 * 1)) (vI x15)]) (v := vI x15) ⟨by kernel_rfl⟩ (fun w_ hM => ⟨hM.elcell 0 rfl hq25 0 rfl, rfl⟩) ?_
    refine oQ [oT 8] [(24, .bool (!(x4 == x15))), (0, sl A_s1 s1_1 c_s1), (1, sl A_s2 s2_1 c_s2), (12, vI (s1_1.length : Int)), (13, vI i2)] (by kernel_rfl) ?_
    refine ops_nil (fin_then ?_)
    refine st_if (b := !(x4 == x15)) rfl (fun hc26 => ?_) (fun hc26 => ?_)
    ·
     have hp := cnd_t hc26 hp
     refine st_seq (st_region [oF 0] (by rfl) ?_)
     refine oQ [oF 0] [(4, .bool false)] (by kernel_rfl) ?_
     refine ops_nil (fin_then (st_ret (fin_ret_block (fin_ret_then (fin_ret_then (fin_ret_block (fin_ret_then ?_)))))))
     obtain hq_ := Option.some.inj hp
     subst hq_
     obtain hq_ := hd2 _ rfl
     subst hq_
     have hp : some false = some t9001 := hk2
     have hq_ := Option.some.inj hp
     have hr0_ := hq_
     subst hr0_
     refine fin_ret [.tmp 4] [.bool false] rfl rfl (fun w_ hM => (.tmp rfl .nil)) (fun w_ hM => ?_)
     exact ⟨trivial, rfl, hM⟩
    ·
     have hp := cnd_f hc26 hp
     refine st_skip (fin_block (fin_then (st_region [oF 0, oF 1] (by rfl) ?_)))
     refine oQ [oF 0, oF 1] [(13, vI (IntKind.i64.wrap (i2 + 1))), (0, sl A_s1 s1_1 c_s1), (1, sl A_s2 s2_1 c_s2), (12, vI (s1_1.length : Int))] (by kernel_rfl) ?_
     refine ops_nil ?_
     exact fin_again (IntKind.i64.wrap (i2 + 1)) () (Option.some.inj hp).symm trivial (look_has ⟨rfl, rfl, rfl, rfl, trivial⟩) (fun w_ hM => hM)
   ·
    have hp := cnd_f hc3 hp
    refine st_exit (fin_exit_then (fin_exit_then (fin_exit ?_)))
    obtain hq_ := Option.some.inj hp
    subst hq_
    obtain hq_ := hd2 _ rfl
    subst hq_
    have hp : slices_Equal_int_int_j1 = some t9001 := hk2
    exact fin_join HJ1 () hp (look_has trivial) (fun w_ hM => hM)
theorem tourref3_SameComp_ok (w0 w : World) (cs : List Chunk) (F : Nat → Prop) (W : World) (a_0 : Int) (A_a_1 : Option Addr) (c_a_1 : Nat) (a_1 : List Int) (b_0 : Int) (A_b_1 : Option Addr) (c_b_1 : Nat) (b_1 : List Int) (hM0 : Mem w0 (Fz F W :: cs) w) (h_a_1 : RdS (Rep.int .i64) F W A_a_1 c_a_1 a_1) (h_b_1 : RdS (Rep.int .i64) F W A_b_1 c_b_1 b_1) (t9001 : Bool) (hp : tourref3_SameComp a_0 a_1 b_0 b_1 = some t9001) : Calls Try.prog 60 #[.agg #[vI a_0, sl A_a_1 a_1 c_a_1], .agg #[vI b_0, sl A_b_1 b_1 c_b_1]] w fun e w' => (True) ∧ e = .returned (.bool t9001) ∧ Mem w0 (Fz F W :: cs) w' := by
 unfold tourref3_SameComp at hp
 refine sx_calls Try.func60 rfl (n := 17) (by kernel_rfl) (l := [(0, .agg #[vI a_0, sl A_a_1 a_1 c_a_1]), (1, .agg #[vI b_0, sl A_b_1 b_1 c_b_1])]) rfl (by rfl) hM0 ?_
 refine st_seq (st_region [oF 0, oF 1, oF 2] (by rfl) ?_)
 refine ops_newB (d := some 2) [vI a_0, sl A_a_1 a_1 c_a_1] 43 (fun b1 => ⟨by kernel_rfl⟩) (fun w_ hM hS => trivial) (fun b1 => ?_)
 refine ops_newB (d := some 3) [vI b_0, sl A_b_1 b_1 c_b_1] 43 (fun b2 => ⟨by kernel_rfl⟩) (fun w_ hM hS => trivial) (fun b2 => ?_)
 refine oQ [oF 2] [(3, vP b2 0), (2, vP b1 0)] (by kernel_rfl) ?_
 refine ops_nil (fin_then ?_)
 refine st_join1 (σ := Bool) (L := fun x_ => match x_ with | t3 => [(4, .bool t3)]) (N := fun x_ => match x_ with | t3 => Mem w0 (Fz F W :: cs)) (I := fun x_ => match x_ with | t3 => (tourref3_SameComp_j1 t3 = some t9001)) ?_ ?_
 ·
  rintro t3 hp
  unfold tourref3_SameComp_j1 at hp
  refine st_ret ?_
  have hq_ := Option.some.inj hp
  have hr0_ := hq_
  subst hr0_
  refine fin_ret [.tmp 4] [.bool t3] rfl rfl (fun w_ hM => (.tmp rfl .nil)) (fun w_ hM => ?_)
  exact ⟨trivial, rfl, hM⟩
 ·
  intro HJ1
  refine st_seq (st_region [oF 0, oF 1, oF 2, oF 3, oF 4, oF 5, oF 6, oF 7, oF 8, oF 9, oF 10, oF 11, oF 12] (by rfl) ?_)
  refine oQ [oF 0] [(5, vP b1 0), (3, vP b2 0), (2, vP b1 0)] (by kernel_rfl) ?_
  refine ops_mem (d := some 6) (an := [.v (vI a_0)]) (evs := [ld b1 0 (vI a_0)]) (v := vI a_0) ⟨by kernel_rfl⟩ (fun w_ hM hS => ⟨w_, ⟨hM.cell 1 rfl rfl, rfl⟩, hM, trivial⟩) ?_
  refine oQ [oF 2] [(7, vP b2 0), (6, vI a_0), (3, vP b2 0), (2, vP b1 0)] (by kernel_rfl) ?_
  refine ops_mem (d := some 8) (an := [.v (vI b_0)]) (evs := [ld b2 0 (vI b_0)]) (v := vI b_0) ⟨by kernel_rfl⟩ (fun w_ hM hS => ⟨w_, ⟨hM.cell 0 rfl rfl, rfl⟩, hM, trivial⟩) ?_
  refine oQ [oF 4, oF 5] [(10, .bool (a_0 == b_0)), (3, vP b2 0), (2, vP b1 0)] (by kernel_rfl) ?_
  refine ops_bool (t := (a_0 == b_0)) (l1 := [(10, .bool true), (3, vP b2 0), (2, vP b1 0)]) (l2 := [(10, .bool false), (3, vP b2 0), (2, vP b1 0)]) (fun h => by rw [h]) (fun h => by rw [h]) (fun hc4 => ?_) (fun hc4 => ?_)
  ·
   have hp := cnd_t hc4 hp
   refine oQ [oF 6] [(11, vP b1 1), (10, .bool true), (3, vP b2 0)] (by kernel_rfl) ?_
   refine ops_mem (d := some 12) (an := [.v (sl A_a_1 a_1 c_a_1)]) (evs := [ld b1 1 (sl A_a_1 a_1 c_a_1)]) (v := sl A_a_1 a_1 c_a_1) ⟨by kernel_rfl⟩ (fun w_ hM hS => ⟨w_, ⟨hM.cell 1 rfl rfl, rfl⟩, hM, trivial⟩) ?_
   refine oQ [oF 8] [(13, vP b2 1), (12, sl A_a_1 a_1 c_a_1), (10, .bool true)] (by kernel_rfl) ?_
   refine ops_mem (d := some 14) (an := [.v (sl A_b_1 b_1 c_b_1)]) (evs := [ld b2 1 (sl A_b_1 b_1 c_b_1)]) (v := sl A_b_1 b_1 c_b_1) ⟨by kernel_rfl⟩ (fun w_ hM hS => ⟨w_, ⟨hM.cell 0 rfl rfl, rfl⟩, hM, trivial⟩) ?_
   obtain ⟨x5, hv6, hp⟩ := obind hp
   refine ops_callI (σ := Unit) (d := some 15) (f := 14) (args := #[sl A_a_1 a_1 c_a_1, sl A_b_1 b_1 c_b_1]) (v := (fun _ => .bool x5)) (I := (fun _ => True)) (M' := (fun _ => Mem w0 (.blk b2 [vI b_0, sl A_b_1 b_1 c_b_1] 43 :: .blk b1 [vI a_0, sl A_a_1 a_1 c_a_1] 43 :: Fz F W :: cs))) ⟨by kernel_rfl⟩ (fun w_ hM hS => (slices_Equal_int_int_ok w0 w_ (.blk b2 [vI b_0, sl A_b_1 b_1 c_b_1] 43 :: .blk b1 [vI a_0, sl A_a_1 a_1 c_a_1] 43 :: cs) F W A_a_1 c_a_1 a_1 A_b_1 c_b_1 b_1 (hM.pick 3 [2, 0, 1] (by kernel_rfl) (by decide) rfl) h_a_1 h_b_1 x5 hv6).mono (by rintro e w' ⟨-, rfl, h'⟩; have h' : Mem w0 (.blk b2 [vI b_0, sl A_b_1 b_1 c_b_1] 43 :: .blk b1 [vI a_0, sl A_a_1 a_1 c_a_1] 43 :: Fz F W :: cs) w' := (h'.pick 3 [1, 2, 0] (by kernel_rfl) (by decide) rfl); exact ⟨(), trivial, rfl, h', trivial⟩)) ?_
   rintro _ -
   refine oQ [oF 11, oF 12] [(4, .bool x5)] (by kernel_rfl) ?_
   refine ops_nil ?_
   exact fin_join HJ1 x5 hp (look_has ⟨rfl, trivial⟩) (fun w_ hM => hM.pick 3 [2] (by kernel_rfl) (by decide) rfl)
  ·
   have hp := cnd_f hc4 hp
   refine oQ [oF 6, oF 7, oF 8, oF 9, oF 10, oF 11, oF 12] [(4, .bool false)] (by kernel_rfl) ?_
   refine ops_nil ?_
   exact fin_join HJ1 false hp (look_has ⟨rfl, trivial⟩) (fun w_ hM => hM.pick 3 [2] (by kernel_rfl) (by decide) rfl)
theorem slices_EqualFunc_api_Comp_api_Comp_api_Comp_api_Comp_ok (w0 w : World) (cs : List Chunk) (F : Nat → Prop) (W : World) (A_s1 : Option Addr) (c_s1 : Nat) (s1_1 : List api_Comp) (A_s2 : Option Addr) (c_s2 : Nat) (s2_1 : List api_Comp) (hM0 : Mem w0 (Fz F W :: cs) w) (h_s1 : RdS R_api_Comp F W A_s1 c_s1 s1_1) (h_s2 : RdS R_api_Comp F W A_s2 c_s2 s2_1) (t9001 : Bool) (hp : slices_EqualFunc_api_Comp_api_Comp_api_Comp_api_Comp s1_1 s2_1 = some t9001) : Calls Try.prog 59 #[sl A_s1 s1_1 c_s1, sl A_s2 s2_1 c_s2, .func (.func 60) #[] #[]] w fun e w' => (True) ∧ e = .returned (.bool t9001) ∧ Mem w0 (Fz F W :: cs) w' := by
 unfold slices_EqualFunc_api_Comp_api_Comp_api_Comp_api_Comp at hp
 refine sx_calls Try.func59 rfl (n := 32) (by kernel_rfl) (l := [(0, sl A_s1 s1_1 c_s1), (1, sl A_s2 s2_1 c_s2), (2, .func (.func 60) #[] #[])]) rfl (by rfl) hM0 ?_
 refine st_seq (st_region [oF 0] (by rfl) ?_)
 refine oQ [oF 0] [(0, sl A_s1 s1_1 c_s1), (1, sl A_s2 s2_1 c_s2), (2, .func (.func 60) #[] #[])] (by kernel_rfl) ?_
 refine ops_nil (fin_then (st_seq (st_seq (st_region [oF 0, oF 1, oF 2, oF 3, oF 4] (by rfl) ?_))))
 refine oQ [oF 0, oF 1, oF 2, oF 3, oF 4] [(14, .bool (!((s1_1.length : Int) == (s2_1.length : Int)))), (0, sl A_s1 s1_1 c_s1), (1, sl A_s2 s2_1 c_s2), (2, .func (.func 60) #[] #[])] (by kernel_rfl) ?_
 refine ops_nil (fin_then ?_)
 refine st_if (b := !((s1_1.length : Int) == (s2_1.length : Int))) rfl (fun hc1 => ?_) (fun hc1 => ?_)
 ·
  have hp := cnd_t hc1 hp
  refine st_seq (st_region [oF 0] (by rfl) ?_)
  refine oQ [oF 0] [(6, .bool false)] (by kernel_rfl) ?_
  refine ops_nil (fin_then (st_ret (fin_ret_then ?_)))
  have hq_ := Option.some.inj hp
  have hr0_ := hq_
  subst hr0_
  refine fin_ret [.tmp 6] [.bool false] rfl rfl (fun w_ hM => (.tmp rfl .nil)) (fun w_ hM => ?_)
  exact ⟨trivial, rfl, hM⟩
 ·
  have hp := cnd_f hc1 hp
  refine st_skip (fin_then ?_)
  refine st_join1 (σ := Unit) (L := fun _ => []) (N := fun _ => Mem w0 (Fz F W :: cs)) (I := fun _ => (slices_EqualFunc_api_Comp_api_Comp_api_Comp_api_Comp_j1 = some t9001)) ?_ ?_
  ·
   rintro _ hp
   unfold slices_EqualFunc_api_Comp_api_Comp_api_Comp_api_Comp_j1 at hp
   refine st_seq (st_region [oF 0] (by rfl) ?_)
   refine oQ [oF 0] [(6, .bool true)] (by kernel_rfl) ?_
   refine ops_nil (fin_then (st_ret ?_))
   have hq_ := Option.some.inj hp
   have hr0_ := hq_
   subst hr0_
   refine fin_ret [.tmp 6] [.bool true] rfl rfl (fun w_ hM => (.tmp rfl .nil)) (fun w_ hM => ?_)
   exact ⟨trivial, rfl, hM⟩
  ·
   intro HJ1
   refine st_seq (st_seq (st_region [oF 0, oF 1, oF 2] (by rfl) ?_))
   refine oQ [oF 0, oF 1, oF 2] [(17, vI 0), (16, vI (s1_1.length : Int)), (15, sl A_s1 s1_1 c_s1), (1, sl A_s2 s2_1 c_s2), (2, .func (.func 60) #[] #[])] (by kernel_rfl) ?_
   refine ops_nil (fin_then (st_block ?_))
   obtain ⟨r2, hl2, hk2⟩ := obind hp
   refine st_loopP (σ := Int) (ρ := (Bool ⊕ Unit)) (γ := Unit) hl2 () (fun s_ g_ => match s_, g_ with | i2, _ => [(1, sl A_s2 s2_1 c_s2), (2, .func (.func 60) #[] #[]), (15, sl A_s1 s1_1 c_s1), (16, vI (s1_1.length : Int)), (17, vI i2)]) (fun s_ g_ => match s_, g_ with | i2, _ => Mem w0 (Fz F W :: cs)) (fun s_ g_ => match s_, g_ with | i2, _ => True) trivial (look_has ⟨rfl, rfl, rfl, rfl, rfl, trivial⟩) (fun w_ hM => hM) ?_
   rintro i2 _ o2 - hs_ hd2
   have hp : (slices_EqualFunc_api_Comp_api_Comp_api_Comp_api_Comp_l2 s1_1 s2_1) i2 = some o2 := hs_
   clear hs_
   unfold slices_EqualFunc_api_Comp_api_Comp_api_Comp_api_Comp_l2 at hp
   refine st_seq (st_region [oF 0] (by rfl) ?_)
   refine oQ [oF 0] [(18, .bool (decide (i2 < (s1_1.length : Int)))), (1, sl A_s2 s2_1 c_s2), (2, .func (.func 60) #[] #[]), (15, sl A_s1 s1_1 c_s1), (16, vI (s1_1.length : Int)), (17, vI i2)] (by kernel_rfl) ?_
   refine ops_nil (fin_then (st_seq ?_))
   refine st_if (b := decide (i2 < (s1_1.length : Int))) rfl (fun hc3 => ?_) (fun hc3 => ?_)
   ·
    have hp := cnd_t hc3 hp
    refine st_skip (fin_then (st_seq (st_block (st_seq (st_region [oF 0, oF 1, oF 2, oF 3, oF 4, oF 5] (by rfl) ?_)))))
    refine oQ [oF 0] [(19, vI i2), (1, sl A_s2 s2_1 c_s2), (2, .func (.func 60) #[] #[]), (15, sl A_s1 s1_1 c_s1), (16, vI (s1_1.length : Int)), (17, vI i2)] (by kernel_rfl) ?_
    obtain ⟨x4, hv5, hp⟩ := obind hp
    obtain ⟨m6, hm7, hx8⟩ := idx_some hv5
    have hl11 := (List.getElem?_eq_some_iff.1 hx8).1
    obtain ⟨ad12, vs9, hA13, hr10, hq14⟩ := RdS.el h_s1 hx8
    obtain ⟨A15, c16, rfl, h17⟩ := dec_api_Comp hr10
    refine ops_val (op := (.indexAddr 36 (.tmp 15) (.tmp 17))) (d := some 20) (v := .pointer (some (ad12.add (m6 * 2)))) ⟨by kernel_rfl⟩ (run_indexA hA13 Try.underlying36 (z := 2) (by kernel_rfl) rfl rfl hm7 hl11) ?_
    refine ops_mem (d := some 21) (an := [.v (vI x4.Kind), .v (sl A15 x4.Vals c16)]) (evs := [.load (ad12.add (m6 * 2)) (vI x4.Kind), .load ((ad12.add (m6 * 2)).add 1) (sl A15 x4.Vals c16)]) (v := .agg #[vI x4.Kind, sl A15 x4.Vals c16]) ⟨by kernel_rfl⟩ (fun w_ hM hS => ⟨w_, ⟨hM.elcell 0 rfl hq14 0 rfl, hM.elcell 0 rfl hq14 1 rfl, rfl⟩, hM, trivial⟩) ?_
    refine ops_newB (d := some 8) [vI 0, .slice none 0 0] 43 (fun b18 => ⟨by kernel_rfl⟩) (fun w_ hM hS => trivial) (fun b18 => ?_)
    refine oQ [oF 4] [(7, vI i2), (8, vP b18 0), (21, .agg #[vI x4.Kind, sl A15 x4.Vals c16]), (1, sl A_s2 s2_1 c_s2), (2, .func (.func 60) #[] #[]), (15, sl A_s1 s1_1 c_s1), (16, vI (s1_1.length : Int)), (17, vI i2)] (by kernel_rfl) ?_
    refine ops_store (an := []) (evs := [sr b18 0 (vI x4.Kind), sr b18 1 (sl A15 x4.Vals c16)]) ⟨by kernel_rfl⟩ (fun w_ hM hS => let ⟨w', he, h'⟩ := hM.evs_stores [vI x4.Kind, sl A15 x4.Vals c16] 0 rfl 0 (Nat.le_of_ble_eq_true rfl); ⟨w', he, h', trivial⟩) ?_
    refine ops_nil (fin_then (st_seq (st_region [oF 0, oF 1, oF 2, oF 3, oF 4, oF 5] (by rfl) ?_)))
    refine oQ [oF 0, oF 1] [(23, vI i2), (22, sl A_s2 s2_1 c_s2), (8, vP b18 0), (1, sl A_s2 s2_1 c_s2), (2, .func (.func 60) #[] #[]), (15, sl A_s1 s1_1 c_s1), (16, vI (s1_1.length : Int)), (17, vI i2)] (by kernel_rfl) ?_
    obtain ⟨x19, hv20, hp⟩ := obind hp
    obtain ⟨m21, hm22, hx23⟩ := idx_some hv20
    have hl26 := (List.getElem?_eq_some_iff.1 hx23).1
    obtain ⟨ad27, vs24, hA28, hr25, hq29⟩ := RdS.el h_s2 hx23
    obtain ⟨A30, c31, rfl, h32⟩ := dec_api_Comp hr25
    refine ops_val (op := (.indexAddr 36 (.tmp 22) (.tmp 23))) (d := some 24) (v := .pointer (some (ad27.add (m21 * 2)))) ⟨by kernel_rfl⟩ (run_indexA hA28 Try.underlying36 (z := 2) (by kernel_rfl) rfl rfl hm22 hl26) ?_
    refine ops_mem (d := some 25) (an := [.v (vI x19.Kind), .v (sl A30 x19.Vals c31)]) (evs := [.load (ad27.add (m21 * 2)) (vI x19.Kind), .load ((ad27.add (m21 * 2)).add 1) (sl A30 x19.Vals c31)]) (v := .agg #[vI x19.Kind, sl A30 x19.Vals c31]) ⟨by kernel_rfl⟩ (fun w_ hM hS => ⟨w_, ⟨hM.elcell 1 rfl hq29 0 rfl, hM.elcell 1 rfl hq29 1 rfl, rfl⟩, hM, trivial⟩) ?_
    refine ops_newB (d := some 9) [vI 0, .slice none 0 0] 43 (fun b33 => ⟨by kernel_rfl⟩) (fun w_ hM hS => trivial) (fun b33 => ?_)
    refine ops_store (an := []) (evs := [sr b33 0 (vI x19.Kind), sr b33 1 (sl A30 x19.Vals c31)]) ⟨by kernel_rfl⟩ (fun w_ hM hS => let ⟨w', he, h'⟩ := hM.evs_stores [vI x19.Kind, sl A30 x19.Vals c31] 0 rfl 0 (Nat.le_of_ble_eq_true rfl); ⟨w', he, h', trivial⟩) ?_
    refine ops_nil (fin_then (st_seq (st_region [oF 0, oF 1, oF 2, oF 3, oF 4] (by rfl) ?_)))
    refine oQ [oF 0] [(26, .func (.func 60) #[] #[]), (9, vP b33 0), (8, vP b18 0), (1, sl A_s2 s2_1 c_s2), (2, .func (.func 60) #[] #[]), (15, sl A_s1 s1_1 c_s1), (16, vI (s1_1.length : Int)), (17, vI i2)] (by kernel_rfl) ?_
    refine ops_mem (d := some 27) (an := [.v (vI x4.Kind), .v (sl A15 x4.Vals c16)]) (evs := [ld b18 0 (vI x4.Kind), ld b18 1 (sl A15 x4.Vals c16)]) (v := .agg #[vI x4.Kind, sl A15 x4.Vals c16]) ⟨by kernel_rfl⟩ (fun w_ hM hS => ⟨w_, ⟨hM.cell 1 rfl rfl, hM.cell 1 rfl rfl, rfl⟩, hM, trivial⟩) ?_
    refine ops_mem (d := some 28) (an := [.v (vI x19.Kind), .v (sl A30 x19.Vals c31)]) (evs := [ld b33 0 (vI x19.Kind), ld b33 1 (sl A30 x19.Vals c31)]) (v := .agg #[vI x19.Kind, sl A30 x19.Vals c31]) ⟨by kernel_rfl⟩ (fun w_ hM hS => ⟨w_, ⟨hM.cell 0 rfl rfl, hM.cell 0 rfl rfl, rfl⟩, hM, trivial⟩) ?_
    obtain ⟨x34, hv35, hp⟩ := obind hp
    refine ops_callI (σ := Unit) (d := some 29) (f := 60) (args := #[.agg #[vI x4.Kind, sl A15 x4.Vals c16], .agg #[vI x19.Kind, sl A30 x19.Vals c31]]) (v := (fun _ => .bool x34)) (I := (fun _ => True)) (M' := (fun _ => Mem w0 (.blk b33 [vI x19.Kind, sl A30 x19.Vals c31] 43 :: .blk b18 [vI x4.Kind, sl A15 x4.Vals c16] 43 :: Fz F W :: cs))) ⟨by kernel_rfl⟩ (fun w_ hM hS => (tourref3_SameComp_ok w0 w_ (.blk b33 [vI x19.Kind, sl A30 x19.Vals c31] 43 :: .blk b18 [vI x4.Kind, sl A15 x4.Vals c16] 43 :: cs) F W x4.Kind A15 c16 x4.Vals x19.Kind A30 c31 x19.Vals (hM.pick 3 [2, 0, 1] (by kernel_rfl) (by decide) rfl) h17 h32 x34 hv35).mono (by rintro e w' ⟨-, rfl, h'⟩; have h' : Mem w0 (.blk b33 [vI x19.Kind, sl A30 x19.Vals c31] 43 :: .blk b18 [vI x4.Kind, sl A15 x4.Vals c16] 43 :: Fz F W :: cs) w' := (h'.pick 3 [1, 2, 0] (by kernel_rfl) (by decide) rfl); exact ⟨(), trivial, rfl, h', trivial⟩)) ?_
    rintro _ -
    refine oQ [oF 4] [(30, .bool (!x34)), (1, sl A_s2 s2_1 c_s2), (2, .func (.func 60) #[] #[]), (15, sl A_s1 s1_1 c_s1), (16, vI (s1_1.length : Int)), (17, vI i2)] (by kernel_rfl) ?_
    refine ops_nil (fin_then ?_)
    refine st_if (b := !x34) rfl (fun hc36 => ?_) (fun hc36 => ?_)
    ·
     have hp := cnd_t hc36 hp
     refine st_seq (st_region [oF 0] (by rfl) ?_)
     refine oQ [oF 0] [(6, .bool false)] (by kernel_rfl) ?_
     refine ops_nil (fin_then (st_ret (fin_ret_block (fin_ret_then (fin_ret_then (fin_ret_block (fin_ret_then ?_)))))))
     obtain hq_ := Option.some.inj hp
     subst hq_
     obtain hq_ := hd2 _ rfl
     subst hq_
     have hp : some false = some t9001 := hk2
     have hq_ := Option.some.inj hp
     have hr0_ := hq_
     subst hr0_
     refine fin_ret [.tmp 6] [.bool false] rfl rfl (fun w_ hM => (.tmp rfl .nil)) (fun w_ hM => ?_)
     exact ⟨trivial, rfl, hM.pick 3 [2] (by kernel_rfl) (by decide) rfl⟩
    ·
     have hp := cnd_f hc36 hp
     refine st_skip (fin_block (fin_then (st_region [oF 0, oF 1] (by rfl) ?_)))
     refine oQ [oF 0, oF 1] [(17, vI (IntKind.i64.wrap (i2 + 1))), (1, sl A_s2 s2_1 c_s2), (2, .func (.func 60) #[] #[]), (15, sl A_s1 s1_1 c_s1), (16, vI (s1_1.length : Int))] (by kernel_rfl) ?_
     refine ops_nil ?_
     exact fin_again (IntKind.i64.wrap (i2 + 1)) () (Option.some.inj hp).symm trivial (look_has ⟨rfl, rfl, rfl, rfl, rfl, trivial⟩) (fun w_ hM => hM.pick 3 [2] (by kernel_rfl) (by decide) rfl)
   ·
    have hp := cnd_f hc3 hp
    refine st_exit (fin_exit_then (fin_exit_then (fin_exit ?_)))
    obtain hq_ := Option.some.inj hp
    subst hq_
    obtain hq_ := hd2 _ rfl
    subst hq_
    have hp : slices_EqualFunc_api_Comp_api_Comp_api_Comp_api_Comp_j1 = some t9001 := hk2
    exact fin_join HJ1 () hp (look_has trivial) (fun w_ hM => hM)
theorem tourref3_SameItem_ok (w0 w : World) (cs : List Chunk) (F : Nat → Prop) (W : World) (a_0 : Int) (a_1 : Int) (A_a_2 : Option Addr) (c_a_2 : Nat) (a_2 : List api_Comp) (b_0 : Int) (b_1 : Int) (A_b_2 : Option Addr) (c_b_2 : Nat) (b_2 : List api_Comp) (hM0 : Mem w0 (Fz F W :: cs) w) (h_a_2 : RdS R_api_Comp F W A_a_2 c_a_2 a_2) (h_b_2 : RdS R_api_Comp F W A_b_2 c_b_2 b_2) (t9001 : Bool) (hp : tourref3_SameItem a_0 a_1 a_2 b_0 b_1 b_2 = some t9001) : Calls Try.prog 10 #[.agg #[vI a_0, vI a_1, sl A_a_2 a_2 c_a_2], .agg #[vI b_0, vI b_1, sl A_b_2 b_2 c_b_2]] w fun e w' => (True) ∧ e = .returned (.bool t9001) ∧ Mem w0 (Fz F W :: cs) w' := by
 unfold tourref3_SameItem at hp
 refine sx_calls Try.func10 rfl (n := 17) (by kernel_rfl) (l := [(0, .agg #[vI a_0, vI a_1, sl A_a_2 a_2 c_a_2]), (1, .agg #[vI b_0, vI b_1, sl A_b_2 b_2 c_b_2])]) rfl (by rfl) hM0 ?_
 refine st_seq (st_region [oF 0, oF 1, oF 2] (by rfl) ?_)
 refine ops_newB (d := some 2) [vI a_0, vI a_1, sl A_a_2 a_2 c_a_2] 38 (fun b1 => ⟨by kernel_rfl⟩) (fun w_ hM hS => trivial) (fun b1 => ?_)
 refine ops_newB (d := some 3) [vI b_0, vI b_1, sl A_b_2 b_2 c_b_2] 38 (fun b2 => ⟨by kernel_rfl⟩) (fun w_ hM hS => trivial) (fun b2 => ?_)
 refine oQ [oF 2] [(3, vP b2 0), (2, vP b1 0)] (by kernel_rfl) ?_
 refine ops_nil (fin_then ?_)
 refine st_join1 (σ := Bool) (L := fun x_ => match x_ with | t3 => [(4, .bool t3)]) (N := fun x_ => match x_ with | t3 => Mem w0 (Fz F W :: cs)) (I := fun x_ => match x_ with | t3 => (tourref3_SameItem_j1 t3 = some t9001)) ?_ ?_
 ·
  rintro t3 hp
  unfold tourref3_SameItem_j1 at hp
  refine st_ret ?_
  have hq_ := Option.some.inj hp
  have hr0_ := hq_
  subst hr0_
  refine fin_ret [.tmp 4] [.bool t3] rfl rfl (fun w_ hM => (.tmp rfl .nil)) (fun w_ hM => ?_)
  exact ⟨trivial, rfl, hM⟩
 ·
  intro HJ1
  refine st_seq (st_region [oF 0, oF 1, oF 2, oF 3, oF 4, oF 5, oF 6, oF 7, oF 8, oF 9, oF 10, oF 11, oF 12] (by rfl) ?_)
  refine oQ [oF 0] [(5, vP b1 0), (3, vP b2 0), (2, vP b1 0)] (by kernel_rfl) ?_
  refine ops_mem (d := some 6) (an := [.v (vI a_0), .v (vI a_1)]) (evs := [ld b1 0 (vI a_0), ld b1 1 (vI a_1)]) (v := .agg #[vI a_0, vI a_1]) ⟨by kernel_rfl⟩ (fun w_ hM hS => ⟨w_, ⟨hM.cell 1 rfl rfl, hM.cell 1 rfl rfl, rfl⟩, hM, trivial⟩) ?_
  refine oQ [oF 2] [(7, vP b2 0), (6, .agg #[vI a_0, vI a_1]), (3, vP b2 0), (2, vP b1 0)] (by kernel_rfl) ?_
  refine ops_mem (d := some 8) (an := [.v (vI b_0), .v (vI b_1)]) (evs := [ld b2 0 (vI b_0), ld b2 1 (vI b_1)]) (v := .agg #[vI b_0, vI b_1]) ⟨by kernel_rfl⟩ (fun w_ hM hS => ⟨w_, ⟨hM.cell 0 rfl rfl, hM.cell 0 rfl rfl, rfl⟩, hM, trivial⟩) ?_
  refine ops_val (op := (.binOp Go.BinOp.eql 35 (.tmp 6) (.tmp 8) 35)) (d := some 9) (v := .bool (a_0 == b_0 && (a_1 == b_1))) ⟨by kernel_rfl⟩ (run_eql_agg (r := a_0 == b_0 && (a_1 == b_1)) rfl rfl (by kernel_rfl) (fun w => eqA35 9998 w a_0 b_0 a_1 b_1)) ?_
  refine oQ [oF 5] [(10, .bool (a_0 == b_0 && (a_1 == b_1))), (3, vP b2 0), (2, vP b1 0)] (by kernel_rfl) ?_
  refine ops_bool (t := a_0 == b_0 && (a_1 == b_1)) (l1 := [(10, .bool true), (3, vP b2 0), (2, vP b1 0)]) (l2 := [(10, .bool false), (3, vP b2 0), (2, vP b1 0)]) (fun h => by rw [h]) (fun h => by rw [h]) (fun hc4 => ?_) (fun hc4 => ?_)
  ·
   have hp := cnd_t hc4 hp
   refine oQ [oF 6] [(11, vP b1 2), (10, .bool true), (3, vP b2 0)] (by kernel_rfl) ?_
   refine ops_mem (d := some 12) (an := [.v (sl A_a_2 a_2 c_a_2)]) (evs := [ld b1 2 (sl A_a_2 a_2 c_a_2)]) (v := sl A_a_2 a_2 c_a_2) ⟨by kernel_rfl⟩ (fun w_ hM hS => ⟨w_, ⟨hM.cell 1 rfl rfl, rfl⟩, hM, trivial⟩) ?_
   refine oQ [oF 8] [(13, vP b2 2), (12, sl A_a_2 a_2 c_a_2), (10, .bool true)] (by kernel_rfl) ?_
   refine ops_mem (d := some 14) (an := [.v (sl A_b_2 b_2 c_b_2)]) (evs := [ld b2 2 (sl A_b_2 b_2 c_b_2)]) (v := sl A_b_2 b_2 c_b_2) ⟨by kernel_rfl⟩ (fun w_ hM hS => ⟨w_, ⟨hM.cell 0 rfl rfl, rfl⟩, hM, trivial⟩) ?_
   obtain ⟨x5, hv6, hp⟩ := obind hp
   refine ops_callI (σ := Unit) (d := some 15) (f := 59) (args := #[sl A_a_2 a_2 c_a_2, sl A_b_2 b_2 c_b_2, .func (.func 60) #[] #[]]) (v := (fun _ => .bool x5)) (I := (fun _ => True)) (M' := (fun _ => Mem w0 (.blk b2 [vI b_0, vI b_1, sl A_b_2 b_2 c_b_2] 38 :: .blk b1 [vI a_0, vI a_1, sl A_a_2 a_2 c_a_2] 38 :: Fz F W :: cs))) ⟨by kernel_rfl⟩ (fun w_ hM hS => (slices_EqualFunc_api_Comp_api_Comp_api_Comp_api_Comp_ok w0 w_ (.blk b2 [vI b_0, vI b_1, sl A_b_2 b_2 c_b_2] 38 :: .blk b1 [vI a_0, vI a_1, sl A_a_2 a_2 c_a_2] 38 :: cs) F W A_a_2 c_a_2 a_2 A_b_2 c_b_2 b_2 (hM.pick 3 [2, 0, 1] (by kernel_rfl) (by decide) rfl) h_a_2 h_b_2 x5 hv6).mono (by rintro e w' ⟨-, rfl, h'⟩; have h' : Mem w0 (.blk b2 [vI b_0, vI b_1, sl A_b_2 b_2 c_b_2] 38 :: .blk b1 [vI a_0, vI a_1, sl A_a_2 a_2 c_a_2] 38 :: Fz F W :: cs) w' := (h'.pick 3 [1, 2, 0] (by kernel_rfl) (by decide) rfl); exact ⟨(), trivial, rfl, h', trivial⟩)) ?_
   rintro _ -
   refine oQ [oF 11, oF 12] [(4, .bool x5)] (by kernel_rfl) ?_
   refine ops_nil ?_
   exact fin_join HJ1 x5 hp (look_has ⟨rfl, trivial⟩) (fun w_ hM => hM.pick 3 [2] (by kernel_rfl) (by decide) rfl)
  ·
   have hp := cnd_f hc4 hp
   refine oQ [oF 6, oF 7, oF 8, oF 9, oF 10, oF 11, oF 12] [(4, .bool false)] (by kernel_rfl) ?_
   refine ops_nil ?_
   exact fin_join HJ1 false hp (look_has ⟨rfl, trivial⟩) (fun w_ hM => hM.pick 3 [2] (by kernel_rfl) (by decide) rfl)
end Go.Proofs.Ythcniadbdjoecaa.Q
