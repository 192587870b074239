/- The Go functions come to what the plain functions tell. No condition. -/
import Derived.Test.YthcbepikeinglaaDoorProg
import Derived.Test.YthcbepikeinglaaDoorFnN
import Derived.Test.YthcbepikeinglaaDoorWkN4
namespace Go.Proofs.YthcbepikeinglaaDoor.N
open Go Go.RowKit Go.Proofs.YthcbepikeinglaaDoor.Sx
set_option linter.unusedVariables false
set_option maxHeartbeats 4000000
set_option maxRecDepth 100000
theorem world_CopyComps_ok (w0 w : World) (cs : List Chunk) (F : Nat → Prop) (W : World) (A_l : Option Addr) (c_l : Nat) (l : List api_Comp) (hM0 : Mem w0 (Fz F W :: cs) w) (h_l : RdS R_api_Comp F W A_l c_l l) (l9003 : List api_Comp) (hp : world_CopyComps l = some l9003) : Calls Tryd.prog 82 #[sl A_l l c_l] w fun e w' => ∃ (A9001 : Option Addr), ∃ (c9002 : Nat), ∃ (y9004 : List Value), ∃ (F9006 : Nat → Prop), ∃ (W9007 : World), ((RepL R_api_Comp F9006 W9007 l9003 y9004) ∧ (Ext w0 F W F9006 W9007)) ∧ e = .returned (sl A9001 l9003 c9002) ∧ Mem w0 (ow A9001 l9003 c9002 118 2 y9004 :: Fz F9006 W9007 :: cs) w' := by
 unfold world_CopyComps at hp
 refine sx_calls Tryd.func82 rfl (n := 27) (by kernel_rfl) (l := [(0, sl A_l l c_l)]) rfl (by rfl) hM0 ?_
 refine st_seq (st_region [oF 0] (by rfl) ?_)
 refine oQ [oF 0] [(0, sl A_l l c_l)] (by kernel_rfl) ?_
 refine ops_nil (fin_then (st_seq (st_region [oF 0, oF 1, oF 2, oF 3] (by rfl) ?_)))
 refine oQ [oF 0, oF 1] [(7, vI (l.length : Int)), (0, sl A_l l c_l)] (by kernel_rfl) ?_
 obtain ⟨l1, hv2, hp⟩ := obind hp
 obtain ⟨m3, hm4, he5, hb6⟩ := mk_some hv2
 have hl7 : l1.length = m3 := by rw [he5, List.length_replicate]
 obtain ⟨y8, hy9⟩ : ∃ y_, (Sx.madeOf [vI 0, .slice none 0 0] (l1.length * 2)).toList = y_ := ⟨_, rfl⟩
 have h10 : RepL R_api_Comp F W l1 y8 := by rw [← hy9, hl7, he5]; exact RepL.made (enc_api_Comp (RdS.empty _)) (by decide) _
 refine ops_makeO (t := 113) (x := (Go.Operand.tmp 7)) (y := (Go.Operand.tmp 7)) (d := some 8) (nn := l1.length) (z := 2) (bytes := 32) (xs := y8) (zv := .agg #[vI 0, .slice none 0 0]) ⟨by kernel_rfl⟩ rfl rfl (by rw [hl7]; exact hm4) (by rw [hl7]; exact hm4) Tryd.underlying113 (by kernel_rfl) (by rw [hl7]; exact hb6) (by rfl) hy9 (fun _ _ _ hS h' => trivial) (fun g11 => ?_)
 refine oQ [oF 3] [(3, sl (sa g11) l1 l1.length), (0, sl A_l l c_l)] (by kernel_rfl) ?_
 refine ops_nil (fin_then ?_)
 refine st_join1 (σ := (List api_Comp) × (List Value) × (Nat → Prop) × World) (L := fun x_ => match x_ with | (l12, y13, F15, W16) => [(3, sl (sa g11) l12 l1.length)]) (N := fun x_ => match x_ with | (l12, y13, F15, W16) => Mem w0 (ow (sa g11) l12 l1.length 118 2 y13 :: Fz F15 W16 :: cs)) (I := fun x_ => match x_ with | (l12, y13, F15, W16) => (world_CopyComps_j1 l12 = some l9003) ∧ (RepL R_api_Comp F15 W16 l12 y13) ∧ (Ext w0 F W F15 W16)) ?_ ?_
 ·
  rintro ⟨l12, y13, F15, W16⟩ ⟨hp, h14, hx1⟩
  unfold world_CopyComps_j1 at hp
  refine st_seq (st_region [oF 0, oF 1] (by rfl) ?_)
  refine oQ [oF 0, oF 1] [(2, sl (sa g11) l12 l1.length)] (by kernel_rfl) ?_
  refine ops_nil (fin_then (st_ret ?_))
  have hq_ := Option.some.inj hp
  have hr0_ := hq_
  subst hr0_
  refine fin_ret [.tmp 2] [sl (sa g11) l12 l1.length] rfl rfl (fun w_ hM => (.tmp rfl .nil)) (fun w_ hM => ?_)
  exact ⟨(sa g11), l1.length, y13, F15, W16, ⟨h14, hx1⟩, rfl, hM⟩
 ·
  intro HJ1
  refine st_seq (st_seq (st_region [oF 0, oF 1, oF 2] (by rfl) ?_))
  refine oQ [oF 0, oF 1, oF 2] [(11, vI 0), (10, vI (l.length : Int)), (9, sl A_l l c_l), (3, sl (sa g11) l1 l1.length)] (by kernel_rfl) ?_
  refine ops_nil (fin_then (st_block ?_))
  obtain ⟨r2, hl2, hk2⟩ := obind hp
  refine st_loopP (σ := (List api_Comp) × Int) (ρ := (List api_Comp)) (γ := (List Value) × (Nat → Prop) × World) hl2 (y8, F, W) (fun s_ g_ => match s_, g_ with | (l17, i20), (y18, F21, W22) => [(3, sl (sa g11) l17 l1.length), (9, sl A_l l c_l), (10, vI (l.length : Int)), (11, vI i20)]) (fun s_ g_ => match s_, g_ with | (l17, i20), (y18, F21, W22) => Mem w0 (ow (sa g11) l17 l1.length 118 2 y18 :: Fz F21 W22 :: cs)) (fun s_ g_ => match s_, g_ with | (l17, i20), (y18, F21, W22) => (RepL R_api_Comp F21 W22 l17 y18) ∧ (Ext w0 F W F21 W22)) ⟨h10, (Ext.refl _ _ _)⟩ (look_has ⟨rfl, rfl, rfl, rfl, trivial⟩) (fun w_ hM => hM) ?_
  rintro ⟨l17, i20⟩ ⟨y18, F21, W22⟩ o2 ⟨h19, hx2⟩ hs_ hd2
  have hp : (world_CopyComps_l2 l) l17 i20 = some o2 := hs_
  clear hs_
  unfold world_CopyComps_l2 at hp
  have h_l := h_l.ext hx2
  refine st_seq (st_region [oF 0] (by rfl) ?_)
  refine oQ [oF 0] [(12, .bool (decide (i20 < (l.length : Int)))), (3, sl (sa g11) l17 l1.length), (9, sl A_l l c_l), (10, vI (l.length : Int)), (11, vI i20)] (by kernel_rfl) ?_
  refine ops_nil (fin_then (st_seq ?_))
  refine st_if (b := decide (i20 < (l.length : Int))) rfl (fun hc23 => ?_) (fun hc23 => ?_)
  ·
   have hp := cnd_t hc23 hp
   refine st_skip (fin_then (st_seq (st_block (st_seq (st_region [oF 0, oF 1, oF 2, oF 3, oF 4, oF 5] (by rfl) ?_)))))
   refine oQ [oF 0] [(13, vI i20), (3, sl (sa g11) l17 l1.length), (9, sl A_l l c_l), (10, vI (l.length : Int)), (11, vI i20)] (by kernel_rfl) ?_
   obtain ⟨x24, hv25, hp⟩ := obind hp
   obtain ⟨m26, hm27, hx28⟩ := idx_some hv25
   have hl31 := (List.getElem?_eq_some_iff.1 hx28).1
   obtain ⟨ad32, vs29, hA33, hr30, hq34⟩ := RdS.el h_l hx28
   obtain ⟨A35, c36, rfl, h37⟩ := dec_api_Comp hr30
   refine ops_val (op := (.indexAddr 113 (.tmp 9) (.tmp 11))) (d := some 14) (v := .pointer (some (ad32.add (m26 * 2)))) ⟨by kernel_rfl⟩ (run_indexA hA33 Tryd.underlying113 (z := 2) (by kernel_rfl) rfl rfl hm27 hl31) ?_
   refine ops_mem (d := some 15) (an := [.v (vI x24.Kind), .v (sl A35 x24.Vals c36)]) (evs := [.load (ad32.add (m26 * 2)) (vI x24.Kind), .load ((ad32.add (m26 * 2)).add 1) (sl A35 x24.Vals c36)]) (v := .agg #[vI x24.Kind, sl A35 x24.Vals c36]) ⟨by kernel_rfl⟩ (fun w_ hM hS => ⟨w_, ⟨hM.elcell 1 rfl hq34 0 rfl, hM.elcell 1 rfl hq34 1 rfl, rfl⟩, hM, trivial⟩) ?_
   refine ops_newB (d := some 5) [vI 0, .slice none 0 0] 118 (fun b38 => ⟨by kernel_rfl⟩) (fun w_ hM hS => trivial) (fun b38 => ?_)
   refine oQ [oF 4] [(4, vI i20), (5, vP b38 0), (15, .agg #[vI x24.Kind, sl A35 x24.Vals c36]), (3, sl (sa g11) l17 l1.length), (9, sl A_l l c_l), (10, vI (l.length : Int)), (11, vI i20)] (by kernel_rfl) ?_
   refine ops_store (an := []) (evs := [sr b38 0 (vI x24.Kind), sr b38 1 (sl A35 x24.Vals c36)]) ⟨by kernel_rfl⟩ (fun w_ hM hS => let ⟨w', he, h'⟩ := hM.evs_stores [vI x24.Kind, sl A35 x24.Vals c36] 0 rfl 0 (Nat.le_of_ble_eq_true rfl); ⟨w', he, h', trivial⟩) ?_
   refine ops_nil (fin_then ?_)
   refine st_region_draw [oT 0, oT 1, oT 2, oT 3, oT 4, oT 5, oF 6, oT 7, oT 8, oF 9] (Mem w0 (.blk b38 [vI x24.Kind, sl A35 x24.Vals c36] 118 :: Fz F21 W22 :: cs)) (by kernel_rfl) (by kernel_rfl) (by kernel_rfl) (fun _ d _ _ _ h => by cases d <;> exact h) (M' := Mem w0 (.blk b38 [vI x24.Kind, sl A35 x24.Vals c36] 118 :: ow (sa g11) l17 l1.length 118 2 y18 :: Fz F21 W22 :: cs)) (fun w_ hM => ⟨hM.drew, hM.drew.sub (.cons_cons _ (.cons _ (.cons_cons _ (.refl _))))⟩) ?_
   refine oQ [oT 0, oT 1, oT 2] [(18, vP b38 0), (17, vI i20), (16, sl (sa g11) l17 l1.length), (5, vP b38 0), (3, sl (sa g11) l17 l1.length), (9, sl A_l l c_l), (10, vI (l.length : Int)), (11, vI i20)] (by kernel_rfl) ?_
   refine ops_load (d := some 19) (an := [.v (vI x24.Kind)]) (evs := [ld b38 0 (vI x24.Kind)]) (v := vI x24.Kind) ⟨by kernel_rfl⟩ (fun w_ hM => ⟨hM.cell 0 rfl rfl, rfl⟩) ?_
   refine oQ [oT 4] [(20, vP b38 1), (19, vI x24.Kind), (17, vI i20), (16, sl (sa g11) l17 l1.length), (3, sl (sa g11) l17 l1.length), (9, sl A_l l c_l), (10, vI (l.length : Int)), (11, vI i20)] (by kernel_rfl) ?_
   refine ops_load (d := some 21) (an := [.v (sl A35 x24.Vals c36)]) (evs := [ld b38 1 (sl A35 x24.Vals c36)]) (v := sl A35 x24.Vals c36) ⟨by kernel_rfl⟩ (fun w_ hM => ⟨hM.cell 0 rfl rfl, rfl⟩) ?_
   obtain ⟨x39, hv40, hp⟩ := obind hp
   refine ops_callI (σ := (Option Addr) × Nat × (List Value)) (d := some 22) (f := 74) (args := #[sl A35 x24.Vals c36]) (v := (fun x_ => match x_ with | (A41, c42, y43) => sl A41 x39 c42)) (I := (fun x_ => match x_ with | (A41, c42, y43) => (RepL (Rep.int .i64) F21 W22 x39 y43))) (M' := (fun x_ => match x_ with | (A41, c42, y43) => Mem w0 (ow A41 x39 c42 3 1 y43 :: .blk b38 [vI x24.Kind, sl A35 x24.Vals c36] 118 :: ow (sa g11) l17 l1.length 118 2 y18 :: Fz F21 W22 :: cs))) ⟨by kernel_rfl⟩ (fun w_ hM hS => (slices_Clone_int_int_ok w0 w_ (.blk b38 [vI x24.Kind, sl A35 x24.Vals c36] 118 :: ow (sa g11) l17 l1.length 118 2 y18 :: cs) F21 W22 A35 c36 x24.Vals (hM.pick 3 [2, 0, 1] (by kernel_rfl) (by decide) rfl) h37 x39 hv40).mono (by rintro e w' ⟨A41, c42, y43, h44, rfl, h'⟩; have h' : Mem w0 (ow A41 x39 c42 3 1 y43 :: .blk b38 [vI x24.Kind, sl A35 x24.Vals c36] 118 :: ow (sa g11) l17 l1.length 118 2 y18 :: Fz F21 W22 :: cs) w' := (h'.pick 4 [0, 2, 3, 1] (by kernel_rfl) (by decide) rfl); exact ⟨(A41, c42, y43), h44, rfl, h', (by exact h'.sub (.cons _ (.cons_cons _ (.cons _ (.cons_cons _ (.refl _))))))⟩)) ?_
   rintro ⟨A41, c42, y43⟩ h44
   refine oQ [oT 7] [(23, .agg #[vI x24.Kind, sl A41 x39 c42]), (17, vI i20), (16, sl (sa g11) l17 l1.length), (3, sl (sa g11) l17 l1.length), (9, sl A_l l c_l), (10, vI (l.length : Int)), (11, vI i20)] (by kernel_rfl) ?_
   obtain ⟨x45, hv46, hp⟩ := obind hp
   obtain ⟨m47, hm48, hx49⟩ := idx_some hv46
   have hl52 := (List.getElem?_eq_some_iff.1 hx49).1
   obtain ⟨vs50, hr51, hq53⟩ := h19.at_ m47 x45 hx49
   obtain ⟨A54, c55, rfl, h56⟩ := dec_api_Comp hr51
   refine ops_val (op := (.indexAddr 113 (.tmp 16) (.tmp 17))) (d := some 24) (v := vP g11 (m47 * 2)) ⟨by kernel_rfl⟩ (run_indexRow Tryd.underlying113 (z := 2) (by kernel_rfl) rfl rfl hm48 hl52 rfl) ?_
   refine oQ [] [(24, vP g11 (m47 * 2)), (23, .agg #[vI x24.Kind, sl A41 x39 c42]), (3, sl (sa g11) l17 l1.length), (9, sl A_l l c_l), (10, vI (l.length : Int)), (11, vI i20)] (by kernel_rfl) ?_
   refine ops_ex (σ := (Nat → Prop) × World) (I := fun x_ => Ext w0 F21 W22 x_.1 x_.2 ∧ RdS (Rep.int .i64) x_.1 x_.2 A41 c42 x39) (M' := fun x_ => Mem w0 (.blk b38 [vI x24.Kind, sl A35 x24.Vals c36] 118 :: ow (sa g11) l17 l1.length 118 2 y18 :: Fz x_.1 x_.2 :: cs)) (fun w_ hM => ?_) ?_
   · obtain ⟨F_, h1_, h2_, h3_⟩ := (hM.pick 4 [0, 3, 1, 2] (by kernel_rfl) (by decide) rfl : Mem w0 (ow A41 x39 c42 3 1 y43 :: Fz F21 W22 :: .blk b38 [vI x24.Kind, sl A35 x24.Vals c36] 118 :: ow (sa g11) l17 l1.length 118 2 y18 :: cs) w_).freeze (z := 1) h44 rfl rfl
     exact ⟨(F_, w_), ⟨h1_, h2_⟩, h3_.pick 3 [1, 2, 0] (by kernel_rfl) (by decide) rfl⟩
   rintro ⟨F57, W58⟩ ⟨hx59, h60⟩
   have hx59 : Ext w0 F21 W22 F57 W58 := hx59
   have h60 : RdS (Rep.int .i64) F57 W58 A41 c42 x39 := h60
   have h_l := h_l.ext hx59
   have h37 := h37.ext hx59
   have h19 := h19.ext hx59
   obtain ⟨l61, hv62, hp⟩ := obind hp
   obtain ⟨m63, hm64, hl65, he66⟩ := upd_some hv62
   obtain rfl : m47 = m63 := by have := hm48; omega
   have hl67 : l17.length = l61.length := by rw [he66, List.length_set]
   obtain ⟨y68, hy69⟩ : ∃ y_, setAll y18 (m47 * 2 + 0) [vI x24.Kind, sl A41 x39 c42] = y_ := ⟨_, rfl⟩
   have h70 : RepL R_api_Comp F57 W58 l61 y68 := by rw [he66, ← hy69]; exact RepL.set h19 (List.getElem?_eq_getElem hl65) (fun vs_ hr_ _ => by obtain ⟨A72, c73, rfl, h74⟩ := dec_api_Comp hr_; exact ⟨(enc_api_Comp h60), Nat.le_of_ble_eq_true rfl⟩)
   refine ops_store (an := []) (evs := [.store ⟨g11, m47 * 2, none⟩ (vI x24.Kind), .store ⟨g11, m47 * 2 + 1, none⟩ (sl A41 x39 c42)]) ⟨by kernel_rfl⟩ (fun w_ hM hS => let ⟨w', he, h'⟩ := hM.ostore' 1 rfl (m47 * 2 + 0) [vI x24.Kind, sl A41 x39 c42] (by have z_ : y18.length = l17.length * 2 := h19.len; have y_ : (m47 + 1) * 2 ≤ l17.length * 2 := Nat.mul_le_mul_right _ hl65; rw [Nat.add_mul] at y_; simp only [List.length_cons, List.length_nil]; omega) hl67 hy69; ⟨w', he, h', (by first | exact (Mem.fzback h' 2 rfl hx59).sub (.cons_cons _ (.cons _ (.cons_cons _ (.refl _)))) | exact (Mem.fzback h' 2 rfl (hx2.trans hx59)).sub (.cons_cons _ (.cons _ (.cons_cons _ (.refl _)))))⟩) ?_
   refine ops_conv (l' := [(24, vP g11 (m47 * 2)), (23, .agg #[vI x24.Kind, sl A41 x39 c42]), (3, sl (sa g11) l61 l1.length), (9, sl A_l l c_l), (10, vI (l.length : Int)), (11, vI i20)]) (M' := Mem w0 (.blk b38 [vI x24.Kind, sl A35 x24.Vals c36] 118 :: ow (sa g11) l61 l1.length 118 2 y68 :: Fz F57 W58 :: cs)) (by first | rfl | ((try dsimp only [sl, ow]); rw [hl67])) (fun w_ hM => by first | exact hM | ((try dsimp only [sl, ow] at hM ⊢); rw [hl67] at hM; exact hM)) ?_
   refine ops_nil (fin_block (fin_then (st_region [oF 0, oF 1] (by rfl) ?_)))
   refine oQ [oF 0, oF 1] [(11, vI (IntKind.i64.wrap (i20 + 1))), (3, sl (sa g11) l61 l1.length), (9, sl A_l l c_l), (10, vI (l.length : Int))] (by kernel_rfl) ?_
   refine ops_nil ?_
   exact fin_again (l61, IntKind.i64.wrap (i20 + 1)) (y68, F57, W58) (Option.some.inj hp).symm ⟨h70, (hx2.trans hx59)⟩ (look_has ⟨rfl, rfl, rfl, rfl, trivial⟩) (fun w_ hM => hM.pick 3 [1, 2] (by kernel_rfl) (by decide) rfl)
  ·
   have hp := cnd_f hc23 hp
   refine st_exit (fin_exit_then (fin_exit_then (fin_exit ?_)))
   obtain hq_ := Option.some.inj hp
   subst hq_
   obtain hq_ := hd2 _ rfl
   subst hq_
   have hp : world_CopyComps_j1 l17 = some l9003 := hk2
   exact fin_join HJ1 (l17, y18, F21, W22) ⟨hp, h19, hx2⟩ (look_has ⟨rfl, trivial⟩) (fun w_ hM => hM)
end Go.Proofs.YthcbepikeinglaaDoor.N
