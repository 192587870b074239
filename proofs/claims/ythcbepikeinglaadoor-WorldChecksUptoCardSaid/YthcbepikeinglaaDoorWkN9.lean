/- The Go functions come to what the plain functions tell. No condition. -/
import Derived.Test.YthcbepikeinglaaDoorProg
import Derived.Test.YthcbepikeinglaaDoorFnN
import Derived.Test.YthcbepikeinglaaDoorWkN1
import Derived.Test.YthcbepikeinglaaDoorWkN7
import Derived.Test.YthcbepikeinglaaDoorEqN
namespace Go.Proofs.YthcbepikeinglaaDoor.N
open Go Go.RowKit Go.Proofs.YthcbepikeinglaaDoor.Sx
set_option linter.unusedVariables false
set_option maxHeartbeats 4000000
set_option maxRecDepth 100000
theorem kind_Copy_ok (w0 w : World) (cs : List Chunk) (F : Nat → Prop) (W : World) (A_l : Option Addr) (c_l : Nat) (l : List api_Kind) (hM0 : Mem w0 (Fz F W :: cs) w) (h_l : RdS R_api_Kind F W A_l c_l l) (l9003 : List api_Kind) (hp : kind_Copy l = some l9003) : Calls Tryd.prog 33 #[sl A_l l c_l] w fun e w' => ∃ (A9001 : Option Addr), ∃ (c9002 : Nat), ∃ (y9004 : List Value), ∃ (F9006 : Nat → Prop), ∃ (W9007 : World), ((RepL R_api_Kind F9006 W9007 l9003 y9004) ∧ (Ext w0 F W F9006 W9007)) ∧ e = .returned (sl A9001 l9003 c9002) ∧ Mem w0 (ow A9001 l9003 c9002 27 2 y9004 :: Fz F9006 W9007 :: cs) w' := by
 unfold kind_Copy at hp
 refine sx_calls Tryd.func33 rfl (n := 27) (by kernel_rfl) (l := [(0, sl A_l l c_l)]) rfl (by rfl) hM0 ?_
 refine st_seq (st_region [oF 0] (by rfl) ?_)
 refine oQ [oF 0] [(0, sl A_l l c_l)] (by kernel_rfl) ?_
 refine ops_nil (fin_then (st_seq (st_region [oF 0, oF 1, oF 2, oF 3] (by rfl) ?_)))
 refine oQ [oF 0, oF 1] [(7, vI (l.length : Int)), (0, sl A_l l c_l)] (by kernel_rfl) ?_
 obtain ⟨l1, hv2, hp⟩ := obind hp
 obtain ⟨m3, hm4, he5, hb6⟩ := mk_some hv2
 have hl7 : l1.length = m3 := by rw [he5, List.length_replicate]
 obtain ⟨y8, hy9⟩ : ∃ y_, (Sx.madeOf [.string ByteArray.empty, .slice none 0 0] (l1.length * 2)).toList = y_ := ⟨_, rfl⟩
 have h10 : RepL R_api_Kind F W l1 y8 := by rw [← hy9, hl7, he5]; exact RepL.made (enc_api_Kind (RdS.empty _)) (by decide) _
 refine ops_makeO (t := 28) (x := (Go.Operand.tmp 7)) (y := (Go.Operand.tmp 7)) (d := some 8) (nn := l1.length) (z := 2) (bytes := 40) (xs := y8) (zv := .agg #[.string ByteArray.empty, .slice none 0 0]) ⟨by kernel_rfl⟩ rfl rfl (by rw [hl7]; exact hm4) (by rw [hl7]; exact hm4) Tryd.underlying28 (by kernel_rfl) (by rw [hl7]; exact hb6) (by rfl) hy9 (fun _ _ _ hS h' => trivial) (fun g11 => ?_)
 refine oQ [oF 3] [(3, sl (sa g11) l1 l1.length), (0, sl A_l l c_l)] (by kernel_rfl) ?_
 refine ops_nil (fin_then ?_)
 refine st_join1 (σ := (List api_Kind) × (List Value) × (Nat → Prop) × World) (L := fun x_ => match x_ with | (l12, y13, F15, W16) => [(3, sl (sa g11) l12 l1.length)]) (N := fun x_ => match x_ with | (l12, y13, F15, W16) => Mem w0 (ow (sa g11) l12 l1.length 27 2 y13 :: Fz F15 W16 :: cs)) (I := fun x_ => match x_ with | (l12, y13, F15, W16) => (kind_Copy_j1 l12 = some l9003) ∧ (RepL R_api_Kind F15 W16 l12 y13) ∧ (Ext w0 F W F15 W16)) ?_ ?_
 ·
  rintro ⟨l12, y13, F15, W16⟩ ⟨hp, h14, hx1⟩
  unfold kind_Copy_j1 at hp
  refine st_seq (st_region [oF 0, oF 1] (by rfl) ?_)
  refine oQ [oF 0, oF 1] [(2, sl (sa g11) l12 l1.length)] (by kernel_rfl) ?_
  refine ops_nil (fin_then (st_ret ?_))
  have hq_ := Option.some.inj hp
  have hr0_ := hq_
  subst hr0_
  refine fin_ret [.tmp 2] [sl (sa g11) l12 l1.length] rfl rfl (fun w_ hM => (.tmp rfl .nil)) (fun w_ hM => ?_)
  exact ⟨(sa g11), l1.length, y13, F15, W16, ⟨h14, hx1⟩, rfl, hM⟩
 ·
  intro HJ1
  refine st_seq (st_seq (st_region [oF 0, oF 1, oF 2] (by rfl) ?_))
  refine oQ [oF 0, oF 1, oF 2] [(11, vI 0), (10, vI (l.length : Int)), (9, sl A_l l c_l), (3, sl (sa g11) l1 l1.length)] (by kernel_rfl) ?_
  refine ops_nil (fin_then (st_block ?_))
  obtain ⟨r2, hl2, hk2⟩ := obind hp
  refine st_loopP (σ := (List api_Kind) × Int) (ρ := (List api_Kind)) (γ := (List Value) × (Nat → Prop) × World) hl2 (y8, F, W) (fun s_ g_ => match s_, g_ with | (l17, i20), (y18, F21, W22) => [(3, sl (sa g11) l17 l1.length), (9, sl A_l l c_l), (10, vI (l.length : Int)), (11, vI i20)]) (fun s_ g_ => match s_, g_ with | (l17, i20), (y18, F21, W22) => Mem w0 (ow (sa g11) l17 l1.length 27 2 y18 :: Fz F21 W22 :: cs)) (fun s_ g_ => match s_, g_ with | (l17, i20), (y18, F21, W22) => (RepL R_api_Kind F21 W22 l17 y18) ∧ (Ext w0 F W F21 W22)) ⟨h10, (Ext.refl _ _ _)⟩ (look_has ⟨rfl, rfl, rfl, rfl, trivial⟩) (fun w_ hM => hM) ?_
  rintro ⟨l17, i20⟩ ⟨y18, F21, W22⟩ o2 ⟨h19, hx2⟩ hs_ hd2
  have hp : (kind_Copy_l2 l) l17 i20 = some o2 := hs_
  clear hs_
  unfold kind_Copy_l2 at hp
  have h_l := h_l.ext hx2
  refine st_seq (st_region [oF 0] (by rfl) ?_)
  refine oQ [oF 0] [(12, .bool (decide (i20 < (l.length : Int)))), (3, sl (sa g11) l17 l1.length), (9, sl A_l l c_l), (10, vI (l.length : Int)), (11, vI i20)] (by kernel_rfl) ?_
  refine ops_nil (fin_then (st_seq ?_))
  refine st_if (b := decide (i20 < (l.length : Int))) rfl (fun hc23 => ?_) (fun hc23 => ?_)
  ·
   have hp := cnd_t hc23 hp
   refine st_skip (fin_then (st_seq (st_block (st_seq (st_region [oF 0, oF 1, oF 2, oF 3, oF 4, oF 5] (by rfl) ?_)))))
   refine oQ [oF 0] [(13, vI i20), (3, sl (sa g11) l17 l1.length), (9, sl A_l l c_l), (10, vI (l.length : Int)), (11, vI i20)] (by kernel_rfl) ?_
   obtain ⟨x24, hv25, hp⟩ := obind hp
   obtain ⟨m26, hm27, hx28⟩ := idx_some hv25
   have hl31 := (List.getElem?_eq_some_iff.1 hx28).1
   obtain ⟨ad32, vs29, hA33, hr30, hq34⟩ := RdS.el h_l hx28
   obtain ⟨A35, c36, rfl, h37⟩ := dec_api_Kind hr30
   refine ops_val (op := (.indexAddr 28 (.tmp 9) (.tmp 11))) (d := some 14) (v := .pointer (some (ad32.add (m26 * 2)))) ⟨by kernel_rfl⟩ (run_indexA hA33 Tryd.underlying28 (z := 2) (by kernel_rfl) rfl rfl hm27 hl31) ?_
   refine ops_mem (d := some 15) (an := [.v (.string x24.Name), .v (sl A35 x24.Fields c36)]) (evs := [.load (ad32.add (m26 * 2)) (.string x24.Name), .load ((ad32.add (m26 * 2)).add 1) (sl A35 x24.Fields c36)]) (v := .agg #[.string x24.Name, sl A35 x24.Fields c36]) ⟨by kernel_rfl⟩ (fun w_ hM hS => ⟨w_, ⟨hM.elcell 1 rfl hq34 0 rfl, hM.elcell 1 rfl hq34 1 rfl, rfl⟩, hM, trivial⟩) ?_
   refine ops_newB (d := some 5) [.string ByteArray.empty, .slice none 0 0] 27 (fun b38 => ⟨by kernel_rfl⟩) (fun w_ hM hS => trivial) (fun b38 => ?_)
   refine oQ [oF 4] [(4, vI i20), (5, vP b38 0), (15, .agg #[.string x24.Name, sl A35 x24.Fields c36]), (3, sl (sa g11) l17 l1.length), (9, sl A_l l c_l), (10, vI (l.length : Int)), (11, vI i20)] (by kernel_rfl) ?_
   refine ops_store (an := []) (evs := [sr b38 0 (.string x24.Name), sr b38 1 (sl A35 x24.Fields c36)]) ⟨by kernel_rfl⟩ (fun w_ hM hS => let ⟨w', he, h'⟩ := hM.evs_stores [.string x24.Name, sl A35 x24.Fields c36] 0 rfl 0 (Nat.le_of_ble_eq_true rfl); ⟨w', he, h', trivial⟩) ?_
   refine ops_nil (fin_then ?_)
   refine st_region_draw [oT 0, oT 1, oT 2, oT 3, oT 4, oT 5, oF 6, oT 7, oT 8, oF 9] (Mem w0 (.blk b38 [.string x24.Name, sl A35 x24.Fields c36] 27 :: Fz F21 W22 :: cs)) (by kernel_rfl) (by kernel_rfl) (by kernel_rfl) (fun _ d _ _ _ h => by cases d <;> exact h) (M' := Mem w0 (.blk b38 [.string x24.Name, sl A35 x24.Fields c36] 27 :: ow (sa g11) l17 l1.length 27 2 y18 :: Fz F21 W22 :: cs)) (fun w_ hM => ⟨hM.drew, hM.drew.sub (.cons_cons _ (.cons _ (.cons_cons _ (.refl _))))⟩) ?_
   refine oQ [oT 0, oT 1, oT 2] [(18, vP b38 0), (17, vI i20), (16, sl (sa g11) l17 l1.length), (5, vP b38 0), (3, sl (sa g11) l17 l1.length), (9, sl A_l l c_l), (10, vI (l.length : Int)), (11, vI i20)] (by kernel_rfl) ?_
   refine ops_load (d := some 19) (an := [.v (.string x24.Name)]) (evs := [ld b38 0 (.string x24.Name)]) (v := .string x24.Name) ⟨by kernel_rfl⟩ (fun w_ hM => ⟨hM.cell 0 rfl rfl, rfl⟩) ?_
   refine oQ [oT 4] [(20, vP b38 1), (19, .string x24.Name), (17, vI i20), (16, sl (sa g11) l17 l1.length), (3, sl (sa g11) l17 l1.length), (9, sl A_l l c_l), (10, vI (l.length : Int)), (11, vI i20)] (by kernel_rfl) ?_
   refine ops_load (d := some 21) (an := [.v (sl A35 x24.Fields c36)]) (evs := [ld b38 1 (sl A35 x24.Fields c36)]) (v := sl A35 x24.Fields c36) ⟨by kernel_rfl⟩ (fun w_ hM => ⟨hM.cell 0 rfl rfl, rfl⟩) ?_
   refine oQ [] [(21, sl A35 x24.Fields c36), (19, .string x24.Name), (17, vI i20), (16, sl (sa g11) l17 l1.length), (3, sl (sa g11) l17 l1.length), (9, sl A_l l c_l), (10, vI (l.length : Int)), (11, vI i20)] (by kernel_rfl) ?_
   refine ops_conv (l' := [(21, sl A35 x24.Fields c36), (19, .string x24.Name), (17, vI i20), (16, sl (sa g11) l17 l1.length), (3, sl (sa g11) l17 l1.length), (9, sl A_l l c_l), (10, vI (l.length : Int)), (11, vI i20)]) (M' := Mem w0 (ow none ([] : List api_Field) 0 23 3 [] :: .blk b38 [.string x24.Name, sl A35 x24.Fields c36] 27 :: ow (sa g11) l17 l1.length 27 2 y18 :: Fz F21 W22 :: cs)) rfl (fun w_ h => h.onil none 23 3) ?_
   obtain ⟨l39, hv40, hp⟩ := obind hp
   obtain ⟨he41, hb42⟩ := app_some hv40
   obtain ⟨y46, h47, hs48⟩ := RdS.src h37
   obtain ⟨y43, hy44⟩ : ∃ y_, [] ++ y46 = y_ := ⟨_, rfl⟩
   have h45 : RepL R_api_Field F21 W22 l39 y43 := by rw [he41, ← hy44]; exact RepL.app (RepL.nil (R := R_api_Field)) h47
   refine ops_appendO (x := (Go.Operand.const (Go.Value.slice none 0 0))) (y := (Go.Operand.tmp 21)) (t := 25) (e := 23) (d := some 22) (n' := l39.length) (z := 3) (m := x24.Fields.length) (bytes := 32) (xs' := y43) (news := y46) (zv := .agg #[.string ByteArray.empty, vI 0, vI 0]) 0 ⟨by kernel_rfl⟩ rfl rfl Tryd.underlying25 (by kernel_rfl) (by rfl) rfl (fun w_ hM => hM.srcS 3 rfl h47 hs48) h47.len h47.one hb42 (by have z_ := congrArg List.length he41; rw [List.length_append] at z_; exact z_.symm) hy44 (fun _ _ _ _ hS h' => (by exact h'.sub (.cons _ (.cons_cons _ (.cons _ (.cons_cons _ (.refl _))))))) ?_
   rintro ⟨A49, c50⟩
   refine oQ [oT 7] [(23, .agg #[.string x24.Name, sl A49 l39 c50]), (17, vI i20), (16, sl (sa g11) l17 l1.length), (3, sl (sa g11) l17 l1.length), (9, sl A_l l c_l), (10, vI (l.length : Int)), (11, vI i20)] (by kernel_rfl) ?_
   obtain ⟨x51, hv52, hp⟩ := obind hp
   obtain ⟨m53, hm54, hx55⟩ := idx_some hv52
   have hl58 := (List.getElem?_eq_some_iff.1 hx55).1
   obtain ⟨vs56, hr57, hq59⟩ := h19.at_ m53 x51 hx55
   obtain ⟨A60, c61, rfl, h62⟩ := dec_api_Kind hr57
   refine ops_val (op := (.indexAddr 28 (.tmp 16) (.tmp 17))) (d := some 24) (v := vP g11 (m53 * 2)) ⟨by kernel_rfl⟩ (run_indexRow Tryd.underlying28 (z := 2) (by kernel_rfl) rfl rfl hm54 hl58 rfl) ?_
   refine oQ [] [(24, vP g11 (m53 * 2)), (23, .agg #[.string x24.Name, sl A49 l39 c50]), (3, sl (sa g11) l17 l1.length), (9, sl A_l l c_l), (10, vI (l.length : Int)), (11, vI i20)] (by kernel_rfl) ?_
   refine ops_ex (σ := (Nat → Prop) × World) (I := fun x_ => Ext w0 F21 W22 x_.1 x_.2 ∧ RdS R_api_Field x_.1 x_.2 A49 c50 l39) (M' := fun x_ => Mem w0 (.blk b38 [.string x24.Name, sl A35 x24.Fields c36] 27 :: ow (sa g11) l17 l1.length 27 2 y18 :: Fz x_.1 x_.2 :: cs)) (fun w_ hM => ?_) ?_
   · obtain ⟨F_, h1_, h2_, h3_⟩ := (hM.pick 4 [0, 3, 1, 2] (by kernel_rfl) (by decide) rfl : Mem w0 (ow A49 l39 c50 23 3 y43 :: Fz F21 W22 :: .blk b38 [.string x24.Name, sl A35 x24.Fields c36] 27 :: ow (sa g11) l17 l1.length 27 2 y18 :: cs) w_).freeze (z := 3) h45 rfl rfl
     exact ⟨(F_, w_), ⟨h1_, h2_⟩, h3_.pick 3 [1, 2, 0] (by kernel_rfl) (by decide) rfl⟩
   rintro ⟨F63, W64⟩ ⟨hx65, h66⟩
   have hx65 : Ext w0 F21 W22 F63 W64 := hx65
   have h66 : RdS R_api_Field F63 W64 A49 c50 l39 := h66
   have h_l := h_l.ext hx65
   have h37 := h37.ext hx65
   have h19 := h19.ext hx65
   obtain ⟨l67, hv68, hp⟩ := obind hp
   obtain ⟨m69, hm70, hl71, he72⟩ := upd_some hv68
   obtain rfl : m53 = m69 := by have := hm54; omega
   have hl73 : l17.length = l67.length := by rw [he72, List.length_set]
   obtain ⟨y74, hy75⟩ : ∃ y_, setAll y18 (m53 * 2 + 0) [.string x24.Name, sl A49 l39 c50] = y_ := ⟨_, rfl⟩
   have h76 : RepL R_api_Kind F63 W64 l67 y74 := by rw [he72, ← hy75]; exact RepL.set h19 (List.getElem?_eq_getElem hl71) (fun vs_ hr_ _ => by obtain ⟨A78, c79, rfl, h80⟩ := dec_api_Kind hr_; exact ⟨(enc_api_Kind h66), Nat.le_of_ble_eq_true rfl⟩)
   refine ops_store (an := []) (evs := [.store ⟨g11, m53 * 2, none⟩ (.string x24.Name), .store ⟨g11, m53 * 2 + 1, none⟩ (sl A49 l39 c50)]) ⟨by kernel_rfl⟩ (fun w_ hM hS => let ⟨w', he, h'⟩ := hM.ostore' 1 rfl (m53 * 2 + 0) [.string x24.Name, sl A49 l39 c50] (by have z_ : y18.length = l17.length * 2 := h19.len; have y_ : (m53 + 1) * 2 ≤ l17.length * 2 := Nat.mul_le_mul_right _ hl71; rw [Nat.add_mul] at y_; simp only [List.length_cons, List.length_nil]; omega) hl73 hy75; ⟨w', he, h', (by first | exact (Mem.fzback h' 2 rfl hx65).sub (.cons_cons _ (.cons _ (.cons_cons _ (.refl _)))) | exact (Mem.fzback h' 2 rfl (hx2.trans hx65)).sub (.cons_cons _ (.cons _ (.cons_cons _ (.refl _)))))⟩) ?_
   refine ops_conv (l' := [(24, vP g11 (m53 * 2)), (23, .agg #[.string x24.Name, sl A49 l39 c50]), (3, sl (sa g11) l67 l1.length), (9, sl A_l l c_l), (10, vI (l.length : Int)), (11, vI i20)]) (M' := Mem w0 (.blk b38 [.string x24.Name, sl A35 x24.Fields c36] 27 :: ow (sa g11) l67 l1.length 27 2 y74 :: Fz F63 W64 :: cs)) (by first | rfl | ((try dsimp only [sl, ow]); rw [hl73])) (fun w_ hM => by first | exact hM | ((try dsimp only [sl, ow] at hM ⊢); rw [hl73] at hM; exact hM)) ?_
   refine ops_nil (fin_block (fin_then (st_region [oF 0, oF 1] (by rfl) ?_)))
   refine oQ [oF 0, oF 1] [(11, vI (IntKind.i64.wrap (i20 + 1))), (3, sl (sa g11) l67 l1.length), (9, sl A_l l c_l), (10, vI (l.length : Int))] (by kernel_rfl) ?_
   refine ops_nil ?_
   exact fin_again (l67, IntKind.i64.wrap (i20 + 1)) (y74, F63, W64) (Option.some.inj hp).symm ⟨h76, (hx2.trans hx65)⟩ (look_has ⟨rfl, rfl, rfl, rfl, trivial⟩) (fun w_ hM => hM.pick 3 [1, 2] (by kernel_rfl) (by decide) rfl)
  ·
   have hp := cnd_f hc23 hp
   refine st_exit (fin_exit_then (fin_exit_then (fin_exit ?_)))
   obtain hq_ := Option.some.inj hp
   subst hq_
   obtain hq_ := hd2 _ rfl
   subst hq_
   have hp : kind_Copy_j1 l17 = some l9003 := hk2
   exact fin_join HJ1 (l17, y18, F21, W22) ⟨hp, h19, hx2⟩ (look_has ⟨rfl, trivial⟩) (fun w_ hM => hM)
theorem world_New_ok (w0 w : World) (cs : List Chunk) (F : Nat → Prop) (W : World) (A_l : Option Addr) (c_l : Nat) (l : List api_Kind) (hM0 : Mem w0 (Fz F W :: cs) w) (h_l : RdS R_api_Kind F W A_l c_l l) (l9003 : List api_Kind) (i9006 : Int) (hp : world_New l = some (l9003, i9006)) : Calls Tryd.prog 47 #[sl A_l l c_l] w fun e w' => ∃ (A9001 : Option Addr), ∃ (c9002 : Nat), ∃ (y9004 : List Value), ∃ (F9007 : Nat → Prop), ∃ (W9008 : World), ((RepL R_api_Kind F9007 W9008 l9003 y9004) ∧ (Ext w0 F W F9007 W9008)) ∧ e = .returned (.tuple #[.agg #[sl A9001 l9003 c9002, .slice none 0 0, .slice none 0 0], vI i9006]) ∧ Mem w0 (ow A9001 l9003 c9002 27 2 y9004 :: Fz F9007 W9008 :: cs) w' := by
 unfold world_New at hp
 refine sx_calls Tryd.func47 rfl (n := 14) (by kernel_rfl) (l := [(0, sl A_l l c_l)]) rfl (by rfl) hM0 ?_
 refine st_seq (st_region [oF 0, oF 1] (by rfl) ?_)
 refine ops_newB (d := some 2) [.slice none 0 0, .slice none 0 0, .slice none 0 0] 71 (fun b1 => ⟨by kernel_rfl⟩) (fun w_ hM hS => trivial) (fun b1 => ?_)
 refine oQ [oF 1] [(2, vP b1 0), (0, sl A_l l c_l)] (by kernel_rfl) ?_
 refine ops_nil (fin_then (st_seq (st_seq (st_region [oF 0, oF 1, oF 2] (by rfl) ?_))))
 refine oQ [oF 0] [(5, sl A_l l c_l), (2, vP b1 0), (0, sl A_l l c_l)] (by kernel_rfl) ?_
 obtain ⟨x2, hv3, hp⟩ := obind hp
 refine ops_callI (σ := Unit) (d := some 6) (f := 22) (args := #[sl A_l l c_l]) (v := (fun _ => vI x2)) (I := (fun _ => True)) (M' := (fun _ => Mem w0 (.blk b1 [.slice none 0 0, .slice none 0 0, .slice none 0 0] 71 :: Fz F W :: cs))) ⟨by kernel_rfl⟩ (fun w_ hM hS => (kind_Check_ok w0 w_ (.blk b1 [.slice none 0 0, .slice none 0 0, .slice none 0 0] 71 :: cs) F W A_l c_l l (hM.pick 2 [1, 0] (by kernel_rfl) (by decide) rfl) h_l x2 hv3).mono (by rintro e w' ⟨-, rfl, h'⟩; have h' : Mem w0 (.blk b1 [.slice none 0 0, .slice none 0 0, .slice none 0 0] 71 :: Fz F W :: cs) w' := (h'.pick 2 [1, 0] (by kernel_rfl) (by decide) rfl); exact ⟨(), trivial, rfl, h', trivial⟩)) ?_
 rintro _ -
 refine oQ [oF 2] [(4, vI x2), (2, vP b1 0), (0, sl A_l l c_l)] (by kernel_rfl) ?_
 refine ops_nil (fin_then (st_seq (st_region [oF 0, oF 1] (by rfl) ?_)))
 refine oQ [oF 0, oF 1] [(8, .bool (!(x2 == 0))), (4, vI x2), (2, vP b1 0), (0, sl A_l l c_l)] (by kernel_rfl) ?_
 refine ops_nil (fin_then ?_)
 refine st_if (b := !(x2 == 0)) rfl (fun hc4 => ?_) (fun hc4 => ?_)
 ·
  have hp := cnd_t hc4 hp
  refine st_seq (st_region [oF 0, oF 1, oF 2, oF 3] (by rfl) ?_)
  refine oQ [oF 0, oF 1] [(10, vI x2), (9, .agg #[.slice none 0 0, .slice none 0 0, .slice none 0 0]), (2, vP b1 0)] (by kernel_rfl) ?_
  refine ops_store (an := []) (evs := [sr b1 0 (.slice none 0 0), sr b1 1 (.slice none 0 0), sr b1 2 (.slice none 0 0)]) ⟨by kernel_rfl⟩ (fun w_ hM hS => let ⟨w', he, h'⟩ := hM.evs_stores [.slice none 0 0, .slice none 0 0, .slice none 0 0] 0 rfl 0 (Nat.le_of_ble_eq_true rfl); ⟨w', he, h', trivial⟩) ?_
  refine oQ [oF 3] [(3, vI x2), (2, vP b1 0)] (by kernel_rfl) ?_
  refine ops_nil (fin_then (st_ret (fin_ret_then ?_)))
  refine fin_conv (l' := [(3, vI x2), (2, vP b1 0)]) (M' := Mem w0 (ow none ([] : List api_Kind) 0 27 2 [] :: .blk b1 [.slice none 0 0, .slice none 0 0, .slice none 0 0] 71 :: Fz F W :: cs)) rfl (fun w_ h => h.onil none 27 2) ?_
  refine fin_conv (l' := [(3, vI x2), (2, vP b1 0)]) (M' := Mem w0 (ow none ([] : List api_Kind) 0 27 2 [] :: .blk b1 [.slice none 0 0, .slice none 0 0, .slice none 0 0] 71 :: Fz F W :: cs)) rfl (fun _ h => h) ?_
  have hq_ := Option.some.inj hp
  obtain ⟨hr0_, hq_⟩ := Prod.mk.inj hq_
  have hr1_ := hq_
  subst hr0_
  subst hr1_
  refine fin_ret [.cell 2 71, .tmp 3] [.agg #[sl none ([] : List api_Kind) 0, .slice none 0 0, .slice none 0 0], vI x2] rfl rfl (fun w_ hM => (.cell rfl (tr_run _ [.v (.slice none 0 0), .v (.slice none 0 0), .v (.slice none 0 0)] [ld b1 0 (.slice none 0 0), ld b1 1 (.slice none 0 0), ld b1 2 (.slice none 0 0)] (.agg #[.slice none 0 0, .slice none 0 0, .slice none 0 0] : Value) _ _ (by kernel_rfl) ⟨hM.cell 1 rfl rfl, hM.cell 1 rfl rfl, hM.cell 1 rfl rfl, rfl⟩) (.tmp rfl .nil))) (fun w_ hM => ?_)
  exact ⟨none, 0, [], F, W, ⟨(RepL.nil (R := R_api_Kind)), (Ext.refl _ _ _)⟩, rfl, hM.pick 3 [0, 2] (by kernel_rfl) (by decide) rfl⟩
 ·
  have hp := cnd_f hc4 hp
  refine st_skip (fin_then (st_seq (st_region [oF 0, oF 1, oF 2, oF 3, oF 4] (by rfl) ?_)))
  refine oQ [oF 0] [(11, sl A_l l c_l), (2, vP b1 0)] (by kernel_rfl) ?_
  obtain ⟨x5, hv6, hp⟩ := obind hp
  refine ops_callI (σ := (Option Addr) × Nat × (List Value) × (Nat → Prop) × World) (d := some 12) (f := 33) (args := #[sl A_l l c_l]) (v := (fun x_ => match x_ with | (A7, c8, y9, F10, W11) => sl A7 x5 c8)) (I := (fun x_ => match x_ with | (A7, c8, y9, F10, W11) => (RepL R_api_Kind F10 W11 x5 y9) ∧ (Ext w0 F W F10 W11))) (M' := (fun x_ => match x_ with | (A7, c8, y9, F10, W11) => Mem w0 (ow A7 x5 c8 27 2 y9 :: .blk b1 [.slice none 0 0, .slice none 0 0, .slice none 0 0] 71 :: Fz F10 W11 :: cs))) ⟨by kernel_rfl⟩ (fun w_ hM hS => (kind_Copy_ok w0 w_ (.blk b1 [.slice none 0 0, .slice none 0 0, .slice none 0 0] 71 :: cs) F W A_l c_l l (hM.pick 2 [1, 0] (by kernel_rfl) (by decide) rfl) h_l x5 hv6).mono (by rintro e w' ⟨A7, c8, y9, F10, W11, ⟨h12, h13⟩, rfl, h'⟩; have h' : Mem w0 (ow A7 x5 c8 27 2 y9 :: .blk b1 [.slice none 0 0, .slice none 0 0, .slice none 0 0] 71 :: Fz F10 W11 :: cs) w' := (h'.pick 3 [0, 2, 1] (by kernel_rfl) (by decide) rfl); exact ⟨(A7, c8, y9, F10, W11), ⟨h12, h13⟩, rfl, h', trivial⟩)) ?_
  rintro ⟨A7, c8, y9, F10, W11⟩ ⟨h12, h13⟩
  have h_l := h_l.ext h13
  refine oQ [oF 2] [(13, .agg #[sl A7 x5 c8, .slice none 0 0, .slice none 0 0]), (2, vP b1 0)] (by kernel_rfl) ?_
  refine ops_store (an := []) (evs := [sr b1 0 (sl A7 x5 c8), sr b1 1 (.slice none 0 0), sr b1 2 (.slice none 0 0)]) ⟨by kernel_rfl⟩ (fun w_ hM hS => let ⟨w', he, h'⟩ := hM.evs_stores [sl A7 x5 c8, .slice none 0 0, .slice none 0 0] 1 rfl 0 (Nat.le_of_ble_eq_true rfl); ⟨w', he, h', trivial⟩) ?_
  refine oQ [oF 4] [(3, vI 0), (2, vP b1 0)] (by kernel_rfl) ?_
  refine ops_nil (fin_then (st_ret ?_))
  have hq_ := Option.some.inj hp
  obtain ⟨hr0_, hq_⟩ := Prod.mk.inj hq_
  have hr1_ := hq_
  subst hr0_
  subst hr1_
  refine fin_ret [.cell 2 71, .tmp 3] [.agg #[sl A7 x5 c8, .slice none 0 0, .slice none 0 0], vI 0] rfl rfl (fun w_ hM => (.cell rfl (tr_run _ [.v (sl A7 x5 c8), .v (.slice none 0 0), .v (.slice none 0 0)] [ld b1 0 (sl A7 x5 c8), ld b1 1 (.slice none 0 0), ld b1 2 (.slice none 0 0)] (.agg #[sl A7 x5 c8, .slice none 0 0, .slice none 0 0] : Value) _ _ (by kernel_rfl) ⟨hM.cell 1 rfl rfl, hM.cell 1 rfl rfl, hM.cell 1 rfl rfl, rfl⟩) (.tmp rfl .nil))) (fun w_ hM => ?_)
  exact ⟨A7, c8, y9, F10, W11, ⟨h12, h13⟩, rfl, hM.pick 3 [0, 2] (by kernel_rfl) (by decide) rfl⟩
def kind_Same__t0 : List Row := [⟨0, 131072, 1⟩, ⟨0, 262144, 32⟩, ⟨3, 524288, 393216⟩, ⟨4, 1048576, 524288⟩, ⟨8, 2097152, 1048576⟩, ⟨0, 4194304, 2⟩, ⟨0, 8388608, 32⟩, ⟨96, 16777216, 12582912⟩, ⟨128, 33554432, 16777216⟩, ⟨256, 67108864, 33554432⟩, ⟨528, 134217728, 69206016⟩, ⟨1024, 268435456, 134217728⟩, ⟨2048, 536870912, 268435457⟩, ⟨2048, 1073741824, 268435488⟩, ⟨14336, 2147483648, 1879048192⟩, ⟨18432, 4294967296, 2415919104⟩, ⟨34816, 8589934592, 4563402752⟩, ⟨67584, 17179869184, 8858370048⟩, ⟨2048, 34359738368, 268435458⟩, ⟨2048, 68719476736, 268435488⟩, ⟨788480, 137438953472, 103347650560⟩, ⟨1050624, 274877906944, 137707388928⟩, ⟨2099200, 549755813888, 275146342400⟩, ⟨4196352, 1099511627776, 550024249344⟩, ⟨8521728, 2199023255552, 1116959932416⟩, ⟨16779264, 4398046511104, 2199291691008⟩]
def kind_Same__t1 : List Row := [⟨0, 4503599627370496, 1⟩, ⟨0, 9007199254740992, 32⟩, ⟨3, 18014398509481984, 13510798882111488⟩, ⟨4, 36028797018963968, 18014398509481984⟩, ⟨8, 72057594037927936, 36028797018963968⟩, ⟨0, 144115188075855872, 64⟩, ⟨48, 288230376151711744, 216172782113783808⟩, ⟨64, 576460752303423488, 288230376151711744⟩, ⟨0, 1152921504606846976, 2⟩, ⟨0, 2305843009213693952, 32⟩, ⟨768, 4611686018427387904, 3458764513820540928⟩, ⟨1024, 9223372036854775808, 4611686018427387904⟩, ⟨2048, 18446744073709551616, 9223372036854775808⟩, ⟨0, 36893488147419103232, 64⟩, ⟨12288, 73786976294838206464, 55340232221128654848⟩, ⟨16384, 147573952589676412928, 73786976294838206464⟩, ⟨32896, 295147905179352825856, 148150413341979836416⟩]
theorem kind_Same_ok (w0 w : World) (cs : List Chunk) (F : Nat → Prop) (W : World) (A_a : Option Addr) (c_a : Nat) (a : List api_Kind) (A_b : Option Addr) (c_b : Nat) (b : List api_Kind) (hM0 : Mem w0 (Fz F W :: cs) w) (h_a : RdS R_api_Kind F W A_a c_a a) (h_b : RdS R_api_Kind F W A_b c_b b) (t9001 : Bool) (hp : kind_Same a b = some t9001) : Calls Tryd.prog 35 #[sl A_a a c_a, sl A_b b c_b] w fun e w' => (True) ∧ e = .returned (.bool t9001) ∧ Mem w0 (Fz F W :: cs) w' := by
 unfold kind_Same at hp
 refine sx_calls Tryd.func35 rfl (n := 71) (by kernel_rfl) (l := [(0, sl A_a a c_a), (1, sl A_b b c_b)]) rfl (by rfl) hM0 ?_
 refine st_seq (st_region [oF 0] (by rfl) ?_)
 refine oQ [oF 0] [(0, sl A_a a c_a), (1, sl A_b b c_b)] (by kernel_rfl) ?_
 refine ops_nil (fin_then (st_seq (st_seq (st_region [oF 0, oF 1, oF 2, oF 3, oF 4] (by rfl) ?_))))
 refine oQ [oF 0, oF 1, oF 2, oF 3, oF 4] [(11, .bool (!((a.length : Int) == (b.length : Int)))), (0, sl A_a a c_a), (1, sl A_b b c_b)] (by kernel_rfl) ?_
 refine ops_nil (fin_then ?_)
 refine st_if (b := !((a.length : Int) == (b.length : Int))) rfl (fun hc1 => ?_) (fun hc1 => ?_)
 ·
  have hp := cnd_t hc1 hp
  refine st_seq (st_region [oF 0] (by rfl) ?_)
  refine oQ [oF 0] [(4, .bool false)] (by kernel_rfl) ?_
  refine ops_nil (fin_then (st_ret (fin_ret_then ?_)))
  have hq_ := Option.some.inj hp
  have hr0_ := hq_
  subst hr0_
  refine fin_ret [.tmp 4] [.bool false] rfl rfl (fun w_ hM => (.tmp rfl .nil)) (fun w_ hM => ?_)
  exact ⟨trivial, rfl, hM⟩
 ·
  have hp := cnd_f hc1 hp
  refine st_skip (fin_then ?_)
  refine st_join1 (σ := Unit) (L := fun _ => []) (N := fun _ => Mem w0 (Fz F W :: cs)) (I := fun _ => (kind_Same_j1 = some t9001)) ?_ ?_
  ·
   rintro _ hp
   unfold kind_Same_j1 at hp
   refine st_seq (st_region [oF 0] (by rfl) ?_)
   refine oQ [oF 0] [(4, .bool true)] (by kernel_rfl) ?_
   refine ops_nil (fin_then (st_ret ?_))
   have hq_ := Option.some.inj hp
   have hr0_ := hq_
   subst hr0_
   refine fin_ret [.tmp 4] [.bool true] rfl rfl (fun w_ hM => (.tmp rfl .nil)) (fun w_ hM => ?_)
   exact ⟨trivial, rfl, hM⟩
  ·
   intro HJ1
   refine st_seq (st_seq (st_region [oF 0, oF 1, oF 2] (by rfl) ?_))
   refine oQ [oF 0, oF 1, oF 2] [(14, vI 0), (13, vI (a.length : Int)), (0, sl A_a a c_a), (1, sl A_b b c_b)] (by kernel_rfl) ?_
   refine ops_nil (fin_then (st_block ?_))
   obtain ⟨r2, hl2, hk2⟩ := obind hp
   refine st_loopP (σ := Int) (ρ := (Bool ⊕ Unit)) (γ := Unit) hl2 () (fun s_ g_ => match s_, g_ with | i2, _ => [(0, sl A_a a c_a), (1, sl A_b b c_b), (13, vI (a.length : Int)), (14, vI i2)]) (fun s_ g_ => match s_, g_ with | i2, _ => Mem w0 (Fz F W :: cs)) (fun s_ g_ => match s_, g_ with | i2, _ => True) trivial (look_has ⟨rfl, rfl, rfl, rfl, trivial⟩) (fun w_ hM => hM) ?_
   rintro i2 _ o2 - hs_ hd2
   have hp : (kind_Same_l2 a b) i2 = some o2 := hs_
   clear hs_
   unfold kind_Same_l2 at hp
   refine st_seq (st_region [oF 0] (by rfl) ?_)
   refine oQ [oF 0] [(15, .bool (decide (i2 < (a.length : Int)))), (0, sl A_a a c_a), (1, sl A_b b c_b), (13, vI (a.length : Int)), (14, vI i2)] (by kernel_rfl) ?_
   refine ops_nil (fin_then (st_seq ?_))
   refine st_if (b := decide (i2 < (a.length : Int))) rfl (fun hc3 => ?_) (fun hc3 => ?_)
   ·
    have hp := cnd_t hc3 hp
    refine st_skip (fin_then ?_)
    refine st_join1 (σ := Unit) (L := fun _ => [(0, sl A_a a c_a), (1, sl A_b b c_b), (13, vI (a.length : Int)), (14, vI i2)]) (N := fun _ => Mem w0 (Fz F W :: cs)) (I := fun _ => ((kind_Same_j3 i2) = some o2)) ?_ ?_
    ·
     rintro _ hp
     unfold kind_Same_j3 at hp
     refine st_region [oF 0, oF 1] (by rfl) ?_
     refine oQ [oF 0, oF 1] [(14, vI (IntKind.i64.wrap (i2 + 1))), (0, sl A_a a c_a), (1, sl A_b b c_b), (13, vI (a.length : Int))] (by kernel_rfl) ?_
     refine ops_nil ?_
     exact fin_again (IntKind.i64.wrap (i2 + 1)) () (Option.some.inj hp).symm trivial (look_has ⟨rfl, rfl, rfl, rfl, trivial⟩) (fun w_ hM => hM)
    ·
     intro HJ3
     refine st_seq (st_block (st_seq (st_region [oF 0, oF 1] (by rfl) ?_)))
     refine oQ [oF 0, oF 1] [(5, vI i2), (0, sl A_a a c_a), (1, sl A_b b c_b), (13, vI (a.length : Int)), (14, vI i2)] (by kernel_rfl) ?_
     refine ops_nil (fin_then (st_seq (st_seq ?_)))
     refine st_region_fast kind_Same__t0 [oT 0, oT 1, oT 2, oT 3, oT 4, oT 5, oT 6, oT 7, oT 8, oT 9, oT 10, oT 11, oT 12, oT 13, oT 14, oT 15, oT 16, oT 17, oT 18, oT 19, oT 20, oT 21, oT 22, oT 23, oT 24, oT 25] (Mem w0 (Fz F W :: cs)) (by kernel_rfl) (by kernel_rfl) (by kernel_rfl) (by kernel_rfl) (by kernel_rfl) (fun _ d _ _ _ h => by cases d <;> exact h) (M' := Mem w0 (Fz F W :: cs)) (fun w_ hM => ⟨hM.drew, hM.drew.sub (.cons_cons _ (.refl _))⟩) ?_
     refine oQ [oT 0, oT 1] [(18, vI i2), (17, sl A_a a c_a), (5, vI i2), (0, sl A_a a c_a), (1, sl A_b b c_b), (13, vI (a.length : Int)), (14, vI i2)] (by kernel_rfl) ?_
     obtain ⟨x4, hv5, hp⟩ := obind hp
     obtain ⟨m6, hm7, hx8⟩ := idx_some hv5
     have hl11 := (List.getElem?_eq_some_iff.1 hx8).1
     obtain ⟨ad12, vs9, hA13, hr10, hq14⟩ := RdS.el h_a hx8
     obtain ⟨A15, c16, rfl, h17⟩ := dec_api_Kind hr10
     refine ops_val (op := (.indexAddr 28 (.tmp 17) (.tmp 18))) (d := some 19) (v := .pointer (some (ad12.add (m6 * 2)))) ⟨by kernel_rfl⟩ (run_indexA hA13 Tryd.underlying28 (z := 2) (by kernel_rfl) rfl rfl hm7 hl11) ?_
     refine oQ [oT 3] [(20, .pointer (some (ad12.add (m6 * 2)))), (5, vI i2), (0, sl A_a a c_a), (1, sl A_b b c_b), (13, vI (a.length : Int)), (14, vI i2)] (by kernel_rfl) ?_
     refine ops_load (d := some 21) (an := [.v (.string x4.Name)]) (evs := [.load (ad12.add (m6 * 2)) (.string x4.Name)]) (v := .string x4.Name) ⟨by kernel_rfl⟩ (fun w_ hM => ⟨hM.elcell 0 rfl hq14 0 rfl, rfl⟩) ?_
     refine oQ [oT 5, oT 6] [(23, vI i2), (22, sl A_b b c_b), (21, .string x4.Name), (5, vI i2), (0, sl A_a a c_a), (1, sl A_b b c_b), (13, vI (a.length : Int)), (14, vI i2)] (by kernel_rfl) ?_
     obtain ⟨x18, hv19, hp⟩ := obind hp
     obtain ⟨m20, hm21, hx22⟩ := idx_some hv19
     have hl25 := (List.getElem?_eq_some_iff.1 hx22).1
     obtain ⟨ad26, vs23, hA27, hr24, hq28⟩ := RdS.el h_b hx22
     obtain ⟨A29, c30, rfl, h31⟩ := dec_api_Kind hr24
     refine ops_val (op := (.indexAddr 28 (.tmp 22) (.tmp 23))) (d := some 24) (v := .pointer (some (ad26.add (m20 * 2)))) ⟨by kernel_rfl⟩ (run_indexA hA27 Tryd.underlying28 (z := 2) (by kernel_rfl) rfl rfl hm21 hl25) ?_
     refine oQ [oT 8] [(25, .pointer (some (ad26.add (m20 * 2)))), (21, .string x4.Name), (5, vI i2), (0, sl A_a a c_a), (1, sl A_b b c_b), (13, vI (a.length : Int)), (14, vI i2)] (by kernel_rfl) ?_
     refine ops_load (d := some 26) (an := [.v (.string x18.Name)]) (evs := [.load (ad26.add (m20 * 2)) (.string x18.Name)]) (v := .string x18.Name) ⟨by kernel_rfl⟩ (fun w_ hM => ⟨hM.elcell 0 rfl hq28 0 rfl, rfl⟩) ?_
     refine oQ [oT 10, oT 11] [(28, .bool (!(x4.Name.toList == x18.Name.toList))), (5, vI i2), (0, sl A_a a c_a), (1, sl A_b b c_b), (13, vI (a.length : Int)), (14, vI i2)] (by kernel_rfl) ?_
     refine ops_bool (t := !(x4.Name.toList == x18.Name.toList)) (l1 := [(28, .bool true), (5, vI i2), (0, sl A_a a c_a), (1, sl A_b b c_b), (13, vI (a.length : Int)), (14, vI i2)]) (l2 := [(28, .bool false), (5, vI i2), (0, sl A_a a c_a), (1, sl A_b b c_b), (13, vI (a.length : Int)), (14, vI i2)]) (fun h => by rw [h]) (fun h => by rw [h]) (fun hc32 => ?_) (fun hc32 => ?_)
     ·
      have hp := cnd_t hc32 hp
      refine oQ [oT 12, oT 13, oT 14, oT 15, oT 16, oT 17, oT 18, oT 19, oT 20, oT 21, oT 22, oT 23, oT 24, oT 25] [(42, .bool true), (5, vI i2), (0, sl A_a a c_a), (1, sl A_b b c_b), (13, vI (a.length : Int)), (14, vI i2)] (by kernel_rfl) ?_
      refine ops_nil (fin_then (st_true rfl (st_seq (st_region [oF 0] (by rfl) ?_))))
      refine oQ [oF 0] [(4, .bool false)] (by kernel_rfl) ?_
      refine ops_nil (fin_then (st_ret (fin_ret_then (fin_ret_block (fin_ret_then (fin_ret_then (fin_ret_block (fin_ret_then ?_))))))))
      obtain hq_ := Option.some.inj hp
      subst hq_
      obtain hq_ := hd2 _ rfl
      subst hq_
      have hp : some false = some t9001 := hk2
      have hq_ := Option.some.inj hp
      have hr0_ := hq_
      subst hr0_
      refine fin_ret [.tmp 4] [.bool false] rfl rfl (fun w_ hM => (.tmp rfl .nil)) (fun w_ hM => ?_)
      exact ⟨trivial, rfl, hM⟩
     ·
      have hp := cnd_f hc32 hp
      refine oQ [oT 12, oT 13] [(30, vI i2), (29, sl A_a a c_a), (28, .bool false), (5, vI i2), (0, sl A_a a c_a), (1, sl A_b b c_b), (13, vI (a.length : Int)), (14, vI i2)] (by kernel_rfl) ?_
      obtain ⟨x33, hv34, hp⟩ := obind hp
      obtain ⟨m35, hm36, hx37⟩ := idx_some hv34
      have hl40 := (List.getElem?_eq_some_iff.1 hx37).1
      obtain ⟨ad41, vs38, hA42, hr39, hq43⟩ := RdS.el h_a hx37
      obtain ⟨A44, c45, rfl, h46⟩ := dec_api_Kind hr39
      refine ops_val (op := (.indexAddr 28 (.tmp 29) (.tmp 30))) (d := some 31) (v := .pointer (some (ad41.add (m35 * 2)))) ⟨by kernel_rfl⟩ (run_indexA hA42 Tryd.underlying28 (z := 2) (by kernel_rfl) rfl rfl hm36 hl40) ?_
      refine oQ [oT 15] [(32, .pointer (some ((ad41.add (m35 * 2)).add 1))), (28, .bool false), (5, vI i2), (0, sl A_a a c_a), (1, sl A_b b c_b), (13, vI (a.length : Int)), (14, vI i2)] (by kernel_rfl) ?_
      refine ops_load (d := some 33) (an := [.v (sl A44 x33.Fields c45)]) (evs := [.load ((ad41.add (m35 * 2)).add 1) (sl A44 x33.Fields c45)]) (v := sl A44 x33.Fields c45) ⟨by kernel_rfl⟩ (fun w_ hM => ⟨hM.elcell 0 rfl hq43 1 rfl, rfl⟩) ?_
      refine oQ [oT 17, oT 18, oT 19] [(36, vI i2), (35, sl A_b b c_b), (34, vI (x33.Fields.length : Int)), (28, .bool false), (5, vI i2), (0, sl A_a a c_a), (1, sl A_b b c_b), (13, vI (a.length : Int)), (14, vI i2)] (by kernel_rfl) ?_
      obtain ⟨x47, hv48, hp⟩ := obind hp
      obtain ⟨m49, hm50, hx51⟩ := idx_some hv48
      have hl54 := (List.getElem?_eq_some_iff.1 hx51).1
      obtain ⟨ad55, vs52, hA56, hr53, hq57⟩ := RdS.el h_b hx51
      obtain ⟨A58, c59, rfl, h60⟩ := dec_api_Kind hr53
      refine ops_val (op := (.indexAddr 28 (.tmp 35) (.tmp 36))) (d := some 37) (v := .pointer (some (ad55.add (m49 * 2)))) ⟨by kernel_rfl⟩ (run_indexA hA56 Tryd.underlying28 (z := 2) (by kernel_rfl) rfl rfl hm50 hl54) ?_
      refine oQ [oT 21] [(38, .pointer (some ((ad55.add (m49 * 2)).add 1))), (34, vI (x33.Fields.length : Int)), (28, .bool false), (5, vI i2), (0, sl A_a a c_a), (1, sl A_b b c_b), (13, vI (a.length : Int)), (14, vI i2)] (by kernel_rfl) ?_
      refine ops_load (d := some 39) (an := [.v (sl A58 x47.Fields c59)]) (evs := [.load ((ad55.add (m49 * 2)).add 1) (sl A58 x47.Fields c59)]) (v := sl A58 x47.Fields c59) ⟨by kernel_rfl⟩ (fun w_ hM => ⟨hM.elcell 0 rfl hq57 1 rfl, rfl⟩) ?_
      refine oQ [oT 23, oT 24, oT 25] [(42, .bool (!((x33.Fields.length : Int) == (x47.Fields.length : Int)))), (5, vI i2), (0, sl A_a a c_a), (1, sl A_b b c_b), (13, vI (a.length : Int)), (14, vI i2)] (by kernel_rfl) ?_
      refine ops_nil (fin_then ?_)
      refine st_if (b := !((x33.Fields.length : Int) == (x47.Fields.length : Int))) rfl (fun hc61 => ?_) (fun hc61 => ?_)
      ·
       have hp := cnd_t hc61 hp
       refine st_seq (st_region [oF 0] (by rfl) ?_)
       refine oQ [oF 0] [(4, .bool false)] (by kernel_rfl) ?_
       refine ops_nil (fin_then (st_ret (fin_ret_then (fin_ret_block (fin_ret_then (fin_ret_then (fin_ret_block (fin_ret_then ?_))))))))
       obtain hq_ := Option.some.inj hp
       subst hq_
       obtain hq_ := hd2 _ rfl
       subst hq_
       have hp : some false = some t9001 := hk2
       have hq_ := Option.some.inj hp
       have hr0_ := hq_
       subst hr0_
       refine fin_ret [.tmp 4] [.bool false] rfl rfl (fun w_ hM => (.tmp rfl .nil)) (fun w_ hM => ?_)
       exact ⟨trivial, rfl, hM⟩
      ·
       have hp := cnd_f hc61 hp
       refine st_skip (fin_then (st_seq (st_region [oF 0, oF 1, oF 2, oF 3, oF 4, oF 5, oF 6] (by rfl) ?_)))
       refine oQ [oF 0, oF 1] [(44, vI i2), (43, sl A_a a c_a), (5, vI i2), (0, sl A_a a c_a), (1, sl A_b b c_b), (13, vI (a.length : Int)), (14, vI i2)] (by kernel_rfl) ?_
       obtain ⟨x62, hv63, hp⟩ := obind hp
       obtain ⟨m64, hm65, hx66⟩ := idx_some hv63
       have hl69 := (List.getElem?_eq_some_iff.1 hx66).1
       obtain ⟨ad70, vs67, hA71, hr68, hq72⟩ := RdS.el h_a hx66
       obtain ⟨A73, c74, rfl, h75⟩ := dec_api_Kind hr68
       refine ops_val (op := (.indexAddr 28 (.tmp 43) (.tmp 44))) (d := some 45) (v := .pointer (some (ad70.add (m64 * 2)))) ⟨by kernel_rfl⟩ (run_indexA hA71 Tryd.underlying28 (z := 2) (by kernel_rfl) rfl rfl hm65 hl69) ?_
       refine oQ [oF 3] [(46, .pointer (some ((ad70.add (m64 * 2)).add 1))), (5, vI i2), (0, sl A_a a c_a), (1, sl A_b b c_b), (13, vI (a.length : Int)), (14, vI i2)] (by kernel_rfl) ?_
       refine ops_mem (d := some 47) (an := [.v (sl A73 x62.Fields c74)]) (evs := [.load ((ad70.add (m64 * 2)).add 1) (sl A73 x62.Fields c74)]) (v := sl A73 x62.Fields c74) ⟨by kernel_rfl⟩ (fun w_ hM hS => ⟨w_, ⟨hM.elcell 0 rfl hq72 1 rfl, rfl⟩, hM, trivial⟩) ?_
       refine oQ [oF 5, oF 6] [(49, vI 0), (48, vI (x62.Fields.length : Int)), (5, vI i2), (0, sl A_a a c_a), (1, sl A_b b c_b), (13, vI (a.length : Int)), (14, vI i2)] (by kernel_rfl) ?_
       refine ops_nil (fin_then (st_block ?_))
       obtain ⟨r4, hl4, hk4⟩ := obind hp
       refine st_loopP (σ := Int) (ρ := (Bool ⊕ Unit)) (γ := Unit) hl4 () (fun s_ g_ => match s_, g_ with | i76, _ => [(0, sl A_a a c_a), (1, sl A_b b c_b), (5, vI i2), (13, vI (a.length : Int)), (14, vI i2), (48, vI (x62.Fields.length : Int)), (49, vI i76)]) (fun s_ g_ => match s_, g_ with | i76, _ => Mem w0 (Fz F W :: cs)) (fun s_ g_ => match s_, g_ with | i76, _ => True) trivial (look_has ⟨rfl, rfl, rfl, rfl, rfl, rfl, rfl, trivial⟩) (fun w_ hM => hM) ?_
       rintro i76 _ o4 - hs_ hd4
       have hp : (kind_Same_l4 x62 a i2 b) i76 = some o4 := hs_
       clear hs_
       unfold kind_Same_l4 at hp
       refine st_seq (st_region [oF 0] (by rfl) ?_)
       refine oQ [oF 0] [(50, .bool (decide (i76 < (x62.Fields.length : Int)))), (0, sl A_a a c_a), (1, sl A_b b c_b), (5, vI i2), (13, vI (a.length : Int)), (14, vI i2), (48, vI (x62.Fields.length : Int)), (49, vI i76)] (by kernel_rfl) ?_
       refine ops_nil (fin_then (st_seq ?_))
       refine st_if (b := decide (i76 < (x62.Fields.length : Int))) rfl (fun hc77 => ?_) (fun hc77 => ?_)
       ·
        have hp := cnd_t hc77 hp
        refine st_skip (fin_then (st_seq (st_block (st_seq (st_region [oF 0, oF 1] (by rfl) ?_)))))
        refine oQ [oF 0, oF 1] [(6, vI i76), (0, sl A_a a c_a), (1, sl A_b b c_b), (5, vI i2), (13, vI (a.length : Int)), (14, vI i2), (48, vI (x62.Fields.length : Int)), (49, vI i76)] (by kernel_rfl) ?_
        refine ops_nil (fin_then (st_seq ?_))
        refine st_region_fast kind_Same__t1 [oT 0, oT 1, oT 2, oT 3, oT 4, oT 5, oT 6, oT 7, oT 8, oT 9, oT 10, oT 11, oT 12, oT 13, oT 14, oT 15, oT 16] (Mem w0 (Fz F W :: cs)) (by kernel_rfl) (by kernel_rfl) (by kernel_rfl) (by kernel_rfl) (by kernel_rfl) (fun _ d _ _ _ h => by cases d <;> exact h) (M' := Mem w0 (Fz F W :: cs)) (fun w_ hM => ⟨hM.drew, hM.drew.sub (.cons_cons _ (.refl _))⟩) ?_
        refine oQ [oT 0, oT 1] [(53, vI i2), (52, sl A_a a c_a), (6, vI i76), (0, sl A_a a c_a), (1, sl A_b b c_b), (5, vI i2), (13, vI (a.length : Int)), (14, vI i2), (48, vI (x62.Fields.length : Int)), (49, vI i76)] (by kernel_rfl) ?_
        obtain ⟨x78, hv79, hp⟩ := obind hp
        obtain ⟨m80, hm81, hx82⟩ := idx_some hv79
        have hl85 := (List.getElem?_eq_some_iff.1 hx82).1
        obtain ⟨ad86, vs83, hA87, hr84, hq88⟩ := RdS.el h_a hx82
        obtain ⟨A89, c90, rfl, h91⟩ := dec_api_Kind hr84
        refine ops_val (op := (.indexAddr 28 (.tmp 52) (.tmp 53))) (d := some 54) (v := .pointer (some (ad86.add (m80 * 2)))) ⟨by kernel_rfl⟩ (run_indexA hA87 Tryd.underlying28 (z := 2) (by kernel_rfl) rfl rfl hm81 hl85) ?_
        refine oQ [oT 3] [(55, .pointer (some ((ad86.add (m80 * 2)).add 1))), (6, vI i76), (0, sl A_a a c_a), (1, sl A_b b c_b), (5, vI i2), (13, vI (a.length : Int)), (14, vI i2), (48, vI (x62.Fields.length : Int)), (49, vI i76)] (by kernel_rfl) ?_
        refine ops_load (d := some 56) (an := [.v (sl A89 x78.Fields c90)]) (evs := [.load ((ad86.add (m80 * 2)).add 1) (sl A89 x78.Fields c90)]) (v := sl A89 x78.Fields c90) ⟨by kernel_rfl⟩ (fun w_ hM => ⟨hM.elcell 0 rfl hq88 1 rfl, rfl⟩) ?_
        refine oQ [oT 5] [(57, vI i76), (56, sl A89 x78.Fields c90), (6, vI i76), (0, sl A_a a c_a), (1, sl A_b b c_b), (5, vI i2), (13, vI (a.length : Int)), (14, vI i2), (48, vI (x62.Fields.length : Int)), (49, vI i76)] (by kernel_rfl) ?_
        obtain ⟨x92, hv93, hp⟩ := obind hp
        obtain ⟨m94, hm95, hx96⟩ := idx_some hv93
        have hl99 := (List.getElem?_eq_some_iff.1 hx96).1
        obtain ⟨ad100, vs97, hA101, hr98, hq102⟩ := RdS.el h91 hx96
        obtain rfl := dec_api_Field hr98
        refine ops_val (op := (.indexAddr 25 (.tmp 56) (.tmp 57))) (d := some 58) (v := .pointer (some (ad100.add (m94 * 3)))) ⟨by kernel_rfl⟩ (run_indexA hA101 Tryd.underlying25 (z := 3) (by kernel_rfl) rfl rfl hm95 hl99) ?_
        refine ops_load (d := some 59) (an := [.v (.string x92.Name), .v (vI x92.Bits), .v (vI x92.Low)]) (evs := [.load (ad100.add (m94 * 3)) (.string x92.Name), .load ((ad100.add (m94 * 3)).add 1) (vI x92.Bits), .load ((ad100.add (m94 * 3)).add 2) (vI x92.Low)]) (v := .agg #[.string x92.Name, vI x92.Bits, vI x92.Low]) ⟨by kernel_rfl⟩ (fun w_ hM => ⟨hM.elcell 0 rfl hq102 0 rfl, hM.elcell 0 rfl hq102 1 rfl, hM.elcell 0 rfl hq102 2 rfl, rfl⟩) ?_
        refine oQ [oT 8, oT 9] [(61, vI i2), (60, sl A_b b c_b), (59, .agg #[.string x92.Name, vI x92.Bits, vI x92.Low]), (6, vI i76), (0, sl A_a a c_a), (1, sl A_b b c_b), (5, vI i2), (13, vI (a.length : Int)), (14, vI i2), (48, vI (x62.Fields.length : Int)), (49, vI i76)] (by kernel_rfl) ?_
        obtain ⟨x103, hv104, hp⟩ := obind hp
        obtain ⟨m105, hm106, hx107⟩ := idx_some hv104
        have hl110 := (List.getElem?_eq_some_iff.1 hx107).1
        obtain ⟨ad111, vs108, hA112, hr109, hq113⟩ := RdS.el h_b hx107
        obtain ⟨A114, c115, rfl, h116⟩ := dec_api_Kind hr109
        refine ops_val (op := (.indexAddr 28 (.tmp 60) (.tmp 61))) (d := some 62) (v := .pointer (some (ad111.add (m105 * 2)))) ⟨by kernel_rfl⟩ (run_indexA hA112 Tryd.underlying28 (z := 2) (by kernel_rfl) rfl rfl hm106 hl110) ?_
        refine oQ [oT 11] [(63, .pointer (some ((ad111.add (m105 * 2)).add 1))), (59, .agg #[.string x92.Name, vI x92.Bits, vI x92.Low]), (6, vI i76), (0, sl A_a a c_a), (1, sl A_b b c_b), (5, vI i2), (13, vI (a.length : Int)), (14, vI i2), (48, vI (x62.Fields.length : Int)), (49, vI i76)] (by kernel_rfl) ?_
        refine ops_load (d := some 64) (an := [.v (sl A114 x103.Fields c115)]) (evs := [.load ((ad111.add (m105 * 2)).add 1) (sl A114 x103.Fields c115)]) (v := sl A114 x103.Fields c115) ⟨by kernel_rfl⟩ (fun w_ hM => ⟨hM.elcell 0 rfl hq113 1 rfl, rfl⟩) ?_
        refine oQ [oT 13] [(65, vI i76), (64, sl A114 x103.Fields c115), (59, .agg #[.string x92.Name, vI x92.Bits, vI x92.Low]), (0, sl A_a a c_a), (1, sl A_b b c_b), (5, vI i2), (13, vI (a.length : Int)), (14, vI i2), (48, vI (x62.Fields.length : Int)), (49, vI i76)] (by kernel_rfl) ?_
        obtain ⟨x117, hv118, hp⟩ := obind hp
        obtain ⟨m119, hm120, hx121⟩ := idx_some hv118
        have hl124 := (List.getElem?_eq_some_iff.1 hx121).1
        obtain ⟨ad125, vs122, hA126, hr123, hq127⟩ := RdS.el h116 hx121
        obtain rfl := dec_api_Field hr123
        refine ops_val (op := (.indexAddr 25 (.tmp 64) (.tmp 65))) (d := some 66) (v := .pointer (some (ad125.add (m119 * 3)))) ⟨by kernel_rfl⟩ (run_indexA hA126 Tryd.underlying25 (z := 3) (by kernel_rfl) rfl rfl hm120 hl124) ?_
        refine ops_load (d := some 67) (an := [.v (.string x117.Name), .v (vI x117.Bits), .v (vI x117.Low)]) (evs := [.load (ad125.add (m119 * 3)) (.string x117.Name), .load ((ad125.add (m119 * 3)).add 1) (vI x117.Bits), .load ((ad125.add (m119 * 3)).add 2) (vI x117.Low)]) (v := .agg #[.string x117.Name, vI x117.Bits, vI x117.Low]) ⟨by kernel_rfl⟩ (fun w_ hM => ⟨hM.elcell 0 rfl hq127 0 rfl, hM.elcell 0 rfl hq127 1 rfl, hM.elcell 0 rfl hq127 2 rfl, rfl⟩) ?_
        refine ops_val (op := (.binOp Go.BinOp.neq 23 (.tmp 59) (.tmp 67) 23)) (d := some 68) (v := .bool (!(x92.Name.toList == x117.Name.toList && (x92.Bits == x117.Bits && (x92.Low == x117.Low))))) ⟨by kernel_rfl⟩ (run_neq_agg (r := x92.Name.toList == x117.Name.toList && (x92.Bits == x117.Bits && (x92.Low == x117.Low))) rfl rfl (by kernel_rfl) (fun w => eqA23 9998 w x92.Name x117.Name x92.Bits x117.Bits x92.Low x117.Low)) ?_
        refine ops_nil (fin_then ?_)
        refine st_if (b := !(x92.Name.toList == x117.Name.toList && (x92.Bits == x117.Bits && (x92.Low == x117.Low)))) rfl (fun hc128 => ?_) (fun hc128 => ?_)
        ·
         have hp := cnd_t hc128 hp
         refine st_seq (st_region [oF 0] (by rfl) ?_)
         refine oQ [oF 0] [(4, .bool false)] (by kernel_rfl) ?_
         refine ops_nil (fin_then (st_ret (fin_ret_block (fin_ret_then (fin_ret_then (fin_ret_block (fin_ret_block (fin_ret_then (fin_ret_then (fin_ret_block (fin_ret_then ?_)))))))))))
         obtain hq_ := Option.some.inj hp
         subst hq_
         obtain hq_ := hd4 _ rfl
         subst hq_
         have hp : some (.inr (.inl false)) = some o2 := hk4
         obtain hq_ := Option.some.inj hp
         subst hq_
         obtain hq_ := hd2 _ rfl
         subst hq_
         have hp : some false = some t9001 := hk2
         have hq_ := Option.some.inj hp
         have hr0_ := hq_
         subst hr0_
         refine fin_ret [.tmp 4] [.bool false] rfl rfl (fun w_ hM => (.tmp rfl .nil)) (fun w_ hM => ?_)
         exact ⟨trivial, rfl, hM⟩
        ·
         have hp := cnd_f hc128 hp
         refine st_skip (fin_block (fin_then (st_region [oF 0, oF 1] (by rfl) ?_)))
         refine oQ [oF 0, oF 1] [(49, vI (IntKind.i64.wrap (i76 + 1))), (0, sl A_a a c_a), (1, sl A_b b c_b), (5, vI i2), (13, vI (a.length : Int)), (14, vI i2), (48, vI (x62.Fields.length : Int))] (by kernel_rfl) ?_
         refine ops_nil ?_
         exact fin_again (IntKind.i64.wrap (i76 + 1)) () (Option.some.inj hp).symm trivial (look_has ⟨rfl, rfl, rfl, rfl, rfl, rfl, rfl, trivial⟩) (fun w_ hM => hM)
       ·
        have hp := cnd_f hc77 hp
        refine st_exit (fin_exit_then (fin_exit_then (fin_exit (fin_block ?_))))
        obtain hq_ := Option.some.inj hp
        subst hq_
        obtain hq_ := hd4 _ rfl
        subst hq_
        have hp : (kind_Same_j3 i2) = some o2 := hk4
        exact fin_join HJ3 () hp (look_has ⟨rfl, rfl, rfl, rfl, trivial⟩) (fun w_ hM => hM)
   ·
    have hp := cnd_f hc3 hp
    refine st_exit (fin_exit_then (fin_exit_then (fin_exit ?_)))
    obtain hq_ := Option.some.inj hp
    subst hq_
    obtain hq_ := hd2 _ rfl
    subst hq_
    have hp : kind_Same_j1 = some t9001 := hk2
    exact fin_join HJ1 () hp (look_has trivial) (fun w_ hM => hM)
theorem world_SameComps_1_ok (w0 w : World) (cs : List Chunk) (F : Nat → Prop) (W : World) (x_0 : Int) (A_x_1 : Option Addr) (c_x_1 : Nat) (x_1 : List Int) (y_0 : Int) (A_y_1 : Option Addr) (c_y_1 : Nat) (y_1 : List Int) (hM0 : Mem w0 (Fz F W :: cs) w) (h_x_1 : RdS (Rep.int .i64) F W A_x_1 c_x_1 x_1) (h_y_1 : RdS (Rep.int .i64) F W A_y_1 c_y_1 y_1) (t9001 : Bool) (hp : world_SameComps_1 x_0 x_1 y_0 y_1 = some t9001) : Calls Tryd.prog 106 #[.agg #[vI x_0, sl A_x_1 x_1 c_x_1], .agg #[vI y_0, sl A_y_1 y_1 c_y_1]] w fun e w' => (True) ∧ e = .returned (.bool t9001) ∧ Mem w0 (Fz F W :: cs) w' := by
 unfold world_SameComps_1 at hp
 refine sx_calls Tryd.func106 rfl (n := 17) (by kernel_rfl) (l := [(0, .agg #[vI x_0, sl A_x_1 x_1 c_x_1]), (1, .agg #[vI y_0, sl A_y_1 y_1 c_y_1])]) rfl (by rfl) hM0 ?_
 refine st_seq (st_region [oF 0, oF 1, oF 2] (by rfl) ?_)
 refine ops_newB (d := some 2) [vI x_0, sl A_x_1 x_1 c_x_1] 118 (fun b1 => ⟨by kernel_rfl⟩) (fun w_ hM hS => trivial) (fun b1 => ?_)
 refine ops_newB (d := some 3) [vI y_0, sl A_y_1 y_1 c_y_1] 118 (fun b2 => ⟨by kernel_rfl⟩) (fun w_ hM hS => trivial) (fun b2 => ?_)
 refine oQ [oF 2] [(3, vP b2 0), (2, vP b1 0)] (by kernel_rfl) ?_
 refine ops_nil (fin_then ?_)
 refine st_join1 (σ := Bool) (L := fun x_ => match x_ with | t3 => [(4, .bool t3)]) (N := fun x_ => match x_ with | t3 => Mem w0 (Fz F W :: cs)) (I := fun x_ => match x_ with | t3 => (world_SameComps_1_j1 t3 = some t9001)) ?_ ?_
 ·
  rintro t3 hp
  unfold world_SameComps_1_j1 at hp
  refine st_ret ?_
  have hq_ := Option.some.inj hp
  have hr0_ := hq_
  subst hr0_
  refine fin_ret [.tmp 4] [.bool t3] rfl rfl (fun w_ hM => (.tmp rfl .nil)) (fun w_ hM => ?_)
  exact ⟨trivial, rfl, hM⟩
 ·
  intro HJ1
  refine st_seq (st_region [oF 0, oF 1, oF 2, oF 3, oF 4, oF 5, oF 6, oF 7, oF 8, oF 9, oF 10, oF 11, oF 12] (by rfl) ?_)
  refine oQ [oF 0] [(5, vP b1 0), (3, vP b2 0), (2, vP b1 0)] (by kernel_rfl) ?_
  refine ops_mem (d := some 6) (an := [.v (vI x_0)]) (evs := [ld b1 0 (vI x_0)]) (v := vI x_0) ⟨by kernel_rfl⟩ (fun w_ hM hS => ⟨w_, ⟨hM.cell 1 rfl rfl, rfl⟩, hM, trivial⟩) ?_
  refine oQ [oF 2] [(7, vP b2 0), (6, vI x_0), (3, vP b2 0), (2, vP b1 0)] (by kernel_rfl) ?_
  refine ops_mem (d := some 8) (an := [.v (vI y_0)]) (evs := [ld b2 0 (vI y_0)]) (v := vI y_0) ⟨by kernel_rfl⟩ (fun w_ hM hS => ⟨w_, ⟨hM.cell 0 rfl rfl, rfl⟩, hM, trivial⟩) ?_
  refine oQ [oF 4, oF 5] [(10, .bool (x_0 == y_0)), (3, vP b2 0), (2, vP b1 0)] (by kernel_rfl) ?_
  refine ops_bool (t := (x_0 == y_0)) (l1 := [(10, .bool true), (3, vP b2 0), (2, vP b1 0)]) (l2 := [(10, .bool false), (3, vP b2 0), (2, vP b1 0)]) (fun h => by rw [h]) (fun h => by rw [h]) (fun hc4 => ?_) (fun hc4 => ?_)
  ·
   have hp := cnd_t hc4 hp
   refine oQ [oF 6] [(11, vP b1 1), (10, .bool true), (3, vP b2 0)] (by kernel_rfl) ?_
   refine ops_mem (d := some 12) (an := [.v (sl A_x_1 x_1 c_x_1)]) (evs := [ld b1 1 (sl A_x_1 x_1 c_x_1)]) (v := sl A_x_1 x_1 c_x_1) ⟨by kernel_rfl⟩ (fun w_ hM hS => ⟨w_, ⟨hM.cell 1 rfl rfl, rfl⟩, hM, trivial⟩) ?_
   refine oQ [oF 8] [(13, vP b2 1), (12, sl A_x_1 x_1 c_x_1), (10, .bool true)] (by kernel_rfl) ?_
   refine ops_mem (d := some 14) (an := [.v (sl A_y_1 y_1 c_y_1)]) (evs := [ld b2 1 (sl A_y_1 y_1 c_y_1)]) (v := sl A_y_1 y_1 c_y_1) ⟨by kernel_rfl⟩ (fun w_ hM hS => ⟨w_, ⟨hM.cell 0 rfl rfl, rfl⟩, hM, trivial⟩) ?_
   obtain ⟨x5, hv6, hp⟩ := obind hp
   refine ops_callI (σ := Unit) (d := some 15) (f := 15) (args := #[sl A_x_1 x_1 c_x_1, sl A_y_1 y_1 c_y_1]) (v := (fun _ => .bool x5)) (I := (fun _ => True)) (M' := (fun _ => Mem w0 (.blk b2 [vI y_0, sl A_y_1 y_1 c_y_1] 118 :: .blk b1 [vI x_0, sl A_x_1 x_1 c_x_1] 118 :: Fz F W :: cs))) ⟨by kernel_rfl⟩ (fun w_ hM hS => (slices_Equal_int_int_ok w0 w_ (.blk b2 [vI y_0, sl A_y_1 y_1 c_y_1] 118 :: .blk b1 [vI x_0, sl A_x_1 x_1 c_x_1] 118 :: cs) F W A_x_1 c_x_1 x_1 A_y_1 c_y_1 y_1 (hM.pick 3 [2, 0, 1] (by kernel_rfl) (by decide) rfl) h_x_1 h_y_1 x5 hv6).mono (by rintro e w' ⟨-, rfl, h'⟩; have h' : Mem w0 (.blk b2 [vI y_0, sl A_y_1 y_1 c_y_1] 118 :: .blk b1 [vI x_0, sl A_x_1 x_1 c_x_1] 118 :: Fz F W :: cs) w' := (h'.pick 3 [1, 2, 0] (by kernel_rfl) (by decide) rfl); exact ⟨(), trivial, rfl, h', trivial⟩)) ?_
   rintro _ -
   refine oQ [oF 11, oF 12] [(4, .bool x5)] (by kernel_rfl) ?_
   refine ops_nil ?_
   exact fin_join HJ1 x5 hp (look_has ⟨rfl, trivial⟩) (fun w_ hM => hM.pick 3 [2] (by kernel_rfl) (by decide) rfl)
  ·
   have hp := cnd_f hc4 hp
   refine oQ [oF 6, oF 7, oF 8, oF 9, oF 10, oF 11, oF 12] [(4, .bool false)] (by kernel_rfl) ?_
   refine ops_nil ?_
   exact fin_join HJ1 false hp (look_has ⟨rfl, trivial⟩) (fun w_ hM => hM.pick 3 [2] (by kernel_rfl) (by decide) rfl)
theorem slices_EqualFunc_api_Comp_api_Comp_api_Comp_api_Comp_v2_ok (w0 w : World) (cs : List Chunk) (F : Nat → Prop) (W : World) (A_s1 : Option Addr) (c_s1 : Nat) (s1_1 : List api_Comp) (A_s2 : Option Addr) (c_s2 : Nat) (s2_1 : List api_Comp) (hM0 : Mem w0 (Fz F W :: cs) w) (h_s1 : RdS R_api_Comp F W A_s1 c_s1 s1_1) (h_s2 : RdS R_api_Comp F W A_s2 c_s2 s2_1) (t9001 : Bool) (hp : slices_EqualFunc_api_Comp_api_Comp_api_Comp_api_Comp_v2 s1_1 s2_1 = some t9001) : Calls Tryd.prog 104 #[sl A_s1 s1_1 c_s1, sl A_s2 s2_1 c_s2, .func (.func 106) #[] #[]] w fun e w' => (True) ∧ e = .returned (.bool t9001) ∧ Mem w0 (Fz F W :: cs) w' := by
 unfold slices_EqualFunc_api_Comp_api_Comp_api_Comp_api_Comp_v2 at hp
 refine sx_calls Tryd.func104 rfl (n := 32) (by kernel_rfl) (l := [(0, sl A_s1 s1_1 c_s1), (1, sl A_s2 s2_1 c_s2), (2, .func (.func 106) #[] #[])]) rfl (by rfl) hM0 ?_
 refine st_seq (st_region [oF 0] (by rfl) ?_)
 refine oQ [oF 0] [(0, sl A_s1 s1_1 c_s1), (1, sl A_s2 s2_1 c_s2), (2, .func (.func 106) #[] #[])] (by kernel_rfl) ?_
 refine ops_nil (fin_then (st_seq (st_seq (st_region [oF 0, oF 1, oF 2, oF 3, oF 4] (by rfl) ?_))))
 refine oQ [oF 0, oF 1, oF 2, oF 3, oF 4] [(14, .bool (!((s1_1.length : Int) == (s2_1.length : Int)))), (0, sl A_s1 s1_1 c_s1), (1, sl A_s2 s2_1 c_s2), (2, .func (.func 106) #[] #[])] (by kernel_rfl) ?_
 refine ops_nil (fin_then ?_)
 refine st_if (b := !((s1_1.length : Int) == (s2_1.length : Int))) rfl (fun hc1 => ?_) (fun hc1 => ?_)
 ·
  have hp := cnd_t hc1 hp
  refine st_seq (st_region [oF 0] (by rfl) ?_)
  refine oQ [oF 0] [(6, .bool false)] (by kernel_rfl) ?_
  refine ops_nil (fin_then (st_ret (fin_ret_then ?_)))
  have hq_ := Option.some.inj hp
  have hr0_ := hq_
  subst hr0_
  refine fin_ret [.tmp 6] [.bool false] rfl rfl (fun w_ hM => (.tmp rfl .nil)) (fun w_ hM => ?_)
  exact ⟨trivial, rfl, hM⟩
 ·
  have hp := cnd_f hc1 hp
  refine st_skip (fin_then ?_)
  refine st_join1 (σ := Unit) (L := fun _ => []) (N := fun _ => Mem w0 (Fz F W :: cs)) (I := fun _ => (slices_EqualFunc_api_Comp_api_Comp_api_Comp_api_Comp_v2_j1 = some t9001)) ?_ ?_
  ·
   rintro _ hp
   unfold slices_EqualFunc_api_Comp_api_Comp_api_Comp_api_Comp_v2_j1 at hp
   refine st_seq (st_region [oF 0] (by rfl) ?_)
   refine oQ [oF 0] [(6, .bool true)] (by kernel_rfl) ?_
   refine ops_nil (fin_then (st_ret ?_))
   have hq_ := Option.some.inj hp
   have hr0_ := hq_
   subst hr0_
   refine fin_ret [.tmp 6] [.bool true] rfl rfl (fun w_ hM => (.tmp rfl .nil)) (fun w_ hM => ?_)
   exact ⟨trivial, rfl, hM⟩
  ·
   intro HJ1
   refine st_seq (st_seq (st_region [oF 0, oF 1, oF 2] (by rfl) ?_))
   refine oQ [oF 0, oF 1, oF 2] [(17, vI 0), (16, vI (s1_1.length : Int)), (15, sl A_s1 s1_1 c_s1), (1, sl A_s2 s2_1 c_s2), (2, .func (.func 106) #[] #[])] (by kernel_rfl) ?_
   refine ops_nil (fin_then (st_block ?_))
   obtain ⟨r2, hl2, hk2⟩ := obind hp
   refine st_loopP (σ := Int) (ρ := (Bool ⊕ Unit)) (γ := Unit) hl2 () (fun s_ g_ => match s_, g_ with | i2, _ => [(1, sl A_s2 s2_1 c_s2), (2, .func (.func 106) #[] #[]), (15, sl A_s1 s1_1 c_s1), (16, vI (s1_1.length : Int)), (17, vI i2)]) (fun s_ g_ => match s_, g_ with | i2, _ => Mem w0 (Fz F W :: cs)) (fun s_ g_ => match s_, g_ with | i2, _ => True) trivial (look_has ⟨rfl, rfl, rfl, rfl, rfl, trivial⟩) (fun w_ hM => hM) ?_
   rintro i2 _ o2 - hs_ hd2
   have hp : (slices_EqualFunc_api_Comp_api_Comp_api_Comp_api_Comp_v2_l2 s1_1 s2_1) i2 = some o2 := hs_
   clear hs_
   unfold slices_EqualFunc_api_Comp_api_Comp_api_Comp_api_Comp_v2_l2 at hp
   refine st_seq (st_region [oF 0] (by rfl) ?_)
   refine oQ [oF 0] [(18, .bool (decide (i2 < (s1_1.length : Int)))), (1, sl A_s2 s2_1 c_s2), (2, .func (.func 106) #[] #[]), (15, sl A_s1 s1_1 c_s1), (16, vI (s1_1.length : Int)), (17, vI i2)] (by kernel_rfl) ?_
   refine ops_nil (fin_then (st_seq ?_))
   refine st_if (b := decide (i2 < (s1_1.length : Int))) rfl (fun hc3 => ?_) (fun hc3 => ?_)
   ·
    have hp := cnd_t hc3 hp
    refine st_skip (fin_then (st_seq (st_block (st_seq (st_region [oF 0, oF 1, oF 2, oF 3, oF 4, oF 5] (by rfl) ?_)))))
    refine oQ [oF 0] [(19, vI i2), (1, sl A_s2 s2_1 c_s2), (2, .func (.func 106) #[] #[]), (15, sl A_s1 s1_1 c_s1), (16, vI (s1_1.length : Int)), (17, vI i2)] (by kernel_rfl) ?_
    obtain ⟨x4, hv5, hp⟩ := obind hp
    obtain ⟨m6, hm7, hx8⟩ := idx_some hv5
    have hl11 := (List.getElem?_eq_some_iff.1 hx8).1
    obtain ⟨ad12, vs9, hA13, hr10, hq14⟩ := RdS.el h_s1 hx8
    obtain ⟨A15, c16, rfl, h17⟩ := dec_api_Comp hr10
    refine ops_val (op := (.indexAddr 113 (.tmp 15) (.tmp 17))) (d := some 20) (v := .pointer (some (ad12.add (m6 * 2)))) ⟨by kernel_rfl⟩ (run_indexA hA13 Tryd.underlying113 (z := 2) (by kernel_rfl) rfl rfl hm7 hl11) ?_
    refine ops_mem (d := some 21) (an := [.v (vI x4.Kind), .v (sl A15 x4.Vals c16)]) (evs := [.load (ad12.add (m6 * 2)) (vI x4.Kind), .load ((ad12.add (m6 * 2)).add 1) (sl A15 x4.Vals c16)]) (v := .agg #[vI x4.Kind, sl A15 x4.Vals c16]) ⟨by kernel_rfl⟩ (fun w_ hM hS => ⟨w_, ⟨hM.elcell 0 rfl hq14 0 rfl, hM.elcell 0 rfl hq14 1 rfl, rfl⟩, hM, trivial⟩) ?_
    refine ops_newB (d := some 8) [vI 0, .slice none 0 0] 118 (fun b18 => ⟨by kernel_rfl⟩) (fun w_ hM hS => trivial) (fun b18 => ?_)
    refine oQ [oF 4] [(7, vI i2), (8, vP b18 0), (21, .agg #[vI x4.Kind, sl A15 x4.Vals c16]), (1, sl A_s2 s2_1 c_s2), (2, .func (.func 106) #[] #[]), (15, sl A_s1 s1_1 c_s1), (16, vI (s1_1.length : Int)), (17, vI i2)] (by kernel_rfl) ?_
    refine ops_store (an := []) (evs := [sr b18 0 (vI x4.Kind), sr b18 1 (sl A15 x4.Vals c16)]) ⟨by kernel_rfl⟩ (fun w_ hM hS => let ⟨w', he, h'⟩ := hM.evs_stores [vI x4.Kind, sl A15 x4.Vals c16] 0 rfl 0 (Nat.le_of_ble_eq_true rfl); ⟨w', he, h', trivial⟩) ?_
    refine ops_nil (fin_then (st_seq (st_region [oF 0, oF 1, oF 2, oF 3, oF 4, oF 5] (by rfl) ?_)))
    refine oQ [oF 0, oF 1] [(23, vI i2), (22, sl A_s2 s2_1 c_s2), (8, vP b18 0), (1, sl A_s2 s2_1 c_s2), (2, .func (.func 106) #[] #[]), (15, sl A_s1 s1_1 c_s1), (16, vI (s1_1.length : Int)), (17, vI i2)] (by kernel_rfl) ?_
    obtain ⟨x19, hv20, hp⟩ := obind hp
    obtain ⟨m21, hm22, hx23⟩ := idx_some hv20
    have hl26 := (List.getElem?_eq_some_iff.1 hx23).1
    obtain ⟨ad27, vs24, hA28, hr25, hq29⟩ := RdS.el h_s2 hx23
    obtain ⟨A30, c31, rfl, h32⟩ := dec_api_Comp hr25
    refine ops_val (op := (.indexAddr 113 (.tmp 22) (.tmp 23))) (d := some 24) (v := .pointer (some (ad27.add (m21 * 2)))) ⟨by kernel_rfl⟩ (run_indexA hA28 Tryd.underlying113 (z := 2) (by kernel_rfl) rfl rfl hm22 hl26) ?_
    refine ops_mem (d := some 25) (an := [.v (vI x19.Kind), .v (sl A30 x19.Vals c31)]) (evs := [.load (ad27.add (m21 * 2)) (vI x19.Kind), .load ((ad27.add (m21 * 2)).add 1) (sl A30 x19.Vals c31)]) (v := .agg #[vI x19.Kind, sl A30 x19.Vals c31]) ⟨by kernel_rfl⟩ (fun w_ hM hS => ⟨w_, ⟨hM.elcell 1 rfl hq29 0 rfl, hM.elcell 1 rfl hq29 1 rfl, rfl⟩, hM, trivial⟩) ?_
    refine ops_newB (d := some 9) [vI 0, .slice none 0 0] 118 (fun b33 => ⟨by kernel_rfl⟩) (fun w_ hM hS => trivial) (fun b33 => ?_)
    refine ops_store (an := []) (evs := [sr b33 0 (vI x19.Kind), sr b33 1 (sl A30 x19.Vals c31)]) ⟨by kernel_rfl⟩ (fun w_ hM hS => let ⟨w', he, h'⟩ := hM.evs_stores [vI x19.Kind, sl A30 x19.Vals c31] 0 rfl 0 (Nat.le_of_ble_eq_true rfl); ⟨w', he, h', trivial⟩) ?_
    refine ops_nil (fin_then (st_seq (st_region [oF 0, oF 1, oF 2, oF 3, oF 4] (by rfl) ?_)))
    refine oQ [oF 0] [(26, .func (.func 106) #[] #[]), (9, vP b33 0), (8, vP b18 0), (1, sl A_s2 s2_1 c_s2), (2, .func (.func 106) #[] #[]), (15, sl A_s1 s1_1 c_s1), (16, vI (s1_1.length : Int)), (17, vI i2)] (by kernel_rfl) ?_
    refine ops_mem (d := some 27) (an := [.v (vI x4.Kind), .v (sl A15 x4.Vals c16)]) (evs := [ld b18 0 (vI x4.Kind), ld b18 1 (sl A15 x4.Vals c16)]) (v := .agg #[vI x4.Kind, sl A15 x4.Vals c16]) ⟨by kernel_rfl⟩ (fun w_ hM hS => ⟨w_, ⟨hM.cell 1 rfl rfl, hM.cell 1 rfl rfl, rfl⟩, hM, trivial⟩) ?_
    refine ops_mem (d := some 28) (an := [.v (vI x19.Kind), .v (sl A30 x19.Vals c31)]) (evs := [ld b33 0 (vI x19.Kind), ld b33 1 (sl A30 x19.Vals c31)]) (v := .agg #[vI x19.Kind, sl A30 x19.Vals c31]) ⟨by kernel_rfl⟩ (fun w_ hM hS => ⟨w_, ⟨hM.cell 0 rfl rfl, hM.cell 0 rfl rfl, rfl⟩, hM, trivial⟩) ?_
    obtain ⟨x34, hv35, hp⟩ := obind hp
    refine ops_callI (σ := Unit) (d := some 29) (f := 106) (args := #[.agg #[vI x4.Kind, sl A15 x4.Vals c16], .agg #[vI x19.Kind, sl A30 x19.Vals c31]]) (v := (fun _ => .bool x34)) (I := (fun _ => True)) (M' := (fun _ => Mem w0 (.blk b33 [vI x19.Kind, sl A30 x19.Vals c31] 118 :: .blk b18 [vI x4.Kind, sl A15 x4.Vals c16] 118 :: Fz F W :: cs))) ⟨by kernel_rfl⟩ (fun w_ hM hS => (world_SameComps_1_ok w0 w_ (.blk b33 [vI x19.Kind, sl A30 x19.Vals c31] 118 :: .blk b18 [vI x4.Kind, sl A15 x4.Vals c16] 118 :: cs) F W x4.Kind A15 c16 x4.Vals x19.Kind A30 c31 x19.Vals (hM.pick 3 [2, 0, 1] (by kernel_rfl) (by decide) rfl) h17 h32 x34 hv35).mono (by rintro e w' ⟨-, rfl, h'⟩; have h' : Mem w0 (.blk b33 [vI x19.Kind, sl A30 x19.Vals c31] 118 :: .blk b18 [vI x4.Kind, sl A15 x4.Vals c16] 118 :: Fz F W :: cs) w' := (h'.pick 3 [1, 2, 0] (by kernel_rfl) (by decide) rfl); exact ⟨(), trivial, rfl, h', trivial⟩)) ?_
    rintro _ -
    refine oQ [oF 4] [(30, .bool (!x34)), (1, sl A_s2 s2_1 c_s2), (2, .func (.func 106) #[] #[]), (15, sl A_s1 s1_1 c_s1), (16, vI (s1_1.length : Int)), (17, vI i2)] (by kernel_rfl) ?_
    refine ops_nil (fin_then ?_)
    refine st_if (b := !x34) rfl (fun hc36 => ?_) (fun hc36 => ?_)
    ·
     have hp := cnd_t hc36 hp
     refine st_seq (st_region [oF 0] (by rfl) ?_)
     refine oQ [oF 0] [(6, .bool false)] (by kernel_rfl) ?_
     refine ops_nil (fin_then (st_ret (fin_ret_block (fin_ret_then (fin_ret_then (fin_ret_block (fin_ret_then ?_)))))))
     obtain hq_ := Option.some.inj hp
     subst hq_
     obtain hq_ := hd2 _ rfl
     subst hq_
     have hp : some false = some t9001 := hk2
     have hq_ := Option.some.inj hp
     have hr0_ := hq_
     subst hr0_
     refine fin_ret [.tmp 6] [.bool false] rfl rfl (fun w_ hM => (.tmp rfl .nil)) (fun w_ hM => ?_)
     exact ⟨trivial, rfl, hM.pick 3 [2] (by kernel_rfl) (by decide) rfl⟩
    ·
     have hp := cnd_f hc36 hp
     refine st_skip (fin_block (fin_then (st_region [oF 0, oF 1] (by rfl) ?_)))
     refine oQ [oF 0, oF 1] [(17, vI (IntKind.i64.wrap (i2 + 1))), (1, sl A_s2 s2_1 c_s2), (2, .func (.func 106) #[] #[]), (15, sl A_s1 s1_1 c_s1), (16, vI (s1_1.length : Int))] (by kernel_rfl) ?_
     refine ops_nil ?_
     exact fin_again (IntKind.i64.wrap (i2 + 1)) () (Option.some.inj hp).symm trivial (look_has ⟨rfl, rfl, rfl, rfl, rfl, trivial⟩) (fun w_ hM => hM.pick 3 [2] (by kernel_rfl) (by decide) rfl)
   ·
    have hp := cnd_f hc3 hp
    refine st_exit (fin_exit_then (fin_exit_then (fin_exit ?_)))
    obtain hq_ := Option.some.inj hp
    subst hq_
    obtain hq_ := hd2 _ rfl
    subst hq_
    have hp : slices_EqualFunc_api_Comp_api_Comp_api_Comp_api_Comp_v2_j1 = some t9001 := hk2
    exact fin_join HJ1 () hp (look_has trivial) (fun w_ hM => hM)
theorem world_SameComps_ok (w0 w : World) (cs : List Chunk) (F : Nat → Prop) (W : World) (A_a : Option Addr) (c_a : Nat) (a : List api_Comp) (A_b : Option Addr) (c_b : Nat) (b : List api_Comp) (hM0 : Mem w0 (Fz F W :: cs) w) (h_a : RdS R_api_Comp F W A_a c_a a) (h_b : RdS R_api_Comp F W A_b c_b b) (t9001 : Bool) (hp : world_SameComps a b = some t9001) : Calls Tryd.prog 81 #[sl A_a a c_a, sl A_b b c_b] w fun e w' => (True) ∧ e = .returned (.bool t9001) ∧ Mem w0 (Fz F W :: cs) w' := by
 unfold world_SameComps at hp
 refine sx_calls Tryd.func81 rfl (n := 8) (by kernel_rfl) (l := [(0, sl A_a a c_a), (1, sl A_b b c_b)]) rfl (by rfl) hM0 ?_
 refine st_seq (st_region [oF 0] (by rfl) ?_)
 refine oQ [oF 0] [(0, sl A_a a c_a), (1, sl A_b b c_b)] (by kernel_rfl) ?_
 refine ops_nil (fin_then (st_seq (st_region [oF 0, oF 1, oF 2, oF 3] (by rfl) ?_)))
 refine oQ [oF 0, oF 1] [(6, sl A_b b c_b), (5, sl A_a a c_a)] (by kernel_rfl) ?_
 obtain ⟨x1, hv2, hp⟩ := obind hp
 refine ops_callI (σ := Unit) (d := some 7) (f := 104) (args := #[sl A_a a c_a, sl A_b b c_b, .func (.func 106) #[] #[]]) (v := (fun _ => .bool x1)) (I := (fun _ => True)) (M' := (fun _ => Mem w0 (Fz F W :: cs))) ⟨by kernel_rfl⟩ (fun w_ hM hS => (slices_EqualFunc_api_Comp_api_Comp_api_Comp_api_Comp_v2_ok w0 w_ (cs) F W A_a c_a a A_b c_b b hM h_a h_b x1 hv2).mono (by rintro e w' ⟨-, rfl, h'⟩; have h' : Mem w0 (Fz F W :: cs) w' := h'; exact ⟨(), trivial, rfl, h', trivial⟩)) ?_
 rintro _ -
 refine oQ [oF 3] [(4, .bool x1)] (by kernel_rfl) ?_
 refine ops_nil (fin_then (st_ret ?_))
 have hq_ := Option.some.inj hp
 have hr0_ := hq_
 subst hr0_
 refine fin_ret [.tmp 4] [.bool x1] rfl rfl (fun w_ hM => (.tmp rfl .nil)) (fun w_ hM => ?_)
 exact ⟨trivial, rfl, hM⟩
theorem world_Same_1_ok (w0 w : World) (cs : List Chunk) (F : Nat → Prop) (W : World) (x_0 : Int) (x_1 : Int) (A_x_2 : Option Addr) (c_x_2 : Nat) (x_2 : List api_Comp) (y_0 : Int) (y_1 : Int) (A_y_2 : Option Addr) (c_y_2 : Nat) (y_2 : List api_Comp) (hM0 : Mem w0 (Fz F W :: cs) w) (h_x_2 : RdS R_api_Comp F W A_x_2 c_x_2 x_2) (h_y_2 : RdS R_api_Comp F W A_y_2 c_y_2 y_2) (t9001 : Bool) (hp : world_Same_1 x_0 x_1 x_2 y_0 y_1 y_2 = some t9001) : Calls Tryd.prog 80 #[.agg #[vI x_0, vI x_1, sl A_x_2 x_2 c_x_2], .agg #[vI y_0, vI y_1, sl A_y_2 y_2 c_y_2]] w fun e w' => (True) ∧ e = .returned (.bool t9001) ∧ Mem w0 (Fz F W :: cs) w' := by
 unfold world_Same_1 at hp
 refine sx_calls Tryd.func80 rfl (n := 17) (by kernel_rfl) (l := [(0, .agg #[vI x_0, vI x_1, sl A_x_2 x_2 c_x_2]), (1, .agg #[vI y_0, vI y_1, sl A_y_2 y_2 c_y_2])]) rfl (by rfl) hM0 ?_
 refine st_seq (st_region [oF 0, oF 1, oF 2] (by rfl) ?_)
 refine ops_newB (d := some 2) [vI x_0, vI x_1, sl A_x_2 x_2 c_x_2] 115 (fun b1 => ⟨by kernel_rfl⟩) (fun w_ hM hS => trivial) (fun b1 => ?_)
 refine ops_newB (d := some 3) [vI y_0, vI y_1, sl A_y_2 y_2 c_y_2] 115 (fun b2 => ⟨by kernel_rfl⟩) (fun w_ hM hS => trivial) (fun b2 => ?_)
 refine oQ [oF 2] [(3, vP b2 0), (2, vP b1 0)] (by kernel_rfl) ?_
 refine ops_nil (fin_then ?_)
 refine st_join1 (σ := Bool) (L := fun x_ => match x_ with | t3 => [(4, .bool t3)]) (N := fun x_ => match x_ with | t3 => Mem w0 (Fz F W :: cs)) (I := fun x_ => match x_ with | t3 => (world_Same_1_j1 t3 = some t9001)) ?_ ?_
 ·
  rintro t3 hp
  unfold world_Same_1_j1 at hp
  refine st_ret ?_
  have hq_ := Option.some.inj hp
  have hr0_ := hq_
  subst hr0_
  refine fin_ret [.tmp 4] [.bool t3] rfl rfl (fun w_ hM => (.tmp rfl .nil)) (fun w_ hM => ?_)
  exact ⟨trivial, rfl, hM⟩
 ·
  intro HJ1
  refine st_seq (st_region [oF 0, oF 1, oF 2, oF 3, oF 4, oF 5, oF 6, oF 7, oF 8, oF 9, oF 10, oF 11, oF 12] (by rfl) ?_)
  refine oQ [oF 0] [(5, vP b1 0), (3, vP b2 0), (2, vP b1 0)] (by kernel_rfl) ?_
  refine ops_mem (d := some 6) (an := [.v (vI x_0), .v (vI x_1)]) (evs := [ld b1 0 (vI x_0), ld b1 1 (vI x_1)]) (v := .agg #[vI x_0, vI x_1]) ⟨by kernel_rfl⟩ (fun w_ hM hS => ⟨w_, ⟨hM.cell 1 rfl rfl, hM.cell 1 rfl rfl, rfl⟩, hM, trivial⟩) ?_
  refine oQ [oF 2] [(7, vP b2 0), (6, .agg #[vI x_0, vI x_1]), (3, vP b2 0), (2, vP b1 0)] (by kernel_rfl) ?_
  refine ops_mem (d := some 8) (an := [.v (vI y_0), .v (vI y_1)]) (evs := [ld b2 0 (vI y_0), ld b2 1 (vI y_1)]) (v := .agg #[vI y_0, vI y_1]) ⟨by kernel_rfl⟩ (fun w_ hM hS => ⟨w_, ⟨hM.cell 0 rfl rfl, hM.cell 0 rfl rfl, rfl⟩, hM, trivial⟩) ?_
  refine ops_val (op := (.binOp Go.BinOp.eql 112 (.tmp 6) (.tmp 8) 112)) (d := some 9) (v := .bool (x_0 == y_0 && (x_1 == y_1))) ⟨by kernel_rfl⟩ (run_eql_agg (r := x_0 == y_0 && (x_1 == y_1)) rfl rfl (by kernel_rfl) (fun w => eqA112 9998 w x_0 y_0 x_1 y_1)) ?_
  refine oQ [oF 5] [(10, .bool (x_0 == y_0 && (x_1 == y_1))), (3, vP b2 0), (2, vP b1 0)] (by kernel_rfl) ?_
  refine ops_bool (t := x_0 == y_0 && (x_1 == y_1)) (l1 := [(10, .bool true), (3, vP b2 0), (2, vP b1 0)]) (l2 := [(10, .bool false), (3, vP b2 0), (2, vP b1 0)]) (fun h => by rw [h]) (fun h => by rw [h]) (fun hc4 => ?_) (fun hc4 => ?_)
  ·
   have hp := cnd_t hc4 hp
   refine oQ [oF 6] [(11, vP b1 2), (10, .bool true), (3, vP b2 0)] (by kernel_rfl) ?_
   refine ops_mem (d := some 12) (an := [.v (sl A_x_2 x_2 c_x_2)]) (evs := [ld b1 2 (sl A_x_2 x_2 c_x_2)]) (v := sl A_x_2 x_2 c_x_2) ⟨by kernel_rfl⟩ (fun w_ hM hS => ⟨w_, ⟨hM.cell 1 rfl rfl, rfl⟩, hM, trivial⟩) ?_
   refine oQ [oF 8] [(13, vP b2 2), (12, sl A_x_2 x_2 c_x_2), (10, .bool true)] (by kernel_rfl) ?_
   refine ops_mem (d := some 14) (an := [.v (sl A_y_2 y_2 c_y_2)]) (evs := [ld b2 2 (sl A_y_2 y_2 c_y_2)]) (v := sl A_y_2 y_2 c_y_2) ⟨by kernel_rfl⟩ (fun w_ hM hS => ⟨w_, ⟨hM.cell 0 rfl rfl, rfl⟩, hM, trivial⟩) ?_
   obtain ⟨x5, hv6, hp⟩ := obind hp
   refine ops_callI (σ := Unit) (d := some 15) (f := 81) (args := #[sl A_x_2 x_2 c_x_2, sl A_y_2 y_2 c_y_2]) (v := (fun _ => .bool x5)) (I := (fun _ => True)) (M' := (fun _ => Mem w0 (.blk b2 [vI y_0, vI y_1, sl A_y_2 y_2 c_y_2] 115 :: .blk b1 [vI x_0, vI x_1, sl A_x_2 x_2 c_x_2] 115 :: Fz F W :: cs))) ⟨by kernel_rfl⟩ (fun w_ hM hS => (world_SameComps_ok w0 w_ (.blk b2 [vI y_0, vI y_1, sl A_y_2 y_2 c_y_2] 115 :: .blk b1 [vI x_0, vI x_1, sl A_x_2 x_2 c_x_2] 115 :: cs) F W A_x_2 c_x_2 x_2 A_y_2 c_y_2 y_2 (hM.pick 3 [2, 0, 1] (by kernel_rfl) (by decide) rfl) h_x_2 h_y_2 x5 hv6).mono (by rintro e w' ⟨-, rfl, h'⟩; have h' : Mem w0 (.blk b2 [vI y_0, vI y_1, sl A_y_2 y_2 c_y_2] 115 :: .blk b1 [vI x_0, vI x_1, sl A_x_2 x_2 c_x_2] 115 :: Fz F W :: cs) w' := (h'.pick 3 [1, 2, 0] (by kernel_rfl) (by decide) rfl); exact ⟨(), trivial, rfl, h', trivial⟩)) ?_
   rintro _ -
   refine oQ [oF 11, oF 12] [(4, .bool x5)] (by kernel_rfl) ?_
   refine ops_nil ?_
   exact fin_join HJ1 x5 hp (look_has ⟨rfl, trivial⟩) (fun w_ hM => hM.pick 3 [2] (by kernel_rfl) (by decide) rfl)
  ·
   have hp := cnd_f hc4 hp
   refine oQ [oF 6, oF 7, oF 8, oF 9, oF 10, oF 11, oF 12] [(4, .bool false)] (by kernel_rfl) ?_
   refine ops_nil ?_
   exact fin_join HJ1 false hp (look_has ⟨rfl, trivial⟩) (fun w_ hM => hM.pick 3 [2] (by kernel_rfl) (by decide) rfl)
theorem slices_EqualFunc_api_Item_api_Item_api_Item_api_Item_v2_ok (w0 w : World) (cs : List Chunk) (F : Nat → Prop) (W : World) (A_s1 : Option Addr) (c_s1 : Nat) (s1_1 : List api_Item) (A_s2 : Option Addr) (c_s2 : Nat) (s2_1 : List api_Item) (hM0 : Mem w0 (Fz F W :: cs) w) (h_s1 : RdS R_api_Item F W A_s1 c_s1 s1_1) (h_s2 : RdS R_api_Item F W A_s2 c_s2 s2_1) (t9001 : Bool) (hp : slices_EqualFunc_api_Item_api_Item_api_Item_api_Item_v2 s1_1 s2_1 = some t9001) : Calls Tryd.prog 78 #[sl A_s1 s1_1 c_s1, sl A_s2 s2_1 c_s2, .func (.func 80) #[] #[]] w fun e w' => (True) ∧ e = .returned (.bool t9001) ∧ Mem w0 (Fz F W :: cs) w' := by
 unfold slices_EqualFunc_api_Item_api_Item_api_Item_api_Item_v2 at hp
 refine sx_calls Tryd.func78 rfl (n := 32) (by kernel_rfl) (l := [(0, sl A_s1 s1_1 c_s1), (1, sl A_s2 s2_1 c_s2), (2, .func (.func 80) #[] #[])]) rfl (by rfl) hM0 ?_
 refine st_seq (st_region [oF 0] (by rfl) ?_)
 refine oQ [oF 0] [(0, sl A_s1 s1_1 c_s1), (1, sl A_s2 s2_1 c_s2), (2, .func (.func 80) #[] #[])] (by kernel_rfl) ?_
 refine ops_nil (fin_then (st_seq (st_seq (st_region [oF 0, oF 1, oF 2, oF 3, oF 4] (by rfl) ?_))))
 refine oQ [oF 0, oF 1, oF 2, oF 3, oF 4] [(14, .bool (!((s1_1.length : Int) == (s2_1.length : Int)))), (0, sl A_s1 s1_1 c_s1), (1, sl A_s2 s2_1 c_s2), (2, .func (.func 80) #[] #[])] (by kernel_rfl) ?_
 refine ops_nil (fin_then ?_)
 refine st_if (b := !((s1_1.length : Int) == (s2_1.length : Int))) rfl (fun hc1 => ?_) (fun hc1 => ?_)
 ·
  have hp := cnd_t hc1 hp
  refine st_seq (st_region [oF 0] (by rfl) ?_)
  refine oQ [oF 0] [(6, .bool false)] (by kernel_rfl) ?_
  refine ops_nil (fin_then (st_ret (fin_ret_then ?_)))
  have hq_ := Option.some.inj hp
  have hr0_ := hq_
  subst hr0_
  refine fin_ret [.tmp 6] [.bool false] rfl rfl (fun w_ hM => (.tmp rfl .nil)) (fun w_ hM => ?_)
  exact ⟨trivial, rfl, hM⟩
 ·
  have hp := cnd_f hc1 hp
  refine st_skip (fin_then ?_)
  refine st_join1 (σ := Unit) (L := fun _ => []) (N := fun _ => Mem w0 (Fz F W :: cs)) (I := fun _ => (slices_EqualFunc_api_Item_api_Item_api_Item_api_Item_v2_j1 = some t9001)) ?_ ?_
  ·
   rintro _ hp
   unfold slices_EqualFunc_api_Item_api_Item_api_Item_api_Item_v2_j1 at hp
   refine st_seq (st_region [oF 0] (by rfl) ?_)
   refine oQ [oF 0] [(6, .bool true)] (by kernel_rfl) ?_
   refine ops_nil (fin_then (st_ret ?_))
   have hq_ := Option.some.inj hp
   have hr0_ := hq_
   subst hr0_
   refine fin_ret [.tmp 6] [.bool true] rfl rfl (fun w_ hM => (.tmp rfl .nil)) (fun w_ hM => ?_)
   exact ⟨trivial, rfl, hM⟩
  ·
   intro HJ1
   refine st_seq (st_seq (st_region [oF 0, oF 1, oF 2] (by rfl) ?_))
   refine oQ [oF 0, oF 1, oF 2] [(17, vI 0), (16, vI (s1_1.length : Int)), (15, sl A_s1 s1_1 c_s1), (1, sl A_s2 s2_1 c_s2), (2, .func (.func 80) #[] #[])] (by kernel_rfl) ?_
   refine ops_nil (fin_then (st_block ?_))
   obtain ⟨r2, hl2, hk2⟩ := obind hp
   refine st_loopP (σ := Int) (ρ := (Bool ⊕ Unit)) (γ := Unit) hl2 () (fun s_ g_ => match s_, g_ with | i2, _ => [(1, sl A_s2 s2_1 c_s2), (2, .func (.func 80) #[] #[]), (15, sl A_s1 s1_1 c_s1), (16, vI (s1_1.length : Int)), (17, vI i2)]) (fun s_ g_ => match s_, g_ with | i2, _ => Mem w0 (Fz F W :: cs)) (fun s_ g_ => match s_, g_ with | i2, _ => True) trivial (look_has ⟨rfl, rfl, rfl, rfl, rfl, trivial⟩) (fun w_ hM => hM) ?_
   rintro i2 _ o2 - hs_ hd2
   have hp : (slices_EqualFunc_api_Item_api_Item_api_Item_api_Item_v2_l2 s1_1 s2_1) i2 = some o2 := hs_
   clear hs_
   unfold slices_EqualFunc_api_Item_api_Item_api_Item_api_Item_v2_l2 at hp
   refine st_seq (st_region [oF 0] (by rfl) ?_)
   refine oQ [oF 0] [(18, .bool (decide (i2 < (s1_1.length : Int)))), (1, sl A_s2 s2_1 c_s2), (2, .func (.func 80) #[] #[]), (15, sl A_s1 s1_1 c_s1), (16, vI (s1_1.length : Int)), (17, vI i2)] (by kernel_rfl) ?_
   refine ops_nil (fin_then (st_seq ?_))
   refine st_if (b := decide (i2 < (s1_1.length : Int))) rfl (fun hc3 => ?_) (fun hc3 => ?_)
   ·
    have hp := cnd_t hc3 hp
    refine st_skip (fin_then (st_seq (st_block (st_seq (st_region [oF 0, oF 1, oF 2, oF 3, oF 4, oF 5] (by rfl) ?_)))))
    refine oQ [oF 0] [(19, vI i2), (1, sl A_s2 s2_1 c_s2), (2, .func (.func 80) #[] #[]), (15, sl A_s1 s1_1 c_s1), (16, vI (s1_1.length : Int)), (17, vI i2)] (by kernel_rfl) ?_
    obtain ⟨x4, hv5, hp⟩ := obind hp
    obtain ⟨m6, hm7, hx8⟩ := idx_some hv5
    have hl11 := (List.getElem?_eq_some_iff.1 hx8).1
    obtain ⟨ad12, vs9, hA13, hr10, hq14⟩ := RdS.el h_s1 hx8
    obtain ⟨A15, c16, rfl, h17⟩ := dec_api_Item hr10
    refine ops_val (op := (.indexAddr 69 (.tmp 15) (.tmp 17))) (d := some 20) (v := .pointer (some (ad12.add (m6 * 3)))) ⟨by kernel_rfl⟩ (run_indexA hA13 Tryd.underlying69 (z := 3) (by kernel_rfl) rfl rfl hm7 hl11) ?_
    refine ops_mem (d := some 21) (an := [.v (vI x4.Ent.N), .v (vI x4.Ent.Gen), .v (sl A15 x4.Comps c16)]) (evs := [.load (ad12.add (m6 * 3)) (vI x4.Ent.N), .load ((ad12.add (m6 * 3)).add 1) (vI x4.Ent.Gen), .load ((ad12.add (m6 * 3)).add 2) (sl A15 x4.Comps c16)]) (v := .agg #[vI x4.Ent.N, vI x4.Ent.Gen, sl A15 x4.Comps c16]) ⟨by kernel_rfl⟩ (fun w_ hM hS => ⟨w_, ⟨hM.elcell 0 rfl hq14 0 rfl, hM.elcell 0 rfl hq14 1 rfl, hM.elcell 0 rfl hq14 2 rfl, rfl⟩, hM, trivial⟩) ?_
    refine ops_newB (d := some 8) [vI 0, vI 0, .slice none 0 0] 115 (fun b18 => ⟨by kernel_rfl⟩) (fun w_ hM hS => trivial) (fun b18 => ?_)
    refine oQ [oF 4] [(7, vI i2), (8, vP b18 0), (21, .agg #[vI x4.Ent.N, vI x4.Ent.Gen, sl A15 x4.Comps c16]), (1, sl A_s2 s2_1 c_s2), (2, .func (.func 80) #[] #[]), (15, sl A_s1 s1_1 c_s1), (16, vI (s1_1.length : Int)), (17, vI i2)] (by kernel_rfl) ?_
    refine ops_store (an := []) (evs := [sr b18 0 (vI x4.Ent.N), sr b18 1 (vI x4.Ent.Gen), sr b18 2 (sl A15 x4.Comps c16)]) ⟨by kernel_rfl⟩ (fun w_ hM hS => let ⟨w', he, h'⟩ := hM.evs_stores [vI x4.Ent.N, vI x4.Ent.Gen, sl A15 x4.Comps c16] 0 rfl 0 (Nat.le_of_ble_eq_true rfl); ⟨w', he, h', trivial⟩) ?_
    refine ops_nil (fin_then (st_seq (st_region [oF 0, oF 1, oF 2, oF 3, oF 4, oF 5] (by rfl) ?_)))
    refine oQ [oF 0, oF 1] [(23, vI i2), (22, sl A_s2 s2_1 c_s2), (8, vP b18 0), (1, sl A_s2 s2_1 c_s2), (2, .func (.func 80) #[] #[]), (15, sl A_s1 s1_1 c_s1), (16, vI (s1_1.length : Int)), (17, vI i2)] (by kernel_rfl) ?_
    obtain ⟨x19, hv20, hp⟩ := obind hp
    obtain ⟨m21, hm22, hx23⟩ := idx_some hv20
    have hl26 := (List.getElem?_eq_some_iff.1 hx23).1
    obtain ⟨ad27, vs24, hA28, hr25, hq29⟩ := RdS.el h_s2 hx23
    obtain ⟨A30, c31, rfl, h32⟩ := dec_api_Item hr25
    refine ops_val (op := (.indexAddr 69 (.tmp 22) (.tmp 23))) (d := some 24) (v := .pointer (some (ad27.add (m21 * 3)))) ⟨by kernel_rfl⟩ (run_indexA hA28 Tryd.underlying69 (z := 3) (by kernel_rfl) rfl rfl hm22 hl26) ?_
    refine ops_mem (d := some 25) (an := [.v (vI x19.Ent.N), .v (vI x19.Ent.Gen), .v (sl A30 x19.Comps c31)]) (evs := [.load (ad27.add (m21 * 3)) (vI x19.Ent.N), .load ((ad27.add (m21 * 3)).add 1) (vI x19.Ent.Gen), .load ((ad27.add (m21 * 3)).add 2) (sl A30 x19.Comps c31)]) (v := .agg #[vI x19.Ent.N, vI x19.Ent.Gen, sl A30 x19.Comps c31]) ⟨by kernel_rfl⟩ (fun w_ hM hS => ⟨w_, ⟨hM.elcell 1 rfl hq29 0 rfl, hM.elcell 1 rfl hq29 1 rfl, hM.elcell 1 rfl hq29 2 rfl, rfl⟩, hM, trivial⟩) ?_
    refine ops_newB (d := some 9) [vI 0, vI 0, .slice none 0 0] 115 (fun b33 => ⟨by kernel_rfl⟩) (fun w_ hM hS => trivial) (fun b33 => ?_)
    refine ops_store (an := []) (evs := [sr b33 0 (vI x19.Ent.N), sr b33 1 (vI x19.Ent.Gen), sr b33 2 (sl A30 x19.Comps c31)]) ⟨by kernel_rfl⟩ (fun w_ hM hS => let ⟨w', he, h'⟩ := hM.evs_stores [vI x19.Ent.N, vI x19.Ent.Gen, sl A30 x19.Comps c31] 0 rfl 0 (Nat.le_of_ble_eq_true rfl); ⟨w', he, h', trivial⟩) ?_
    refine ops_nil (fin_then (st_seq (st_region [oF 0, oF 1, oF 2, oF 3, oF 4] (by rfl) ?_)))
    refine oQ [oF 0] [(26, .func (.func 80) #[] #[]), (9, vP b33 0), (8, vP b18 0), (1, sl A_s2 s2_1 c_s2), (2, .func (.func 80) #[] #[]), (15, sl A_s1 s1_1 c_s1), (16, vI (s1_1.length : Int)), (17, vI i2)] (by kernel_rfl) ?_
    refine ops_mem (d := some 27) (an := [.v (vI x4.Ent.N), .v (vI x4.Ent.Gen), .v (sl A15 x4.Comps c16)]) (evs := [ld b18 0 (vI x4.Ent.N), ld b18 1 (vI x4.Ent.Gen), ld b18 2 (sl A15 x4.Comps c16)]) (v := .agg #[vI x4.Ent.N, vI x4.Ent.Gen, sl A15 x4.Comps c16]) ⟨by kernel_rfl⟩ (fun w_ hM hS => ⟨w_, ⟨hM.cell 1 rfl rfl, hM.cell 1 rfl rfl, hM.cell 1 rfl rfl, rfl⟩, hM, trivial⟩) ?_
    refine ops_mem (d := some 28) (an := [.v (vI x19.Ent.N), .v (vI x19.Ent.Gen), .v (sl A30 x19.Comps c31)]) (evs := [ld b33 0 (vI x19.Ent.N), ld b33 1 (vI x19.Ent.Gen), ld b33 2 (sl A30 x19.Comps c31)]) (v := .agg #[vI x19.Ent.N, vI x19.Ent.Gen, sl A30 x19.Comps c31]) ⟨by kernel_rfl⟩ (fun w_ hM hS => ⟨w_, ⟨hM.cell 0 rfl rfl, hM.cell 0 rfl rfl, hM.cell 0 rfl rfl, rfl⟩, hM, trivial⟩) ?_
    obtain ⟨x34, hv35, hp⟩ := obind hp
    refine ops_callI (σ := Unit) (d := some 29) (f := 80) (args := #[.agg #[vI x4.Ent.N, vI x4.Ent.Gen, sl A15 x4.Comps c16], .agg #[vI x19.Ent.N, vI x19.Ent.Gen, sl A30 x19.Comps c31]]) (v := (fun _ => .bool x34)) (I := (fun _ => True)) (M' := (fun _ => Mem w0 (.blk b33 [vI x19.Ent.N, vI x19.Ent.Gen, sl A30 x19.Comps c31] 115 :: .blk b18 [vI x4.Ent.N, vI x4.Ent.Gen, sl A15 x4.Comps c16] 115 :: Fz F W :: cs))) ⟨by kernel_rfl⟩ (fun w_ hM hS => (world_Same_1_ok w0 w_ (.blk b33 [vI x19.Ent.N, vI x19.Ent.Gen, sl A30 x19.Comps c31] 115 :: .blk b18 [vI x4.Ent.N, vI x4.Ent.Gen, sl A15 x4.Comps c16] 115 :: cs) F W x4.Ent.N x4.Ent.Gen A15 c16 x4.Comps x19.Ent.N x19.Ent.Gen A30 c31 x19.Comps (hM.pick 3 [2, 0, 1] (by kernel_rfl) (by decide) rfl) h17 h32 x34 hv35).mono (by rintro e w' ⟨-, rfl, h'⟩; have h' : Mem w0 (.blk b33 [vI x19.Ent.N, vI x19.Ent.Gen, sl A30 x19.Comps c31] 115 :: .blk b18 [vI x4.Ent.N, vI x4.Ent.Gen, sl A15 x4.Comps c16] 115 :: Fz F W :: cs) w' := (h'.pick 3 [1, 2, 0] (by kernel_rfl) (by decide) rfl); exact ⟨(), trivial, rfl, h', trivial⟩)) ?_
    rintro _ -
    refine oQ [oF 4] [(30, .bool (!x34)), (1, sl A_s2 s2_1 c_s2), (2, .func (.func 80) #[] #[]), (15, sl A_s1 s1_1 c_s1), (16, vI (s1_1.length : Int)), (17, vI i2)] (by kernel_rfl) ?_
    refine ops_nil (fin_then ?_)
    refine st_if (b := !x34) rfl (fun hc36 => ?_) (fun hc36 => ?_)
    ·
     have hp := cnd_t hc36 hp
     refine st_seq (st_region [oF 0] (by rfl) ?_)
     refine oQ [oF 0] [(6, .bool false)] (by kernel_rfl) ?_
     refine ops_nil (fin_then (st_ret (fin_ret_block (fin_ret_then (fin_ret_then (fin_ret_block (fin_ret_then ?_)))))))
     obtain hq_ := Option.some.inj hp
     subst hq_
     obtain hq_ := hd2 _ rfl
     subst hq_
     have hp : some false = some t9001 := hk2
     have hq_ := Option.some.inj hp
     have hr0_ := hq_
     subst hr0_
     refine fin_ret [.tmp 6] [.bool false] rfl rfl (fun w_ hM => (.tmp rfl .nil)) (fun w_ hM => ?_)
     exact ⟨trivial, rfl, hM.pick 3 [2] (by kernel_rfl) (by decide) rfl⟩
    ·
     have hp := cnd_f hc36 hp
     refine st_skip (fin_block (fin_then (st_region [oF 0, oF 1] (by rfl) ?_)))
     refine oQ [oF 0, oF 1] [(17, vI (IntKind.i64.wrap (i2 + 1))), (1, sl A_s2 s2_1 c_s2), (2, .func (.func 80) #[] #[]), (15, sl A_s1 s1_1 c_s1), (16, vI (s1_1.length : Int))] (by kernel_rfl) ?_
     refine ops_nil ?_
     exact fin_again (IntKind.i64.wrap (i2 + 1)) () (Option.some.inj hp).symm trivial (look_has ⟨rfl, rfl, rfl, rfl, rfl, trivial⟩) (fun w_ hM => hM.pick 3 [2] (by kernel_rfl) (by decide) rfl)
   ·
    have hp := cnd_f hc3 hp
    refine st_exit (fin_exit_then (fin_exit_then (fin_exit ?_)))
    obtain hq_ := Option.some.inj hp
    subst hq_
    obtain hq_ := hd2 _ rfl
    subst hq_
    have hp : slices_EqualFunc_api_Item_api_Item_api_Item_api_Item_v2_j1 = some t9001 := hk2
    exact fin_join HJ1 () hp (look_has trivial) (fun w_ hM => hM)
theorem world_Same_ok (w0 w : World) (cs : List Chunk) (F : Nat → Prop) (W : World) (A_a_0 : Option Addr) (c_a_0 : Nat) (a_0 : List api_Kind) (A_a_1 : Option Addr) (c_a_1 : Nat) (a_1 : List Int) (A_a_2 : Option Addr) (c_a_2 : Nat) (a_2 : List api_Item) (A_b_0 : Option Addr) (c_b_0 : Nat) (b_0 : List api_Kind) (A_b_1 : Option Addr) (c_b_1 : Nat) (b_1 : List Int) (A_b_2 : Option Addr) (c_b_2 : Nat) (b_2 : List api_Item) (hM0 : Mem w0 (Fz F W :: cs) w) (h_a_0 : RdS R_api_Kind F W A_a_0 c_a_0 a_0) (h_a_1 : RdS (Rep.int .i64) F W A_a_1 c_a_1 a_1) (h_a_2 : RdS R_api_Item F W A_a_2 c_a_2 a_2) (h_b_0 : RdS R_api_Kind F W A_b_0 c_b_0 b_0) (h_b_1 : RdS (Rep.int .i64) F W A_b_1 c_b_1 b_1) (h_b_2 : RdS R_api_Item F W A_b_2 c_b_2 b_2) (t9001 : Bool) (hp : world_Same a_0 a_1 a_2 b_0 b_1 b_2 = some t9001) : Calls Tryd.prog 49 #[.agg #[sl A_a_0 a_0 c_a_0, sl A_a_1 a_1 c_a_1, sl A_a_2 a_2 c_a_2], .agg #[sl A_b_0 b_0 c_b_0, sl A_b_1 b_1 c_b_1, sl A_b_2 b_2 c_b_2]] w fun e w' => (True) ∧ e = .returned (.bool t9001) ∧ Mem w0 (Fz F W :: cs) w' := by
 unfold world_Same at hp
 refine sx_calls Tryd.func49 rfl (n := 24) (by kernel_rfl) (l := [(0, .agg #[sl A_a_0 a_0 c_a_0, sl A_a_1 a_1 c_a_1, sl A_a_2 a_2 c_a_2]), (1, .agg #[sl A_b_0 b_0 c_b_0, sl A_b_1 b_1 c_b_1, sl A_b_2 b_2 c_b_2])]) rfl (by rfl) hM0 ?_
 refine st_seq (st_region [oF 0, oF 1, oF 2] (by rfl) ?_)
 refine ops_newB (d := some 2) [sl A_a_0 a_0 c_a_0, sl A_a_1 a_1 c_a_1, sl A_a_2 a_2 c_a_2] 71 (fun b1 => ⟨by kernel_rfl⟩) (fun w_ hM hS => trivial) (fun b1 => ?_)
 refine ops_newB (d := some 3) [sl A_b_0 b_0 c_b_0, sl A_b_1 b_1 c_b_1, sl A_b_2 b_2 c_b_2] 71 (fun b2 => ⟨by kernel_rfl⟩) (fun w_ hM hS => trivial) (fun b2 => ?_)
 refine oQ [oF 2] [(3, vP b2 0), (2, vP b1 0)] (by kernel_rfl) ?_
 refine ops_nil (fin_then ?_)
 refine st_join1 (σ := Bool) (L := fun x_ => match x_ with | t3 => [(4, .bool t3)]) (N := fun x_ => match x_ with | t3 => Mem w0 (Fz F W :: cs)) (I := fun x_ => match x_ with | t3 => (world_Same_j1 t3 = some t9001)) ?_ ?_
 ·
  rintro t3 hp
  unfold world_Same_j1 at hp
  refine st_ret ?_
  have hq_ := Option.some.inj hp
  have hr0_ := hq_
  subst hr0_
  refine fin_ret [.tmp 4] [.bool t3] rfl rfl (fun w_ hM => (.tmp rfl .nil)) (fun w_ hM => ?_)
  exact ⟨trivial, rfl, hM⟩
 ·
  intro HJ1
  refine st_seq (st_region [oF 0, oF 1, oF 2, oF 3, oF 4, oF 5, oF 6, oF 7, oF 8, oF 9, oF 10, oF 11, oF 12, oF 13, oF 14, oF 15, oF 16, oF 17, oF 18, oF 19] (by rfl) ?_)
  refine oQ [oF 0] [(5, vP b1 0), (3, vP b2 0), (2, vP b1 0)] (by kernel_rfl) ?_
  refine ops_mem (d := some 6) (an := [.v (sl A_a_0 a_0 c_a_0)]) (evs := [ld b1 0 (sl A_a_0 a_0 c_a_0)]) (v := sl A_a_0 a_0 c_a_0) ⟨by kernel_rfl⟩ (fun w_ hM hS => ⟨w_, ⟨hM.cell 1 rfl rfl, rfl⟩, hM, trivial⟩) ?_
  refine oQ [oF 2] [(7, vP b2 0), (6, sl A_a_0 a_0 c_a_0), (3, vP b2 0), (2, vP b1 0)] (by kernel_rfl) ?_
  refine ops_mem (d := some 8) (an := [.v (sl A_b_0 b_0 c_b_0)]) (evs := [ld b2 0 (sl A_b_0 b_0 c_b_0)]) (v := sl A_b_0 b_0 c_b_0) ⟨by kernel_rfl⟩ (fun w_ hM hS => ⟨w_, ⟨hM.cell 0 rfl rfl, rfl⟩, hM, trivial⟩) ?_
  obtain ⟨x4, hv5, hp⟩ := obind hp
  refine ops_callI (σ := Unit) (d := some 9) (f := 35) (args := #[sl A_a_0 a_0 c_a_0, sl A_b_0 b_0 c_b_0]) (v := (fun _ => .bool x4)) (I := (fun _ => True)) (M' := (fun _ => Mem w0 (.blk b2 [sl A_b_0 b_0 c_b_0, sl A_b_1 b_1 c_b_1, sl A_b_2 b_2 c_b_2] 71 :: .blk b1 [sl A_a_0 a_0 c_a_0, sl A_a_1 a_1 c_a_1, sl A_a_2 a_2 c_a_2] 71 :: Fz F W :: cs))) ⟨by kernel_rfl⟩ (fun w_ hM hS => (kind_Same_ok w0 w_ (.blk b2 [sl A_b_0 b_0 c_b_0, sl A_b_1 b_1 c_b_1, sl A_b_2 b_2 c_b_2] 71 :: .blk b1 [sl A_a_0 a_0 c_a_0, sl A_a_1 a_1 c_a_1, sl A_a_2 a_2 c_a_2] 71 :: cs) F W A_a_0 c_a_0 a_0 A_b_0 c_b_0 b_0 (hM.pick 3 [2, 0, 1] (by kernel_rfl) (by decide) rfl) h_a_0 h_b_0 x4 hv5).mono (by rintro e w' ⟨-, rfl, h'⟩; have h' : Mem w0 (.blk b2 [sl A_b_0 b_0 c_b_0, sl A_b_1 b_1 c_b_1, sl A_b_2 b_2 c_b_2] 71 :: .blk b1 [sl A_a_0 a_0 c_a_0, sl A_a_1 a_1 c_a_1, sl A_a_2 a_2 c_a_2] 71 :: Fz F W :: cs) w' := (h'.pick 3 [1, 2, 0] (by kernel_rfl) (by decide) rfl); exact ⟨(), trivial, rfl, h', trivial⟩)) ?_
  rintro _ -
  refine oQ [oF 5] [(10, .bool x4), (3, vP b2 0), (2, vP b1 0)] (by kernel_rfl) ?_
  refine ops_bool (t := x4) (l1 := [(10, .bool true), (3, vP b2 0), (2, vP b1 0)]) (l2 := [(10, .bool false), (3, vP b2 0), (2, vP b1 0)]) (fun h => by rw [h]) (fun h => by rw [h]) (fun hc6 => ?_) (fun hc6 => ?_)
  ·
   have hp := cnd_t hc6 hp
   refine oQ [oF 6] [(11, vP b1 1), (10, .bool true), (3, vP b2 0), (2, vP b1 0)] (by kernel_rfl) ?_
   refine ops_mem (d := some 12) (an := [.v (sl A_a_1 a_1 c_a_1)]) (evs := [ld b1 1 (sl A_a_1 a_1 c_a_1)]) (v := sl A_a_1 a_1 c_a_1) ⟨by kernel_rfl⟩ (fun w_ hM hS => ⟨w_, ⟨hM.cell 1 rfl rfl, rfl⟩, hM, trivial⟩) ?_
   refine oQ [oF 8] [(13, vP b2 1), (12, sl A_a_1 a_1 c_a_1), (10, .bool true), (3, vP b2 0), (2, vP b1 0)] (by kernel_rfl) ?_
   refine ops_mem (d := some 14) (an := [.v (sl A_b_1 b_1 c_b_1)]) (evs := [ld b2 1 (sl A_b_1 b_1 c_b_1)]) (v := sl A_b_1 b_1 c_b_1) ⟨by kernel_rfl⟩ (fun w_ hM hS => ⟨w_, ⟨hM.cell 0 rfl rfl, rfl⟩, hM, trivial⟩) ?_
   obtain ⟨x7, hv8, hp⟩ := obind hp
   refine ops_callI (σ := Unit) (d := some 15) (f := 15) (args := #[sl A_a_1 a_1 c_a_1, sl A_b_1 b_1 c_b_1]) (v := (fun _ => .bool x7)) (I := (fun _ => True)) (M' := (fun _ => Mem w0 (.blk b2 [sl A_b_0 b_0 c_b_0, sl A_b_1 b_1 c_b_1, sl A_b_2 b_2 c_b_2] 71 :: .blk b1 [sl A_a_0 a_0 c_a_0, sl A_a_1 a_1 c_a_1, sl A_a_2 a_2 c_a_2] 71 :: Fz F W :: cs))) ⟨by kernel_rfl⟩ (fun w_ hM hS => (slices_Equal_int_int_ok w0 w_ (.blk b2 [sl A_b_0 b_0 c_b_0, sl A_b_1 b_1 c_b_1, sl A_b_2 b_2 c_b_2] 71 :: .blk b1 [sl A_a_0 a_0 c_a_0, sl A_a_1 a_1 c_a_1, sl A_a_2 a_2 c_a_2] 71 :: cs) F W A_a_1 c_a_1 a_1 A_b_1 c_b_1 b_1 (hM.pick 3 [2, 0, 1] (by kernel_rfl) (by decide) rfl) h_a_1 h_b_1 x7 hv8).mono (by rintro e w' ⟨-, rfl, h'⟩; have h' : Mem w0 (.blk b2 [sl A_b_0 b_0 c_b_0, sl A_b_1 b_1 c_b_1, sl A_b_2 b_2 c_b_2] 71 :: .blk b1 [sl A_a_0 a_0 c_a_0, sl A_a_1 a_1 c_a_1, sl A_a_2 a_2 c_a_2] 71 :: Fz F W :: cs) w' := (h'.pick 3 [1, 2, 0] (by kernel_rfl) (by decide) rfl); exact ⟨(), trivial, rfl, h', trivial⟩)) ?_
   rintro _ -
   refine oQ [oF 11, oF 12] [(17, .bool x7), (3, vP b2 0), (2, vP b1 0)] (by kernel_rfl) ?_
   refine ops_bool (t := x7) (l1 := [(17, .bool true), (3, vP b2 0), (2, vP b1 0)]) (l2 := [(17, .bool false), (3, vP b2 0), (2, vP b1 0)]) (fun h => by rw [h]) (fun h => by rw [h]) (fun hc9 => ?_) (fun hc9 => ?_)
   ·
    have hp := cnd_t hc9 hp
    refine oQ [oF 13] [(18, vP b1 2), (17, .bool true), (3, vP b2 0)] (by kernel_rfl) ?_
    refine ops_mem (d := some 19) (an := [.v (sl A_a_2 a_2 c_a_2)]) (evs := [ld b1 2 (sl A_a_2 a_2 c_a_2)]) (v := sl A_a_2 a_2 c_a_2) ⟨by kernel_rfl⟩ (fun w_ hM hS => ⟨w_, ⟨hM.cell 1 rfl rfl, rfl⟩, hM, trivial⟩) ?_
    refine oQ [oF 15] [(20, vP b2 2), (19, sl A_a_2 a_2 c_a_2), (17, .bool true)] (by kernel_rfl) ?_
    refine ops_mem (d := some 21) (an := [.v (sl A_b_2 b_2 c_b_2)]) (evs := [ld b2 2 (sl A_b_2 b_2 c_b_2)]) (v := sl A_b_2 b_2 c_b_2) ⟨by kernel_rfl⟩ (fun w_ hM hS => ⟨w_, ⟨hM.cell 0 rfl rfl, rfl⟩, hM, trivial⟩) ?_
    obtain ⟨x10, hv11, hp⟩ := obind hp
    refine ops_callI (σ := Unit) (d := some 22) (f := 78) (args := #[sl A_a_2 a_2 c_a_2, sl A_b_2 b_2 c_b_2, .func (.func 80) #[] #[]]) (v := (fun _ => .bool x10)) (I := (fun _ => True)) (M' := (fun _ => Mem w0 (.blk b2 [sl A_b_0 b_0 c_b_0, sl A_b_1 b_1 c_b_1, sl A_b_2 b_2 c_b_2] 71 :: .blk b1 [sl A_a_0 a_0 c_a_0, sl A_a_1 a_1 c_a_1, sl A_a_2 a_2 c_a_2] 71 :: Fz F W :: cs))) ⟨by kernel_rfl⟩ (fun w_ hM hS => (slices_EqualFunc_api_Item_api_Item_api_Item_api_Item_v2_ok w0 w_ (.blk b2 [sl A_b_0 b_0 c_b_0, sl A_b_1 b_1 c_b_1, sl A_b_2 b_2 c_b_2] 71 :: .blk b1 [sl A_a_0 a_0 c_a_0, sl A_a_1 a_1 c_a_1, sl A_a_2 a_2 c_a_2] 71 :: cs) F W A_a_2 c_a_2 a_2 A_b_2 c_b_2 b_2 (hM.pick 3 [2, 0, 1] (by kernel_rfl) (by decide) rfl) h_a_2 h_b_2 x10 hv11).mono (by rintro e w' ⟨-, rfl, h'⟩; have h' : Mem w0 (.blk b2 [sl A_b_0 b_0 c_b_0, sl A_b_1 b_1 c_b_1, sl A_b_2 b_2 c_b_2] 71 :: .blk b1 [sl A_a_0 a_0 c_a_0, sl A_a_1 a_1 c_a_1, sl A_a_2 a_2 c_a_2] 71 :: Fz F W :: cs) w' := (h'.pick 3 [1, 2, 0] (by kernel_rfl) (by decide) rfl); exact ⟨(), trivial, rfl, h', trivial⟩)) ?_
    rintro _ -
    refine oQ [oF 18, oF 19] [(4, .bool x10)] (by kernel_rfl) ?_
    refine ops_nil ?_
    exact fin_join HJ1 x10 hp (look_has ⟨rfl, trivial⟩) (fun w_ hM => hM.pick 3 [2] (by kernel_rfl) (by decide) rfl)
   ·
    have hp := cnd_f hc9 hp
    refine oQ [oF 13, oF 14, oF 15, oF 16, oF 17, oF 18, oF 19] [(4, .bool false)] (by kernel_rfl) ?_
    refine ops_nil ?_
    exact fin_join HJ1 false hp (look_has ⟨rfl, trivial⟩) (fun w_ hM => hM.pick 3 [2] (by kernel_rfl) (by decide) rfl)
  ·
   have hp := cnd_f hc6 hp
   refine oQ [oF 6, oF 7, oF 8, oF 9, oF 10, oF 11, oF 12, oF 13, oF 14, oF 15, oF 16, oF 17, oF 18, oF 19] [(4, .bool false)] (by kernel_rfl) ?_
   refine ops_nil ?_
   exact fin_join HJ1 false hp (look_has ⟨rfl, trivial⟩) (fun w_ hM => hM.pick 3 [2] (by kernel_rfl) (by decide) rfl)
end Go.Proofs.YthcbepikeinglaaDoor.N
