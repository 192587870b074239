/- The Go functions come to what the plain functions tell. No condition. -/
import Derived.Test.YthcbepikeinglaaDoorProg
import Derived.Test.YthcbepikeinglaaDoorFnN
import Derived.Test.YthcbepikeinglaaDoorExStr
namespace Go.Proofs.YthcbepikeinglaaDoor.N
open Go Go.RowKit Go.Proofs.YthcbepikeinglaaDoor.Sx
set_option linter.unusedVariables false
set_option maxHeartbeats 4000000
set_option maxRecDepth 100000
theorem tourref3_Described_1_ok (w0 w : World) (cs : List Chunk) (F : Nat → Prop) (W : World) (s : ByteArray) (b_p1 : Nat) (A_p1_0 : Option Addr) (c_p1_0 : Nat) (p1_0 : List Int) (y_p1_0 : List Value) (hM0 : Mem w0 (.blk b_p1 [sl A_p1_0 p1_0 c_p1_0] 33 :: ow A_p1_0 p1_0 c_p1_0 3 1 y_p1_0 :: Fz F W :: cs) w) (h_p1_0 : RepL (Rep.int .i64) F W p1_0 y_p1_0) (l9003 : List Int) (hp : tourref3_Described_1 s p1_0 = some l9003) : Calls Tryd.prog 83 #[.string s, vP b_p1 0] w fun e w' => ∃ (A9001 : Option Addr), ∃ (c9002 : Nat), ∃ (y9004 : List Value), ∃ (F9006 : Nat → Prop), ∃ (W9007 : World), ((RepL (Rep.int .i64) F9006 W9007 l9003 y9004) ∧ (Ext w0 F W F9006 W9007)) ∧ e = .returned (.tuple #[]) ∧ Mem w0 (.blk b_p1 [sl A9001 l9003 c9002] 33 :: ow A9001 l9003 c9002 3 1 y9004 :: Fz F9006 W9007 :: cs) w' := by
 unfold tourref3_Described_1 at hp
 refine sx_calls Tryd.func83 rfl (n := 23) (by kernel_rfl) (l := [(0, .string s), (1, vP b_p1 0)]) rfl (by rfl) hM0 ?_
 refine st_seq (st_region [oF 0, oF 1, oF 2, oF 3, oF 4, oF 5] (by rfl) ?_)
 refine ops_mem (d := some 5) (an := [.v (sl A_p1_0 p1_0 c_p1_0)]) (evs := [ld b_p1 0 (sl A_p1_0 p1_0 c_p1_0)]) (v := sl A_p1_0 p1_0 c_p1_0) ⟨by kernel_rfl⟩ (fun w_ hM hS => ⟨w_, ⟨hM.cell 0 rfl rfl, rfl⟩, hM, trivial⟩) ?_
 refine oQ [oF 1, oF 2] [(7, vI (s.size : Int)), (5, sl A_p1_0 p1_0 c_p1_0), (0, .string s), (1, vP b_p1 0)] (by kernel_rfl) ?_
 have h1 : RepL (Rep.int .i64) F W ([(s.size : Int)] : List Int) ([vI (s.size : Int)]) := (RepL.cons (R := (Rep.int .i64)) (F := F) (w := W) (vs := [vI (s.size : Int)]) (ys := []) rfl RepL.nil)
 refine ops_new (d := some 8) (o := .cells ([vI (s.size : Int)]).toArray 3) (v := fun g2 => .slice (sa g2) ([(s.size : Int)] : List Int).length 1) (M' := fun g2 => Mem w0 (orow (sa g2) ([(s.size : Int)] : List Int).length 1 3 1 ([vI (s.size : Int)]) :: .blk b_p1 [sl A_p1_0 p1_0 c_p1_0] 33 :: ow A_p1_0 p1_0 c_p1_0 3 1 y_p1_0 :: Fz F W :: cs)) (fun g2 => ⟨by kernel_rfl⟩) (fun w_ hM hS => ⟨hM.onew [vI (s.size : Int)] 3 1 1 rfl (by decide), trivial⟩) (fun g2 => ?_)
 obtain ⟨l3, hv4, hp⟩ := obind hp
 obtain ⟨he5, hb6⟩ := app_some hv4
 obtain ⟨y7, hy8⟩ : ∃ y_, y_p1_0 ++ ([vI (s.size : Int)]) = y_ := ⟨_, rfl⟩
 have h9 : RepL (Rep.int .i64) F W l3 y7 := by rw [he5, ← hy8]; exact RepL.app h_p1_0 h1
 refine ops_appendO (x := (Go.Operand.tmp 5)) (y := (Go.Operand.tmp 8)) (t := 33) (e := 3) (d := some 9) (n' := l3.length) (z := 1) (m := ([(s.size : Int)] : List Int).length) (bytes := 8) (xs' := y7) (news := ([vI (s.size : Int)])) (zv := vI 0) 2 ⟨by kernel_rfl⟩ rfl rfl Tryd.underlying33 (by kernel_rfl) (by rfl) rfl (fun w_ hM => hM.srcO 0 rfl) h1.len h1.one hb6 (by have z_ := congrArg List.length he5; rw [List.length_append] at z_; exact z_.symm) hy8 (fun _ _ _ _ hS h' => trivial) ?_
 rintro ⟨A10, c11⟩
 refine ops_store (an := []) (evs := [sr b_p1 0 (sl A10 l3 c11)]) ⟨by kernel_rfl⟩ (fun w_ hM hS => let ⟨w', he, h'⟩ := hM.evs_stores [sl A10 l3 c11] 1 rfl 0 (Nat.le_of_ble_eq_true rfl); ⟨w', he, h', trivial⟩) ?_
 refine ops_nil (fin_then (st_seq (st_region [oF 0, oF 1, oF 2, oF 3] (by rfl) ?_)))
 refine oQ [oF 0] [(10, .string s), (1, vP b_p1 0)] (by kernel_rfl) ?_
 obtain ⟨l12, hv13, hp⟩ := obind hp
 obtain ⟨hb14, he15⟩ := tobytes_some hv13
 refine ops_lawI (op := (.convert 9 132 (.tmp 10))) (d := some 11) (σ := (Nat → Prop) × World × Option Addr × Nat) (I := fun x_ => Ext w0 F W x_.1 x_.2.1 ∧ RdS (Rep.int .u8) x_.1 x_.2.1 x_.2.2.1 x_.2.2.2 l12) (v := fun x_ => sl x_.2.2.1 l12 x_.2.2.2) (M' := fun x_ => Mem w0 (orow (sa g2) ([(s.size : Int)] : List Int).length 1 3 1 ([vI (s.size : Int)]) :: .blk b_p1 [sl A10 l3 c11] 33 :: ow A10 l3 c11 3 1 y7 :: Fz x_.1 x_.2.1 :: cs)) ⟨by kernel_rfl⟩ (fun o_ w_ ho_ hM hS => ?_) ?_
 · obtain ⟨F_, W_, A_, c_, hr_, h1_, h2_, h', hb_⟩ := hM.convBytes (P := Tryd.prog) (src := 9) (dst := 132) (q := 3) rfl Tryd.underlying9 Tryd.underlying132 Tryd.underlying5 hb14
   rw [← he15] at hr_ h2_
   exact ⟨⟨F_, W_, A_, c_⟩, _, run_convV rfl hr_ o_ ho_, ⟨h1_, h2_⟩, h', trivial⟩
 rintro ⟨F16, W17, A18, c19⟩ ⟨hx20, h21⟩
 have hx20 : Ext w0 F W F16 W17 := hx20
 have h21 : RdS (Rep.int .u8) F16 W17 A18 c19 l12 := h21
 have h1 := h1.ext hx20
 have h9 := h9.ext hx20
 refine oQ [oF 2, oF 3] [(13, vI 0), (12, vI (l12.length : Int)), (11, sl A18 l12 c19), (1, vP b_p1 0)] (by kernel_rfl) ?_
 refine ops_nil (fin_then (st_block ?_))
 obtain ⟨r1, hl1, hk1⟩ := obind hp
 refine st_loopP (σ := (List Int) × Int) (ρ := (List Int)) (γ := (Option Addr) × Nat × (List Value)) hl1 (A10, c11, y7) (fun s_ g_ => match s_, g_ with | (l24, i27), (A22, c23, y25) => [(1, vP b_p1 0), (11, sl A18 l12 c19), (12, vI (l12.length : Int)), (13, vI i27)]) (fun s_ g_ => match s_, g_ with | (l24, i27), (A22, c23, y25) => Mem w0 (.blk b_p1 [sl A22 l24 c23] 33 :: ow A22 l24 c23 3 1 y25 :: Fz F16 W17 :: cs)) (fun s_ g_ => match s_, g_ with | (l24, i27), (A22, c23, y25) => (RepL (Rep.int .i64) F16 W17 l24 y25)) h9 (look_has ⟨rfl, rfl, rfl, rfl, trivial⟩) (fun w_ hM => hM.pick 4 [1, 2, 3] (by kernel_rfl) (by decide) rfl) ?_
 rintro ⟨l24, i27⟩ ⟨A22, c23, y25⟩ o1 h26 hs_ hd1
 have hp : (tourref3_Described_1_l1 l12) l24 i27 = some o1 := hs_
 clear hs_
 unfold tourref3_Described_1_l1 at hp
 refine st_seq (st_region [oF 0] (by rfl) ?_)
 refine oQ [oF 0] [(14, .bool (decide (i27 < (l12.length : Int)))), (1, vP b_p1 0), (11, sl A18 l12 c19), (12, vI (l12.length : Int)), (13, vI i27)] (by kernel_rfl) ?_
 refine ops_nil (fin_then (st_seq ?_))
 refine st_if (b := decide (i27 < (l12.length : Int))) rfl (fun hc28 => ?_) (fun hc28 => ?_)
 ·
  have hp := cnd_t hc28 hp
  refine st_skip (fin_then (st_seq (st_block (st_seq (st_region [oF 0, oF 1, oF 2] (by rfl) ?_)))))
  obtain ⟨x29, hv30, hp⟩ := obind hp
  obtain ⟨m31, hm32, hx33⟩ := idx_some hv30
  have hl36 := (List.getElem?_eq_some_iff.1 hx33).1
  obtain ⟨ad37, vs34, hA38, hr35, hq39⟩ := RdS.el h21 hx33
  obtain rfl := hr35
  refine ops_val (op := (.indexAddr 132 (.tmp 11) (.tmp 13))) (d := some 15) (v := .pointer (some (ad37.add (m31 * 1)))) ⟨by kernel_rfl⟩ (run_indexA hA38 Tryd.underlying132 (z := 1) (by kernel_rfl) rfl rfl hm32 hl36) ?_
  refine ops_mem (d := some 16) (an := [.v (.int .u8 x29)]) (evs := [.load (ad37.add (m31 * 1)) (.int .u8 x29)]) (v := .int .u8 x29) ⟨by kernel_rfl⟩ (fun w_ hM hS => ⟨w_, ⟨hM.elcell 2 rfl hq39 0 rfl, rfl⟩, hM, trivial⟩) ?_
  refine oQ [oF 2] [(4, .int .u8 x29), (1, vP b_p1 0), (11, sl A18 l12 c19), (12, vI (l12.length : Int)), (13, vI i27)] (by kernel_rfl) ?_
  refine ops_nil (fin_then (st_region [oF 0, oF 1, oF 2, oF 3, oF 4, oF 5] (by rfl) ?_))
  refine ops_mem (d := some 17) (an := [.v (sl A22 l24 c23)]) (evs := [ld b_p1 0 (sl A22 l24 c23)]) (v := sl A22 l24 c23) ⟨by kernel_rfl⟩ (fun w_ hM hS => ⟨w_, ⟨hM.cell 0 rfl rfl, rfl⟩, hM, trivial⟩) ?_
  refine oQ [oF 1, oF 2] [(19, vI (IntKind.i64.wrap x29)), (17, sl A22 l24 c23), (1, vP b_p1 0), (11, sl A18 l12 c19), (12, vI (l12.length : Int)), (13, vI i27)] (by kernel_rfl) ?_
  have h40 : RepL (Rep.int .i64) F16 W17 ([IntKind.i64.wrap x29] : List Int) ([vI (IntKind.i64.wrap x29)]) := (RepL.cons (R := (Rep.int .i64)) (F := F16) (w := W17) (vs := [vI (IntKind.i64.wrap x29)]) (ys := []) rfl RepL.nil)
  refine ops_new (d := some 20) (o := .cells ([vI (IntKind.i64.wrap x29)]).toArray 3) (v := fun g41 => .slice (sa g41) ([IntKind.i64.wrap x29] : List Int).length 1) (M' := fun g41 => Mem w0 (orow (sa g41) ([IntKind.i64.wrap x29] : List Int).length 1 3 1 ([vI (IntKind.i64.wrap x29)]) :: .blk b_p1 [sl A22 l24 c23] 33 :: ow A22 l24 c23 3 1 y25 :: Fz F16 W17 :: cs)) (fun g41 => ⟨by kernel_rfl⟩) (fun w_ hM hS => ⟨hM.onew [vI (IntKind.i64.wrap x29)] 3 1 1 rfl (by decide), trivial⟩) (fun g41 => ?_)
  obtain ⟨l42, hv43, hp⟩ := obind hp
  obtain ⟨he44, hb45⟩ := app_some hv43
  obtain ⟨y46, hy47⟩ : ∃ y_, y25 ++ ([vI (IntKind.i64.wrap x29)]) = y_ := ⟨_, rfl⟩
  have h48 : RepL (Rep.int .i64) F16 W17 l42 y46 := by rw [he44, ← hy47]; exact RepL.app h26 h40
  refine ops_appendO (x := (Go.Operand.tmp 17)) (y := (Go.Operand.tmp 20)) (t := 33) (e := 3) (d := some 21) (n' := l42.length) (z := 1) (m := ([IntKind.i64.wrap x29] : List Int).length) (bytes := 8) (xs' := y46) (news := ([vI (IntKind.i64.wrap x29)])) (zv := vI 0) 2 ⟨by kernel_rfl⟩ rfl rfl Tryd.underlying33 (by kernel_rfl) (by rfl) rfl (fun w_ hM => hM.srcO 0 rfl) h40.len h40.one hb45 (by have z_ := congrArg List.length he44; rw [List.length_append] at z_; exact z_.symm) hy47 (fun _ _ _ _ hS h' => trivial) ?_
  rintro ⟨A49, c50⟩
  refine ops_store (an := []) (evs := [sr b_p1 0 (sl A49 l42 c50)]) ⟨by kernel_rfl⟩ (fun w_ hM hS => let ⟨w', he, h'⟩ := hM.evs_stores [sl A49 l42 c50] 1 rfl 0 (Nat.le_of_ble_eq_true rfl); ⟨w', he, h', trivial⟩) ?_
  refine ops_nil (fin_block (fin_then (st_region [oF 0, oF 1] (by rfl) ?_)))
  refine oQ [oF 0, oF 1] [(13, vI (IntKind.i64.wrap (i27 + 1))), (1, vP b_p1 0), (11, sl A18 l12 c19), (12, vI (l12.length : Int))] (by kernel_rfl) ?_
  refine ops_nil ?_
  exact fin_again (l42, IntKind.i64.wrap (i27 + 1)) (A49, c50, y46) (Option.some.inj hp).symm h48 (look_has ⟨rfl, rfl, rfl, rfl, trivial⟩) (fun w_ hM => hM.pick 4 [1, 2, 3] (by kernel_rfl) (by decide) rfl)
 ·
  have hp := cnd_f hc28 hp
  refine st_exit (fin_exit_then (fin_exit_then (fin_exit ?_)))
  obtain hq_ := Option.some.inj hp
  subst hq_
  obtain hq_ := hd1 _ rfl
  subst hq_
  have hp : some l24 = some l9003 := hk1
  have hq_ := Option.some.inj hp
  have hr0_ := hq_
  subst hr0_
  refine fin_ret [] [] rfl rfl (fun w_ hM => .nil) (fun w_ hM => ?_)
  exact ⟨A22, c23, y25, F16, W17, ⟨h26, hx20⟩, rfl, hM⟩
theorem tourref3_Described_ok (w0 w : World) (cs : List Chunk) (F : Nat → Prop) (W : World) (A_w_0 : Option Addr) (c_w_0 : Nat) (w_0 : List api_Kind) (A_w_1 : Option Addr) (c_w_1 : Nat) (w_1 : List Int) (A_w_2 : Option Addr) (c_w_2 : Nat) (w_2 : List api_Item) (hM0 : Mem w0 (Fz F W :: cs) w) (h_w_0 : RdS R_api_Kind F W A_w_0 c_w_0 w_0) (h_w_1 : RdS (Rep.int .i64) F W A_w_1 c_w_1 w_1) (h_w_2 : RdS R_api_Item F W A_w_2 c_w_2 w_2) (l9003 : List Int) (hp : tourref3_Described w_0 w_1 w_2 = some l9003) : Calls Tryd.prog 51 #[.agg #[sl A_w_0 w_0 c_w_0, sl A_w_1 w_1 c_w_1, sl A_w_2 w_2 c_w_2]] w fun e w' => ∃ (A9001 : Option Addr), ∃ (c9002 : Nat), ∃ (y9004 : List Value), ∃ (F9006 : Nat → Prop), ∃ (W9007 : World), ((RepL (Rep.int .i64) F9006 W9007 l9003 y9004) ∧ (Ext w0 F W F9006 W9007)) ∧ e = .returned (sl A9001 l9003 c9002) ∧ Mem w0 (ow A9001 l9003 c9002 3 1 y9004 :: Fz F9006 W9007 :: cs) w' := by
 unfold tourref3_Described at hp
 refine sx_calls Tryd.func51 rfl (n := 112) (by kernel_rfl) (l := [(0, .agg #[sl A_w_0 w_0 c_w_0, sl A_w_1 w_1 c_w_1, sl A_w_2 w_2 c_w_2])]) rfl (by rfl) hM0 ?_
 refine st_seq (st_region [oF 0, oF 1] (by rfl) ?_)
 refine ops_newB (d := some 1) [sl A_w_0 w_0 c_w_0, sl A_w_1 w_1 c_w_1, sl A_w_2 w_2 c_w_2] 71 (fun b1 => ⟨by kernel_rfl⟩) (fun w_ hM hS => trivial) (fun b1 => ?_)
 refine oQ [oF 1] [(1, vP b1 0)] (by kernel_rfl) ?_
 refine ops_nil (fin_then (st_seq (st_region [oF 0] (by rfl) ?_)))
 refine ops_newB (d := some 3) [.slice none 0 0] 33 (fun b2 => ⟨by kernel_rfl⟩) (fun w_ hM hS => trivial) (fun b2 => ?_)
 refine ops_nil (fin_then (st_seq (st_region [oF 0, oF 1] (by rfl) ?_)))
 refine oQ [oF 0, oF 1] [(4, .func (.func 83) #[] #[vP b2 0]), (3, vP b2 0), (1, vP b1 0)] (by kernel_rfl) ?_
 refine ops_nil (fin_then (st_seq (st_region [oF 0, oF 1, oF 2, oF 3, oF 4, oF 5, oF 6] (by rfl) ?_)))
 refine ops_mem (d := some 14) (an := [.v (.slice none 0 0)]) (evs := [ld b2 0 (.slice none 0 0)]) (v := .slice none 0 0) ⟨by kernel_rfl⟩ (fun w_ hM hS => ⟨w_, ⟨hM.cell 0 rfl rfl, rfl⟩, hM, trivial⟩) ?_
 refine oQ [oF 1] [(15, vP b1 0), (14, .slice none 0 0), (4, .func (.func 83) #[] #[vP b2 0]), (3, vP b2 0), (1, vP b1 0)] (by kernel_rfl) ?_
 refine ops_mem (d := some 16) (an := [.v (sl A_w_0 w_0 c_w_0)]) (evs := [ld b1 0 (sl A_w_0 w_0 c_w_0)]) (v := sl A_w_0 w_0 c_w_0) ⟨by kernel_rfl⟩ (fun w_ hM hS => ⟨w_, ⟨hM.cell 1 rfl rfl, rfl⟩, hM, trivial⟩) ?_
 refine oQ [oF 3] [(17, vI (w_0.length : Int)), (14, .slice none 0 0), (4, .func (.func 83) #[] #[vP b2 0]), (3, vP b2 0), (1, vP b1 0)] (by kernel_rfl) ?_
 have h3 : RepL (Rep.int .i64) F W ([(w_0.length : Int)] : List Int) ([vI (w_0.length : Int)]) := (RepL.cons (R := (Rep.int .i64)) (F := F) (w := W) (vs := [vI (w_0.length : Int)]) (ys := []) rfl RepL.nil)
 refine ops_new (d := some 18) (o := .cells ([vI (w_0.length : Int)]).toArray 3) (v := fun g4 => .slice (sa g4) ([(w_0.length : Int)] : List Int).length 1) (M' := fun g4 => Mem w0 (orow (sa g4) ([(w_0.length : Int)] : List Int).length 1 3 1 ([vI (w_0.length : Int)]) :: .blk b2 [.slice none 0 0] 33 :: .blk b1 [sl A_w_0 w_0 c_w_0, sl A_w_1 w_1 c_w_1, sl A_w_2 w_2 c_w_2] 71 :: Fz F W :: cs)) (fun g4 => ⟨by kernel_rfl⟩) (fun w_ hM hS => ⟨hM.onew [vI (w_0.length : Int)] 3 1 1 rfl (by decide), trivial⟩) (fun g4 => ?_)
 refine oQ [] [(18, .slice (sa g4) ([(w_0.length : Int)] : List Int).length 1), (14, .slice none 0 0), (4, .func (.func 83) #[] #[vP b2 0]), (3, vP b2 0), (1, vP b1 0)] (by kernel_rfl) ?_
 refine ops_conv (l' := [(18, .slice (sa g4) ([(w_0.length : Int)] : List Int).length 1), (14, .slice none 0 0), (4, .func (.func 83) #[] #[vP b2 0]), (3, vP b2 0), (1, vP b1 0)]) (M' := Mem w0 (ow none ([] : List Int) 0 3 1 [] :: orow (sa g4) ([(w_0.length : Int)] : List Int).length 1 3 1 ([vI (w_0.length : Int)]) :: .blk b2 [.slice none 0 0] 33 :: .blk b1 [sl A_w_0 w_0 c_w_0, sl A_w_1 w_1 c_w_1, sl A_w_2 w_2 c_w_2] 71 :: Fz F W :: cs)) rfl (fun w_ h => h.onil none 3 1) ?_
 obtain ⟨l5, hv6, hp⟩ := obind hp
 obtain ⟨he7, hb8⟩ := app_some hv6
 obtain ⟨y9, hy10⟩ : ∃ y_, [] ++ ([vI (w_0.length : Int)]) = y_ := ⟨_, rfl⟩
 have h11 : RepL (Rep.int .i64) F W l5 y9 := by rw [he7, ← hy10]; exact RepL.app (RepL.nil (R := (Rep.int .i64))) h3
 refine ops_appendO (x := (Go.Operand.tmp 14)) (y := (Go.Operand.tmp 18)) (t := 33) (e := 3) (d := some 19) (n' := l5.length) (z := 1) (m := ([(w_0.length : Int)] : List Int).length) (bytes := 8) (xs' := y9) (news := ([vI (w_0.length : Int)])) (zv := vI 0) 0 ⟨by kernel_rfl⟩ rfl rfl Tryd.underlying33 (by kernel_rfl) (by rfl) rfl (fun w_ hM => hM.srcO 1 rfl) h3.len h3.one hb8 (by have z_ := congrArg List.length he7; rw [List.length_append] at z_; exact z_.symm) hy10 (fun _ _ _ _ hS h' => trivial) ?_
 rintro ⟨A12, c13⟩
 refine ops_store (an := []) (evs := [sr b2 0 (sl A12 l5 c13)]) ⟨by kernel_rfl⟩ (fun w_ hM hS => let ⟨w', he, h'⟩ := hM.evs_stores [sl A12 l5 c13] 2 rfl 0 (Nat.le_of_ble_eq_true rfl); ⟨w', he, h', trivial⟩) ?_
 refine ops_nil (fin_then ?_)
 refine st_join1 (σ := (Option Addr) × Nat × (List Int) × (List Value) × (Nat → Prop) × World) (L := fun x_ => match x_ with | (A14, c15, l16, y17, F19, W20) => [(1, vP b1 0), (3, vP b2 0)]) (N := fun x_ => match x_ with | (A14, c15, l16, y17, F19, W20) => Mem w0 (.blk b1 [sl A_w_0 w_0 c_w_0, sl A_w_1 w_1 c_w_1, sl A_w_2 w_2 c_w_2] 71 :: .blk b2 [sl A14 l16 c15] 33 :: ow A14 l16 c15 3 1 y17 :: Fz F19 W20 :: cs)) (I := fun x_ => match x_ with | (A14, c15, l16, y17, F19, W20) => ((tourref3_Described_j1 w_1 w_2) l16 = some l9003) ∧ (RepL (Rep.int .i64) F19 W20 l16 y17) ∧ (Ext w0 F W F19 W20)) ?_ ?_
 ·
  rintro ⟨A14, c15, l16, y17, F19, W20⟩ ⟨hp, h18, hx1⟩
  have h_w_0 := h_w_0.ext hx1
  have h_w_1 := h_w_1.ext hx1
  have h_w_2 := h_w_2.ext hx1
  unfold tourref3_Described_j1 at hp
  refine st_join1 (σ := (Option Addr) × Nat × (List Int) × (List Value)) (L := fun x_ => match x_ with | (A21, c22, l23, y24) => [(1, vP b1 0), (3, vP b2 0)]) (N := fun x_ => match x_ with | (A21, c22, l23, y24) => Mem w0 (.blk b1 [sl A_w_0 w_0 c_w_0, sl A_w_1 w_1 c_w_1, sl A_w_2 w_2 c_w_2] 71 :: .blk b2 [sl A21 l23 c22] 33 :: ow A21 l23 c22 3 1 y24 :: Fz F19 W20 :: cs)) (I := fun x_ => match x_ with | (A21, c22, l23, y24) => ((tourref3_Described_j2 w_2) l23 = some l9003) ∧ (RepL (Rep.int .i64) F19 W20 l23 y24)) ?_ ?_
  ·
   rintro ⟨A21, c22, l23, y24⟩ ⟨hp, h25⟩
   unfold tourref3_Described_j2 at hp
   refine st_seq (st_region [oF 0, oF 1, oF 2, oF 3, oF 4, oF 5, oF 6] (by rfl) ?_)
   refine ops_mem (d := some 66) (an := [.v (sl A21 l23 c22)]) (evs := [ld b2 0 (sl A21 l23 c22)]) (v := sl A21 l23 c22) ⟨by kernel_rfl⟩ (fun w_ hM hS => ⟨w_, ⟨hM.cell 1 rfl rfl, rfl⟩, hM, trivial⟩) ?_
   refine oQ [oF 1] [(67, vP b1 2), (66, sl A21 l23 c22), (1, vP b1 0), (3, vP b2 0)] (by kernel_rfl) ?_
   refine ops_mem (d := some 68) (an := [.v (sl A_w_2 w_2 c_w_2)]) (evs := [ld b1 2 (sl A_w_2 w_2 c_w_2)]) (v := sl A_w_2 w_2 c_w_2) ⟨by kernel_rfl⟩ (fun w_ hM hS => ⟨w_, ⟨hM.cell 0 rfl rfl, rfl⟩, hM, trivial⟩) ?_
   refine oQ [oF 3] [(69, vI (w_2.length : Int)), (66, sl A21 l23 c22), (1, vP b1 0), (3, vP b2 0)] (by kernel_rfl) ?_
   have h26 : RepL (Rep.int .i64) F19 W20 ([(w_2.length : Int)] : List Int) ([vI (w_2.length : Int)]) := (RepL.cons (R := (Rep.int .i64)) (F := F19) (w := W20) (vs := [vI (w_2.length : Int)]) (ys := []) rfl RepL.nil)
   refine ops_new (d := some 70) (o := .cells ([vI (w_2.length : Int)]).toArray 3) (v := fun g27 => .slice (sa g27) ([(w_2.length : Int)] : List Int).length 1) (M' := fun g27 => Mem w0 (orow (sa g27) ([(w_2.length : Int)] : List Int).length 1 3 1 ([vI (w_2.length : Int)]) :: .blk b1 [sl A_w_0 w_0 c_w_0, sl A_w_1 w_1 c_w_1, sl A_w_2 w_2 c_w_2] 71 :: .blk b2 [sl A21 l23 c22] 33 :: ow A21 l23 c22 3 1 y24 :: Fz F19 W20 :: cs)) (fun g27 => ⟨by kernel_rfl⟩) (fun w_ hM hS => ⟨hM.onew [vI (w_2.length : Int)] 3 1 1 rfl (by decide), trivial⟩) (fun g27 => ?_)
   obtain ⟨l28, hv29, hp⟩ := obind hp
   obtain ⟨he30, hb31⟩ := app_some hv29
   obtain ⟨y32, hy33⟩ : ∃ y_, y24 ++ ([vI (w_2.length : Int)]) = y_ := ⟨_, rfl⟩
   have h34 : RepL (Rep.int .i64) F19 W20 l28 y32 := by rw [he30, ← hy33]; exact RepL.app h25 h26
   refine ops_appendO (x := (Go.Operand.tmp 66)) (y := (Go.Operand.tmp 70)) (t := 33) (e := 3) (d := some 71) (n' := l28.length) (z := 1) (m := ([(w_2.length : Int)] : List Int).length) (bytes := 8) (xs' := y32) (news := ([vI (w_2.length : Int)])) (zv := vI 0) 3 ⟨by kernel_rfl⟩ rfl rfl Tryd.underlying33 (by kernel_rfl) (by rfl) rfl (fun w_ hM => hM.srcO 0 rfl) h26.len h26.one hb31 (by have z_ := congrArg List.length he30; rw [List.length_append] at z_; exact z_.symm) hy33 (fun _ _ _ _ hS h' => trivial) ?_
   rintro ⟨A35, c36⟩
   refine ops_store (an := []) (evs := [sr b2 0 (sl A35 l28 c36)]) ⟨by kernel_rfl⟩ (fun w_ hM hS => let ⟨w', he, h'⟩ := hM.evs_stores [sl A35 l28 c36] 2 rfl 0 (Nat.le_of_ble_eq_true rfl); ⟨w', he, h', trivial⟩) ?_
   refine ops_nil (fin_then ?_)
   refine st_join1 (σ := (Option Addr) × Nat × (List Int) × (List Value)) (L := fun x_ => match x_ with | (A37, c38, l39, y40) => [(3, vP b2 0)]) (N := fun x_ => match x_ with | (A37, c38, l39, y40) => Mem w0 (.blk b2 [sl A37 l39 c38] 33 :: ow A37 l39 c38 3 1 y40 :: Fz F19 W20 :: cs)) (I := fun x_ => match x_ with | (A37, c38, l39, y40) => (tourref3_Described_j3 l39 = some l9003) ∧ (RepL (Rep.int .i64) F19 W20 l39 y40)) ?_ ?_
   ·
    rintro ⟨A37, c38, l39, y40⟩ ⟨hp, h41⟩
    unfold tourref3_Described_j3 at hp
    refine st_seq (st_region [oF 0, oF 1] (by rfl) ?_)
    refine ops_mem (d := some 111) (an := [.v (sl A37 l39 c38)]) (evs := [ld b2 0 (sl A37 l39 c38)]) (v := sl A37 l39 c38) ⟨by kernel_rfl⟩ (fun w_ hM hS => ⟨w_, ⟨hM.cell 0 rfl rfl, rfl⟩, hM, trivial⟩) ?_
    refine oQ [oF 1] [(2, sl A37 l39 c38)] (by kernel_rfl) ?_
    refine ops_nil (fin_then (st_ret ?_))
    have hq_ := Option.some.inj hp
    have hr0_ := hq_
    subst hr0_
    refine fin_ret [.tmp 2] [sl A37 l39 c38] rfl rfl (fun w_ hM => (.tmp rfl .nil)) (fun w_ hM => ?_)
    exact ⟨A37, c38, y40, F19, W20, ⟨h41, hx1⟩, rfl, hM.pick 3 [1, 2] (by kernel_rfl) (by decide) rfl⟩
   ·
    intro HJ3
    refine st_seq (st_seq (st_region [oF 0, oF 1, oF 2, oF 3] (by rfl) ?_))
    refine oQ [oF 0] [(72, vP b1 2), (3, vP b2 0)] (by kernel_rfl) ?_
    refine ops_mem (d := some 73) (an := [.v (sl A_w_2 w_2 c_w_2)]) (evs := [ld b1 2 (sl A_w_2 w_2 c_w_2)]) (v := sl A_w_2 w_2 c_w_2) ⟨by kernel_rfl⟩ (fun w_ hM hS => ⟨w_, ⟨hM.cell 1 rfl rfl, rfl⟩, hM, trivial⟩) ?_
    refine oQ [oF 2, oF 3] [(75, vI 0), (74, vI (w_2.length : Int)), (73, sl A_w_2 w_2 c_w_2), (3, vP b2 0)] (by kernel_rfl) ?_
    refine ops_nil (fin_then (st_block ?_))
    obtain ⟨r4, hl4, hk4⟩ := obind hp
    refine st_loopP (σ := (List Int) × Int) (ρ := (List Int)) (γ := (Option Addr) × Nat × (List Value)) hl4 (A35, c36, y32) (fun s_ g_ => match s_, g_ with | (l44, i47), (A42, c43, y45) => [(3, vP b2 0), (73, sl A_w_2 w_2 c_w_2), (74, vI (w_2.length : Int)), (75, vI i47)]) (fun s_ g_ => match s_, g_ with | (l44, i47), (A42, c43, y45) => Mem w0 (.blk b2 [sl A42 l44 c43] 33 :: ow A42 l44 c43 3 1 y45 :: Fz F19 W20 :: cs)) (fun s_ g_ => match s_, g_ with | (l44, i47), (A42, c43, y45) => (RepL (Rep.int .i64) F19 W20 l44 y45)) h34 (look_has ⟨rfl, rfl, rfl, rfl, trivial⟩) (fun w_ hM => hM.pick 5 [2, 3, 4] (by kernel_rfl) (by decide) rfl) ?_
    rintro ⟨l44, i47⟩ ⟨A42, c43, y45⟩ o4 h46 hs_ hd4
    have hp : (tourref3_Described_l4 w_2) l44 i47 = some o4 := hs_
    clear hs_
    unfold tourref3_Described_l4 at hp
    refine st_seq (st_region [oF 0] (by rfl) ?_)
    refine oQ [oF 0] [(76, .bool (decide (i47 < (w_2.length : Int)))), (3, vP b2 0), (73, sl A_w_2 w_2 c_w_2), (74, vI (w_2.length : Int)), (75, vI i47)] (by kernel_rfl) ?_
    refine ops_nil (fin_then (st_seq ?_))
    refine st_if (b := decide (i47 < (w_2.length : Int))) rfl (fun hc48 => ?_) (fun hc48 => ?_)
    ·
     have hp := cnd_t hc48 hp
     refine st_skip (fin_then ?_)
     refine st_join1 (σ := (Option Addr) × Nat × (List Int) × (List Value)) (L := fun x_ => match x_ with | (A49, c50, l51, y52) => [(3, vP b2 0), (73, sl A_w_2 w_2 c_w_2), (74, vI (w_2.length : Int)), (75, vI i47)]) (N := fun x_ => match x_ with | (A49, c50, l51, y52) => Mem w0 (.blk b2 [sl A49 l51 c50] 33 :: ow A49 l51 c50 3 1 y52 :: Fz F19 W20 :: cs)) (I := fun x_ => match x_ with | (A49, c50, l51, y52) => ((tourref3_Described_j5 i47) l51 = some o4) ∧ (RepL (Rep.int .i64) F19 W20 l51 y52)) ?_ ?_
     ·
      rintro ⟨A49, c50, l51, y52⟩ ⟨hp, h53⟩
      unfold tourref3_Described_j5 at hp
      refine st_region [oF 0, oF 1] (by rfl) ?_
      refine oQ [oF 0, oF 1] [(75, vI (IntKind.i64.wrap (i47 + 1))), (3, vP b2 0), (73, sl A_w_2 w_2 c_w_2), (74, vI (w_2.length : Int))] (by kernel_rfl) ?_
      refine ops_nil ?_
      exact fin_again (l51, IntKind.i64.wrap (i47 + 1)) (A49, c50, y52) (Option.some.inj hp).symm h53 (look_has ⟨rfl, rfl, rfl, rfl, trivial⟩) (fun w_ hM => hM)
     ·
      intro HJ5
      refine st_seq (st_block (st_seq (st_region [oF 0, oF 1, oF 2, oF 3] (by rfl) ?_)))
      obtain ⟨x54, hv55, hp⟩ := obind hp
      obtain ⟨m56, hm57, hx58⟩ := idx_some hv55
      have hl61 := (List.getElem?_eq_some_iff.1 hx58).1
      obtain ⟨ad62, vs59, hA63, hr60, hq64⟩ := RdS.el h_w_2 hx58
      obtain ⟨A65, c66, rfl, h67⟩ := dec_api_Item hr60
      refine ops_val (op := (.indexAddr 69 (.tmp 73) (.tmp 75))) (d := some 77) (v := .pointer (some (ad62.add (m56 * 3)))) ⟨by kernel_rfl⟩ (run_indexA hA63 Tryd.underlying69 (z := 3) (by kernel_rfl) rfl rfl hm57 hl61) ?_
      refine ops_mem (d := some 78) (an := [.v (vI x54.Ent.N), .v (vI x54.Ent.Gen), .v (sl A65 x54.Comps c66)]) (evs := [.load (ad62.add (m56 * 3)) (vI x54.Ent.N), .load ((ad62.add (m56 * 3)).add 1) (vI x54.Ent.Gen), .load ((ad62.add (m56 * 3)).add 2) (sl A65 x54.Comps c66)]) (v := .agg #[vI x54.Ent.N, vI x54.Ent.Gen, sl A65 x54.Comps c66]) ⟨by kernel_rfl⟩ (fun w_ hM hS => ⟨w_, ⟨hM.elcell 2 rfl hq64 0 rfl, hM.elcell 2 rfl hq64 1 rfl, hM.elcell 2 rfl hq64 2 rfl, rfl⟩, hM, trivial⟩) ?_
      refine ops_newB (d := some 10) [vI 0, vI 0, .slice none 0 0] 115 (fun b68 => ⟨by kernel_rfl⟩) (fun w_ hM hS => trivial) (fun b68 => ?_)
      refine ops_store (an := []) (evs := [sr b68 0 (vI x54.Ent.N), sr b68 1 (vI x54.Ent.Gen), sr b68 2 (sl A65 x54.Comps c66)]) ⟨by kernel_rfl⟩ (fun w_ hM hS => let ⟨w', he, h'⟩ := hM.evs_stores [vI x54.Ent.N, vI x54.Ent.Gen, sl A65 x54.Comps c66] 0 rfl 0 (Nat.le_of_ble_eq_true rfl); ⟨w', he, h', trivial⟩) ?_
      refine ops_nil (fin_then (st_seq (st_region [oF 0, oF 1, oF 2, oF 3, oF 4, oF 5, oF 6, oF 7, oF 8, oF 9, oF 10, oF 11, oF 12] (by rfl) ?_)))
      refine ops_mem (d := some 79) (an := [.v (sl A42 l44 c43)]) (evs := [ld b2 0 (sl A42 l44 c43)]) (v := sl A42 l44 c43) ⟨by kernel_rfl⟩ (fun w_ hM hS => ⟨w_, ⟨hM.cell 1 rfl rfl, rfl⟩, hM, trivial⟩) ?_
      refine oQ [oF 1, oF 2] [(81, vP b68 0), (79, sl A42 l44 c43), (10, vP b68 0), (3, vP b2 0), (73, sl A_w_2 w_2 c_w_2), (74, vI (w_2.length : Int)), (75, vI i47)] (by kernel_rfl) ?_
      refine ops_mem (d := some 82) (an := [.v (vI x54.Ent.N)]) (evs := [ld b68 0 (vI x54.Ent.N)]) (v := vI x54.Ent.N) ⟨by kernel_rfl⟩ (fun w_ hM hS => ⟨w_, ⟨hM.cell 0 rfl rfl, rfl⟩, hM, trivial⟩) ?_
      refine oQ [oF 4, oF 5] [(84, vP b68 1), (82, vI x54.Ent.N), (79, sl A42 l44 c43), (10, vP b68 0), (3, vP b2 0), (73, sl A_w_2 w_2 c_w_2), (74, vI (w_2.length : Int)), (75, vI i47)] (by kernel_rfl) ?_
      refine ops_mem (d := some 85) (an := [.v (vI x54.Ent.Gen)]) (evs := [ld b68 1 (vI x54.Ent.Gen)]) (v := vI x54.Ent.Gen) ⟨by kernel_rfl⟩ (fun w_ hM hS => ⟨w_, ⟨hM.cell 0 rfl rfl, rfl⟩, hM, trivial⟩) ?_
      refine oQ [oF 7] [(86, vP b68 2), (85, vI x54.Ent.Gen), (82, vI x54.Ent.N), (79, sl A42 l44 c43), (10, vP b68 0), (3, vP b2 0), (73, sl A_w_2 w_2 c_w_2), (74, vI (w_2.length : Int)), (75, vI i47)] (by kernel_rfl) ?_
      refine ops_mem (d := some 87) (an := [.v (sl A65 x54.Comps c66)]) (evs := [ld b68 2 (sl A65 x54.Comps c66)]) (v := sl A65 x54.Comps c66) ⟨by kernel_rfl⟩ (fun w_ hM hS => ⟨w_, ⟨hM.cell 0 rfl rfl, rfl⟩, hM, trivial⟩) ?_
      refine oQ [oF 9] [(88, vI (x54.Comps.length : Int)), (85, vI x54.Ent.Gen), (82, vI x54.Ent.N), (79, sl A42 l44 c43), (10, vP b68 0), (3, vP b2 0), (73, sl A_w_2 w_2 c_w_2), (74, vI (w_2.length : Int)), (75, vI i47)] (by kernel_rfl) ?_
      have h69 : RepL (Rep.int .i64) F19 W20 ([x54.Ent.N, x54.Ent.Gen, (x54.Comps.length : Int)] : List Int) ([vI x54.Ent.N, vI x54.Ent.Gen, vI (x54.Comps.length : Int)]) := (RepL.cons (R := (Rep.int .i64)) (F := F19) (w := W20) (vs := [vI x54.Ent.N]) (ys := [vI x54.Ent.Gen, vI (x54.Comps.length : Int)]) rfl (RepL.cons (R := (Rep.int .i64)) (F := F19) (w := W20) (vs := [vI x54.Ent.Gen]) (ys := [vI (x54.Comps.length : Int)]) rfl (RepL.cons (R := (Rep.int .i64)) (F := F19) (w := W20) (vs := [vI (x54.Comps.length : Int)]) (ys := []) rfl RepL.nil)))
      refine ops_new (d := some 89) (o := .cells ([vI x54.Ent.N, vI x54.Ent.Gen, vI (x54.Comps.length : Int)]).toArray 3) (v := fun g70 => .slice (sa g70) ([x54.Ent.N, x54.Ent.Gen, (x54.Comps.length : Int)] : List Int).length 3) (M' := fun g70 => Mem w0 (orow (sa g70) ([x54.Ent.N, x54.Ent.Gen, (x54.Comps.length : Int)] : List Int).length 3 3 1 ([vI x54.Ent.N, vI x54.Ent.Gen, vI (x54.Comps.length : Int)]) :: .blk b68 [vI x54.Ent.N, vI x54.Ent.Gen, sl A65 x54.Comps c66] 115 :: .blk b2 [sl A42 l44 c43] 33 :: ow A42 l44 c43 3 1 y45 :: Fz F19 W20 :: cs)) (fun g70 => ⟨by kernel_rfl⟩) (fun w_ hM hS => ⟨hM.onew [vI x54.Ent.N, vI x54.Ent.Gen, vI (x54.Comps.length : Int)] 3 3 1 rfl (by decide), trivial⟩) (fun g70 => ?_)
      obtain ⟨l71, hv72, hp⟩ := obind hp
      obtain ⟨he73, hb74⟩ := app_some hv72
      obtain ⟨y75, hy76⟩ : ∃ y_, y45 ++ ([vI x54.Ent.N, vI x54.Ent.Gen, vI (x54.Comps.length : Int)]) = y_ := ⟨_, rfl⟩
      have h77 : RepL (Rep.int .i64) F19 W20 l71 y75 := by rw [he73, ← hy76]; exact RepL.app h46 h69
      refine ops_appendO (x := (Go.Operand.tmp 79)) (y := (Go.Operand.tmp 89)) (t := 33) (e := 3) (d := some 90) (n' := l71.length) (z := 1) (m := ([x54.Ent.N, x54.Ent.Gen, (x54.Comps.length : Int)] : List Int).length) (bytes := 8) (xs' := y75) (news := ([vI x54.Ent.N, vI x54.Ent.Gen, vI (x54.Comps.length : Int)])) (zv := vI 0) 3 ⟨by kernel_rfl⟩ rfl rfl Tryd.underlying33 (by kernel_rfl) (by rfl) rfl (fun w_ hM => hM.srcO 0 rfl) h69.len h69.one hb74 (by have z_ := congrArg List.length he73; rw [List.length_append] at z_; exact z_.symm) hy76 (fun _ _ _ _ hS h' => trivial) ?_
      rintro ⟨A78, c79⟩
      refine ops_store (an := []) (evs := [sr b2 0 (sl A78 l71 c79)]) ⟨by kernel_rfl⟩ (fun w_ hM hS => let ⟨w', he, h'⟩ := hM.evs_stores [sl A78 l71 c79] 2 rfl 0 (Nat.le_of_ble_eq_true rfl); ⟨w', he, h', trivial⟩) ?_
      refine ops_nil (fin_then (st_seq (st_region [oF 0, oF 1, oF 2, oF 3] (by rfl) ?_)))
      refine oQ [oF 0] [(91, vP b68 2), (3, vP b2 0), (73, sl A_w_2 w_2 c_w_2), (74, vI (w_2.length : Int)), (75, vI i47)] (by kernel_rfl) ?_
      refine ops_mem (d := some 92) (an := [.v (sl A65 x54.Comps c66)]) (evs := [ld b68 2 (sl A65 x54.Comps c66)]) (v := sl A65 x54.Comps c66) ⟨by kernel_rfl⟩ (fun w_ hM hS => ⟨w_, ⟨hM.cell 1 rfl rfl, rfl⟩, hM, trivial⟩) ?_
      refine oQ [oF 2, oF 3] [(94, vI 0), (93, vI (x54.Comps.length : Int)), (92, sl A65 x54.Comps c66), (3, vP b2 0), (73, sl A_w_2 w_2 c_w_2), (74, vI (w_2.length : Int)), (75, vI i47)] (by kernel_rfl) ?_
      refine ops_nil (fin_then (st_block ?_))
      obtain ⟨r6, hl6, hk6⟩ := obind hp
      refine st_loopP (σ := (List Int) × Int) (ρ := (List Int)) (γ := (Option Addr) × Nat × (List Value)) hl6 (A78, c79, y75) (fun s_ g_ => match s_, g_ with | (l82, i85), (A80, c81, y83) => [(3, vP b2 0), (73, sl A_w_2 w_2 c_w_2), (74, vI (w_2.length : Int)), (75, vI i47), (92, sl A65 x54.Comps c66), (93, vI (x54.Comps.length : Int)), (94, vI i85)]) (fun s_ g_ => match s_, g_ with | (l82, i85), (A80, c81, y83) => Mem w0 (.blk b2 [sl A80 l82 c81] 33 :: ow A80 l82 c81 3 1 y83 :: Fz F19 W20 :: cs)) (fun s_ g_ => match s_, g_ with | (l82, i85), (A80, c81, y83) => (RepL (Rep.int .i64) F19 W20 l82 y83)) h77 (look_has ⟨rfl, rfl, rfl, rfl, rfl, rfl, rfl, trivial⟩) (fun w_ hM => hM.pick 5 [2, 3, 4] (by kernel_rfl) (by decide) rfl) ?_
      rintro ⟨l82, i85⟩ ⟨A80, c81, y83⟩ o6 h84 hs_ hd6
      have hp : (tourref3_Described_l6 x54) l82 i85 = some o6 := hs_
      clear hs_
      unfold tourref3_Described_l6 at hp
      refine st_seq (st_region [oF 0] (by rfl) ?_)
      refine oQ [oF 0] [(95, .bool (decide (i85 < (x54.Comps.length : Int)))), (3, vP b2 0), (73, sl A_w_2 w_2 c_w_2), (74, vI (w_2.length : Int)), (75, vI i47), (92, sl A65 x54.Comps c66), (93, vI (x54.Comps.length : Int)), (94, vI i85)] (by kernel_rfl) ?_
      refine ops_nil (fin_then (st_seq ?_))
      refine st_if (b := decide (i85 < (x54.Comps.length : Int))) rfl (fun hc86 => ?_) (fun hc86 => ?_)
      ·
       have hp := cnd_t hc86 hp
       refine st_skip (fin_then ?_)
       refine st_join1 (σ := (Option Addr) × Nat × (List Int) × (List Value)) (L := fun x_ => match x_ with | (A87, c88, l89, y90) => [(3, vP b2 0), (73, sl A_w_2 w_2 c_w_2), (74, vI (w_2.length : Int)), (75, vI i47), (92, sl A65 x54.Comps c66), (93, vI (x54.Comps.length : Int)), (94, vI i85)]) (N := fun x_ => match x_ with | (A87, c88, l89, y90) => Mem w0 (.blk b2 [sl A87 l89 c88] 33 :: ow A87 l89 c88 3 1 y90 :: Fz F19 W20 :: cs)) (I := fun x_ => match x_ with | (A87, c88, l89, y90) => ((tourref3_Described_j7 i85) l89 = some o6) ∧ (RepL (Rep.int .i64) F19 W20 l89 y90)) ?_ ?_
       ·
        rintro ⟨A87, c88, l89, y90⟩ ⟨hp, h91⟩
        unfold tourref3_Described_j7 at hp
        refine st_region [oF 0, oF 1] (by rfl) ?_
        refine oQ [oF 0, oF 1] [(94, vI (IntKind.i64.wrap (i85 + 1))), (3, vP b2 0), (73, sl A_w_2 w_2 c_w_2), (74, vI (w_2.length : Int)), (75, vI i47), (92, sl A65 x54.Comps c66), (93, vI (x54.Comps.length : Int))] (by kernel_rfl) ?_
        refine ops_nil ?_
        exact fin_again (l89, IntKind.i64.wrap (i85 + 1)) (A87, c88, y90) (Option.some.inj hp).symm h91 (look_has ⟨rfl, rfl, rfl, rfl, rfl, rfl, rfl, trivial⟩) (fun w_ hM => hM)
       ·
        intro HJ7
        refine st_seq (st_block (st_seq (st_region [oF 0, oF 1, oF 2, oF 3] (by rfl) ?_)))
        obtain ⟨x92, hv93, hp⟩ := obind hp
        obtain ⟨m94, hm95, hx96⟩ := idx_some hv93
        have hl99 := (List.getElem?_eq_some_iff.1 hx96).1
        obtain ⟨ad100, vs97, hA101, hr98, hq102⟩ := RdS.el h67 hx96
        obtain ⟨A103, c104, rfl, h105⟩ := dec_api_Comp hr98
        refine ops_val (op := (.indexAddr 113 (.tmp 92) (.tmp 94))) (d := some 96) (v := .pointer (some (ad100.add (m94 * 2)))) ⟨by kernel_rfl⟩ (run_indexA hA101 Tryd.underlying113 (z := 2) (by kernel_rfl) rfl rfl hm95 hl99) ?_
        refine ops_mem (d := some 97) (an := [.v (vI x92.Kind), .v (sl A103 x92.Vals c104)]) (evs := [.load (ad100.add (m94 * 2)) (vI x92.Kind), .load ((ad100.add (m94 * 2)).add 1) (sl A103 x92.Vals c104)]) (v := .agg #[vI x92.Kind, sl A103 x92.Vals c104]) ⟨by kernel_rfl⟩ (fun w_ hM hS => ⟨w_, ⟨hM.elcell 2 rfl hq102 0 rfl, hM.elcell 2 rfl hq102 1 rfl, rfl⟩, hM, trivial⟩) ?_
        refine ops_newB (d := some 12) [vI 0, .slice none 0 0] 118 (fun b106 => ⟨by kernel_rfl⟩) (fun w_ hM hS => trivial) (fun b106 => ?_)
        refine ops_store (an := []) (evs := [sr b106 0 (vI x92.Kind), sr b106 1 (sl A103 x92.Vals c104)]) ⟨by kernel_rfl⟩ (fun w_ hM hS => let ⟨w', he, h'⟩ := hM.evs_stores [vI x92.Kind, sl A103 x92.Vals c104] 0 rfl 0 (Nat.le_of_ble_eq_true rfl); ⟨w', he, h', trivial⟩) ?_
        refine ops_nil (fin_then ?_)
        obtain ⟨l109, hv110, hp⟩ := obind hp
        obtain ⟨l118, hv119, hp⟩ := obind hp
        refine st_region_tree (.node [oT 1, oT 2, oT 3, oT 4, oT 5, oT 8, oT 9] (.leaf [oF 0, oF 6, oF 7, oF 10, oF 11]) (.leaf [oF 6, oF 0, oF 7, oF 10, oF 11])) (Mem w0 (.blk b106 [vI x92.Kind, sl A103 x92.Vals c104] 118 :: Fz F19 W20 :: cs)) (by kernel_rfl) (by kernel_rfl) (by kernel_rfl) (fun _ d _ _ _ h => by cases d <;> exact h) (M' := Mem w0 (.blk b106 [vI x92.Kind, sl A103 x92.Vals c104] 118 :: .blk b2 [sl A80 l82 c81] 33 :: ow A80 l82 c81 3 1 y83 :: Fz F19 W20 :: cs)) (fun w_ hM => ⟨hM.drew, hM.drew.sub (.cons_cons _ (.cons _ (.cons _ (.cons_cons _ (.refl _)))))⟩) ?_
        refine tree_node ?_
        refine oQ [oT 1] [(99, vP b106 0), (12, vP b106 0), (3, vP b2 0), (73, sl A_w_2 w_2 c_w_2), (74, vI (w_2.length : Int)), (75, vI i47), (92, sl A65 x54.Comps c66), (93, vI (x54.Comps.length : Int)), (94, vI i85)] (by kernel_rfl) ?_
        refine ops_load (d := some 100) (an := [.v (vI x92.Kind)]) (evs := [ld b106 0 (vI x92.Kind)]) (v := vI x92.Kind) ⟨by kernel_rfl⟩ (fun w_ hM => ⟨hM.cell 0 rfl rfl, rfl⟩) ?_
        refine oQ [oT 3] [(101, vP b106 1), (100, vI x92.Kind), (12, vP b106 0), (3, vP b2 0), (73, sl A_w_2 w_2 c_w_2), (74, vI (w_2.length : Int)), (75, vI i47), (92, sl A65 x54.Comps c66), (93, vI (x54.Comps.length : Int)), (94, vI i85)] (by kernel_rfl) ?_
        refine ops_load (d := some 102) (an := [.v (sl A103 x92.Vals c104)]) (evs := [ld b106 1 (sl A103 x92.Vals c104)]) (v := sl A103 x92.Vals c104) ⟨by kernel_rfl⟩ (fun w_ hM => ⟨hM.cell 0 rfl rfl, rfl⟩) ?_
        refine oQ [oT 5, oT 8] [(106, vP b106 1), (103, vI (x92.Vals.length : Int)), (100, vI x92.Kind), (3, vP b2 0), (73, sl A_w_2 w_2 c_w_2), (74, vI (w_2.length : Int)), (75, vI i47), (92, sl A65 x54.Comps c66), (93, vI (x54.Comps.length : Int)), (94, vI i85)] (by kernel_rfl) ?_
        refine ops_load (d := some 107) (an := [.v (sl A103 x92.Vals c104)]) (evs := [ld b106 1 (sl A103 x92.Vals c104)]) (v := sl A103 x92.Vals c104) ⟨by kernel_rfl⟩ (fun w_ hM => ⟨hM.cell 0 rfl rfl, rfl⟩) ?_
        refine ops_nil ?_
        refine tree_both ?_ ?_
        ·
         refine tree_leaf ?_
         refine ops_mem (d := some 98) (an := [.v (sl A80 l82 c81)]) (evs := [ld b2 0 (sl A80 l82 c81)]) (v := sl A80 l82 c81) ⟨by kernel_rfl⟩ (fun w_ hM hS => ⟨w_, ⟨hM.cell 1 rfl rfl, rfl⟩, hM, hS⟩) ?_
         have h120 : RepL (Rep.int .i64) F19 W20 ([x92.Kind, (x92.Vals.length : Int)] : List Int) ([vI x92.Kind, vI (x92.Vals.length : Int)]) := (RepL.cons (R := (Rep.int .i64)) (F := F19) (w := W20) (vs := [vI x92.Kind]) (ys := [vI (x92.Vals.length : Int)]) rfl (RepL.cons (R := (Rep.int .i64)) (F := F19) (w := W20) (vs := [vI (x92.Vals.length : Int)]) (ys := []) rfl RepL.nil))
         refine ops_new (d := some 104) (o := .cells ([vI x92.Kind, vI (x92.Vals.length : Int)]).toArray 3) (v := fun g121 => .slice (sa g121) ([x92.Kind, (x92.Vals.length : Int)] : List Int).length 2) (M' := fun g121 => Mem w0 (orow (sa g121) ([x92.Kind, (x92.Vals.length : Int)] : List Int).length 2 3 1 ([vI x92.Kind, vI (x92.Vals.length : Int)]) :: .blk b106 [vI x92.Kind, sl A103 x92.Vals c104] 118 :: .blk b2 [sl A80 l82 c81] 33 :: ow A80 l82 c81 3 1 y83 :: Fz F19 W20 :: cs)) (fun g121 => ⟨by kernel_rfl⟩) (fun w_ hM hS => ⟨hM.onew [vI x92.Kind, vI (x92.Vals.length : Int)] 3 2 1 rfl (by decide), hS.alloc _⟩) (fun g121 => ?_)
         obtain ⟨he122, hb123⟩ := app_some hv110
         obtain ⟨y124, hy125⟩ : ∃ y_, y83 ++ ([vI x92.Kind, vI (x92.Vals.length : Int)]) = y_ := ⟨_, rfl⟩
         have h126 : RepL (Rep.int .i64) F19 W20 l109 y124 := by rw [he122, ← hy125]; exact RepL.app h84 h120
         refine ops_appendO (x := (Go.Operand.tmp 98)) (y := (Go.Operand.tmp 104)) (t := 33) (e := 3) (d := some 105) (n' := l109.length) (z := 1) (m := ([x92.Kind, (x92.Vals.length : Int)] : List Int).length) (bytes := 8) (xs' := y124) (news := ([vI x92.Kind, vI (x92.Vals.length : Int)])) (zv := vI 0) 3 ⟨by kernel_rfl⟩ rfl rfl Tryd.underlying33 (by kernel_rfl) (by rfl) rfl (fun w_ hM => hM.srcO 0 rfl) h120.len h120.one hb123 (by have z_ := congrArg List.length he122; rw [List.length_append] at z_; exact z_.symm) hy125 (fun _ _ _ _ hS h' => (by exact h'.sub (.cons _ (.cons_cons _ (.cons _ (.cons _ (.cons_cons _ (.refl _)))))))) ?_
         rintro ⟨A127, c128⟩
         obtain ⟨he129, hb130⟩ := app_some hv119
         obtain ⟨y134, h135, hs136⟩ := RdS.src h105
         obtain ⟨y131, hy132⟩ : ∃ y_, y124 ++ y134 = y_ := ⟨_, rfl⟩
         have h133 : RepL (Rep.int .i64) F19 W20 l118 y131 := by rw [he129, ← hy132]; exact RepL.app h126 h135
         refine ops_appendO (x := (Go.Operand.tmp 105)) (y := (Go.Operand.tmp 107)) (t := 33) (e := 3) (d := some 108) (n' := l118.length) (z := 1) (m := x92.Vals.length) (bytes := 8) (xs' := y131) (news := y134) (zv := vI 0) 3 ⟨by kernel_rfl⟩ rfl rfl Tryd.underlying33 (by kernel_rfl) (by rfl) rfl (fun w_ hM => hM.srcS 4 rfl h135 hs136) h135.len h135.one hb130 (by have z_ := congrArg List.length he129; rw [List.length_append] at z_; exact z_.symm) hy132 (fun _ _ _ _ hS h' => (by exact h'.sub (.cons _ (.cons_cons _ (.cons _ (.cons _ (.cons_cons _ (.refl _)))))))) ?_
         rintro ⟨A137, c138⟩
         refine ops_store (an := []) (evs := [sr b2 0 (sl A137 l118 c138)]) ⟨by kernel_rfl⟩ (fun w_ hM hS => let ⟨w', he, h'⟩ := hM.evs_stores [sl A137 l118 c138] 2 rfl 0 (Nat.le_of_ble_eq_true rfl); ⟨w', he, h', (by exact h'.sub (.cons _ (.cons_cons _ (.cons _ (.cons _ (.cons_cons _ (.refl _)))))))⟩) ?_
         refine ops_nil (fin_block ?_)
         exact fin_join HJ7 (A137, c138, l118, y131) ⟨hp, h133⟩ (look_has ⟨rfl, rfl, rfl, rfl, rfl, rfl, rfl, trivial⟩) (fun w_ hM => hM.pick 5 [2, 3, 4] (by kernel_rfl) (by decide) rfl)
        ·
         refine tree_leaf ?_
         have h139 : RepL (Rep.int .i64) F19 W20 ([x92.Kind, (x92.Vals.length : Int)] : List Int) ([vI x92.Kind, vI (x92.Vals.length : Int)]) := (RepL.cons (R := (Rep.int .i64)) (F := F19) (w := W20) (vs := [vI x92.Kind]) (ys := [vI (x92.Vals.length : Int)]) rfl (RepL.cons (R := (Rep.int .i64)) (F := F19) (w := W20) (vs := [vI (x92.Vals.length : Int)]) (ys := []) rfl RepL.nil))
         refine ops_new (d := some 104) (o := .cells ([vI x92.Kind, vI (x92.Vals.length : Int)]).toArray 3) (v := fun g140 => .slice (sa g140) ([x92.Kind, (x92.Vals.length : Int)] : List Int).length 2) (M' := fun g140 => Mem w0 (orow (sa g140) ([x92.Kind, (x92.Vals.length : Int)] : List Int).length 2 3 1 ([vI x92.Kind, vI (x92.Vals.length : Int)]) :: .blk b106 [vI x92.Kind, sl A103 x92.Vals c104] 118 :: .blk b2 [sl A80 l82 c81] 33 :: ow A80 l82 c81 3 1 y83 :: Fz F19 W20 :: cs)) (fun g140 => ⟨by kernel_rfl⟩) (fun w_ hM hS => ⟨hM.onew [vI x92.Kind, vI (x92.Vals.length : Int)] 3 2 1 rfl (by decide), hS.alloc _⟩) (fun g140 => ?_)
         refine ops_mem (d := some 98) (an := [.v (sl A80 l82 c81)]) (evs := [ld b2 0 (sl A80 l82 c81)]) (v := sl A80 l82 c81) ⟨by kernel_rfl⟩ (fun w_ hM hS => ⟨w_, ⟨hM.cell 2 rfl rfl, rfl⟩, hM, hS⟩) ?_
         obtain ⟨he141, hb142⟩ := app_some hv110
         obtain ⟨y143, hy144⟩ : ∃ y_, y83 ++ ([vI x92.Kind, vI (x92.Vals.length : Int)]) = y_ := ⟨_, rfl⟩
         have h145 : RepL (Rep.int .i64) F19 W20 l109 y143 := by rw [he141, ← hy144]; exact RepL.app h84 h139
         refine ops_appendO (x := (Go.Operand.tmp 98)) (y := (Go.Operand.tmp 104)) (t := 33) (e := 3) (d := some 105) (n' := l109.length) (z := 1) (m := ([x92.Kind, (x92.Vals.length : Int)] : List Int).length) (bytes := 8) (xs' := y143) (news := ([vI x92.Kind, vI (x92.Vals.length : Int)])) (zv := vI 0) 3 ⟨by kernel_rfl⟩ rfl rfl Tryd.underlying33 (by kernel_rfl) (by rfl) rfl (fun w_ hM => hM.srcO 0 rfl) h139.len h139.one hb142 (by have z_ := congrArg List.length he141; rw [List.length_append] at z_; exact z_.symm) hy144 (fun _ _ _ _ hS h' => (by exact h'.sub (.cons _ (.cons_cons _ (.cons _ (.cons _ (.cons_cons _ (.refl _)))))))) ?_
         rintro ⟨A146, c147⟩
         obtain ⟨he148, hb149⟩ := app_some hv119
         obtain ⟨y153, h154, hs155⟩ := RdS.src h105
         obtain ⟨y150, hy151⟩ : ∃ y_, y143 ++ y153 = y_ := ⟨_, rfl⟩
         have h152 : RepL (Rep.int .i64) F19 W20 l118 y150 := by rw [he148, ← hy151]; exact RepL.app h145 h154
         refine ops_appendO (x := (Go.Operand.tmp 105)) (y := (Go.Operand.tmp 107)) (t := 33) (e := 3) (d := some 108) (n' := l118.length) (z := 1) (m := x92.Vals.length) (bytes := 8) (xs' := y150) (news := y153) (zv := vI 0) 3 ⟨by kernel_rfl⟩ rfl rfl Tryd.underlying33 (by kernel_rfl) (by rfl) rfl (fun w_ hM => hM.srcS 4 rfl h154 hs155) h154.len h154.one hb149 (by have z_ := congrArg List.length he148; rw [List.length_append] at z_; exact z_.symm) hy151 (fun _ _ _ _ hS h' => (by exact h'.sub (.cons _ (.cons_cons _ (.cons _ (.cons _ (.cons_cons _ (.refl _)))))))) ?_
         rintro ⟨A156, c157⟩
         refine ops_store (an := []) (evs := [sr b2 0 (sl A156 l118 c157)]) ⟨by kernel_rfl⟩ (fun w_ hM hS => let ⟨w', he, h'⟩ := hM.evs_stores [sl A156 l118 c157] 2 rfl 0 (Nat.le_of_ble_eq_true rfl); ⟨w', he, h', (by exact h'.sub (.cons _ (.cons_cons _ (.cons _ (.cons _ (.cons_cons _ (.refl _)))))))⟩) ?_
         refine ops_nil (fin_block ?_)
         exact fin_join HJ7 (A156, c157, l118, y150) ⟨hp, h152⟩ (look_has ⟨rfl, rfl, rfl, rfl, rfl, rfl, rfl, trivial⟩) (fun w_ hM => hM.pick 5 [2, 3, 4] (by kernel_rfl) (by decide) rfl)
      ·
       have hp := cnd_f hc86 hp
       refine st_exit (fin_exit_then (fin_exit_then (fin_exit (fin_block ?_))))
       obtain hq_ := Option.some.inj hp
       subst hq_
       obtain hq_ := hd6 _ rfl
       subst hq_
       have hp : (tourref3_Described_j5 i47) l82 = some o4 := hk6
       exact fin_join HJ5 (A80, c81, l82, y83) ⟨hp, h84⟩ (look_has ⟨rfl, rfl, rfl, rfl, trivial⟩) (fun w_ hM => hM)
    ·
     have hp := cnd_f hc48 hp
     refine st_exit (fin_exit_then (fin_exit_then (fin_exit ?_)))
     obtain hq_ := Option.some.inj hp
     subst hq_
     obtain hq_ := hd4 _ rfl
     subst hq_
     have hp : tourref3_Described_j3 l44 = some l9003 := hk4
     exact fin_join HJ3 (A42, c43, l44, y45) ⟨hp, h46⟩ (look_has ⟨rfl, trivial⟩) (fun w_ hM => hM)
  ·
   intro HJ2
   refine st_seq ?_
   obtain ⟨l160, hv161, hp⟩ := obind hp
   obtain ⟨l169, hv170, hp⟩ := obind hp
   refine st_region_tree (.node [oT 1, oT 2, oT 3, oT 6, oT 7] (.leaf [oF 0, oF 4, oF 5, oF 8, oF 9]) (.leaf [oF 4, oF 0, oF 5, oF 8, oF 9])) (Mem w0 (.blk b1 [sl A_w_0 w_0 c_w_0, sl A_w_1 w_1 c_w_1, sl A_w_2 w_2 c_w_2] 71 :: Fz F19 W20 :: cs)) (by kernel_rfl) (by kernel_rfl) (by kernel_rfl) (fun _ d _ _ _ h => by cases d <;> exact h) (M' := Mem w0 (.blk b1 [sl A_w_0 w_0 c_w_0, sl A_w_1 w_1 c_w_1, sl A_w_2 w_2 c_w_2] 71 :: .blk b2 [sl A14 l16 c15] 33 :: ow A14 l16 c15 3 1 y17 :: Fz F19 W20 :: cs)) (fun w_ hM => ⟨hM.drew, hM.drew.sub (.cons_cons _ (.cons _ (.cons _ (.cons_cons _ (.refl _)))))⟩) ?_
   refine tree_node ?_
   refine oQ [oT 1] [(58, vP b1 1), (1, vP b1 0), (3, vP b2 0)] (by kernel_rfl) ?_
   refine ops_load (d := some 59) (an := [.v (sl A_w_1 w_1 c_w_1)]) (evs := [ld b1 1 (sl A_w_1 w_1 c_w_1)]) (v := sl A_w_1 w_1 c_w_1) ⟨by kernel_rfl⟩ (fun w_ hM => ⟨hM.cell 0 rfl rfl, rfl⟩) ?_
   refine oQ [oT 3, oT 6] [(63, vP b1 1), (60, vI (w_1.length : Int)), (1, vP b1 0), (3, vP b2 0)] (by kernel_rfl) ?_
   refine ops_load (d := some 64) (an := [.v (sl A_w_1 w_1 c_w_1)]) (evs := [ld b1 1 (sl A_w_1 w_1 c_w_1)]) (v := sl A_w_1 w_1 c_w_1) ⟨by kernel_rfl⟩ (fun w_ hM => ⟨hM.cell 0 rfl rfl, rfl⟩) ?_
   refine ops_nil ?_
   refine tree_both ?_ ?_
   ·
    refine tree_leaf ?_
    refine ops_mem (d := some 57) (an := [.v (sl A14 l16 c15)]) (evs := [ld b2 0 (sl A14 l16 c15)]) (v := sl A14 l16 c15) ⟨by kernel_rfl⟩ (fun w_ hM hS => ⟨w_, ⟨hM.cell 1 rfl rfl, rfl⟩, hM, hS⟩) ?_
    have h171 : RepL (Rep.int .i64) F19 W20 ([(w_1.length : Int)] : List Int) ([vI (w_1.length : Int)]) := (RepL.cons (R := (Rep.int .i64)) (F := F19) (w := W20) (vs := [vI (w_1.length : Int)]) (ys := []) rfl RepL.nil)
    refine ops_new (d := some 61) (o := .cells ([vI (w_1.length : Int)]).toArray 3) (v := fun g172 => .slice (sa g172) ([(w_1.length : Int)] : List Int).length 1) (M' := fun g172 => Mem w0 (orow (sa g172) ([(w_1.length : Int)] : List Int).length 1 3 1 ([vI (w_1.length : Int)]) :: .blk b1 [sl A_w_0 w_0 c_w_0, sl A_w_1 w_1 c_w_1, sl A_w_2 w_2 c_w_2] 71 :: .blk b2 [sl A14 l16 c15] 33 :: ow A14 l16 c15 3 1 y17 :: Fz F19 W20 :: cs)) (fun g172 => ⟨by kernel_rfl⟩) (fun w_ hM hS => ⟨hM.onew [vI (w_1.length : Int)] 3 1 1 rfl (by decide), hS.alloc _⟩) (fun g172 => ?_)
    obtain ⟨he173, hb174⟩ := app_some hv161
    obtain ⟨y175, hy176⟩ : ∃ y_, y17 ++ ([vI (w_1.length : Int)]) = y_ := ⟨_, rfl⟩
    have h177 : RepL (Rep.int .i64) F19 W20 l160 y175 := by rw [he173, ← hy176]; exact RepL.app h18 h171
    refine ops_appendO (x := (Go.Operand.tmp 57)) (y := (Go.Operand.tmp 61)) (t := 33) (e := 3) (d := some 62) (n' := l160.length) (z := 1) (m := ([(w_1.length : Int)] : List Int).length) (bytes := 8) (xs' := y175) (news := ([vI (w_1.length : Int)])) (zv := vI 0) 3 ⟨by kernel_rfl⟩ rfl rfl Tryd.underlying33 (by kernel_rfl) (by rfl) rfl (fun w_ hM => hM.srcO 0 rfl) h171.len h171.one hb174 (by have z_ := congrArg List.length he173; rw [List.length_append] at z_; exact z_.symm) hy176 (fun _ _ _ _ hS h' => (by exact h'.sub (.cons _ (.cons_cons _ (.cons _ (.cons _ (.cons_cons _ (.refl _)))))))) ?_
    rintro ⟨A178, c179⟩
    obtain ⟨he180, hb181⟩ := app_some hv170
    obtain ⟨y185, h186, hs187⟩ := RdS.src h_w_1
    obtain ⟨y182, hy183⟩ : ∃ y_, y175 ++ y185 = y_ := ⟨_, rfl⟩
    have h184 : RepL (Rep.int .i64) F19 W20 l169 y182 := by rw [he180, ← hy183]; exact RepL.app h177 h186
    refine ops_appendO (x := (Go.Operand.tmp 62)) (y := (Go.Operand.tmp 64)) (t := 33) (e := 3) (d := some 65) (n' := l169.length) (z := 1) (m := w_1.length) (bytes := 8) (xs' := y182) (news := y185) (zv := vI 0) 3 ⟨by kernel_rfl⟩ rfl rfl Tryd.underlying33 (by kernel_rfl) (by rfl) rfl (fun w_ hM => hM.srcS 4 rfl h186 hs187) h186.len h186.one hb181 (by have z_ := congrArg List.length he180; rw [List.length_append] at z_; exact z_.symm) hy183 (fun _ _ _ _ hS h' => (by exact h'.sub (.cons _ (.cons_cons _ (.cons _ (.cons _ (.cons_cons _ (.refl _)))))))) ?_
    rintro ⟨A188, c189⟩
    refine ops_store (an := []) (evs := [sr b2 0 (sl A188 l169 c189)]) ⟨by kernel_rfl⟩ (fun w_ hM hS => let ⟨w', he, h'⟩ := hM.evs_stores [sl A188 l169 c189] 2 rfl 0 (Nat.le_of_ble_eq_true rfl); ⟨w', he, h', (by exact h'.sub (.cons _ (.cons_cons _ (.cons _ (.cons _ (.cons_cons _ (.refl _)))))))⟩) ?_
    refine ops_nil ?_
    exact fin_join HJ2 (A188, c189, l169, y182) ⟨hp, h184⟩ (look_has ⟨rfl, rfl, trivial⟩) (fun w_ hM => hM.pick 5 [1, 2, 3, 4] (by kernel_rfl) (by decide) rfl)
   ·
    refine tree_leaf ?_
    have h190 : RepL (Rep.int .i64) F19 W20 ([(w_1.length : Int)] : List Int) ([vI (w_1.length : Int)]) := (RepL.cons (R := (Rep.int .i64)) (F := F19) (w := W20) (vs := [vI (w_1.length : Int)]) (ys := []) rfl RepL.nil)
    refine ops_new (d := some 61) (o := .cells ([vI (w_1.length : Int)]).toArray 3) (v := fun g191 => .slice (sa g191) ([(w_1.length : Int)] : List Int).length 1) (M' := fun g191 => Mem w0 (orow (sa g191) ([(w_1.length : Int)] : List Int).length 1 3 1 ([vI (w_1.length : Int)]) :: .blk b1 [sl A_w_0 w_0 c_w_0, sl A_w_1 w_1 c_w_1, sl A_w_2 w_2 c_w_2] 71 :: .blk b2 [sl A14 l16 c15] 33 :: ow A14 l16 c15 3 1 y17 :: Fz F19 W20 :: cs)) (fun g191 => ⟨by kernel_rfl⟩) (fun w_ hM hS => ⟨hM.onew [vI (w_1.length : Int)] 3 1 1 rfl (by decide), hS.alloc _⟩) (fun g191 => ?_)
    refine ops_mem (d := some 57) (an := [.v (sl A14 l16 c15)]) (evs := [ld b2 0 (sl A14 l16 c15)]) (v := sl A14 l16 c15) ⟨by kernel_rfl⟩ (fun w_ hM hS => ⟨w_, ⟨hM.cell 2 rfl rfl, rfl⟩, hM, hS⟩) ?_
    obtain ⟨he192, hb193⟩ := app_some hv161
    obtain ⟨y194, hy195⟩ : ∃ y_, y17 ++ ([vI (w_1.length : Int)]) = y_ := ⟨_, rfl⟩
    have h196 : RepL (Rep.int .i64) F19 W20 l160 y194 := by rw [he192, ← hy195]; exact RepL.app h18 h190
    refine ops_appendO (x := (Go.Operand.tmp 57)) (y := (Go.Operand.tmp 61)) (t := 33) (e := 3) (d := some 62) (n' := l160.length) (z := 1) (m := ([(w_1.length : Int)] : List Int).length) (bytes := 8) (xs' := y194) (news := ([vI (w_1.length : Int)])) (zv := vI 0) 3 ⟨by kernel_rfl⟩ rfl rfl Tryd.underlying33 (by kernel_rfl) (by rfl) rfl (fun w_ hM => hM.srcO 0 rfl) h190.len h190.one hb193 (by have z_ := congrArg List.length he192; rw [List.length_append] at z_; exact z_.symm) hy195 (fun _ _ _ _ hS h' => (by exact h'.sub (.cons _ (.cons_cons _ (.cons _ (.cons _ (.cons_cons _ (.refl _)))))))) ?_
    rintro ⟨A197, c198⟩
    obtain ⟨he199, hb200⟩ := app_some hv170
    obtain ⟨y204, h205, hs206⟩ := RdS.src h_w_1
    obtain ⟨y201, hy202⟩ : ∃ y_, y194 ++ y204 = y_ := ⟨_, rfl⟩
    have h203 : RepL (Rep.int .i64) F19 W20 l169 y201 := by rw [he199, ← hy202]; exact RepL.app h196 h205
    refine ops_appendO (x := (Go.Operand.tmp 62)) (y := (Go.Operand.tmp 64)) (t := 33) (e := 3) (d := some 65) (n' := l169.length) (z := 1) (m := w_1.length) (bytes := 8) (xs' := y201) (news := y204) (zv := vI 0) 3 ⟨by kernel_rfl⟩ rfl rfl Tryd.underlying33 (by kernel_rfl) (by rfl) rfl (fun w_ hM => hM.srcS 4 rfl h205 hs206) h205.len h205.one hb200 (by have z_ := congrArg List.length he199; rw [List.length_append] at z_; exact z_.symm) hy202 (fun _ _ _ _ hS h' => (by exact h'.sub (.cons _ (.cons_cons _ (.cons _ (.cons _ (.cons_cons _ (.refl _)))))))) ?_
    rintro ⟨A207, c208⟩
    refine ops_store (an := []) (evs := [sr b2 0 (sl A207 l169 c208)]) ⟨by kernel_rfl⟩ (fun w_ hM hS => let ⟨w', he, h'⟩ := hM.evs_stores [sl A207 l169 c208] 2 rfl 0 (Nat.le_of_ble_eq_true rfl); ⟨w', he, h', (by exact h'.sub (.cons _ (.cons_cons _ (.cons _ (.cons _ (.cons_cons _ (.refl _)))))))⟩) ?_
    refine ops_nil ?_
    exact fin_join HJ2 (A207, c208, l169, y201) ⟨hp, h203⟩ (look_has ⟨rfl, rfl, trivial⟩) (fun w_ hM => hM.pick 5 [1, 2, 3, 4] (by kernel_rfl) (by decide) rfl)
 ·
  intro HJ1
  refine st_seq (st_seq (st_region [oF 0, oF 1, oF 2, oF 3] (by rfl) ?_))
  refine oQ [oF 0] [(20, vP b1 0), (4, .func (.func 83) #[] #[vP b2 0]), (3, vP b2 0), (1, vP b1 0)] (by kernel_rfl) ?_
  refine ops_mem (d := some 21) (an := [.v (sl A_w_0 w_0 c_w_0)]) (evs := [ld b1 0 (sl A_w_0 w_0 c_w_0)]) (v := sl A_w_0 w_0 c_w_0) ⟨by kernel_rfl⟩ (fun w_ hM hS => ⟨w_, ⟨hM.cell 3 rfl rfl, rfl⟩, hM, trivial⟩) ?_
  refine oQ [oF 2, oF 3] [(23, vI 0), (22, vI (w_0.length : Int)), (21, sl A_w_0 w_0 c_w_0), (4, .func (.func 83) #[] #[vP b2 0]), (3, vP b2 0), (1, vP b1 0)] (by kernel_rfl) ?_
  refine ops_nil (fin_then (st_block ?_))
  obtain ⟨r8, hl8, hk8⟩ := obind hp
  refine st_loopP (σ := (List Int) × Int) (ρ := (List Int)) (γ := (Option Addr) × Nat × (List Value) × (Nat → Prop) × World) hl8 (A12, c13, y9, F, W) (fun s_ g_ => match s_, g_ with | (l211, i214), (A209, c210, y212, F215, W216) => [(1, vP b1 0), (3, vP b2 0), (4, .func (.func 83) #[] #[vP b2 0]), (21, sl A_w_0 w_0 c_w_0), (22, vI (w_0.length : Int)), (23, vI i214)]) (fun s_ g_ => match s_, g_ with | (l211, i214), (A209, c210, y212, F215, W216) => Mem w0 (.blk b1 [sl A_w_0 w_0 c_w_0, sl A_w_1 w_1 c_w_1, sl A_w_2 w_2 c_w_2] 71 :: .blk b2 [sl A209 l211 c210] 33 :: ow A209 l211 c210 3 1 y212 :: Fz F215 W216 :: cs)) (fun s_ g_ => match s_, g_ with | (l211, i214), (A209, c210, y212, F215, W216) => (RepL (Rep.int .i64) F215 W216 l211 y212) ∧ (Ext w0 F W F215 W216)) ⟨h11, (Ext.refl _ _ _)⟩ (look_has ⟨rfl, rfl, rfl, rfl, rfl, rfl, trivial⟩) (fun w_ hM => hM.pick 5 [3, 2, 0, 4] (by kernel_rfl) (by decide) rfl) ?_
  rintro ⟨l211, i214⟩ ⟨A209, c210, y212, F215, W216⟩ o8 ⟨h213, hx8⟩ hs_ hd8
  have hp : (tourref3_Described_l8 w_0) l211 i214 = some o8 := hs_
  clear hs_
  unfold tourref3_Described_l8 at hp
  have h_w_0 := h_w_0.ext hx8
  have h_w_1 := h_w_1.ext hx8
  have h_w_2 := h_w_2.ext hx8
  refine st_seq (st_region [oF 0] (by rfl) ?_)
  refine oQ [oF 0] [(24, .bool (decide (i214 < (w_0.length : Int)))), (1, vP b1 0), (3, vP b2 0), (4, .func (.func 83) #[] #[vP b2 0]), (21, sl A_w_0 w_0 c_w_0), (22, vI (w_0.length : Int)), (23, vI i214)] (by kernel_rfl) ?_
  refine ops_nil (fin_then (st_seq ?_))
  refine st_if (b := decide (i214 < (w_0.length : Int))) rfl (fun hc217 => ?_) (fun hc217 => ?_)
  ·
   have hp := cnd_t hc217 hp
   refine st_skip (fin_then ?_)
   refine st_join1 (σ := (Option Addr) × Nat × (List Int) × (List Value) × (Nat → Prop) × World) (L := fun x_ => match x_ with | (A218, c219, l220, y221, F223, W224) => [(1, vP b1 0), (3, vP b2 0), (4, .func (.func 83) #[] #[vP b2 0]), (21, sl A_w_0 w_0 c_w_0), (22, vI (w_0.length : Int)), (23, vI i214)]) (N := fun x_ => match x_ with | (A218, c219, l220, y221, F223, W224) => Mem w0 (.blk b1 [sl A_w_0 w_0 c_w_0, sl A_w_1 w_1 c_w_1, sl A_w_2 w_2 c_w_2] 71 :: .blk b2 [sl A218 l220 c219] 33 :: ow A218 l220 c219 3 1 y221 :: Fz F223 W224 :: cs)) (I := fun x_ => match x_ with | (A218, c219, l220, y221, F223, W224) => ((tourref3_Described_j9 i214) l220 = some o8) ∧ (RepL (Rep.int .i64) F223 W224 l220 y221) ∧ (Ext w0 F215 W216 F223 W224)) ?_ ?_
   ·
    rintro ⟨A218, c219, l220, y221, F223, W224⟩ ⟨hp, h222, hx9⟩
    have h_w_0 := h_w_0.ext hx9
    have h_w_1 := h_w_1.ext hx9
    have h_w_2 := h_w_2.ext hx9
    unfold tourref3_Described_j9 at hp
    refine st_region [oF 0, oF 1] (by rfl) ?_
    refine oQ [oF 0, oF 1] [(23, vI (IntKind.i64.wrap (i214 + 1))), (1, vP b1 0), (3, vP b2 0), (4, .func (.func 83) #[] #[vP b2 0]), (21, sl A_w_0 w_0 c_w_0), (22, vI (w_0.length : Int))] (by kernel_rfl) ?_
    refine ops_nil ?_
    exact fin_again (l220, IntKind.i64.wrap (i214 + 1)) (A218, c219, y221, F223, W224) (Option.some.inj hp).symm ⟨h222, (hx8.trans hx9)⟩ (look_has ⟨rfl, rfl, rfl, rfl, rfl, rfl, trivial⟩) (fun w_ hM => hM)
   ·
    intro HJ9
    refine st_seq (st_block (st_seq (st_region [oF 0, oF 1, oF 2, oF 3] (by rfl) ?_)))
    obtain ⟨x225, hv226, hp⟩ := obind hp
    obtain ⟨m227, hm228, hx229⟩ := idx_some hv226
    have hl232 := (List.getElem?_eq_some_iff.1 hx229).1
    obtain ⟨ad233, vs230, hA234, hr231, hq235⟩ := RdS.el h_w_0 hx229
    obtain ⟨A236, c237, rfl, h238⟩ := dec_api_Kind hr231
    refine ops_val (op := (.indexAddr 28 (.tmp 21) (.tmp 23))) (d := some 25) (v := .pointer (some (ad233.add (m227 * 2)))) ⟨by kernel_rfl⟩ (run_indexA hA234 Tryd.underlying28 (z := 2) (by kernel_rfl) rfl rfl hm228 hl232) ?_
    refine ops_mem (d := some 26) (an := [.v (.string x225.Name), .v (sl A236 x225.Fields c237)]) (evs := [.load (ad233.add (m227 * 2)) (.string x225.Name), .load ((ad233.add (m227 * 2)).add 1) (sl A236 x225.Fields c237)]) (v := .agg #[.string x225.Name, sl A236 x225.Fields c237]) ⟨by kernel_rfl⟩ (fun w_ hM hS => ⟨w_, ⟨hM.elcell 3 rfl hq235 0 rfl, hM.elcell 3 rfl hq235 1 rfl, rfl⟩, hM, trivial⟩) ?_
    refine ops_newB (d := some 6) [.string ByteArray.empty, .slice none 0 0] 27 (fun b239 => ⟨by kernel_rfl⟩) (fun w_ hM hS => trivial) (fun b239 => ?_)
    refine ops_store (an := []) (evs := [sr b239 0 (.string x225.Name), sr b239 1 (sl A236 x225.Fields c237)]) ⟨by kernel_rfl⟩ (fun w_ hM hS => let ⟨w', he, h'⟩ := hM.evs_stores [.string x225.Name, sl A236 x225.Fields c237] 0 rfl 0 (Nat.le_of_ble_eq_true rfl); ⟨w', he, h', trivial⟩) ?_
    refine ops_nil (fin_then (st_seq (st_region [oF 0, oF 1, oF 2, oF 3] (by rfl) ?_)))
    refine oQ [oF 0, oF 1] [(28, vP b239 0), (27, .func (.func 83) #[] #[vP b2 0]), (6, vP b239 0), (1, vP b1 0), (3, vP b2 0), (4, .func (.func 83) #[] #[vP b2 0]), (21, sl A_w_0 w_0 c_w_0), (22, vI (w_0.length : Int)), (23, vI i214)] (by kernel_rfl) ?_
    refine ops_mem (d := some 29) (an := [.v (.string x225.Name)]) (evs := [ld b239 0 (.string x225.Name)]) (v := .string x225.Name) ⟨by kernel_rfl⟩ (fun w_ hM hS => ⟨w_, ⟨hM.cell 0 rfl rfl, rfl⟩, hM, trivial⟩) ?_
    obtain ⟨x240, hv241, hp⟩ := obind hp
    refine ops_callI (σ := (Option Addr) × Nat × (List Value) × (Nat → Prop) × World) (d := some 30) (f := 83) (args := #[.string x225.Name, vP b2 0]) (v := (fun x_ => match x_ with | (A242, c243, y244, F245, W246) => .tuple #[])) (I := (fun x_ => match x_ with | (A242, c243, y244, F245, W246) => (RepL (Rep.int .i64) F245 W246 x240 y244) ∧ (Ext w0 F215 W216 F245 W246))) (M' := (fun x_ => match x_ with | (A242, c243, y244, F245, W246) => Mem w0 (ow A242 x240 c243 3 1 y244 :: .blk b239 [.string x225.Name, sl A236 x225.Fields c237] 27 :: .blk b1 [sl A_w_0 w_0 c_w_0, sl A_w_1 w_1 c_w_1, sl A_w_2 w_2 c_w_2] 71 :: .blk b2 [sl A242 x240 c243] 33 :: Fz F245 W246 :: cs))) ⟨by kernel_rfl⟩ (fun w_ hM hS => (tourref3_Described_1_ok w0 w_ (.blk b239 [.string x225.Name, sl A236 x225.Fields c237] 27 :: .blk b1 [sl A_w_0 w_0 c_w_0, sl A_w_1 w_1 c_w_1, sl A_w_2 w_2 c_w_2] 71 :: cs) F215 W216 x225.Name b2 A209 c210 l211 y212 (hM.pick 5 [2, 3, 4, 0, 1] (by kernel_rfl) (by decide) rfl) h213 x240 hv241).mono (by rintro e w' ⟨A242, c243, y244, F245, W246, ⟨h247, h248⟩, rfl, h'⟩; have h' : Mem w0 (ow A242 x240 c243 3 1 y244 :: .blk b239 [.string x225.Name, sl A236 x225.Fields c237] 27 :: .blk b1 [sl A_w_0 w_0 c_w_0, sl A_w_1 w_1 c_w_1, sl A_w_2 w_2 c_w_2] 71 :: .blk b2 [sl A242 x240 c243] 33 :: Fz F245 W246 :: cs) w' := (h'.pick 5 [1, 3, 4, 0, 2] (by kernel_rfl) (by decide) rfl); exact ⟨(A242, c243, y244, F245, W246), ⟨h247, h248⟩, rfl, h', trivial⟩)) ?_
    rintro ⟨A242, c243, y244, F245, W246⟩ ⟨h247, h248⟩
    have h_w_0 := h_w_0.ext h248
    have h238 := h238.ext h248
    have h_w_1 := h_w_1.ext h248
    have h_w_2 := h_w_2.ext h248
    refine ops_nil (fin_then (st_seq (st_region [oF 0, oF 1, oF 2, oF 3, oF 4, oF 5, oF 6] (by rfl) ?_)))
    refine ops_mem (d := some 31) (an := [.v (sl A242 x240 c243)]) (evs := [ld b2 0 (sl A242 x240 c243)]) (v := sl A242 x240 c243) ⟨by kernel_rfl⟩ (fun w_ hM hS => ⟨w_, ⟨hM.cell 3 rfl rfl, rfl⟩, hM, trivial⟩) ?_
    refine oQ [oF 1] [(32, vP b239 1), (31, sl A242 x240 c243), (6, vP b239 0), (1, vP b1 0), (3, vP b2 0), (4, .func (.func 83) #[] #[vP b2 0]), (21, sl A_w_0 w_0 c_w_0), (22, vI (w_0.length : Int)), (23, vI i214)] (by kernel_rfl) ?_
    refine ops_mem (d := some 33) (an := [.v (sl A236 x225.Fields c237)]) (evs := [ld b239 1 (sl A236 x225.Fields c237)]) (v := sl A236 x225.Fields c237) ⟨by kernel_rfl⟩ (fun w_ hM hS => ⟨w_, ⟨hM.cell 1 rfl rfl, rfl⟩, hM, trivial⟩) ?_
    refine oQ [oF 3] [(34, vI (x225.Fields.length : Int)), (31, sl A242 x240 c243), (6, vP b239 0), (1, vP b1 0), (3, vP b2 0), (4, .func (.func 83) #[] #[vP b2 0]), (21, sl A_w_0 w_0 c_w_0), (22, vI (w_0.length : Int)), (23, vI i214)] (by kernel_rfl) ?_
    have h249 : RepL (Rep.int .i64) F245 W246 ([(x225.Fields.length : Int)] : List Int) ([vI (x225.Fields.length : Int)]) := (RepL.cons (R := (Rep.int .i64)) (F := F245) (w := W246) (vs := [vI (x225.Fields.length : Int)]) (ys := []) rfl RepL.nil)
    refine ops_new (d := some 35) (o := .cells ([vI (x225.Fields.length : Int)]).toArray 3) (v := fun g250 => .slice (sa g250) ([(x225.Fields.length : Int)] : List Int).length 1) (M' := fun g250 => Mem w0 (orow (sa g250) ([(x225.Fields.length : Int)] : List Int).length 1 3 1 ([vI (x225.Fields.length : Int)]) :: ow A242 x240 c243 3 1 y244 :: .blk b239 [.string x225.Name, sl A236 x225.Fields c237] 27 :: .blk b1 [sl A_w_0 w_0 c_w_0, sl A_w_1 w_1 c_w_1, sl A_w_2 w_2 c_w_2] 71 :: .blk b2 [sl A242 x240 c243] 33 :: Fz F245 W246 :: cs)) (fun g250 => ⟨by kernel_rfl⟩) (fun w_ hM hS => ⟨hM.onew [vI (x225.Fields.length : Int)] 3 1 1 rfl (by decide), trivial⟩) (fun g250 => ?_)
    obtain ⟨l251, hv252, hp⟩ := obind hp
    obtain ⟨he253, hb254⟩ := app_some hv252
    obtain ⟨y255, hy256⟩ : ∃ y_, y244 ++ ([vI (x225.Fields.length : Int)]) = y_ := ⟨_, rfl⟩
    have h257 : RepL (Rep.int .i64) F245 W246 l251 y255 := by rw [he253, ← hy256]; exact RepL.app h247 h249
    refine ops_appendO (x := (Go.Operand.tmp 31)) (y := (Go.Operand.tmp 35)) (t := 33) (e := 3) (d := some 36) (n' := l251.length) (z := 1) (m := ([(x225.Fields.length : Int)] : List Int).length) (bytes := 8) (xs' := y255) (news := ([vI (x225.Fields.length : Int)])) (zv := vI 0) 1 ⟨by kernel_rfl⟩ rfl rfl Tryd.underlying33 (by kernel_rfl) (by rfl) rfl (fun w_ hM => hM.srcO 0 rfl) h249.len h249.one hb254 (by have z_ := congrArg List.length he253; rw [List.length_append] at z_; exact z_.symm) hy256 (fun _ _ _ _ hS h' => trivial) ?_
    rintro ⟨A258, c259⟩
    refine ops_store (an := []) (evs := [sr b2 0 (sl A258 l251 c259)]) ⟨by kernel_rfl⟩ (fun w_ hM hS => let ⟨w', he, h'⟩ := hM.evs_stores [sl A258 l251 c259] 4 rfl 0 (Nat.le_of_ble_eq_true rfl); ⟨w', he, h', trivial⟩) ?_
    refine ops_nil (fin_then (st_seq (st_region [oF 0, oF 1, oF 2, oF 3] (by rfl) ?_)))
    refine oQ [oF 0] [(37, vP b239 1), (1, vP b1 0), (3, vP b2 0), (4, .func (.func 83) #[] #[vP b2 0]), (21, sl A_w_0 w_0 c_w_0), (22, vI (w_0.length : Int)), (23, vI i214)] (by kernel_rfl) ?_
    refine ops_mem (d := some 38) (an := [.v (sl A236 x225.Fields c237)]) (evs := [ld b239 1 (sl A236 x225.Fields c237)]) (v := sl A236 x225.Fields c237) ⟨by kernel_rfl⟩ (fun w_ hM hS => ⟨w_, ⟨hM.cell 2 rfl rfl, rfl⟩, hM, trivial⟩) ?_
    refine oQ [oF 2, oF 3] [(40, vI 0), (39, vI (x225.Fields.length : Int)), (38, sl A236 x225.Fields c237), (1, vP b1 0), (3, vP b2 0), (4, .func (.func 83) #[] #[vP b2 0]), (21, sl A_w_0 w_0 c_w_0), (22, vI (w_0.length : Int)), (23, vI i214)] (by kernel_rfl) ?_
    refine ops_nil (fin_then (st_block ?_))
    obtain ⟨r10, hl10, hk10⟩ := obind hp
    refine st_loopP (σ := (List Int) × Int) (ρ := (List Int)) (γ := (Option Addr) × Nat × (List Value) × (Nat → Prop) × World) hl10 (A258, c259, y255, F245, W246) (fun s_ g_ => match s_, g_ with | (l262, i265), (A260, c261, y263, F266, W267) => [(1, vP b1 0), (3, vP b2 0), (4, .func (.func 83) #[] #[vP b2 0]), (21, sl A_w_0 w_0 c_w_0), (22, vI (w_0.length : Int)), (23, vI i214), (38, sl A236 x225.Fields c237), (39, vI (x225.Fields.length : Int)), (40, vI i265)]) (fun s_ g_ => match s_, g_ with | (l262, i265), (A260, c261, y263, F266, W267) => Mem w0 (.blk b1 [sl A_w_0 w_0 c_w_0, sl A_w_1 w_1 c_w_1, sl A_w_2 w_2 c_w_2] 71 :: .blk b2 [sl A260 l262 c261] 33 :: ow A260 l262 c261 3 1 y263 :: Fz F266 W267 :: cs)) (fun s_ g_ => match s_, g_ with | (l262, i265), (A260, c261, y263, F266, W267) => (RepL (Rep.int .i64) F266 W267 l262 y263) ∧ (Ext w0 F245 W246 F266 W267)) ⟨h257, (Ext.refl _ _ _)⟩ (look_has ⟨rfl, rfl, rfl, rfl, rfl, rfl, rfl, rfl, rfl, trivial⟩) (fun w_ hM => hM.pick 6 [3, 4, 1, 5] (by kernel_rfl) (by decide) rfl) ?_
    rintro ⟨l262, i265⟩ ⟨A260, c261, y263, F266, W267⟩ o10 ⟨h264, hx10⟩ hs_ hd10
    have hp : (tourref3_Described_l10 x225) l262 i265 = some o10 := hs_
    clear hs_
    unfold tourref3_Described_l10 at hp
    have h_w_0 := h_w_0.ext hx10
    have h238 := h238.ext hx10
    have h_w_1 := h_w_1.ext hx10
    have h_w_2 := h_w_2.ext hx10
    refine st_seq (st_region [oF 0] (by rfl) ?_)
    refine oQ [oF 0] [(41, .bool (decide (i265 < (x225.Fields.length : Int)))), (1, vP b1 0), (3, vP b2 0), (4, .func (.func 83) #[] #[vP b2 0]), (21, sl A_w_0 w_0 c_w_0), (22, vI (w_0.length : Int)), (23, vI i214), (38, sl A236 x225.Fields c237), (39, vI (x225.Fields.length : Int)), (40, vI i265)] (by kernel_rfl) ?_
    refine ops_nil (fin_then (st_seq ?_))
    refine st_if (b := decide (i265 < (x225.Fields.length : Int))) rfl (fun hc268 => ?_) (fun hc268 => ?_)
    ·
     have hp := cnd_t hc268 hp
     refine st_skip (fin_then (st_seq (st_block (st_seq (st_region [oF 0, oF 1, oF 2, oF 3] (by rfl) ?_)))))
     obtain ⟨x269, hv270, hp⟩ := obind hp
     obtain ⟨m271, hm272, hx273⟩ := idx_some hv270
     have hl276 := (List.getElem?_eq_some_iff.1 hx273).1
     obtain ⟨ad277, vs274, hA278, hr275, hq279⟩ := RdS.el h238 hx273
     obtain rfl := dec_api_Field hr275
     refine ops_val (op := (.indexAddr 25 (.tmp 38) (.tmp 40))) (d := some 42) (v := .pointer (some (ad277.add (m271 * 3)))) ⟨by kernel_rfl⟩ (run_indexA hA278 Tryd.underlying25 (z := 3) (by kernel_rfl) rfl rfl hm272 hl276) ?_
     refine ops_mem (d := some 43) (an := [.v (.string x269.Name), .v (vI x269.Bits), .v (vI x269.Low)]) (evs := [.load (ad277.add (m271 * 3)) (.string x269.Name), .load ((ad277.add (m271 * 3)).add 1) (vI x269.Bits), .load ((ad277.add (m271 * 3)).add 2) (vI x269.Low)]) (v := .agg #[.string x269.Name, vI x269.Bits, vI x269.Low]) ⟨by kernel_rfl⟩ (fun w_ hM hS => ⟨w_, ⟨hM.elcell 3 rfl hq279 0 rfl, hM.elcell 3 rfl hq279 1 rfl, hM.elcell 3 rfl hq279 2 rfl, rfl⟩, hM, trivial⟩) ?_
     refine ops_newB (d := some 8) [.string ByteArray.empty, vI 0, vI 0] 23 (fun b280 => ⟨by kernel_rfl⟩) (fun w_ hM hS => trivial) (fun b280 => ?_)
     refine ops_store (an := []) (evs := [sr b280 0 (.string x269.Name), sr b280 1 (vI x269.Bits), sr b280 2 (vI x269.Low)]) ⟨by kernel_rfl⟩ (fun w_ hM hS => let ⟨w', he, h'⟩ := hM.evs_stores [.string x269.Name, vI x269.Bits, vI x269.Low] 0 rfl 0 (Nat.le_of_ble_eq_true rfl); ⟨w', he, h', trivial⟩) ?_
     refine ops_nil (fin_then (st_seq (st_region [oF 0, oF 1, oF 2, oF 3] (by rfl) ?_)))
     refine oQ [oF 0, oF 1] [(45, vP b280 0), (44, .func (.func 83) #[] #[vP b2 0]), (8, vP b280 0), (1, vP b1 0), (3, vP b2 0), (4, .func (.func 83) #[] #[vP b2 0]), (21, sl A_w_0 w_0 c_w_0), (22, vI (w_0.length : Int)), (23, vI i214), (38, sl A236 x225.Fields c237), (39, vI (x225.Fields.length : Int)), (40, vI i265)] (by kernel_rfl) ?_
     refine ops_mem (d := some 46) (an := [.v (.string x269.Name)]) (evs := [ld b280 0 (.string x269.Name)]) (v := .string x269.Name) ⟨by kernel_rfl⟩ (fun w_ hM hS => ⟨w_, ⟨hM.cell 0 rfl rfl, rfl⟩, hM, trivial⟩) ?_
     obtain ⟨x281, hv282, hp⟩ := obind hp
     refine ops_callI (σ := (Option Addr) × Nat × (List Value) × (Nat → Prop) × World) (d := some 47) (f := 83) (args := #[.string x269.Name, vP b2 0]) (v := (fun x_ => match x_ with | (A283, c284, y285, F286, W287) => .tuple #[])) (I := (fun x_ => match x_ with | (A283, c284, y285, F286, W287) => (RepL (Rep.int .i64) F286 W287 x281 y285) ∧ (Ext w0 F266 W267 F286 W287))) (M' := (fun x_ => match x_ with | (A283, c284, y285, F286, W287) => Mem w0 (ow A283 x281 c284 3 1 y285 :: .blk b280 [.string x269.Name, vI x269.Bits, vI x269.Low] 23 :: .blk b1 [sl A_w_0 w_0 c_w_0, sl A_w_1 w_1 c_w_1, sl A_w_2 w_2 c_w_2] 71 :: .blk b2 [sl A283 x281 c284] 33 :: Fz F286 W287 :: cs))) ⟨by kernel_rfl⟩ (fun w_ hM hS => (tourref3_Described_1_ok w0 w_ (.blk b280 [.string x269.Name, vI x269.Bits, vI x269.Low] 23 :: .blk b1 [sl A_w_0 w_0 c_w_0, sl A_w_1 w_1 c_w_1, sl A_w_2 w_2 c_w_2] 71 :: cs) F266 W267 x269.Name b2 A260 c261 l262 y263 (hM.pick 5 [2, 3, 4, 0, 1] (by kernel_rfl) (by decide) rfl) h264 x281 hv282).mono (by rintro e w' ⟨A283, c284, y285, F286, W287, ⟨h288, h289⟩, rfl, h'⟩; have h' : Mem w0 (ow A283 x281 c284 3 1 y285 :: .blk b280 [.string x269.Name, vI x269.Bits, vI x269.Low] 23 :: .blk b1 [sl A_w_0 w_0 c_w_0, sl A_w_1 w_1 c_w_1, sl A_w_2 w_2 c_w_2] 71 :: .blk b2 [sl A283 x281 c284] 33 :: Fz F286 W287 :: cs) w' := (h'.pick 5 [1, 3, 4, 0, 2] (by kernel_rfl) (by decide) rfl); exact ⟨(A283, c284, y285, F286, W287), ⟨h288, h289⟩, rfl, h', trivial⟩)) ?_
     rintro ⟨A283, c284, y285, F286, W287⟩ ⟨h288, h289⟩
     have h_w_0 := h_w_0.ext h289
     have h238 := h238.ext h289
     have h_w_1 := h_w_1.ext h289
     have h_w_2 := h_w_2.ext h289
     refine ops_nil (fin_then (st_region [oF 0, oF 1, oF 2, oF 3, oF 4, oF 5, oF 6, oF 7] (by rfl) ?_))
     refine ops_mem (d := some 48) (an := [.v (sl A283 x281 c284)]) (evs := [ld b2 0 (sl A283 x281 c284)]) (v := sl A283 x281 c284) ⟨by kernel_rfl⟩ (fun w_ hM hS => ⟨w_, ⟨hM.cell 3 rfl rfl, rfl⟩, hM, trivial⟩) ?_
     refine oQ [oF 1] [(49, vP b280 1), (48, sl A283 x281 c284), (8, vP b280 0), (1, vP b1 0), (3, vP b2 0), (4, .func (.func 83) #[] #[vP b2 0]), (21, sl A_w_0 w_0 c_w_0), (22, vI (w_0.length : Int)), (23, vI i214), (38, sl A236 x225.Fields c237), (39, vI (x225.Fields.length : Int)), (40, vI i265)] (by kernel_rfl) ?_
     refine ops_mem (d := some 50) (an := [.v (vI x269.Bits)]) (evs := [ld b280 1 (vI x269.Bits)]) (v := vI x269.Bits) ⟨by kernel_rfl⟩ (fun w_ hM hS => ⟨w_, ⟨hM.cell 1 rfl rfl, rfl⟩, hM, trivial⟩) ?_
     refine oQ [oF 3] [(51, vP b280 2), (50, vI x269.Bits), (48, sl A283 x281 c284), (1, vP b1 0), (3, vP b2 0), (4, .func (.func 83) #[] #[vP b2 0]), (21, sl A_w_0 w_0 c_w_0), (22, vI (w_0.length : Int)), (23, vI i214), (38, sl A236 x225.Fields c237), (39, vI (x225.Fields.length : Int)), (40, vI i265)] (by kernel_rfl) ?_
     refine ops_mem (d := some 52) (an := [.v (vI x269.Low)]) (evs := [ld b280 2 (vI x269.Low)]) (v := vI x269.Low) ⟨by kernel_rfl⟩ (fun w_ hM hS => ⟨w_, ⟨hM.cell 1 rfl rfl, rfl⟩, hM, trivial⟩) ?_
     have h290 : RepL (Rep.int .i64) F286 W287 ([x269.Bits, x269.Low] : List Int) ([vI x269.Bits, vI x269.Low]) := (RepL.cons (R := (Rep.int .i64)) (F := F286) (w := W287) (vs := [vI x269.Bits]) (ys := [vI x269.Low]) rfl (RepL.cons (R := (Rep.int .i64)) (F := F286) (w := W287) (vs := [vI x269.Low]) (ys := []) rfl RepL.nil))
     refine ops_new (d := some 53) (o := .cells ([vI x269.Bits, vI x269.Low]).toArray 3) (v := fun g291 => .slice (sa g291) ([x269.Bits, x269.Low] : List Int).length 2) (M' := fun g291 => Mem w0 (orow (sa g291) ([x269.Bits, x269.Low] : List Int).length 2 3 1 ([vI x269.Bits, vI x269.Low]) :: ow A283 x281 c284 3 1 y285 :: .blk b280 [.string x269.Name, vI x269.Bits, vI x269.Low] 23 :: .blk b1 [sl A_w_0 w_0 c_w_0, sl A_w_1 w_1 c_w_1, sl A_w_2 w_2 c_w_2] 71 :: .blk b2 [sl A283 x281 c284] 33 :: Fz F286 W287 :: cs)) (fun g291 => ⟨by kernel_rfl⟩) (fun w_ hM hS => ⟨hM.onew [vI x269.Bits, vI x269.Low] 3 2 1 rfl (by decide), trivial⟩) (fun g291 => ?_)
     obtain ⟨l292, hv293, hp⟩ := obind hp
     obtain ⟨he294, hb295⟩ := app_some hv293
     obtain ⟨y296, hy297⟩ : ∃ y_, y285 ++ ([vI x269.Bits, vI x269.Low]) = y_ := ⟨_, rfl⟩
     have h298 : RepL (Rep.int .i64) F286 W287 l292 y296 := by rw [he294, ← hy297]; exact RepL.app h288 h290
     refine ops_appendO (x := (Go.Operand.tmp 48)) (y := (Go.Operand.tmp 53)) (t := 33) (e := 3) (d := some 54) (n' := l292.length) (z := 1) (m := ([x269.Bits, x269.Low] : List Int).length) (bytes := 8) (xs' := y296) (news := ([vI x269.Bits, vI x269.Low])) (zv := vI 0) 1 ⟨by kernel_rfl⟩ rfl rfl Tryd.underlying33 (by kernel_rfl) (by rfl) rfl (fun w_ hM => hM.srcO 0 rfl) h290.len h290.one hb295 (by have z_ := congrArg List.length he294; rw [List.length_append] at z_; exact z_.symm) hy297 (fun _ _ _ _ hS h' => trivial) ?_
     rintro ⟨A299, c300⟩
     refine ops_store (an := []) (evs := [sr b2 0 (sl A299 l292 c300)]) ⟨by kernel_rfl⟩ (fun w_ hM hS => let ⟨w', he, h'⟩ := hM.evs_stores [sl A299 l292 c300] 4 rfl 0 (Nat.le_of_ble_eq_true rfl); ⟨w', he, h', trivial⟩) ?_
     refine ops_nil (fin_block (fin_then (st_region [oF 0, oF 1] (by rfl) ?_)))
     refine oQ [oF 0, oF 1] [(40, vI (IntKind.i64.wrap (i265 + 1))), (1, vP b1 0), (3, vP b2 0), (4, .func (.func 83) #[] #[vP b2 0]), (21, sl A_w_0 w_0 c_w_0), (22, vI (w_0.length : Int)), (23, vI i214), (38, sl A236 x225.Fields c237), (39, vI (x225.Fields.length : Int))] (by kernel_rfl) ?_
     refine ops_nil ?_
     exact fin_again (l292, IntKind.i64.wrap (i265 + 1)) (A299, c300, y296, F286, W287) (Option.some.inj hp).symm ⟨h298, (hx10.trans h289)⟩ (look_has ⟨rfl, rfl, rfl, rfl, rfl, rfl, rfl, rfl, rfl, trivial⟩) (fun w_ hM => hM.pick 6 [3, 4, 1, 5] (by kernel_rfl) (by decide) rfl)
    ·
     have hp := cnd_f hc268 hp
     refine st_exit (fin_exit_then (fin_exit_then (fin_exit (fin_block ?_))))
     obtain hq_ := Option.some.inj hp
     subst hq_
     obtain hq_ := hd10 _ rfl
     subst hq_
     have hp : (tourref3_Described_j9 i214) l262 = some o8 := hk10
     exact fin_join HJ9 (A260, c261, l262, y263, F266, W267) ⟨hp, h264, (h248.trans hx10)⟩ (look_has ⟨rfl, rfl, rfl, rfl, rfl, rfl, trivial⟩) (fun w_ hM => hM)
  ·
   have hp := cnd_f hc217 hp
   refine st_exit (fin_exit_then (fin_exit_then (fin_exit ?_)))
   obtain hq_ := Option.some.inj hp
   subst hq_
   obtain hq_ := hd8 _ rfl
   subst hq_
   have hp : (tourref3_Described_j1 w_1 w_2) l211 = some l9003 := hk8
   exact fin_join HJ1 (A209, c210, l211, y212, F215, W216) ⟨hp, h213, hx8⟩ (look_has ⟨rfl, rfl, trivial⟩) (fun w_ hM => hM)
theorem rnd_Mix_ok (w0 w : World) (cs : List Chunk) (F : Nat → Prop) (W : World) (x : Int) (hM0 : Mem w0 (Fz F W :: cs) w) (i9001 : Int) (hp : rnd_Mix x = some i9001) : Calls Tryd.prog 118 #[vU x] w fun e w' => (True) ∧ e = .returned (vU i9001) ∧ Mem w0 (Fz F W :: cs) w' := by
 unfold rnd_Mix at hp
 refine sx_calls Tryd.func118 rfl (n := 17) (by kernel_rfl) (l := [(0, vU x)]) rfl (by rfl) hM0 ?_
 refine st_seq (st_region [oF 0] (by rfl) ?_)
 refine oQ [oF 0] [(0, vU x)] (by kernel_rfl) ?_
 refine ops_nil (fin_then (st_seq (st_region [oF 0, oF 1, oF 2, oF 3, oF 4, oF 5] (by rfl) ?_)))
 refine oQ [oF 0, oF 1, oF 2, oF 3, oF 4, oF 5] [(0, vU (IntKind.u64.wrap (Go.bits .xor .u64 x (Int.fdiv x 2147483648) * 7640891576956012809)))] (by kernel_rfl) ?_
 obtain ⟨x1, hv2, hp⟩ := obind hp
 refine ops_conv (l' := [(0, vU x1)]) (by rw [← Option.some.inj hv2]) (fun _ h => h) ?_
 refine ops_nil (fin_then (st_seq (st_region [oF 0, oF 1, oF 2, oF 3, oF 4, oF 5] (by rfl) ?_)))
 refine oQ [oF 0, oF 1, oF 2, oF 3, oF 4, oF 5] [(0, vU (IntKind.u64.wrap (Go.bits .xor .u64 x1 (Int.fdiv x1 134217728) * 13503953896175478587)))] (by kernel_rfl) ?_
 obtain ⟨x3, hv4, hp⟩ := obind hp
 refine ops_conv (l' := [(0, vU x3)]) (by rw [← Option.some.inj hv4]) (fun _ h => h) ?_
 refine ops_nil (fin_then (st_seq (st_region [oF 0, oF 1, oF 2, oF 3, oF 4] (by rfl) ?_)))
 refine oQ [oF 0, oF 1, oF 2, oF 3, oF 4] [(2, vU (Go.bits .xor .u64 x3 (Int.fdiv x3 1073741824)))] (by kernel_rfl) ?_
 refine ops_nil (fin_then (st_ret ?_))
 have hq_ := Option.some.inj hp
 have hr0_ := hq_
 subst hr0_
 refine fin_ret [.tmp 2] [vU (Go.bits .xor .u64 x3 (Int.fdiv x3 1073741824))] rfl rfl (fun w_ hM => (.tmp rfl .nil)) (fun w_ hM => ?_)
 exact ⟨trivial, rfl, hM⟩
theorem sum_Join_ok (w0 w : World) (cs : List Chunk) (F : Nat → Prop) (W : World) (a : Int) (b : Int) (hM0 : Mem w0 (Fz F W :: cs) w) (i9001 : Int) (hp : sum_Join a b = some i9001) : Calls Tryd.prog 107 #[vU a, vU b] w fun e w' => (True) ∧ e = .returned (vU i9001) ∧ Mem w0 (Fz F W :: cs) w' := by
 unfold sum_Join at hp
 refine sx_calls Tryd.func107 rfl (n := 12) (by kernel_rfl) (l := [(0, vU a), (1, vU b)]) rfl (by rfl) hM0 ?_
 refine st_seq (st_region [oF 0] (by rfl) ?_)
 refine oQ [oF 0] [(0, vU a), (1, vU b)] (by kernel_rfl) ?_
 refine ops_nil (fin_then (st_seq (st_region [oF 0, oF 1, oF 2, oF 3, oF 4, oF 5, oF 6, oF 7] (by rfl) ?_)))
 refine oQ [oF 0, oF 1] [(6, vU (IntKind.u64.wrap (a + 5840696475078001361))), (1, vU b)] (by kernel_rfl) ?_
 obtain ⟨x1, hv2, hp⟩ := obind hp
 refine ops_callI (σ := Unit) (d := some 7) (f := 118) (args := #[vU (IntKind.u64.wrap (a + 5840696475078001361))]) (v := (fun _ => vU x1)) (I := (fun _ => True)) (M' := (fun _ => Mem w0 (Fz F W :: cs))) ⟨by kernel_rfl⟩ (fun w_ hM hS => (rnd_Mix_ok w0 w_ (cs) F W (IntKind.u64.wrap (a + 5840696475078001361)) hM  x1 hv2).mono (by rintro e w' ⟨-, rfl, h'⟩; have h' : Mem w0 (Fz F W :: cs) w' := h'; exact ⟨(), trivial, rfl, h', trivial⟩)) ?_
 rintro _ -
 refine oQ [oF 3, oF 4, oF 5] [(10, vU (IntKind.u64.wrap (IntKind.u64.wrap (x1 * 11170449401992604703) + b)))] (by kernel_rfl) ?_
 obtain ⟨x3, hv4, hp⟩ := obind hp
 refine ops_conv (l' := [(10, vU x3)]) (by rw [← Option.some.inj hv4]) (fun _ h => h) ?_
 obtain ⟨x5, hv6, hp⟩ := obind hp
 refine ops_callI (σ := Unit) (d := some 11) (f := 118) (args := #[vU x3]) (v := (fun _ => vU x5)) (I := (fun _ => True)) (M' := (fun _ => Mem w0 (Fz F W :: cs))) ⟨by kernel_rfl⟩ (fun w_ hM hS => (rnd_Mix_ok w0 w_ (cs) F W x3 hM  x5 hv6).mono (by rintro e w' ⟨-, rfl, h'⟩; have h' : Mem w0 (Fz F W :: cs) w' := h'; exact ⟨(), trivial, rfl, h', trivial⟩)) ?_
 rintro _ -
 refine oQ [oF 7] [(4, vU x5)] (by kernel_rfl) ?_
 refine ops_nil (fin_then (st_ret ?_))
 have hq_ := Option.some.inj hp
 have hr0_ := hq_
 subst hr0_
 refine fin_ret [.tmp 4] [vU x5] rfl rfl (fun w_ hM => (.tmp rfl .nil)) (fun w_ hM => ?_)
 exact ⟨trivial, rfl, hM⟩
theorem sum_Words_ok (w0 w : World) (cs : List Chunk) (F : Nat → Prop) (W : World) (A_l : Option Addr) (c_l : Nat) (l : List Int) (hM0 : Mem w0 (Fz F W :: cs) w) (h_l : RdS (Rep.int .u64) F W A_l c_l l) (i9001 : Int) (hp : sum_Words l = some i9001) : Calls Tryd.prog 84 #[sl A_l l c_l] w fun e w' => (True) ∧ e = .returned (vU i9001) ∧ Mem w0 (Fz F W :: cs) w' := by
 unfold sum_Words at hp
 refine sx_calls Tryd.func84 rfl (n := 21) (by kernel_rfl) (l := [(0, sl A_l l c_l)]) rfl (by rfl) hM0 ?_
 refine st_seq (st_region [oF 0] (by rfl) ?_)
 refine oQ [oF 0] [(0, sl A_l l c_l)] (by kernel_rfl) ?_
 refine ops_nil (fin_then (st_seq (st_region [oF 0, oF 1, oF 2, oF 3, oF 4] (by rfl) ?_)))
 refine oQ [oF 0, oF 1, oF 2] [(8, vU (IntKind.u64.wrap (l.length : Int))), (0, sl A_l l c_l)] (by kernel_rfl) ?_
 obtain ⟨x1, hv2, hp⟩ := obind hp
 refine ops_callI (σ := Unit) (d := some 9) (f := 107) (args := #[vU 5840696475078001361, vU (IntKind.u64.wrap (l.length : Int))]) (v := (fun _ => vU x1)) (I := (fun _ => True)) (M' := (fun _ => Mem w0 (Fz F W :: cs))) ⟨by kernel_rfl⟩ (fun w_ hM hS => (sum_Join_ok w0 w_ (cs) F W 5840696475078001361 (IntKind.u64.wrap (l.length : Int)) hM  x1 hv2).mono (by rintro e w' ⟨-, rfl, h'⟩; have h' : Mem w0 (Fz F W :: cs) w' := h'; exact ⟨(), trivial, rfl, h', trivial⟩)) ?_
 rintro _ -
 refine oQ [oF 4] [(3, vU x1), (0, sl A_l l c_l)] (by kernel_rfl) ?_
 refine ops_nil (fin_then ?_)
 refine st_join1 (σ := Int) (L := fun x_ => match x_ with | i3 => [(3, vU i3)]) (N := fun x_ => match x_ with | i3 => Mem w0 (Fz F W :: cs)) (I := fun x_ => match x_ with | i3 => (sum_Words_j1 i3 = some i9001)) ?_ ?_
 ·
  rintro i3 hp
  unfold sum_Words_j1 at hp
  refine st_seq (st_region [oF 0, oF 1] (by rfl) ?_)
  refine oQ [oF 0, oF 1] [(2, vU i3)] (by kernel_rfl) ?_
  refine ops_nil (fin_then (st_ret ?_))
  have hq_ := Option.some.inj hp
  have hr0_ := hq_
  subst hr0_
  refine fin_ret [.tmp 2] [vU i3] rfl rfl (fun w_ hM => (.tmp rfl .nil)) (fun w_ hM => ?_)
  exact ⟨trivial, rfl, hM⟩
 ·
  intro HJ1
  refine st_seq (st_seq (st_region [oF 0, oF 1, oF 2] (by rfl) ?_))
  refine oQ [oF 0, oF 1, oF 2] [(12, vI 0), (11, vI (l.length : Int)), (10, sl A_l l c_l), (3, vU x1)] (by kernel_rfl) ?_
  refine ops_nil (fin_then (st_block ?_))
  obtain ⟨r2, hl2, hk2⟩ := obind hp
  refine st_loopP (σ := Int × Int) (ρ := Int) (γ := Unit) hl2 () (fun s_ g_ => match s_, g_ with | (i4, i5), _ => [(3, vU i4), (10, sl A_l l c_l), (11, vI (l.length : Int)), (12, vI i5)]) (fun s_ g_ => match s_, g_ with | (i4, i5), _ => Mem w0 (Fz F W :: cs)) (fun s_ g_ => match s_, g_ with | (i4, i5), _ => True) trivial (look_has ⟨rfl, rfl, rfl, rfl, trivial⟩) (fun w_ hM => hM) ?_
  rintro ⟨i4, i5⟩ _ o2 - hs_ hd2
  have hp : (sum_Words_l2 l) i4 i5 = some o2 := hs_
  clear hs_
  unfold sum_Words_l2 at hp
  refine st_seq (st_region [oF 0] (by rfl) ?_)
  refine oQ [oF 0] [(13, .bool (decide (i5 < (l.length : Int)))), (3, vU i4), (10, sl A_l l c_l), (11, vI (l.length : Int)), (12, vI i5)] (by kernel_rfl) ?_
  refine ops_nil (fin_then (st_seq ?_))
  refine st_if (b := decide (i5 < (l.length : Int))) rfl (fun hc6 => ?_) (fun hc6 => ?_)
  ·
   have hp := cnd_t hc6 hp
   refine st_skip (fin_then (st_seq (st_block (st_seq (st_region [oF 0, oF 1, oF 2] (by rfl) ?_)))))
   obtain ⟨x7, hv8, hp⟩ := obind hp
   obtain ⟨m9, hm10, hx11⟩ := idx_some hv8
   have hl14 := (List.getElem?_eq_some_iff.1 hx11).1
   obtain ⟨ad15, vs12, hA16, hr13, hq17⟩ := RdS.el h_l hx11
   obtain rfl := hr13
   refine ops_val (op := (.indexAddr 133 (.tmp 10) (.tmp 12))) (d := some 14) (v := .pointer (some (ad15.add (m9 * 1)))) ⟨by kernel_rfl⟩ (run_indexA hA16 Tryd.underlying133 (z := 1) (by kernel_rfl) rfl rfl hm10 hl14) ?_
   refine ops_mem (d := some 15) (an := [.v (vU x7)]) (evs := [.load (ad15.add (m9 * 1)) (vU x7)]) (v := vU x7) ⟨by kernel_rfl⟩ (fun w_ hM hS => ⟨w_, ⟨hM.elcell 0 rfl hq17 0 rfl, rfl⟩, hM, trivial⟩) ?_
   refine oQ [oF 2] [(5, vU x7), (3, vU i4), (10, sl A_l l c_l), (11, vI (l.length : Int)), (12, vI i5)] (by kernel_rfl) ?_
   refine ops_nil (fin_then (st_region [oF 0, oF 1, oF 2, oF 3] (by rfl) ?_))
   refine oQ [oF 0, oF 1] [(17, vU x7), (16, vU i4), (3, vU i4), (10, sl A_l l c_l), (11, vI (l.length : Int)), (12, vI i5)] (by kernel_rfl) ?_
   obtain ⟨x18, hv19, hp⟩ := obind hp
   refine ops_callI (σ := Unit) (d := some 18) (f := 107) (args := #[vU i4, vU x7]) (v := (fun _ => vU x18)) (I := (fun _ => True)) (M' := (fun _ => Mem w0 (Fz F W :: cs))) ⟨by kernel_rfl⟩ (fun w_ hM hS => (sum_Join_ok w0 w_ (cs) F W i4 x7 hM  x18 hv19).mono (by rintro e w' ⟨-, rfl, h'⟩; have h' : Mem w0 (Fz F W :: cs) w' := h'; exact ⟨(), trivial, rfl, h', trivial⟩)) ?_
   rintro _ -
   refine oQ [oF 3] [(3, vU x18), (10, sl A_l l c_l), (11, vI (l.length : Int)), (12, vI i5)] (by kernel_rfl) ?_
   refine ops_nil (fin_block (fin_then (st_region [oF 0, oF 1] (by rfl) ?_)))
   refine oQ [oF 0, oF 1] [(12, vI (IntKind.i64.wrap (i5 + 1))), (3, vU x18), (10, sl A_l l c_l), (11, vI (l.length : Int))] (by kernel_rfl) ?_
   refine ops_nil ?_
   exact fin_again (x18, IntKind.i64.wrap (i5 + 1)) () (Option.some.inj hp).symm trivial (look_has ⟨rfl, rfl, rfl, rfl, trivial⟩) (fun w_ hM => hM)
  ·
   have hp := cnd_f hc6 hp
   refine st_exit (fin_exit_then (fin_exit_then (fin_exit ?_)))
   obtain hq_ := Option.some.inj hp
   subst hq_
   obtain hq_ := hd2 _ rfl
   subst hq_
   have hp : sum_Words_j1 i4 = some i9001 := hk2
   exact fin_join HJ1 i4 hp (look_has ⟨rfl, trivial⟩) (fun w_ hM => hM)
end Go.Proofs.YthcbepikeinglaaDoor.N
