/- The Go functions come to what the plain functions tell. No condition. -/
import Derived.Test.YthcbepikeinglaaProg
import Derived.Test.YthcbepikeinglaaFnY
import Derived.Test.YthcbepikeinglaaWkY1
import Derived.Test.YthcbepikeinglaaSxEq
namespace Go.Proofs.Ythcbepikeinglaa.Y
open Go Go.RowKit Go.Proofs.Ythcbepikeinglaa.Sx
set_option linter.unusedVariables false
theorem eqA24 (d : Nat) (w : World) (x0 y0 : Int) (x1 y1 : Int) :
    (Op.equalIn (d + 2) 24 (.agg #[.int .i64 x0, .int .i64 x1]) (.agg #[.int .i64 y0, .int .i64 y1])).run Try.prog w = .ok (x0 == y0 && (x1 == y1)) w := by
  have h := int_struct (P := Try.prog) (d := d + 1) (w := w) (xs := #[.int .i64 x0, .int .i64 x1]) (ys := #[.int .i64 y0, .int .i64 y1]) Try.underlying24 (by kernel_rfl) ((int_field (k := .i64) (a := x0) (b := y0) (by decide) (by kernel_rfl) (by go_simp) (by go_simp) (int_field (k := .i64) (a := x1) (b := y1) (by decide) (by kernel_rfl) (by go_simp) (by go_simp)  no_field)))
  simpa only [Bool.and_true] using h
set_option maxHeartbeats 4000000 in
set_option maxRecDepth 100000 in
theorem tourref3_SameComp_ok (w0 w : World) (cs : List Chunk) (F : Nat → Prop) (W : World) (a_0 : Int) (A_a_1 : Option Addr) (c_a_1 : Nat) (a_1 : List Int) (b_0 : Int) (A_b_1 : Option Addr) (c_b_1 : Nat) (b_1 : List Int) (hM0 : Mem w0 (Fz F W :: cs) w) (h_a_1 : RdS (Rep.int .i64) F W A_a_1 c_a_1 a_1) (h_b_1 : RdS (Rep.int .i64) F W A_b_1 c_b_1 b_1) (t9001 : Bool) (hp : tourref3_SameComp a_0 a_1 b_0 b_1 = some t9001) : Calls Try.prog 57 #[.agg #[vI a_0, .slice A_a_1 a_1.length c_a_1], .agg #[vI b_0, .slice A_b_1 b_1.length c_b_1]] w fun e w' => (True) ∧ e = .returned (.bool t9001) ∧ Mem w0 (Fz F W :: cs) w' := by
 unfold tourref3_SameComp at hp
 refine sx_calls Try.func57 rfl (n := 17) (by kernel_rfl) (l := [(0, .agg #[vI a_0, .slice A_a_1 a_1.length c_a_1]), (1, .agg #[vI b_0, .slice A_b_1 b_1.length c_b_1])]) rfl (by rfl) hM0 ?_
 refine st_seq ?_
 refine st_region [oF 0, oF 1, oF 2] (by rfl) ?_
 refine ops_new (d := some 2) (o := .cells #[vI a_0, .slice A_a_1 a_1.length c_a_1] 63) (v := fun b1 => vP b1 0) (M' := fun b1 => Mem w0 (.blk b1 [vI a_0, .slice A_a_1 a_1.length c_a_1] 63 :: Fz F W :: cs)) (fun b1 => ⟨by kernel_rfl⟩) (fun w_ hM hS => ⟨hM.blk [vI a_0, .slice A_a_1 a_1.length c_a_1] 63, trivial⟩) (fun b1 => ?_)
 refine oR [] [(2, vP b1 0), (1, .agg #[vI b_0, .slice A_b_1 b_1.length c_b_1])] [2, 1] (by kernel_rfl) ?_
 refine ops_new (d := some 3) (o := .cells #[vI b_0, .slice A_b_1 b_1.length c_b_1] 63) (v := fun b2 => vP b2 0) (M' := fun b2 => Mem w0 (.blk b2 [vI b_0, .slice A_b_1 b_1.length c_b_1] 63 :: .blk b1 [vI a_0, .slice A_a_1 a_1.length c_a_1] 63 :: Fz F W :: cs)) (fun b2 => ⟨by kernel_rfl⟩) (fun w_ hM hS => ⟨hM.blk [vI b_0, .slice A_b_1 b_1.length c_b_1] 63, trivial⟩) (fun b2 => ?_)
 refine oR [oF 2] [(3, vP b2 0), (2, vP b1 0)] [3, 2] (by kernel_rfl) ?_
 refine ops_nil ?_
 refine fin_then ?_
 refine st_join1 (σ := Bool) (L := fun x_ => match x_ with | t3 => [(4, .bool t3)]) (N := fun x_ => match x_ with | t3 => Mem w0 (Fz F W :: cs)) (I := fun x_ => match x_ with | t3 => (tourref3_SameComp_j1 t3 = some t9001)) ?_ ?_
 · --
  rintro t3 hp
  refine st_conv (l' := [(4, .bool t3)]) (M' := Mem w0 (Fz F W :: cs)) rfl (fun _ h => h) ?_
  unfold tourref3_SameComp_j1 at hp
  refine st_ret ?_
  have hq_ := Option.some.inj hp
  have hr0_ := hq_
  subst hr0_
  refine fin_ret [.tmp 4] [.bool t3] rfl rfl (fun w_ hM => (.tmp rfl .nil)) (fun w_ hM => ?_)
  exact ⟨trivial, rfl, hM⟩
 · --
  intro HJ1
  refine st_seq ?_
  refine st_region [oF 0, oF 1, oF 2, oF 3, oF 4, oF 5, oF 6, oF 7, oF 8, oF 9, oF 10, oF 11, oF 12] (by rfl) ?_
  refine oR [oF 0] [(5, vP b1 0), (3, vP b2 0), (2, vP b1 0)] [5, 3, 2] (by kernel_rfl) ?_
  refine ops_mem (d := some 6) (an := [.v (vI a_0)]) (evs := [.load ⟨b1, 0, none⟩ (vI a_0)]) (v := vI a_0) (M' := Mem w0 (.blk b2 [vI b_0, .slice A_b_1 b_1.length c_b_1] 63 :: .blk b1 [vI a_0, .slice A_a_1 a_1.length c_a_1] 63 :: Fz F W :: cs)) ⟨by kernel_rfl⟩ (fun w_ hM hS => ⟨w_, ⟨hM.cell 1 rfl rfl, rfl⟩, hM, trivial⟩) ?_
  refine oR [oF 2] [(7, vP b2 0), (6, vI a_0), (3, vP b2 0), (2, vP b1 0)] [7, 6, 3, 2] (by kernel_rfl) ?_
  refine ops_mem (d := some 8) (an := [.v (vI b_0)]) (evs := [.load ⟨b2, 0, none⟩ (vI b_0)]) (v := vI b_0) (M' := Mem w0 (.blk b2 [vI b_0, .slice A_b_1 b_1.length c_b_1] 63 :: .blk b1 [vI a_0, .slice A_a_1 a_1.length c_a_1] 63 :: Fz F W :: cs)) ⟨by kernel_rfl⟩ (fun w_ hM hS => ⟨w_, ⟨hM.cell 0 rfl rfl, rfl⟩, hM, trivial⟩) ?_
  refine oR [oF 4, oF 5] [(10, .bool (a_0 == b_0)), (3, vP b2 0), (2, vP b1 0)] [10, 3, 2] (by kernel_rfl) ?_
  refine ops_bool (t := (a_0 == b_0)) (l1 := [(10, .bool true), (3, vP b2 0), (2, vP b1 0)]) (l2 := [(10, .bool false), (3, vP b2 0), (2, vP b1 0)]) (fun h => by rw [h]) (fun h => by rw [h]) (fun hc4 => ?_) (fun hc4 => ?_)
  · --
   have hp := cnd_t hc4 hp
   refine oR [oF 6] [(11, vP b1 1), (10, .bool true), (3, vP b2 0)] [11, 10, 3] (by kernel_rfl) ?_
   refine ops_mem (d := some 12) (an := [.v (.slice A_a_1 a_1.length c_a_1)]) (evs := [.load ⟨b1, 1, none⟩ (.slice A_a_1 a_1.length c_a_1)]) (v := .slice A_a_1 a_1.length c_a_1) (M' := Mem w0 (.blk b2 [vI b_0, .slice A_b_1 b_1.length c_b_1] 63 :: .blk b1 [vI a_0, .slice A_a_1 a_1.length c_a_1] 63 :: Fz F W :: cs)) ⟨by kernel_rfl⟩ (fun w_ hM hS => ⟨w_, ⟨hM.cell 1 rfl rfl, rfl⟩, hM, trivial⟩) ?_
   refine oR [oF 8] [(13, vP b2 1), (12, .slice A_a_1 a_1.length c_a_1), (10, .bool true)] [13, 12, 10] (by kernel_rfl) ?_
   refine ops_mem (d := some 14) (an := [.v (.slice A_b_1 b_1.length c_b_1)]) (evs := [.load ⟨b2, 1, none⟩ (.slice A_b_1 b_1.length c_b_1)]) (v := .slice A_b_1 b_1.length c_b_1) (M' := Mem w0 (.blk b2 [vI b_0, .slice A_b_1 b_1.length c_b_1] 63 :: .blk b1 [vI a_0, .slice A_a_1 a_1.length c_a_1] 63 :: Fz F W :: cs)) ⟨by kernel_rfl⟩ (fun w_ hM hS => ⟨w_, ⟨hM.cell 0 rfl rfl, rfl⟩, hM, trivial⟩) ?_
   refine oR [] [(14, .slice A_b_1 b_1.length c_b_1), (12, .slice A_a_1 a_1.length c_a_1), (10, .bool true)] [14, 12, 10] (by kernel_rfl) ?_
   obtain ⟨x5, hv6, hp⟩ := obind hp
   refine ops_callI (σ := Unit) (d := some 15) (f := 25) (args := #[.slice A_a_1 a_1.length c_a_1, .slice A_b_1 b_1.length c_b_1]) (v := (fun _ => .bool x5)) (I := (fun _ => True)) (M' := (fun _ => Mem w0 (.blk b2 [vI b_0, .slice A_b_1 b_1.length c_b_1] 63 :: .blk b1 [vI a_0, .slice A_a_1 a_1.length c_a_1] 63 :: Fz F W :: cs))) ⟨by kernel_rfl⟩ (fun w_ hM hS => (slices_Equal_int_int_ok w0 w_ (.blk b2 [vI b_0, .slice A_b_1 b_1.length c_b_1] 63 :: .blk b1 [vI a_0, .slice A_a_1 a_1.length c_a_1] 63 :: cs) F W A_a_1 c_a_1 a_1 A_b_1 c_b_1 b_1 (hM.pick 3 [2, 0, 1] (by kernel_rfl) (by decide) rfl) h_a_1 h_b_1 x5 hv6).mono (by rintro e w' ⟨-, rfl, h'⟩; have h' : Mem w0 (.blk b2 [vI b_0, .slice A_b_1 b_1.length c_b_1] 63 :: .blk b1 [vI a_0, .slice A_a_1 a_1.length c_a_1] 63 :: Fz F W :: cs) w' := (h'.pick 3 [1, 2, 0] (by kernel_rfl) (by decide) rfl); exact ⟨(), trivial, rfl, h', trivial⟩)) ?_
   rintro _ -
   refine ops_conv (l' := [(15, .bool x5), (14, .slice A_b_1 b_1.length c_b_1), (12, .slice A_a_1 a_1.length c_a_1), (10, .bool true)]) (M' := Mem w0 (.blk b2 [vI b_0, .slice A_b_1 b_1.length c_b_1] 63 :: .blk b1 [vI a_0, .slice A_a_1 a_1.length c_a_1] 63 :: Fz F W :: cs)) rfl (fun _ h => h) ?_
   refine oR [oF 11, oF 12] [(4, .bool x5)] [4] (by kernel_rfl) ?_
   refine ops_nil ?_
   exact fin_join HJ1 x5 hp (look_has ⟨rfl, trivial⟩) (fun w_ hM => hM.pick 3 [2] (by kernel_rfl) (by decide) rfl)
  · --
   have hp := cnd_f hc4 hp
   refine oR [oF 6, oF 7, oF 8, oF 9, oF 10, oF 11, oF 12] [(4, .bool false)] [4] (by kernel_rfl) ?_
   refine ops_nil ?_
   exact fin_join HJ1 false hp (look_has ⟨rfl, trivial⟩) (fun w_ hM => hM.pick 3 [2] (by kernel_rfl) (by decide) rfl)
set_option maxHeartbeats 4000000 in
set_option maxRecDepth 100000 in
theorem slices_EqualFunc_api_Comp_api_Comp_api_Comp_api_Comp_ok (w0 w : World) (cs : List Chunk) (F : Nat → Prop) (W : World) (A_s1 : Option Addr) (c_s1 : Nat) (s1_1 : List api_Comp) (A_s2 : Option Addr) (c_s2 : Nat) (s2_1 : List api_Comp) (hM0 : Mem w0 (Fz F W :: cs) w) (h_s1 : RdS R_api_Comp F W A_s1 c_s1 s1_1) (h_s2 : RdS R_api_Comp F W A_s2 c_s2 s2_1) (t9001 : Bool) (hp : slices_EqualFunc_api_Comp_api_Comp_api_Comp_api_Comp s1_1 s2_1 = some t9001) : Calls Try.prog 56 #[.slice A_s1 s1_1.length c_s1, .slice A_s2 s2_1.length c_s2, .func (.func 57) #[] #[]] w fun e w' => (True) ∧ e = .returned (.bool t9001) ∧ Mem w0 (Fz F W :: cs) w' := by
 unfold slices_EqualFunc_api_Comp_api_Comp_api_Comp_api_Comp at hp
 refine sx_calls Try.func56 rfl (n := 32) (by kernel_rfl) (l := [(0, .slice A_s1 s1_1.length c_s1), (1, .slice A_s2 s2_1.length c_s2), (2, .func (.func 57) #[] #[])]) rfl (by rfl) hM0 ?_
 refine st_seq ?_
 refine st_region [oF 0] (by rfl) ?_
 refine oR [oF 0] [(0, .slice A_s1 s1_1.length c_s1), (1, .slice A_s2 s2_1.length c_s2), (2, .func (.func 57) #[] #[])] [0, 1, 2] (by kernel_rfl) ?_
 refine ops_nil ?_
 refine fin_then ?_
 refine st_seq ?_
 refine st_seq ?_
 refine st_region [oF 0, oF 1, oF 2, oF 3, oF 4] (by rfl) ?_
 refine oR [oF 0, oF 1, oF 2, oF 3, oF 4] [(14, .bool (!((s1_1.length : Int) == (s2_1.length : Int)))), (0, .slice A_s1 s1_1.length c_s1), (1, .slice A_s2 s2_1.length c_s2), (2, .func (.func 57) #[] #[])] [14, 0, 1, 2] (by kernel_rfl) ?_
 refine ops_nil ?_
 refine fin_then ?_
 refine st_if (b := !((s1_1.length : Int) == (s2_1.length : Int))) rfl (fun hc1 => ?_) (fun hc1 => ?_)
 · --
  have hp := cnd_t hc1 hp
  refine st_seq ?_
  refine st_region [oF 0] (by rfl) ?_
  refine oR [oF 0] [(6, .bool false)] [6] (by kernel_rfl) ?_
  refine ops_nil ?_
  refine fin_then ?_
  refine st_ret ?_
  refine fin_ret_then ?_
  have hq_ := Option.some.inj hp
  have hr0_ := hq_
  subst hr0_
  refine fin_ret [.tmp 6] [.bool false] rfl rfl (fun w_ hM => (.tmp rfl .nil)) (fun w_ hM => ?_)
  exact ⟨trivial, rfl, hM⟩
 · --
  have hp := cnd_f hc1 hp
  refine st_skip ?_
  refine fin_then ?_
  refine st_join1 (σ := Unit) (L := fun _ => []) (N := fun _ => Mem w0 (Fz F W :: cs)) (I := fun _ => (slices_EqualFunc_api_Comp_api_Comp_api_Comp_api_Comp_j1 = some t9001)) ?_ ?_
  · --
   rintro _ hp
   refine st_conv (l' := []) (M' := Mem w0 (Fz F W :: cs)) rfl (fun _ h => h) ?_
   unfold slices_EqualFunc_api_Comp_api_Comp_api_Comp_api_Comp_j1 at hp
   refine st_seq ?_
   refine st_region [oF 0] (by rfl) ?_
   refine oR [oF 0] [(6, .bool true)] [6] (by kernel_rfl) ?_
   refine ops_nil ?_
   refine fin_then ?_
   refine st_ret ?_
   have hq_ := Option.some.inj hp
   have hr0_ := hq_
   subst hr0_
   refine fin_ret [.tmp 6] [.bool true] rfl rfl (fun w_ hM => (.tmp rfl .nil)) (fun w_ hM => ?_)
   exact ⟨trivial, rfl, hM⟩
  · --
   intro HJ1
   refine st_seq ?_
   refine st_seq ?_
   refine st_region [oF 0, oF 1, oF 2] (by rfl) ?_
   refine oR [oF 0, oF 1, oF 2] [(17, vI 0), (16, vI (s1_1.length : Int)), (15, .slice A_s1 s1_1.length c_s1), (1, .slice A_s2 s2_1.length c_s2), (2, .func (.func 57) #[] #[])] [17, 16, 15, 1, 2] (by kernel_rfl) ?_
   refine ops_nil ?_
   refine fin_then ?_
   refine st_block ?_
   obtain ⟨r2, hl2, hk2⟩ := obind hp
   refine st_loopP (σ := Int) (ρ := (Bool ⊕ Unit)) (γ := Unit) hl2 () (fun s_ g_ => match s_, g_ with | i2, _ => [(1, .slice A_s2 s2_1.length c_s2), (2, .func (.func 57) #[] #[]), (15, .slice A_s1 s1_1.length c_s1), (16, vI (s1_1.length : Int)), (17, vI i2)]) (fun s_ g_ => match s_, g_ with | i2, _ => Mem w0 (Fz F W :: cs)) (fun s_ g_ => match s_, g_ with | i2, _ => True) trivial (look_has ⟨rfl, rfl, rfl, rfl, rfl, trivial⟩) (fun w_ hM => hM) ?_
   rintro i2 _ o2 - hs_ hd2
   have hp : (slices_EqualFunc_api_Comp_api_Comp_api_Comp_api_Comp_l2 s1_1 s2_1) i2 = some o2 := hs_
   clear hs_
   unfold slices_EqualFunc_api_Comp_api_Comp_api_Comp_api_Comp_l2 at hp
   refine st_conv (l' := [(1, .slice A_s2 s2_1.length c_s2), (2, .func (.func 57) #[] #[]), (15, .slice A_s1 s1_1.length c_s1), (16, vI (s1_1.length : Int)), (17, vI i2)]) (M' := Mem w0 (Fz F W :: cs)) rfl (fun _ h => h) ?_
   refine st_seq ?_
   refine st_region [oF 0] (by rfl) ?_
   refine oR [oF 0] [(18, .bool (decide (i2 < (s1_1.length : Int)))), (1, .slice A_s2 s2_1.length c_s2), (2, .func (.func 57) #[] #[]), (15, .slice A_s1 s1_1.length c_s1), (16, vI (s1_1.length : Int)), (17, vI i2)] [18, 1, 2, 15, 16, 17] (by kernel_rfl) ?_
   refine ops_nil ?_
   refine fin_then ?_
   refine st_seq ?_
   refine st_if (b := decide (i2 < (s1_1.length : Int))) rfl (fun hc3 => ?_) (fun hc3 => ?_)
   · --
    have hp := cnd_t hc3 hp
    refine st_skip ?_
    refine fin_then ?_
    refine st_seq ?_
    refine st_block ?_
    refine st_seq ?_
    refine st_region [oF 0, oF 1, oF 2, oF 3, oF 4, oF 5] (by rfl) ?_
    refine oR [oF 0] [(19, vI i2), (1, .slice A_s2 s2_1.length c_s2), (2, .func (.func 57) #[] #[]), (15, .slice A_s1 s1_1.length c_s1), (16, vI (s1_1.length : Int)), (17, vI i2)] [19, 1, 2, 15, 16, 17] (by kernel_rfl) ?_
    obtain ⟨x4, hv5, hp⟩ := obind hp
    obtain ⟨m6, hm7, hx8⟩ := idx_some hv5
    have hl11 := (List.getElem?_eq_some_iff.1 hx8).1
    obtain ⟨ad12, vs9, hA13, hr10, hq14⟩ := RdS.el h_s1 hx8
    obtain ⟨A15, c16, rfl, h17⟩ := dec_api_Comp hr10
    refine ops_val (op := (Go.Op.indexAddr 25 (Go.Operand.tmp 15) (Go.Operand.tmp 17))) (d := some 20) (v := .pointer (some (ad12.add (m6 * 2)))) ⟨by kernel_rfl⟩ (run_indexA hA13 Try.underlying25 (z := 2) (by kernel_rfl) rfl rfl hm7 hl11) ?_
    refine ops_mem (d := some 21) (an := [.v (vI x4.Kind), .v (.slice A15 x4.Vals.length c16)]) (evs := [.load (ad12.add (m6 * 2)) (vI x4.Kind), .load ((ad12.add (m6 * 2)).add 1) (.slice A15 x4.Vals.length c16)]) (v := .agg #[vI x4.Kind, .slice A15 x4.Vals.length c16]) (M' := Mem w0 (Fz F W :: cs)) ⟨by kernel_rfl⟩ (fun w_ hM hS => ⟨w_, ⟨hM.elcell 0 rfl hq14 0 rfl, hM.elcell 0 rfl hq14 1 rfl, rfl⟩, hM, trivial⟩) ?_
    refine oR [] [(21, .agg #[vI x4.Kind, .slice A15 x4.Vals.length c16]), (19, vI i2), (1, .slice A_s2 s2_1.length c_s2), (2, .func (.func 57) #[] #[]), (15, .slice A_s1 s1_1.length c_s1), (16, vI (s1_1.length : Int)), (17, vI i2)] [21, 19, 1, 2, 15, 16, 17] (by kernel_rfl) ?_
    refine ops_new (d := some 8) (o := .cells #[vI 0, .slice none 0 0] 63) (v := fun b18 => vP b18 0) (M' := fun b18 => Mem w0 (.blk b18 [vI 0, .slice none 0 0] 63 :: Fz F W :: cs)) (fun b18 => ⟨by kernel_rfl⟩) (fun w_ hM hS => ⟨hM.blk [vI 0, .slice none 0 0] 63, trivial⟩) (fun b18 => ?_)
    refine oR [oF 4] [(7, vI i2), (8, vP b18 0), (21, .agg #[vI x4.Kind, .slice A15 x4.Vals.length c16]), (1, .slice A_s2 s2_1.length c_s2), (2, .func (.func 57) #[] #[]), (15, .slice A_s1 s1_1.length c_s1), (16, vI (s1_1.length : Int)), (17, vI i2)] [7, 8, 21, 1, 2, 15, 16, 17] (by kernel_rfl) ?_
    refine ops_store (an := []) (evs := [.store ⟨b18, 0, none⟩ (vI x4.Kind), .store ⟨b18, 1, none⟩ (.slice A15 x4.Vals.length c16)]) (M' := Mem w0 (.blk b18 [vI x4.Kind, .slice A15 x4.Vals.length c16] 63 :: Fz F W :: cs)) ⟨by kernel_rfl⟩ (fun w_ hM hS => let ⟨w', he, h'⟩ := hM.evs_stores [vI x4.Kind, .slice A15 x4.Vals.length c16] 0 rfl 0 (Nat.le_of_ble_eq_true rfl); ⟨w', he, h', trivial⟩) ?_
    refine oR [] [(7, vI i2), (8, vP b18 0), (1, .slice A_s2 s2_1.length c_s2), (2, .func (.func 57) #[] #[]), (15, .slice A_s1 s1_1.length c_s1), (16, vI (s1_1.length : Int)), (17, vI i2)] [7, 8, 1, 2, 15, 16, 17] (by kernel_rfl) ?_
    refine ops_nil ?_
    refine fin_then ?_
    refine st_seq ?_
    refine st_region [oF 0, oF 1, oF 2, oF 3, oF 4, oF 5] (by rfl) ?_
    refine oR [oF 0, oF 1] [(23, vI i2), (22, .slice A_s2 s2_1.length c_s2), (8, vP b18 0), (1, .slice A_s2 s2_1.length c_s2), (2, .func (.func 57) #[] #[]), (15, .slice A_s1 s1_1.length c_s1), (16, vI (s1_1.length : Int)), (17, vI i2)] [23, 22, 8, 1, 2, 15, 16, 17] (by kernel_rfl) ?_
    obtain ⟨x19, hv20, hp⟩ := obind hp
    obtain ⟨m21, hm22, hx23⟩ := idx_some hv20
    have hl26 := (List.getElem?_eq_some_iff.1 hx23).1
    obtain ⟨ad27, vs24, hA28, hr25, hq29⟩ := RdS.el h_s2 hx23
    obtain ⟨A30, c31, rfl, h32⟩ := dec_api_Comp hr25
    refine ops_val (op := (Go.Op.indexAddr 25 (Go.Operand.tmp 22) (Go.Operand.tmp 23))) (d := some 24) (v := .pointer (some (ad27.add (m21 * 2)))) ⟨by kernel_rfl⟩ (run_indexA hA28 Try.underlying25 (z := 2) (by kernel_rfl) rfl rfl hm22 hl26) ?_
    refine oR [] [(24, .pointer (some (ad27.add (m21 * 2)))), (8, vP b18 0), (1, .slice A_s2 s2_1.length c_s2), (2, .func (.func 57) #[] #[]), (15, .slice A_s1 s1_1.length c_s1), (16, vI (s1_1.length : Int)), (17, vI i2)] [24, 8, 1, 2, 15, 16, 17] (by kernel_rfl) ?_
    refine ops_mem (d := some 25) (an := [.v (vI x19.Kind), .v (.slice A30 x19.Vals.length c31)]) (evs := [.load (ad27.add (m21 * 2)) (vI x19.Kind), .load ((ad27.add (m21 * 2)).add 1) (.slice A30 x19.Vals.length c31)]) (v := .agg #[vI x19.Kind, .slice A30 x19.Vals.length c31]) (M' := Mem w0 (.blk b18 [vI x4.Kind, .slice A15 x4.Vals.length c16] 63 :: Fz F W :: cs)) ⟨by kernel_rfl⟩ (fun w_ hM hS => ⟨w_, ⟨hM.elcell 1 rfl hq29 0 rfl, hM.elcell 1 rfl hq29 1 rfl, rfl⟩, hM, trivial⟩) ?_
    refine oR [] [(25, .agg #[vI x19.Kind, .slice A30 x19.Vals.length c31]), (8, vP b18 0), (1, .slice A_s2 s2_1.length c_s2), (2, .func (.func 57) #[] #[]), (15, .slice A_s1 s1_1.length c_s1), (16, vI (s1_1.length : Int)), (17, vI i2)] [25, 8, 1, 2, 15, 16, 17] (by kernel_rfl) ?_
    refine ops_new (d := some 9) (o := .cells #[vI 0, .slice none 0 0] 63) (v := fun b33 => vP b33 0) (M' := fun b33 => Mem w0 (.blk b33 [vI 0, .slice none 0 0] 63 :: .blk b18 [vI x4.Kind, .slice A15 x4.Vals.length c16] 63 :: Fz F W :: cs)) (fun b33 => ⟨by kernel_rfl⟩) (fun w_ hM hS => ⟨hM.blk [vI 0, .slice none 0 0] 63, trivial⟩) (fun b33 => ?_)
    refine ops_store (an := []) (evs := [.store ⟨b33, 0, none⟩ (vI x19.Kind), .store ⟨b33, 1, none⟩ (.slice A30 x19.Vals.length c31)]) (M' := Mem w0 (.blk b33 [vI x19.Kind, .slice A30 x19.Vals.length c31] 63 :: .blk b18 [vI x4.Kind, .slice A15 x4.Vals.length c16] 63 :: Fz F W :: cs)) ⟨by kernel_rfl⟩ (fun w_ hM hS => let ⟨w', he, h'⟩ := hM.evs_stores [vI x19.Kind, .slice A30 x19.Vals.length c31] 0 rfl 0 (Nat.le_of_ble_eq_true rfl); ⟨w', he, h', trivial⟩) ?_
    refine oR [] [(9, vP b33 0), (8, vP b18 0), (1, .slice A_s2 s2_1.length c_s2), (2, .func (.func 57) #[] #[]), (15, .slice A_s1 s1_1.length c_s1), (16, vI (s1_1.length : Int)), (17, vI i2)] [9, 8, 1, 2, 15, 16, 17] (by kernel_rfl) ?_
    refine ops_nil ?_
    refine fin_then ?_
    refine st_seq ?_
    refine st_region [oF 0, oF 1, oF 2, oF 3, oF 4] (by rfl) ?_
    refine oR [oF 0] [(26, .func (.func 57) #[] #[]), (9, vP b33 0), (8, vP b18 0), (1, .slice A_s2 s2_1.length c_s2), (2, .func (.func 57) #[] #[]), (15, .slice A_s1 s1_1.length c_s1), (16, vI (s1_1.length : Int)), (17, vI i2)] [26, 9, 8, 1, 2, 15, 16, 17] (by kernel_rfl) ?_
    refine ops_mem (d := some 27) (an := [.v (vI x4.Kind), .v (.slice A15 x4.Vals.length c16)]) (evs := [.load ⟨b18, 0, none⟩ (vI x4.Kind), .load ⟨b18, 1, none⟩ (.slice A15 x4.Vals.length c16)]) (v := .agg #[vI x4.Kind, .slice A15 x4.Vals.length c16]) (M' := Mem w0 (.blk b33 [vI x19.Kind, .slice A30 x19.Vals.length c31] 63 :: .blk b18 [vI x4.Kind, .slice A15 x4.Vals.length c16] 63 :: Fz F W :: cs)) ⟨by kernel_rfl⟩ (fun w_ hM hS => ⟨w_, ⟨hM.cell 1 rfl rfl, hM.cell 1 rfl rfl, rfl⟩, hM, trivial⟩) ?_
    refine oR [] [(27, .agg #[vI x4.Kind, .slice A15 x4.Vals.length c16]), (26, .func (.func 57) #[] #[]), (9, vP b33 0), (1, .slice A_s2 s2_1.length c_s2), (2, .func (.func 57) #[] #[]), (15, .slice A_s1 s1_1.length c_s1), (16, vI (s1_1.length : Int)), (17, vI i2)] [27, 26, 9, 1, 2, 15, 16, 17] (by kernel_rfl) ?_
    refine ops_mem (d := some 28) (an := [.v (vI x19.Kind), .v (.slice A30 x19.Vals.length c31)]) (evs := [.load ⟨b33, 0, none⟩ (vI x19.Kind), .load ⟨b33, 1, none⟩ (.slice A30 x19.Vals.length c31)]) (v := .agg #[vI x19.Kind, .slice A30 x19.Vals.length c31]) (M' := Mem w0 (.blk b33 [vI x19.Kind, .slice A30 x19.Vals.length c31] 63 :: .blk b18 [vI x4.Kind, .slice A15 x4.Vals.length c16] 63 :: Fz F W :: cs)) ⟨by kernel_rfl⟩ (fun w_ hM hS => ⟨w_, ⟨hM.cell 0 rfl rfl, hM.cell 0 rfl rfl, rfl⟩, hM, trivial⟩) ?_
    refine oR [] [(28, .agg #[vI x19.Kind, .slice A30 x19.Vals.length c31]), (27, .agg #[vI x4.Kind, .slice A15 x4.Vals.length c16]), (26, .func (.func 57) #[] #[]), (1, .slice A_s2 s2_1.length c_s2), (2, .func (.func 57) #[] #[]), (15, .slice A_s1 s1_1.length c_s1), (16, vI (s1_1.length : Int)), (17, vI i2)] [28, 27, 26, 1, 2, 15, 16, 17] (by kernel_rfl) ?_
    obtain ⟨x34, hv35, hp⟩ := obind hp
    refine ops_callI (σ := Unit) (d := some 29) (f := 57) (args := #[.agg #[vI x4.Kind, .slice A15 x4.Vals.length c16], .agg #[vI x19.Kind, .slice A30 x19.Vals.length c31]]) (v := (fun _ => .bool x34)) (I := (fun _ => True)) (M' := (fun _ => Mem w0 (.blk b33 [vI x19.Kind, .slice A30 x19.Vals.length c31] 63 :: .blk b18 [vI x4.Kind, .slice A15 x4.Vals.length c16] 63 :: Fz F W :: cs))) ⟨by kernel_rfl⟩ (fun w_ hM hS => (tourref3_SameComp_ok w0 w_ (.blk b33 [vI x19.Kind, .slice A30 x19.Vals.length c31] 63 :: .blk b18 [vI x4.Kind, .slice A15 x4.Vals.length c16] 63 :: cs) F W x4.Kind A15 c16 x4.Vals x19.Kind A30 c31 x19.Vals (hM.pick 3 [2, 0, 1] (by kernel_rfl) (by decide) rfl) h17 h32 x34 hv35).mono (by rintro e w' ⟨-, rfl, h'⟩; have h' : Mem w0 (.blk b33 [vI x19.Kind, .slice A30 x19.Vals.length c31] 63 :: .blk b18 [vI x4.Kind, .slice A15 x4.Vals.length c16] 63 :: Fz F W :: cs) w' := (h'.pick 3 [1, 2, 0] (by kernel_rfl) (by decide) rfl); exact ⟨(), trivial, rfl, h', trivial⟩)) ?_
    rintro _ -
    refine ops_conv (l' := [(29, .bool x34), (28, .agg #[vI x19.Kind, .slice A30 x19.Vals.length c31]), (27, .agg #[vI x4.Kind, .slice A15 x4.Vals.length c16]), (26, .func (.func 57) #[] #[]), (1, .slice A_s2 s2_1.length c_s2), (2, .func (.func 57) #[] #[]), (15, .slice A_s1 s1_1.length c_s1), (16, vI (s1_1.length : Int)), (17, vI i2)]) (M' := Mem w0 (.blk b33 [vI x19.Kind, .slice A30 x19.Vals.length c31] 63 :: .blk b18 [vI x4.Kind, .slice A15 x4.Vals.length c16] 63 :: Fz F W :: cs)) rfl (fun _ h => h) ?_
    refine oR [oF 4] [(30, .bool (!x34)), (1, .slice A_s2 s2_1.length c_s2), (2, .func (.func 57) #[] #[]), (15, .slice A_s1 s1_1.length c_s1), (16, vI (s1_1.length : Int)), (17, vI i2)] [30, 1, 2, 15, 16, 17] (by kernel_rfl) ?_
    refine ops_nil ?_
    refine fin_then ?_
    refine st_if (b := !x34) rfl (fun hc36 => ?_) (fun hc36 => ?_)
    · --
     have hp := cnd_t hc36 hp
     refine st_seq ?_
     refine st_region [oF 0] (by rfl) ?_
     refine oR [oF 0] [(6, .bool false)] [6] (by kernel_rfl) ?_
     refine ops_nil ?_
     refine fin_then ?_
     refine st_ret ?_
     refine fin_ret_block ?_
     refine fin_ret_then ?_
     refine fin_ret_then ?_
     refine fin_ret_block ?_
     refine fin_ret_then ?_
     obtain hq_ := Option.some.inj hp
     subst hq_
     obtain hq_ := hd2 _ rfl
     subst hq_
     have hp : some false = some t9001 := hk2
     have hq_ := Option.some.inj hp
     have hr0_ := hq_
     subst hr0_
     refine fin_ret [.tmp 6] [.bool false] rfl rfl (fun w_ hM => (.tmp rfl .nil)) (fun w_ hM => ?_)
     exact ⟨trivial, rfl, hM.pick 3 [2] (by kernel_rfl) (by decide) rfl⟩
    · --
     have hp := cnd_f hc36 hp
     refine st_skip ?_
     refine fin_block ?_
     refine fin_then ?_
     refine st_region [oF 0, oF 1] (by rfl) ?_
     refine oR [oF 0, oF 1] [(17, vI (IntKind.i64.wrap (i2 + 1))), (1, .slice A_s2 s2_1.length c_s2), (2, .func (.func 57) #[] #[]), (15, .slice A_s1 s1_1.length c_s1), (16, vI (s1_1.length : Int))] [17, 1, 2, 15, 16] (by kernel_rfl) ?_
     refine ops_nil ?_
     exact fin_again (IntKind.i64.wrap (i2 + 1)) () (Option.some.inj hp).symm trivial (look_has ⟨rfl, rfl, rfl, rfl, rfl, trivial⟩) (fun w_ hM => hM.pick 3 [2] (by kernel_rfl) (by decide) rfl)
   · --
    have hp := cnd_f hc3 hp
    refine st_exit ?_
    refine fin_exit_then ?_
    refine fin_exit_then ?_
    refine fin_exit ?_
    obtain hq_ := Option.some.inj hp
    subst hq_
    obtain hq_ := hd2 _ rfl
    subst hq_
    have hp : slices_EqualFunc_api_Comp_api_Comp_api_Comp_api_Comp_j1 = some t9001 := hk2
    exact fin_join HJ1 () hp (look_has trivial) (fun w_ hM => hM)
set_option maxHeartbeats 4000000 in
set_option maxRecDepth 100000 in
theorem tourref3_SameCmds_1_ok (w0 w : World) (cs : List Chunk) (F : Nat → Prop) (W : World) (x_0 : Int) (x_1 : Int) (x_2 : Int) (x_3 : Int) (A_x_4 : Option Addr) (c_x_4 : Nat) (x_4 : List api_Comp) (y_0 : Int) (y_1 : Int) (y_2 : Int) (y_3 : Int) (A_y_4 : Option Addr) (c_y_4 : Nat) (y_4 : List api_Comp) (hM0 : Mem w0 (Fz F W :: cs) w) (h_x_4 : RdS R_api_Comp F W A_x_4 c_x_4 x_4) (h_y_4 : RdS R_api_Comp F W A_y_4 c_y_4 y_4) (t9001 : Bool) (hp : tourref3_SameCmds_1 x_0 x_1 x_2 x_3 x_4 y_0 y_1 y_2 y_3 y_4 = some t9001) : Calls Try.prog 55 #[.agg #[vI x_0, vI x_1, vI x_2, vI x_3, .slice A_x_4 x_4.length c_x_4], .agg #[vI y_0, vI y_1, vI y_2, vI y_3, .slice A_y_4 y_4.length c_y_4]] w fun e w' => (True) ∧ e = .returned (.bool t9001) ∧ Mem w0 (Fz F W :: cs) w' := by
 unfold tourref3_SameCmds_1 at hp
 refine sx_calls Try.func55 rfl (n := 31) (by kernel_rfl) (l := [(0, .agg #[vI x_0, vI x_1, vI x_2, vI x_3, .slice A_x_4 x_4.length c_x_4]), (1, .agg #[vI y_0, vI y_1, vI y_2, vI y_3, .slice A_y_4 y_4.length c_y_4])]) rfl (by rfl) hM0 ?_
 refine st_seq ?_
 refine st_region [oF 0, oF 1, oF 2] (by rfl) ?_
 refine ops_new (d := some 2) (o := .cells #[vI x_0, vI x_1, vI x_2, vI x_3, .slice A_x_4 x_4.length c_x_4] 27) (v := fun b1 => vP b1 0) (M' := fun b1 => Mem w0 (.blk b1 [vI x_0, vI x_1, vI x_2, vI x_3, .slice A_x_4 x_4.length c_x_4] 27 :: Fz F W :: cs)) (fun b1 => ⟨by kernel_rfl⟩) (fun w_ hM hS => ⟨hM.blk [vI x_0, vI x_1, vI x_2, vI x_3, .slice A_x_4 x_4.length c_x_4] 27, trivial⟩) (fun b1 => ?_)
 refine oR [] [(2, vP b1 0), (1, .agg #[vI y_0, vI y_1, vI y_2, vI y_3, .slice A_y_4 y_4.length c_y_4])] [2, 1] (by kernel_rfl) ?_
 refine ops_new (d := some 3) (o := .cells #[vI y_0, vI y_1, vI y_2, vI y_3, .slice A_y_4 y_4.length c_y_4] 27) (v := fun b2 => vP b2 0) (M' := fun b2 => Mem w0 (.blk b2 [vI y_0, vI y_1, vI y_2, vI y_3, .slice A_y_4 y_4.length c_y_4] 27 :: .blk b1 [vI x_0, vI x_1, vI x_2, vI x_3, .slice A_x_4 x_4.length c_x_4] 27 :: Fz F W :: cs)) (fun b2 => ⟨by kernel_rfl⟩) (fun w_ hM hS => ⟨hM.blk [vI y_0, vI y_1, vI y_2, vI y_3, .slice A_y_4 y_4.length c_y_4] 27, trivial⟩) (fun b2 => ?_)
 refine oR [oF 2] [(3, vP b2 0), (2, vP b1 0)] [3, 2] (by kernel_rfl) ?_
 refine ops_nil ?_
 refine fin_then ?_
 refine st_join1 (σ := Bool) (L := fun x_ => match x_ with | t3 => [(4, .bool t3)]) (N := fun x_ => match x_ with | t3 => Mem w0 (Fz F W :: cs)) (I := fun x_ => match x_ with | t3 => (tourref3_SameCmds_1_j1 t3 = some t9001)) ?_ ?_
 · --
  rintro t3 hp
  refine st_conv (l' := [(4, .bool t3)]) (M' := Mem w0 (Fz F W :: cs)) rfl (fun _ h => h) ?_
  unfold tourref3_SameCmds_1_j1 at hp
  refine st_ret ?_
  have hq_ := Option.some.inj hp
  have hr0_ := hq_
  subst hr0_
  refine fin_ret [.tmp 4] [.bool t3] rfl rfl (fun w_ hM => (.tmp rfl .nil)) (fun w_ hM => ?_)
  exact ⟨trivial, rfl, hM⟩
 · --
  intro HJ1
  refine st_seq ?_
  refine st_region [oF 0, oF 1, oF 2, oF 3, oF 4, oF 5, oF 6, oF 7, oF 8, oF 9, oF 10, oF 11, oF 12, oF 13, oF 14, oF 15, oF 16, oF 17, oF 18, oF 19, oF 20, oF 21, oF 22, oF 23, oF 24, oF 25, oF 26] (by rfl) ?_
  refine oR [oF 0] [(5, vP b1 0), (3, vP b2 0), (2, vP b1 0)] [5, 3, 2] (by kernel_rfl) ?_
  refine ops_mem (d := some 6) (an := [.v (vI x_0)]) (evs := [.load ⟨b1, 0, none⟩ (vI x_0)]) (v := vI x_0) (M' := Mem w0 (.blk b2 [vI y_0, vI y_1, vI y_2, vI y_3, .slice A_y_4 y_4.length c_y_4] 27 :: .blk b1 [vI x_0, vI x_1, vI x_2, vI x_3, .slice A_x_4 x_4.length c_x_4] 27 :: Fz F W :: cs)) ⟨by kernel_rfl⟩ (fun w_ hM hS => ⟨w_, ⟨hM.cell 1 rfl rfl, rfl⟩, hM, trivial⟩) ?_
  refine oR [oF 2] [(7, vP b2 0), (6, vI x_0), (3, vP b2 0), (2, vP b1 0)] [7, 6, 3, 2] (by kernel_rfl) ?_
  refine ops_mem (d := some 8) (an := [.v (vI y_0)]) (evs := [.load ⟨b2, 0, none⟩ (vI y_0)]) (v := vI y_0) (M' := Mem w0 (.blk b2 [vI y_0, vI y_1, vI y_2, vI y_3, .slice A_y_4 y_4.length c_y_4] 27 :: .blk b1 [vI x_0, vI x_1, vI x_2, vI x_3, .slice A_x_4 x_4.length c_x_4] 27 :: Fz F W :: cs)) ⟨by kernel_rfl⟩ (fun w_ hM hS => ⟨w_, ⟨hM.cell 0 rfl rfl, rfl⟩, hM, trivial⟩) ?_
  refine oR [oF 4, oF 5] [(10, .bool (x_0 == y_0)), (3, vP b2 0), (2, vP b1 0)] [10, 3, 2] (by kernel_rfl) ?_
  refine ops_bool (t := (x_0 == y_0)) (l1 := [(10, .bool true), (3, vP b2 0), (2, vP b1 0)]) (l2 := [(10, .bool false), (3, vP b2 0), (2, vP b1 0)]) (fun h => by rw [h]) (fun h => by rw [h]) (fun hc4 => ?_) (fun hc4 => ?_)
  · --
   have hp := cnd_t hc4 hp
   refine oR [oF 6] [(11, vP b1 1), (10, .bool true), (3, vP b2 0), (2, vP b1 0)] [11, 10, 3, 2] (by kernel_rfl) ?_
   refine ops_mem (d := some 12) (an := [.v (vI x_1), .v (vI x_2)]) (evs := [.load ⟨b1, 1, none⟩ (vI x_1), .load ⟨b1, 2, none⟩ (vI x_2)]) (v := .agg #[vI x_1, vI x_2]) (M' := Mem w0 (.blk b2 [vI y_0, vI y_1, vI y_2, vI y_3, .slice A_y_4 y_4.length c_y_4] 27 :: .blk b1 [vI x_0, vI x_1, vI x_2, vI x_3, .slice A_x_4 x_4.length c_x_4] 27 :: Fz F W :: cs)) ⟨by kernel_rfl⟩ (fun w_ hM hS => ⟨w_, ⟨hM.cell 1 rfl rfl, hM.cell 1 rfl rfl, rfl⟩, hM, trivial⟩) ?_
   refine oR [oF 8] [(13, vP b2 1), (12, .agg #[vI x_1, vI x_2]), (10, .bool true), (3, vP b2 0), (2, vP b1 0)] [13, 12, 10, 3, 2] (by kernel_rfl) ?_
   refine ops_mem (d := some 14) (an := [.v (vI y_1), .v (vI y_2)]) (evs := [.load ⟨b2, 1, none⟩ (vI y_1), .load ⟨b2, 2, none⟩ (vI y_2)]) (v := .agg #[vI y_1, vI y_2]) (M' := Mem w0 (.blk b2 [vI y_0, vI y_1, vI y_2, vI y_3, .slice A_y_4 y_4.length c_y_4] 27 :: .blk b1 [vI x_0, vI x_1, vI x_2, vI x_3, .slice A_x_4 x_4.length c_x_4] 27 :: Fz F W :: cs)) ⟨by kernel_rfl⟩ (fun w_ hM hS => ⟨w_, ⟨hM.cell 0 rfl rfl, hM.cell 0 rfl rfl, rfl⟩, hM, trivial⟩) ?_
   refine oR [] [(14, .agg #[vI y_1, vI y_2]), (12, .agg #[vI x_1, vI x_2]), (10, .bool true), (3, vP b2 0), (2, vP b1 0)] [14, 12, 10, 3, 2] (by kernel_rfl) ?_
   refine ops_val (op := (Go.Op.binOp Go.BinOp.eql 24 (Go.Operand.tmp 12) (Go.Operand.tmp 14) 24)) (d := some 15) (v := .bool (x_1 == y_1 && (x_2 == y_2))) ⟨by kernel_rfl⟩ (run_eql_agg (r := x_1 == y_1 && (x_2 == y_2)) rfl rfl (by kernel_rfl) (fun w => eqA24 9998 w x_1 y_1 x_2 y_2)) ?_
   refine oR [oF 11, oF 12] [(17, .bool (x_1 == y_1 && (x_2 == y_2))), (3, vP b2 0), (2, vP b1 0)] [17, 3, 2] (by kernel_rfl) ?_
   refine ops_bool (t := x_1 == y_1 && (x_2 == y_2)) (l1 := [(17, .bool true), (3, vP b2 0), (2, vP b1 0)]) (l2 := [(17, .bool false), (3, vP b2 0), (2, vP b1 0)]) (fun h => by rw [h]) (fun h => by rw [h]) (fun hc5 => ?_) (fun hc5 => ?_)
   · --
    have hp := cnd_t hc5 hp
    refine oR [oF 13] [(18, vP b1 3), (17, .bool true), (3, vP b2 0), (2, vP b1 0)] [18, 17, 3, 2] (by kernel_rfl) ?_
    refine ops_mem (d := some 19) (an := [.v (vI x_3)]) (evs := [.load ⟨b1, 3, none⟩ (vI x_3)]) (v := vI x_3) (M' := Mem w0 (.blk b2 [vI y_0, vI y_1, vI y_2, vI y_3, .slice A_y_4 y_4.length c_y_4] 27 :: .blk b1 [vI x_0, vI x_1, vI x_2, vI x_3, .slice A_x_4 x_4.length c_x_4] 27 :: Fz F W :: cs)) ⟨by kernel_rfl⟩ (fun w_ hM hS => ⟨w_, ⟨hM.cell 1 rfl rfl, rfl⟩, hM, trivial⟩) ?_
    refine oR [oF 15] [(20, vP b2 3), (19, vI x_3), (17, .bool true), (3, vP b2 0), (2, vP b1 0)] [20, 19, 17, 3, 2] (by kernel_rfl) ?_
    refine ops_mem (d := some 21) (an := [.v (vI y_3)]) (evs := [.load ⟨b2, 3, none⟩ (vI y_3)]) (v := vI y_3) (M' := Mem w0 (.blk b2 [vI y_0, vI y_1, vI y_2, vI y_3, .slice A_y_4 y_4.length c_y_4] 27 :: .blk b1 [vI x_0, vI x_1, vI x_2, vI x_3, .slice A_x_4 x_4.length c_x_4] 27 :: Fz F W :: cs)) ⟨by kernel_rfl⟩ (fun w_ hM hS => ⟨w_, ⟨hM.cell 0 rfl rfl, rfl⟩, hM, trivial⟩) ?_
    refine oR [oF 17, oF 18, oF 19] [(24, .bool (x_3 == y_3)), (3, vP b2 0), (2, vP b1 0)] [24, 3, 2] (by kernel_rfl) ?_
    refine ops_bool (t := (x_3 == y_3)) (l1 := [(24, .bool true), (3, vP b2 0), (2, vP b1 0)]) (l2 := [(24, .bool false), (3, vP b2 0), (2, vP b1 0)]) (fun h => by rw [h]) (fun h => by rw [h]) (fun hc6 => ?_) (fun hc6 => ?_)
    · --
     have hp := cnd_t hc6 hp
     refine oR [oF 20] [(25, vP b1 4), (24, .bool true), (3, vP b2 0)] [25, 24, 3] (by kernel_rfl) ?_
     refine ops_mem (d := some 26) (an := [.v (.slice A_x_4 x_4.length c_x_4)]) (evs := [.load ⟨b1, 4, none⟩ (.slice A_x_4 x_4.length c_x_4)]) (v := .slice A_x_4 x_4.length c_x_4) (M' := Mem w0 (.blk b2 [vI y_0, vI y_1, vI y_2, vI y_3, .slice A_y_4 y_4.length c_y_4] 27 :: .blk b1 [vI x_0, vI x_1, vI x_2, vI x_3, .slice A_x_4 x_4.length c_x_4] 27 :: Fz F W :: cs)) ⟨by kernel_rfl⟩ (fun w_ hM hS => ⟨w_, ⟨hM.cell 1 rfl rfl, rfl⟩, hM, trivial⟩) ?_
     refine oR [oF 22] [(27, vP b2 4), (26, .slice A_x_4 x_4.length c_x_4), (24, .bool true)] [27, 26, 24] (by kernel_rfl) ?_
     refine ops_mem (d := some 28) (an := [.v (.slice A_y_4 y_4.length c_y_4)]) (evs := [.load ⟨b2, 4, none⟩ (.slice A_y_4 y_4.length c_y_4)]) (v := .slice A_y_4 y_4.length c_y_4) (M' := Mem w0 (.blk b2 [vI y_0, vI y_1, vI y_2, vI y_3, .slice A_y_4 y_4.length c_y_4] 27 :: .blk b1 [vI x_0, vI x_1, vI x_2, vI x_3, .slice A_x_4 x_4.length c_x_4] 27 :: Fz F W :: cs)) ⟨by kernel_rfl⟩ (fun w_ hM hS => ⟨w_, ⟨hM.cell 0 rfl rfl, rfl⟩, hM, trivial⟩) ?_
     refine oR [] [(28, .slice A_y_4 y_4.length c_y_4), (26, .slice A_x_4 x_4.length c_x_4), (24, .bool true)] [28, 26, 24] (by kernel_rfl) ?_
     obtain ⟨x7, hv8, hp⟩ := obind hp
     refine ops_callI (σ := Unit) (d := some 29) (f := 56) (args := #[.slice A_x_4 x_4.length c_x_4, .slice A_y_4 y_4.length c_y_4, .func (.func 57) #[] #[]]) (v := (fun _ => .bool x7)) (I := (fun _ => True)) (M' := (fun _ => Mem w0 (.blk b2 [vI y_0, vI y_1, vI y_2, vI y_3, .slice A_y_4 y_4.length c_y_4] 27 :: .blk b1 [vI x_0, vI x_1, vI x_2, vI x_3, .slice A_x_4 x_4.length c_x_4] 27 :: Fz F W :: cs))) ⟨by kernel_rfl⟩ (fun w_ hM hS => (slices_EqualFunc_api_Comp_api_Comp_api_Comp_api_Comp_ok w0 w_ (.blk b2 [vI y_0, vI y_1, vI y_2, vI y_3, .slice A_y_4 y_4.length c_y_4] 27 :: .blk b1 [vI x_0, vI x_1, vI x_2, vI x_3, .slice A_x_4 x_4.length c_x_4] 27 :: cs) F W A_x_4 c_x_4 x_4 A_y_4 c_y_4 y_4 (hM.pick 3 [2, 0, 1] (by kernel_rfl) (by decide) rfl) h_x_4 h_y_4 x7 hv8).mono (by rintro e w' ⟨-, rfl, h'⟩; have h' : Mem w0 (.blk b2 [vI y_0, vI y_1, vI y_2, vI y_3, .slice A_y_4 y_4.length c_y_4] 27 :: .blk b1 [vI x_0, vI x_1, vI x_2, vI x_3, .slice A_x_4 x_4.length c_x_4] 27 :: Fz F W :: cs) w' := (h'.pick 3 [1, 2, 0] (by kernel_rfl) (by decide) rfl); exact ⟨(), trivial, rfl, h', trivial⟩)) ?_
     rintro _ -
     refine ops_conv (l' := [(29, .bool x7), (28, .slice A_y_4 y_4.length c_y_4), (26, .slice A_x_4 x_4.length c_x_4), (24, .bool true)]) (M' := Mem w0 (.blk b2 [vI y_0, vI y_1, vI y_2, vI y_3, .slice A_y_4 y_4.length c_y_4] 27 :: .blk b1 [vI x_0, vI x_1, vI x_2, vI x_3, .slice A_x_4 x_4.length c_x_4] 27 :: Fz F W :: cs)) rfl (fun _ h => h) ?_
     refine oR [oF 25, oF 26] [(4, .bool x7)] [4] (by kernel_rfl) ?_
     refine ops_nil ?_
     exact fin_join HJ1 x7 hp (look_has ⟨rfl, trivial⟩) (fun w_ hM => hM.pick 3 [2] (by kernel_rfl) (by decide) rfl)
    · --
     have hp := cnd_f hc6 hp
     refine oR [oF 20, oF 21, oF 22, oF 23, oF 24, oF 25, oF 26] [(4, .bool false)] [4] (by kernel_rfl) ?_
     refine ops_nil ?_
     exact fin_join HJ1 false hp (look_has ⟨rfl, trivial⟩) (fun w_ hM => hM.pick 3 [2] (by kernel_rfl) (by decide) rfl)
   · --
    have hp := cnd_f hc5 hp
    refine oR [oF 13, oF 14, oF 15, oF 16, oF 17, oF 18, oF 19, oF 20, oF 21, oF 22, oF 23, oF 24, oF 25, oF 26] [(4, .bool false)] [4] (by kernel_rfl) ?_
    refine ops_nil ?_
    exact fin_join HJ1 false hp (look_has ⟨rfl, trivial⟩) (fun w_ hM => hM.pick 3 [2] (by kernel_rfl) (by decide) rfl)
  · --
   have hp := cnd_f hc4 hp
   refine oR [oF 6, oF 7, oF 8, oF 9, oF 10, oF 11, oF 12, oF 13, oF 14, oF 15, oF 16, oF 17, oF 18, oF 19, oF 20, oF 21, oF 22, oF 23, oF 24, oF 25, oF 26] [(4, .bool false)] [4] (by kernel_rfl) ?_
   refine ops_nil ?_
   exact fin_join HJ1 false hp (look_has ⟨rfl, trivial⟩) (fun w_ hM => hM.pick 3 [2] (by kernel_rfl) (by decide) rfl)
set_option maxHeartbeats 4000000 in
set_option maxRecDepth 100000 in
theorem slices_EqualFunc_api_Cmd_api_Cmd_api_Cmd_api_Cmd_ok (w0 w : World) (cs : List Chunk) (F : Nat → Prop) (W : World) (A_s1 : Option Addr) (c_s1 : Nat) (s1_1 : List api_Cmd) (A_s2 : Option Addr) (c_s2 : Nat) (s2_1 : List api_Cmd) (hM0 : Mem w0 (Fz F W :: cs) w) (h_s1 : RdS R_api_Cmd F W A_s1 c_s1 s1_1) (h_s2 : RdS R_api_Cmd F W A_s2 c_s2 s2_1) (t9001 : Bool) (hp : slices_EqualFunc_api_Cmd_api_Cmd_api_Cmd_api_Cmd s1_1 s2_1 = some t9001) : Calls Try.prog 54 #[.slice A_s1 s1_1.length c_s1, .slice A_s2 s2_1.length c_s2, .func (.func 55) #[] #[]] w fun e w' => (True) ∧ e = .returned (.bool t9001) ∧ Mem w0 (Fz F W :: cs) w' := by
 unfold slices_EqualFunc_api_Cmd_api_Cmd_api_Cmd_api_Cmd at hp
 refine sx_calls Try.func54 rfl (n := 32) (by kernel_rfl) (l := [(0, .slice A_s1 s1_1.length c_s1), (1, .slice A_s2 s2_1.length c_s2), (2, .func (.func 55) #[] #[])]) rfl (by rfl) hM0 ?_
 refine st_seq ?_
 refine st_region [oF 0] (by rfl) ?_
 refine oR [oF 0] [(0, .slice A_s1 s1_1.length c_s1), (1, .slice A_s2 s2_1.length c_s2), (2, .func (.func 55) #[] #[])] [0, 1, 2] (by kernel_rfl) ?_
 refine ops_nil ?_
 refine fin_then ?_
 refine st_seq ?_
 refine st_seq ?_
 refine st_region [oF 0, oF 1, oF 2, oF 3, oF 4] (by rfl) ?_
 refine oR [oF 0, oF 1, oF 2, oF 3, oF 4] [(14, .bool (!((s1_1.length : Int) == (s2_1.length : Int)))), (0, .slice A_s1 s1_1.length c_s1), (1, .slice A_s2 s2_1.length c_s2), (2, .func (.func 55) #[] #[])] [14, 0, 1, 2] (by kernel_rfl) ?_
 refine ops_nil ?_
 refine fin_then ?_
 refine st_if (b := !((s1_1.length : Int) == (s2_1.length : Int))) rfl (fun hc1 => ?_) (fun hc1 => ?_)
 · --
  have hp := cnd_t hc1 hp
  refine st_seq ?_
  refine st_region [oF 0] (by rfl) ?_
  refine oR [oF 0] [(6, .bool false)] [6] (by kernel_rfl) ?_
  refine ops_nil ?_
  refine fin_then ?_
  refine st_ret ?_
  refine fin_ret_then ?_
  have hq_ := Option.some.inj hp
  have hr0_ := hq_
  subst hr0_
  refine fin_ret [.tmp 6] [.bool false] rfl rfl (fun w_ hM => (.tmp rfl .nil)) (fun w_ hM => ?_)
  exact ⟨trivial, rfl, hM⟩
 · --
  have hp := cnd_f hc1 hp
  refine st_skip ?_
  refine fin_then ?_
  refine st_join1 (σ := Unit) (L := fun _ => []) (N := fun _ => Mem w0 (Fz F W :: cs)) (I := fun _ => (slices_EqualFunc_api_Cmd_api_Cmd_api_Cmd_api_Cmd_j1 = some t9001)) ?_ ?_
  · --
   rintro _ hp
   refine st_conv (l' := []) (M' := Mem w0 (Fz F W :: cs)) rfl (fun _ h => h) ?_
   unfold slices_EqualFunc_api_Cmd_api_Cmd_api_Cmd_api_Cmd_j1 at hp
   refine st_seq ?_
   refine st_region [oF 0] (by rfl) ?_
   refine oR [oF 0] [(6, .bool true)] [6] (by kernel_rfl) ?_
   refine ops_nil ?_
   refine fin_then ?_
   refine st_ret ?_
   have hq_ := Option.some.inj hp
   have hr0_ := hq_
   subst hr0_
   refine fin_ret [.tmp 6] [.bool true] rfl rfl (fun w_ hM => (.tmp rfl .nil)) (fun w_ hM => ?_)
   exact ⟨trivial, rfl, hM⟩
  · --
   intro HJ1
   refine st_seq ?_
   refine st_seq ?_
   refine st_region [oF 0, oF 1, oF 2] (by rfl) ?_
   refine oR [oF 0, oF 1, oF 2] [(17, vI 0), (16, vI (s1_1.length : Int)), (15, .slice A_s1 s1_1.length c_s1), (1, .slice A_s2 s2_1.length c_s2), (2, .func (.func 55) #[] #[])] [17, 16, 15, 1, 2] (by kernel_rfl) ?_
   refine ops_nil ?_
   refine fin_then ?_
   refine st_block ?_
   obtain ⟨r2, hl2, hk2⟩ := obind hp
   refine st_loopP (σ := Int) (ρ := (Bool ⊕ Unit)) (γ := Unit) hl2 () (fun s_ g_ => match s_, g_ with | i2, _ => [(1, .slice A_s2 s2_1.length c_s2), (2, .func (.func 55) #[] #[]), (15, .slice A_s1 s1_1.length c_s1), (16, vI (s1_1.length : Int)), (17, vI i2)]) (fun s_ g_ => match s_, g_ with | i2, _ => Mem w0 (Fz F W :: cs)) (fun s_ g_ => match s_, g_ with | i2, _ => True) trivial (look_has ⟨rfl, rfl, rfl, rfl, rfl, trivial⟩) (fun w_ hM => hM) ?_
   rintro i2 _ o2 - hs_ hd2
   have hp : (slices_EqualFunc_api_Cmd_api_Cmd_api_Cmd_api_Cmd_l2 s1_1 s2_1) i2 = some o2 := hs_
   clear hs_
   unfold slices_EqualFunc_api_Cmd_api_Cmd_api_Cmd_api_Cmd_l2 at hp
   refine st_conv (l' := [(1, .slice A_s2 s2_1.length c_s2), (2, .func (.func 55) #[] #[]), (15, .slice A_s1 s1_1.length c_s1), (16, vI (s1_1.length : Int)), (17, vI i2)]) (M' := Mem w0 (Fz F W :: cs)) rfl (fun _ h => h) ?_
   refine st_seq ?_
   refine st_region [oF 0] (by rfl) ?_
   refine oR [oF 0] [(18, .bool (decide (i2 < (s1_1.length : Int)))), (1, .slice A_s2 s2_1.length c_s2), (2, .func (.func 55) #[] #[]), (15, .slice A_s1 s1_1.length c_s1), (16, vI (s1_1.length : Int)), (17, vI i2)] [18, 1, 2, 15, 16, 17] (by kernel_rfl) ?_
   refine ops_nil ?_
   refine fin_then ?_
   refine st_seq ?_
   refine st_if (b := decide (i2 < (s1_1.length : Int))) rfl (fun hc3 => ?_) (fun hc3 => ?_)
   · --
    have hp := cnd_t hc3 hp
    refine st_skip ?_
    refine fin_then ?_
    refine st_seq ?_
    refine st_block ?_
    refine st_seq ?_
    refine st_region [oF 0, oF 1, oF 2, oF 3, oF 4, oF 5] (by rfl) ?_
    refine oR [oF 0] [(19, vI i2), (1, .slice A_s2 s2_1.length c_s2), (2, .func (.func 55) #[] #[]), (15, .slice A_s1 s1_1.length c_s1), (16, vI (s1_1.length : Int)), (17, vI i2)] [19, 1, 2, 15, 16, 17] (by kernel_rfl) ?_
    obtain ⟨x4, hv5, hp⟩ := obind hp
    obtain ⟨m6, hm7, hx8⟩ := idx_some hv5
    have hl11 := (List.getElem?_eq_some_iff.1 hx8).1
    obtain ⟨ad12, vs9, hA13, hr10, hq14⟩ := RdS.el h_s1 hx8
    obtain ⟨A15, c16, rfl, h17⟩ := dec_api_Cmd hr10
    refine ops_val (op := (Go.Op.indexAddr 28 (Go.Operand.tmp 15) (Go.Operand.tmp 17))) (d := some 20) (v := .pointer (some (ad12.add (m6 * 5)))) ⟨by kernel_rfl⟩ (run_indexA hA13 Try.underlying28 (z := 5) (by kernel_rfl) rfl rfl hm7 hl11) ?_
    refine ops_mem (d := some 21) (an := [.v (vI x4.Do), .v (vI x4.Ent.N), .v (vI x4.Ent.Gen), .v (vI x4.Kind), .v (.slice A15 x4.Comps.length c16)]) (evs := [.load (ad12.add (m6 * 5)) (vI x4.Do), .load ((ad12.add (m6 * 5)).add 1) (vI x4.Ent.N), .load ((ad12.add (m6 * 5)).add 2) (vI x4.Ent.Gen), .load ((ad12.add (m6 * 5)).add 3) (vI x4.Kind), .load ((ad12.add (m6 * 5)).add 4) (.slice A15 x4.Comps.length c16)]) (v := .agg #[vI x4.Do, vI x4.Ent.N, vI x4.Ent.Gen, vI x4.Kind, .slice A15 x4.Comps.length c16]) (M' := Mem w0 (Fz F W :: cs)) ⟨by kernel_rfl⟩ (fun w_ hM hS => ⟨w_, ⟨hM.elcell 0 rfl hq14 0 rfl, hM.elcell 0 rfl hq14 1 rfl, hM.elcell 0 rfl hq14 2 rfl, hM.elcell 0 rfl hq14 3 rfl, hM.elcell 0 rfl hq14 4 rfl, rfl⟩, hM, trivial⟩) ?_
    refine oR [] [(21, .agg #[vI x4.Do, vI x4.Ent.N, vI x4.Ent.Gen, vI x4.Kind, .slice A15 x4.Comps.length c16]), (19, vI i2), (1, .slice A_s2 s2_1.length c_s2), (2, .func (.func 55) #[] #[]), (15, .slice A_s1 s1_1.length c_s1), (16, vI (s1_1.length : Int)), (17, vI i2)] [21, 19, 1, 2, 15, 16, 17] (by kernel_rfl) ?_
    refine ops_new (d := some 8) (o := .cells #[vI 0, vI 0, vI 0, vI 0, .slice none 0 0] 27) (v := fun b18 => vP b18 0) (M' := fun b18 => Mem w0 (.blk b18 [vI 0, vI 0, vI 0, vI 0, .slice none 0 0] 27 :: Fz F W :: cs)) (fun b18 => ⟨by kernel_rfl⟩) (fun w_ hM hS => ⟨hM.blk [vI 0, vI 0, vI 0, vI 0, .slice none 0 0] 27, trivial⟩) (fun b18 => ?_)
    refine oR [oF 4] [(7, vI i2), (8, vP b18 0), (21, .agg #[vI x4.Do, vI x4.Ent.N, vI x4.Ent.Gen, vI x4.Kind, .slice A15 x4.Comps.length c16]), (1, .slice A_s2 s2_1.length c_s2), (2, .func (.func 55) #[] #[]), (15, .slice A_s1 s1_1.length c_s1), (16, vI (s1_1.length : Int)), (17, vI i2)] [7, 8, 21, 1, 2, 15, 16, 17] (by kernel_rfl) ?_
    refine ops_store (an := []) (evs := [.store ⟨b18, 0, none⟩ (vI x4.Do), .store ⟨b18, 1, none⟩ (vI x4.Ent.N), .store ⟨b18, 2, none⟩ (vI x4.Ent.Gen), .store ⟨b18, 3, none⟩ (vI x4.Kind), .store ⟨b18, 4, none⟩ (.slice A15 x4.Comps.length c16)]) (M' := Mem w0 (.blk b18 [vI x4.Do, vI x4.Ent.N, vI x4.Ent.Gen, vI x4.Kind, .slice A15 x4.Comps.length c16] 27 :: Fz F W :: cs)) ⟨by kernel_rfl⟩ (fun w_ hM hS => let ⟨w', he, h'⟩ := hM.evs_stores [vI x4.Do, vI x4.Ent.N, vI x4.Ent.Gen, vI x4.Kind, .slice A15 x4.Comps.length c16] 0 rfl 0 (Nat.le_of_ble_eq_true rfl); ⟨w', he, h', trivial⟩) ?_
    refine oR [] [(7, vI i2), (8, vP b18 0), (1, .slice A_s2 s2_1.length c_s2), (2, .func (.func 55) #[] #[]), (15, .slice A_s1 s1_1.length c_s1), (16, vI (s1_1.length : Int)), (17, vI i2)] [7, 8, 1, 2, 15, 16, 17] (by kernel_rfl) ?_
    refine ops_nil ?_
    refine fin_then ?_
    refine st_seq ?_
    refine st_region [oF 0, oF 1, oF 2, oF 3, oF 4, oF 5] (by rfl) ?_
    refine oR [oF 0, oF 1] [(23, vI i2), (22, .slice A_s2 s2_1.length c_s2), (8, vP b18 0), (1, .slice A_s2 s2_1.length c_s2), (2, .func (.func 55) #[] #[]), (15, .slice A_s1 s1_1.length c_s1), (16, vI (s1_1.length : Int)), (17, vI i2)] [23, 22, 8, 1, 2, 15, 16, 17] (by kernel_rfl) ?_
    obtain ⟨x19, hv20, hp⟩ := obind hp
    obtain ⟨m21, hm22, hx23⟩ := idx_some hv20
    have hl26 := (List.getElem?_eq_some_iff.1 hx23).1
    obtain ⟨ad27, vs24, hA28, hr25, hq29⟩ := RdS.el h_s2 hx23
    obtain ⟨A30, c31, rfl, h32⟩ := dec_api_Cmd hr25
    refine ops_val (op := (Go.Op.indexAddr 28 (Go.Operand.tmp 22) (Go.Operand.tmp 23))) (d := some 24) (v := .pointer (some (ad27.add (m21 * 5)))) ⟨by kernel_rfl⟩ (run_indexA hA28 Try.underlying28 (z := 5) (by kernel_rfl) rfl rfl hm22 hl26) ?_
    refine oR [] [(24, .pointer (some (ad27.add (m21 * 5)))), (8, vP b18 0), (1, .slice A_s2 s2_1.length c_s2), (2, .func (.func 55) #[] #[]), (15, .slice A_s1 s1_1.length c_s1), (16, vI (s1_1.length : Int)), (17, vI i2)] [24, 8, 1, 2, 15, 16, 17] (by kernel_rfl) ?_
    refine ops_mem (d := some 25) (an := [.v (vI x19.Do), .v (vI x19.Ent.N), .v (vI x19.Ent.Gen), .v (vI x19.Kind), .v (.slice A30 x19.Comps.length c31)]) (evs := [.load (ad27.add (m21 * 5)) (vI x19.Do), .load ((ad27.add (m21 * 5)).add 1) (vI x19.Ent.N), .load ((ad27.add (m21 * 5)).add 2) (vI x19.Ent.Gen), .load ((ad27.add (m21 * 5)).add 3) (vI x19.Kind), .load ((ad27.add (m21 * 5)).add 4) (.slice A30 x19.Comps.length c31)]) (v := .agg #[vI x19.Do, vI x19.Ent.N, vI x19.Ent.Gen, vI x19.Kind, .slice A30 x19.Comps.length c31]) (M' := Mem w0 (.blk b18 [vI x4.Do, vI x4.Ent.N, vI x4.Ent.Gen, vI x4.Kind, .slice A15 x4.Comps.length c16] 27 :: Fz F W :: cs)) ⟨by kernel_rfl⟩ (fun w_ hM hS => ⟨w_, ⟨hM.elcell 1 rfl hq29 0 rfl, hM.elcell 1 rfl hq29 1 rfl, hM.elcell 1 rfl hq29 2 rfl, hM.elcell 1 rfl hq29 3 rfl, hM.elcell 1 rfl hq29 4 rfl, rfl⟩, hM, trivial⟩) ?_
    refine oR [] [(25, .agg #[vI x19.Do, vI x19.Ent.N, vI x19.Ent.Gen, vI x19.Kind, .slice A30 x19.Comps.length c31]), (8, vP b18 0), (1, .slice A_s2 s2_1.length c_s2), (2, .func (.func 55) #[] #[]), (15, .slice A_s1 s1_1.length c_s1), (16, vI (s1_1.length : Int)), (17, vI i2)] [25, 8, 1, 2, 15, 16, 17] (by kernel_rfl) ?_
    refine ops_new (d := some 9) (o := .cells #[vI 0, vI 0, vI 0, vI 0, .slice none 0 0] 27) (v := fun b33 => vP b33 0) (M' := fun b33 => Mem w0 (.blk b33 [vI 0, vI 0, vI 0, vI 0, .slice none 0 0] 27 :: .blk b18 [vI x4.Do, vI x4.Ent.N, vI x4.Ent.Gen, vI x4.Kind, .slice A15 x4.Comps.length c16] 27 :: Fz F W :: cs)) (fun b33 => ⟨by kernel_rfl⟩) (fun w_ hM hS => ⟨hM.blk [vI 0, vI 0, vI 0, vI 0, .slice none 0 0] 27, trivial⟩) (fun b33 => ?_)
    refine ops_store (an := []) (evs := [.store ⟨b33, 0, none⟩ (vI x19.Do), .store ⟨b33, 1, none⟩ (vI x19.Ent.N), .store ⟨b33, 2, none⟩ (vI x19.Ent.Gen), .store ⟨b33, 3, none⟩ (vI x19.Kind), .store ⟨b33, 4, none⟩ (.slice A30 x19.Comps.length c31)]) (M' := Mem w0 (.blk b33 [vI x19.Do, vI x19.Ent.N, vI x19.Ent.Gen, vI x19.Kind, .slice A30 x19.Comps.length c31] 27 :: .blk b18 [vI x4.Do, vI x4.Ent.N, vI x4.Ent.Gen, vI x4.Kind, .slice A15 x4.Comps.length c16] 27 :: Fz F W :: cs)) ⟨by kernel_rfl⟩ (fun w_ hM hS => let ⟨w', he, h'⟩ := hM.evs_stores [vI x19.Do, vI x19.Ent.N, vI x19.Ent.Gen, vI x19.Kind, .slice A30 x19.Comps.length c31] 0 rfl 0 (Nat.le_of_ble_eq_true rfl); ⟨w', he, h', trivial⟩) ?_
    refine oR [] [(9, vP b33 0), (8, vP b18 0), (1, .slice A_s2 s2_1.length c_s2), (2, .func (.func 55) #[] #[]), (15, .slice A_s1 s1_1.length c_s1), (16, vI (s1_1.length : Int)), (17, vI i2)] [9, 8, 1, 2, 15, 16, 17] (by kernel_rfl) ?_
    refine ops_nil ?_
    refine fin_then ?_
    refine st_seq ?_
    refine st_region [oF 0, oF 1, oF 2, oF 3, oF 4] (by rfl) ?_
    refine oR [oF 0] [(26, .func (.func 55) #[] #[]), (9, vP b33 0), (8, vP b18 0), (1, .slice A_s2 s2_1.length c_s2), (2, .func (.func 55) #[] #[]), (15, .slice A_s1 s1_1.length c_s1), (16, vI (s1_1.length : Int)), (17, vI i2)] [26, 9, 8, 1, 2, 15, 16, 17] (by kernel_rfl) ?_
    refine ops_mem (d := some 27) (an := [.v (vI x4.Do), .v (vI x4.Ent.N), .v (vI x4.Ent.Gen), .v (vI x4.Kind), .v (.slice A15 x4.Comps.length c16)]) (evs := [.load ⟨b18, 0, none⟩ (vI x4.Do), .load ⟨b18, 1, none⟩ (vI x4.Ent.N), .load ⟨b18, 2, none⟩ (vI x4.Ent.Gen), .load ⟨b18, 3, none⟩ (vI x4.Kind), .load ⟨b18, 4, none⟩ (.slice A15 x4.Comps.length c16)]) (v := .agg #[vI x4.Do, vI x4.Ent.N, vI x4.Ent.Gen, vI x4.Kind, .slice A15 x4.Comps.length c16]) (M' := Mem w0 (.blk b33 [vI x19.Do, vI x19.Ent.N, vI x19.Ent.Gen, vI x19.Kind, .slice A30 x19.Comps.length c31] 27 :: .blk b18 [vI x4.Do, vI x4.Ent.N, vI x4.Ent.Gen, vI x4.Kind, .slice A15 x4.Comps.length c16] 27 :: Fz F W :: cs)) ⟨by kernel_rfl⟩ (fun w_ hM hS => ⟨w_, ⟨hM.cell 1 rfl rfl, hM.cell 1 rfl rfl, hM.cell 1 rfl rfl, hM.cell 1 rfl rfl, hM.cell 1 rfl rfl, rfl⟩, hM, trivial⟩) ?_
    refine oR [] [(27, .agg #[vI x4.Do, vI x4.Ent.N, vI x4.Ent.Gen, vI x4.Kind, .slice A15 x4.Comps.length c16]), (26, .func (.func 55) #[] #[]), (9, vP b33 0), (1, .slice A_s2 s2_1.length c_s2), (2, .func (.func 55) #[] #[]), (15, .slice A_s1 s1_1.length c_s1), (16, vI (s1_1.length : Int)), (17, vI i2)] [27, 26, 9, 1, 2, 15, 16, 17] (by kernel_rfl) ?_
    refine ops_mem (d := some 28) (an := [.v (vI x19.Do), .v (vI x19.Ent.N), .v (vI x19.Ent.Gen), .v (vI x19.Kind), .v (.slice A30 x19.Comps.length c31)]) (evs := [.load ⟨b33, 0, none⟩ (vI x19.Do), .load ⟨b33, 1, none⟩ (vI x19.Ent.N), .load ⟨b33, 2, none⟩ (vI x19.Ent.Gen), .load ⟨b33, 3, none⟩ (vI x19.Kind), .load ⟨b33, 4, none⟩ (.slice A30 x19.Comps.length c31)]) (v := .agg #[vI x19.Do, vI x19.Ent.N, vI x19.Ent.Gen, vI x19.Kind, .slice A30 x19.Comps.length c31]) (M' := Mem w0 (.blk b33 [vI x19.Do, vI x19.Ent.N, vI x19.Ent.Gen, vI x19.Kind, .slice A30 x19.Comps.length c31] 27 :: .blk b18 [vI x4.Do, vI x4.Ent.N, vI x4.Ent.Gen, vI x4.Kind, .slice A15 x4.Comps.length c16] 27 :: Fz F W :: cs)) ⟨by kernel_rfl⟩ (fun w_ hM hS => ⟨w_, ⟨hM.cell 0 rfl rfl, hM.cell 0 rfl rfl, hM.cell 0 rfl rfl, hM.cell 0 rfl rfl, hM.cell 0 rfl rfl, rfl⟩, hM, trivial⟩) ?_
    refine oR [] [(28, .agg #[vI x19.Do, vI x19.Ent.N, vI x19.Ent.Gen, vI x19.Kind, .slice A30 x19.Comps.length c31]), (27, .agg #[vI x4.Do, vI x4.Ent.N, vI x4.Ent.Gen, vI x4.Kind, .slice A15 x4.Comps.length c16]), (26, .func (.func 55) #[] #[]), (1, .slice A_s2 s2_1.length c_s2), (2, .func (.func 55) #[] #[]), (15, .slice A_s1 s1_1.length c_s1), (16, vI (s1_1.length : Int)), (17, vI i2)] [28, 27, 26, 1, 2, 15, 16, 17] (by kernel_rfl) ?_
    obtain ⟨x34, hv35, hp⟩ := obind hp
    refine ops_callI (σ := Unit) (d := some 29) (f := 55) (args := #[.agg #[vI x4.Do, vI x4.Ent.N, vI x4.Ent.Gen, vI x4.Kind, .slice A15 x4.Comps.length c16], .agg #[vI x19.Do, vI x19.Ent.N, vI x19.Ent.Gen, vI x19.Kind, .slice A30 x19.Comps.length c31]]) (v := (fun _ => .bool x34)) (I := (fun _ => True)) (M' := (fun _ => Mem w0 (.blk b33 [vI x19.Do, vI x19.Ent.N, vI x19.Ent.Gen, vI x19.Kind, .slice A30 x19.Comps.length c31] 27 :: .blk b18 [vI x4.Do, vI x4.Ent.N, vI x4.Ent.Gen, vI x4.Kind, .slice A15 x4.Comps.length c16] 27 :: Fz F W :: cs))) ⟨by kernel_rfl⟩ (fun w_ hM hS => (tourref3_SameCmds_1_ok w0 w_ (.blk b33 [vI x19.Do, vI x19.Ent.N, vI x19.Ent.Gen, vI x19.Kind, .slice A30 x19.Comps.length c31] 27 :: .blk b18 [vI x4.Do, vI x4.Ent.N, vI x4.Ent.Gen, vI x4.Kind, .slice A15 x4.Comps.length c16] 27 :: cs) F W x4.Do x4.Ent.N x4.Ent.Gen x4.Kind A15 c16 x4.Comps x19.Do x19.Ent.N x19.Ent.Gen x19.Kind A30 c31 x19.Comps (hM.pick 3 [2, 0, 1] (by kernel_rfl) (by decide) rfl) h17 h32 x34 hv35).mono (by rintro e w' ⟨-, rfl, h'⟩; have h' : Mem w0 (.blk b33 [vI x19.Do, vI x19.Ent.N, vI x19.Ent.Gen, vI x19.Kind, .slice A30 x19.Comps.length c31] 27 :: .blk b18 [vI x4.Do, vI x4.Ent.N, vI x4.Ent.Gen, vI x4.Kind, .slice A15 x4.Comps.length c16] 27 :: Fz F W :: cs) w' := (h'.pick 3 [1, 2, 0] (by kernel_rfl) (by decide) rfl); exact ⟨(), trivial, rfl, h', trivial⟩)) ?_
    rintro _ -
    refine ops_conv (l' := [(29, .bool x34), (28, .agg #[vI x19.Do, vI x19.Ent.N, vI x19.Ent.Gen, vI x19.Kind, .slice A30 x19.Comps.length c31]), (27, .agg #[vI x4.Do, vI x4.Ent.N, vI x4.Ent.Gen, vI x4.Kind, .slice A15 x4.Comps.length c16]), (26, .func (.func 55) #[] #[]), (1, .slice A_s2 s2_1.length c_s2), (2, .func (.func 55) #[] #[]), (15, .slice A_s1 s1_1.length c_s1), (16, vI (s1_1.length : Int)), (17, vI i2)]) (M' := Mem w0 (.blk b33 [vI x19.Do, vI x19.Ent.N, vI x19.Ent.Gen, vI x19.Kind, .slice A30 x19.Comps.length c31] 27 :: .blk b18 [vI x4.Do, vI x4.Ent.N, vI x4.Ent.Gen, vI x4.Kind, .slice A15 x4.Comps.length c16] 27 :: Fz F W :: cs)) rfl (fun _ h => h) ?_
    refine oR [oF 4] [(30, .bool (!x34)), (1, .slice A_s2 s2_1.length c_s2), (2, .func (.func 55) #[] #[]), (15, .slice A_s1 s1_1.length c_s1), (16, vI (s1_1.length : Int)), (17, vI i2)] [30, 1, 2, 15, 16, 17] (by kernel_rfl) ?_
    refine ops_nil ?_
    refine fin_then ?_
    refine st_if (b := !x34) rfl (fun hc36 => ?_) (fun hc36 => ?_)
    · --
     have hp := cnd_t hc36 hp
     refine st_seq ?_
     refine st_region [oF 0] (by rfl) ?_
     refine oR [oF 0] [(6, .bool false)] [6] (by kernel_rfl) ?_
     refine ops_nil ?_
     refine fin_then ?_
     refine st_ret ?_
     refine fin_ret_block ?_
     refine fin_ret_then ?_
     refine fin_ret_then ?_
     refine fin_ret_block ?_
     refine fin_ret_then ?_
     obtain hq_ := Option.some.inj hp
     subst hq_
     obtain hq_ := hd2 _ rfl
     subst hq_
     have hp : some false = some t9001 := hk2
     have hq_ := Option.some.inj hp
     have hr0_ := hq_
     subst hr0_
     refine fin_ret [.tmp 6] [.bool false] rfl rfl (fun w_ hM => (.tmp rfl .nil)) (fun w_ hM => ?_)
     exact ⟨trivial, rfl, hM.pick 3 [2] (by kernel_rfl) (by decide) rfl⟩
    · --
     have hp := cnd_f hc36 hp
     refine st_skip ?_
     refine fin_block ?_
     refine fin_then ?_
     refine st_region [oF 0, oF 1] (by rfl) ?_
     refine oR [oF 0, oF 1] [(17, vI (IntKind.i64.wrap (i2 + 1))), (1, .slice A_s2 s2_1.length c_s2), (2, .func (.func 55) #[] #[]), (15, .slice A_s1 s1_1.length c_s1), (16, vI (s1_1.length : Int))] [17, 1, 2, 15, 16] (by kernel_rfl) ?_
     refine ops_nil ?_
     exact fin_again (IntKind.i64.wrap (i2 + 1)) () (Option.some.inj hp).symm trivial (look_has ⟨rfl, rfl, rfl, rfl, rfl, trivial⟩) (fun w_ hM => hM.pick 3 [2] (by kernel_rfl) (by decide) rfl)
   · --
    have hp := cnd_f hc3 hp
    refine st_exit ?_
    refine fin_exit_then ?_
    refine fin_exit_then ?_
    refine fin_exit ?_
    obtain hq_ := Option.some.inj hp
    subst hq_
    obtain hq_ := hd2 _ rfl
    subst hq_
    have hp : slices_EqualFunc_api_Cmd_api_Cmd_api_Cmd_api_Cmd_j1 = some t9001 := hk2
    exact fin_join HJ1 () hp (look_has trivial) (fun w_ hM => hM)
set_option maxHeartbeats 4000000 in
set_option maxRecDepth 100000 in
theorem tourref3_SameCmds_ok (w0 w : World) (cs : List Chunk) (F : Nat → Prop) (W : World) (A_a : Option Addr) (c_a : Nat) (a : List api_Cmd) (A_b : Option Addr) (c_b : Nat) (b : List api_Cmd) (hM0 : Mem w0 (Fz F W :: cs) w) (h_a : RdS R_api_Cmd F W A_a c_a a) (h_b : RdS R_api_Cmd F W A_b c_b b) (t9001 : Bool) (hp : tourref3_SameCmds a b = some t9001) : Calls Try.prog 11 #[.slice A_a a.length c_a, .slice A_b b.length c_b] w fun e w' => (True) ∧ e = .returned (.bool t9001) ∧ Mem w0 (Fz F W :: cs) w' := by
 unfold tourref3_SameCmds at hp
 refine sx_calls Try.func11 rfl (n := 8) (by kernel_rfl) (l := [(0, .slice A_a a.length c_a), (1, .slice A_b b.length c_b)]) rfl (by rfl) hM0 ?_
 refine st_seq ?_
 refine st_region [oF 0] (by rfl) ?_
 refine oR [oF 0] [(0, .slice A_a a.length c_a), (1, .slice A_b b.length c_b)] [0, 1] (by kernel_rfl) ?_
 refine ops_nil ?_
 refine fin_then ?_
 refine st_seq ?_
 refine st_region [oF 0, oF 1, oF 2, oF 3] (by rfl) ?_
 refine oR [oF 0, oF 1] [(6, .slice A_b b.length c_b), (5, .slice A_a a.length c_a)] [6, 5] (by kernel_rfl) ?_
 obtain ⟨x1, hv2, hp⟩ := obind hp
 refine ops_callI (σ := Unit) (d := some 7) (f := 54) (args := #[.slice A_a a.length c_a, .slice A_b b.length c_b, .func (.func 55) #[] #[]]) (v := (fun _ => .bool x1)) (I := (fun _ => True)) (M' := (fun _ => Mem w0 (Fz F W :: cs))) ⟨by kernel_rfl⟩ (fun w_ hM hS => (slices_EqualFunc_api_Cmd_api_Cmd_api_Cmd_api_Cmd_ok w0 w_ (cs) F W A_a c_a a A_b c_b b hM h_a h_b x1 hv2).mono (by rintro e w' ⟨-, rfl, h'⟩; have h' : Mem w0 (Fz F W :: cs) w' := h'; exact ⟨(), trivial, rfl, h', trivial⟩)) ?_
 rintro _ -
 refine ops_conv (l' := [(7, .bool x1), (6, .slice A_b b.length c_b), (5, .slice A_a a.length c_a)]) (M' := Mem w0 (Fz F W :: cs)) rfl (fun _ h => h) ?_
 refine oR [oF 3] [(4, .bool x1)] [4] (by kernel_rfl) ?_
 refine ops_nil ?_
 refine fin_then ?_
 refine st_ret ?_
 have hq_ := Option.some.inj hp
 have hr0_ := hq_
 subst hr0_
 refine fin_ret [.tmp 4] [.bool x1] rfl rfl (fun w_ hM => (.tmp rfl .nil)) (fun w_ hM => ?_)
 exact ⟨trivial, rfl, hM⟩
set_option maxHeartbeats 4000000 in
set_option maxRecDepth 100000 in
theorem tourlaw3_CmdJoins_ok (w0 w : World) (cs : List Chunk) (F : Nat → Prop) (W : World) (A_l : Option Addr) (c_l : Nat) (l : List (List api_Cmd)) (hM0 : Mem w0 (Fz F W :: cs) w) (h_l : RdS (Rep.sl R_api_Cmd) F W A_l c_l l) (t9001 : Bool) (hp : tourlaw3_CmdJoins l = some t9001) : Calls Try.prog 3 #[.slice A_l l.length c_l] w fun e w' => ∃ (F9002 : Nat → Prop), ∃ (W9003 : World), ((Ext w0 F W F9002 W9003)) ∧ e = .returned (.bool t9001) ∧ Mem w0 (Fz F9002 W9003 :: cs) w' := by
 unfold tourlaw3_CmdJoins at hp
 refine sx_calls Try.func3 rfl (n := 60) (by kernel_rfl) (l := [(0, .slice A_l l.length c_l)]) rfl (by rfl) hM0 ?_
 refine st_seq ?_
 refine st_region [oF 0] (by rfl) ?_
 refine oR [oF 0] [(0, .slice A_l l.length c_l)] [0] (by kernel_rfl) ?_
 refine ops_nil ?_
 refine fin_then ?_
 refine st_seq ?_
 refine st_region [oF 0, oF 1, oF 2] (by rfl) ?_
 refine oR [oF 0] [(11, .agg #[vI 2, vI 0, vI 0, vI 0, .slice none 0 0]), (0, .slice A_l l.length c_l)] [11, 0] (by kernel_rfl) ?_
 have h1 : RepL R_api_Cmd F W ([(api_Cmd.mk 2 (api_Ent.mk 0 0) 0 [])] : List api_Cmd) ([vI 2, vI 0, vI 0, vI 0, .slice none 0 0]) := (RepL.cons (R := R_api_Cmd) (F := F) (w := W) (vs := [vI 2, vI 0, vI 0, vI 0, .slice none 0 0]) (ys := []) (enc_api_Cmd (RdS.empty _)) RepL.nil)
 refine ops_new (d := some 12) (o := .cells ([vI 2, vI 0, vI 0, vI 0, .slice none 0 0]).toArray 27) (v := fun g2 => .slice (some ⟨g2, 0, none⟩) ([(api_Cmd.mk 2 (api_Ent.mk 0 0) 0 [])] : List api_Cmd).length 1) (M' := fun g2 => Mem w0 (orow (some ⟨g2, 0, none⟩) ([(api_Cmd.mk 2 (api_Ent.mk 0 0) 0 [])] : List api_Cmd).length 1 27 5 ([vI 2, vI 0, vI 0, vI 0, .slice none 0 0]) :: Fz F W :: cs)) (fun g2 => ⟨by kernel_rfl⟩) (fun w_ hM hS => ⟨hM.onew [vI 2, vI 0, vI 0, vI 0, .slice none 0 0] 27 1 5 rfl (by decide), trivial⟩) (fun g2 => ?_)
 refine oR [oF 2] [(3, .slice (some ⟨g2, 0, none⟩) ([(api_Cmd.mk 2 (api_Ent.mk 0 0) 0 [])] : List api_Cmd).length 1), (0, .slice A_l l.length c_l)] [3, 0] (by kernel_rfl) ?_
 refine ops_nil ?_
 refine fin_then ?_
 refine st_seq ?_
 refine st_seq ?_
 refine st_region [oF 0, oF 1, oF 2, oF 3, oF 4, oF 5, oF 6, oF 7, oF 8] (by rfl) ?_
 refine oR [oF 0, oF 1] [(15, .slice (some ⟨g2, 0, none⟩) ([(api_Cmd.mk 2 (api_Ent.mk 0 0) 0 [])] : List api_Cmd).length 1), (14, .slice (some ⟨g2, 0, none⟩) ([(api_Cmd.mk 2 (api_Ent.mk 0 0) 0 [])] : List api_Cmd).length 1), (0, .slice A_l l.length c_l)] [15, 14, 0] (by kernel_rfl) ?_
 refine ops_ex (σ := (Nat → Prop) × World) (I := fun x_ => Ext w0 F W x_.1 x_.2 ∧ RdS R_api_Cmd x_.1 x_.2 (some ⟨g2, 0, none⟩) 1 ([(api_Cmd.mk 2 (api_Ent.mk 0 0) 0 [])] : List api_Cmd)) (M' := fun x_ => Mem w0 (Fz x_.1 x_.2 :: cs)) (fun w_ hM => ?_) ?_
 · obtain ⟨F_, h1_, h2_, h3_⟩ := (hM.pick 2 [0, 1] (by kernel_rfl) (by decide) rfl : Mem w0 (orow (some ⟨g2, 0, none⟩) ([(api_Cmd.mk 2 (api_Ent.mk 0 0) 0 [])] : List api_Cmd).length 1 27 5 ([vI 2, vI 0, vI 0, vI 0, .slice none 0 0]) :: Fz F W :: cs) w_).freeze (z := 5) h1 rfl rfl
   exact ⟨(F_, w_), ⟨h1_, h2_⟩, h3_.pick 1 [0] (by kernel_rfl) (by decide) rfl⟩
 rintro ⟨F3, W4⟩ ⟨hx5, h6⟩
 have hx5 : Ext w0 F W F3 W4 := hx5
 have h6 : RdS R_api_Cmd F3 W4 (some ⟨g2, 0, none⟩) 1 ([(api_Cmd.mk 2 (api_Ent.mk 0 0) 0 [])] : List api_Cmd) := h6
 have h_l := h_l.ext hx5
 refine ops_conv (l' := [(15, .slice (some ⟨g2, 0, none⟩) ([(api_Cmd.mk 2 (api_Ent.mk 0 0) 0 [])] : List api_Cmd).length 1), (14, .slice (some ⟨g2, 0, none⟩) ([(api_Cmd.mk 2 (api_Ent.mk 0 0) 0 [])] : List api_Cmd).length 1), (0, .slice A_l l.length c_l)]) (M' := Mem w0 (Fz F3 W4 :: cs)) rfl (fun _ h => h) ?_
 have h7 : RepL (Rep.sl R_api_Cmd) F3 W4 ([([(api_Cmd.mk 2 (api_Ent.mk 0 0) 0 [])] : List api_Cmd), ([(api_Cmd.mk 2 (api_Ent.mk 0 0) 0 [])] : List api_Cmd)] : List (List api_Cmd)) ([.slice (some ⟨g2, 0, none⟩) ([(api_Cmd.mk 2 (api_Ent.mk 0 0) 0 [])] : List api_Cmd).length 1, .slice (some ⟨g2, 0, none⟩) ([(api_Cmd.mk 2 (api_Ent.mk 0 0) 0 [])] : List api_Cmd).length 1]) := (RepL.cons (R := (Rep.sl R_api_Cmd)) (F := F3) (w := W4) (vs := [.slice (some ⟨g2, 0, none⟩) ([(api_Cmd.mk 2 (api_Ent.mk 0 0) 0 [])] : List api_Cmd).length 1]) (ys := [.slice (some ⟨g2, 0, none⟩) ([(api_Cmd.mk 2 (api_Ent.mk 0 0) 0 [])] : List api_Cmd).length 1]) (slrd h6) (RepL.cons (R := (Rep.sl R_api_Cmd)) (F := F3) (w := W4) (vs := [.slice (some ⟨g2, 0, none⟩) ([(api_Cmd.mk 2 (api_Ent.mk 0 0) 0 [])] : List api_Cmd).length 1]) (ys := []) (slrd h6) RepL.nil))
 refine ops_new (d := some 16) (o := .cells ([.slice (some ⟨g2, 0, none⟩) ([(api_Cmd.mk 2 (api_Ent.mk 0 0) 0 [])] : List api_Cmd).length 1, .slice (some ⟨g2, 0, none⟩) ([(api_Cmd.mk 2 (api_Ent.mk 0 0) 0 [])] : List api_Cmd).length 1]).toArray 28) (v := fun g8 => .slice (some ⟨g8, 0, none⟩) ([([(api_Cmd.mk 2 (api_Ent.mk 0 0) 0 [])] : List api_Cmd), ([(api_Cmd.mk 2 (api_Ent.mk 0 0) 0 [])] : List api_Cmd)] : List (List api_Cmd)).length 2) (M' := fun g8 => Mem w0 (orow (some ⟨g8, 0, none⟩) ([([(api_Cmd.mk 2 (api_Ent.mk 0 0) 0 [])] : List api_Cmd), ([(api_Cmd.mk 2 (api_Ent.mk 0 0) 0 [])] : List api_Cmd)] : List (List api_Cmd)).length 2 28 1 ([.slice (some ⟨g2, 0, none⟩) ([(api_Cmd.mk 2 (api_Ent.mk 0 0) 0 [])] : List api_Cmd).length 1, .slice (some ⟨g2, 0, none⟩) ([(api_Cmd.mk 2 (api_Ent.mk 0 0) 0 [])] : List api_Cmd).length 1]) :: Fz F3 W4 :: cs)) (fun g8 => ⟨by kernel_rfl⟩) (fun w_ hM hS => ⟨hM.onew [.slice (some ⟨g2, 0, none⟩) ([(api_Cmd.mk 2 (api_Ent.mk 0 0) 0 [])] : List api_Cmd).length 1, .slice (some ⟨g2, 0, none⟩) ([(api_Cmd.mk 2 (api_Ent.mk 0 0) 0 [])] : List api_Cmd).length 1] 28 2 1 rfl (by decide), trivial⟩) (fun g8 => ?_)
 refine oR [] [(16, .slice (some ⟨g8, 0, none⟩) ([([(api_Cmd.mk 2 (api_Ent.mk 0 0) 0 [])] : List api_Cmd), ([(api_Cmd.mk 2 (api_Ent.mk 0 0) 0 [])] : List api_Cmd)] : List (List api_Cmd)).length 2), (0, .slice A_l l.length c_l)] [16, 0] (by kernel_rfl) ?_
 refine ops_ex (σ := (Nat → Prop) × World) (I := fun x_ => Ext w0 F3 W4 x_.1 x_.2 ∧ RdS (Rep.sl R_api_Cmd) x_.1 x_.2 (some ⟨g8, 0, none⟩) 2 ([([(api_Cmd.mk 2 (api_Ent.mk 0 0) 0 [])] : List api_Cmd), ([(api_Cmd.mk 2 (api_Ent.mk 0 0) 0 [])] : List api_Cmd)] : List (List api_Cmd))) (M' := fun x_ => Mem w0 (Fz x_.1 x_.2 :: cs)) (fun w_ hM => ?_) ?_
 · obtain ⟨F_, h1_, h2_, h3_⟩ := (hM.pick 2 [0, 1] (by kernel_rfl) (by decide) rfl : Mem w0 (orow (some ⟨g8, 0, none⟩) ([([(api_Cmd.mk 2 (api_Ent.mk 0 0) 0 [])] : List api_Cmd), ([(api_Cmd.mk 2 (api_Ent.mk 0 0) 0 [])] : List api_Cmd)] : List (List api_Cmd)).length 2 28 1 ([.slice (some ⟨g2, 0, none⟩) ([(api_Cmd.mk 2 (api_Ent.mk 0 0) 0 [])] : List api_Cmd).length 1, .slice (some ⟨g2, 0, none⟩) ([(api_Cmd.mk 2 (api_Ent.mk 0 0) 0 [])] : List api_Cmd).length 1]) :: Fz F3 W4 :: cs) w_).freeze (z := 1) h7 rfl rfl
   exact ⟨(F_, w_), ⟨h1_, h2_⟩, h3_.pick 1 [0] (by kernel_rfl) (by decide) rfl⟩
 rintro ⟨F9, W10⟩ ⟨hx11, h12⟩
 have hx11 : Ext w0 F3 W4 F9 W10 := hx11
 have h12 : RdS (Rep.sl R_api_Cmd) F9 W10 (some ⟨g8, 0, none⟩) 2 ([([(api_Cmd.mk 2 (api_Ent.mk 0 0) 0 [])] : List api_Cmd), ([(api_Cmd.mk 2 (api_Ent.mk 0 0) 0 [])] : List api_Cmd)] : List (List api_Cmd)) := h12
 have h_l := h_l.ext hx11
 refine ops_conv (l' := [(16, .slice (some ⟨g8, 0, none⟩) ([([(api_Cmd.mk 2 (api_Ent.mk 0 0) 0 [])] : List api_Cmd), ([(api_Cmd.mk 2 (api_Ent.mk 0 0) 0 [])] : List api_Cmd)] : List (List api_Cmd)).length 2), (0, .slice A_l l.length c_l)]) (M' := Mem w0 (Fz F9 W10 :: cs)) rfl (fun _ h => h) ?_
 obtain ⟨x13, x14, hv15, hp⟩ := obind2 hp
 refine ops_callI (σ := (Option Addr) × Nat × (List Value) × (Nat → Prop) × World) (d := some 17) (f := 10) (args := #[.slice (some ⟨g8, 0, none⟩) ([([(api_Cmd.mk 2 (api_Ent.mk 0 0) 0 [])] : List api_Cmd), ([(api_Cmd.mk 2 (api_Ent.mk 0 0) 0 [])] : List api_Cmd)] : List (List api_Cmd)).length 2]) (v := (fun x_ => match x_ with | (A16, c17, y18, F19, W20) => .tuple #[.slice A16 x13.length c17, vI x14])) (I := (fun x_ => match x_ with | (A16, c17, y18, F19, W20) => (RepL R_api_Cmd F19 W20 x13 y18) ∧ (Ext w0 F9 W10 F19 W20))) (M' := (fun x_ => match x_ with | (A16, c17, y18, F19, W20) => Mem w0 (orow A16 x13.length c17 27 5 y18 :: Fz F19 W20 :: cs))) ⟨by kernel_rfl⟩ (fun w_ hM hS => (cmd_Join_ok w0 w_ (cs) F9 W10 (some ⟨g8, 0, none⟩) 2 ([([(api_Cmd.mk 2 (api_Ent.mk 0 0) 0 [])] : List api_Cmd), ([(api_Cmd.mk 2 (api_Ent.mk 0 0) 0 [])] : List api_Cmd)] : List (List api_Cmd)) hM h12 x13 x14 hv15).mono (by rintro e w' ⟨A16, c17, y18, F19, W20, ⟨h21, h22⟩, rfl, h'⟩; have h' : Mem w0 (orow A16 x13.length c17 27 5 y18 :: Fz F19 W20 :: cs) w' := h'; exact ⟨(A16, c17, y18, F19, W20), ⟨h21, h22⟩, rfl, h', trivial⟩)) ?_
 rintro ⟨A16, c17, y18, F19, W20⟩ ⟨h21, h22⟩
 have h12 := h12.ext h22
 have h_l := h_l.ext h22
 refine ops_conv (l' := [(17, .tuple #[.slice A16 x13.length c17, vI x14]), (16, .slice (some ⟨g8, 0, none⟩) ([([(api_Cmd.mk 2 (api_Ent.mk 0 0) 0 [])] : List api_Cmd), ([(api_Cmd.mk 2 (api_Ent.mk 0 0) 0 [])] : List api_Cmd)] : List (List api_Cmd)).length 2), (0, .slice A_l l.length c_l)]) (M' := Mem w0 (orow A16 x13.length c17 27 5 y18 :: Fz F19 W20 :: cs)) rfl (fun _ h => h) ?_
 refine oR [oF 4, oF 5, oF 6, oF 7, oF 8] [(5, vI x14), (4, .slice A16 x13.length c17), (0, .slice A_l l.length c_l)] [5, 4, 0] (by kernel_rfl) ?_
 refine ops_nil ?_
 refine fin_then ?_
 refine st_seq ?_
 refine st_region [oF 0, oF 1, oF 2, oF 3, oF 4, oF 5, oF 6] (by rfl) ?_
 refine oR [oF 0, oF 1, oF 2] [(22, .bool (!(x14 == 0))), (4, .slice A16 x13.length c17), (0, .slice A_l l.length c_l)] [22, 4, 0] (by kernel_rfl) ?_
 refine ops_bool (t := !(x14 == 0)) (l1 := [(22, .bool true), (4, .slice A16 x13.length c17), (0, .slice A_l l.length c_l)]) (l2 := [(22, .bool false), (4, .slice A16 x13.length c17), (0, .slice A_l l.length c_l)]) (fun h => by rw [h]) (fun h => by rw [h]) (fun hc23 => ?_) (fun hc23 => ?_)
 · --
  have hp := cnd_t hc23 hp
  refine oR [oF 3, oF 4, oF 5, oF 6] [(26, .bool true), (0, .slice A_l l.length c_l)] [26, 0] (by kernel_rfl) ?_
  refine ops_nil ?_
  refine fin_then ?_
  refine st_true rfl ?_
  refine st_seq ?_
  refine st_region [oF 0] (by rfl) ?_
  refine oR [oF 0] [(2, .bool false)] [2] (by kernel_rfl) ?_
  refine ops_nil ?_
  refine fin_then ?_
  refine st_ret ?_
  refine fin_ret_then ?_
  have hq_ := Option.some.inj hp
  have hr0_ := hq_
  subst hr0_
  refine fin_ret [.tmp 2] [.bool false] rfl rfl (fun w_ hM => (.tmp rfl .nil)) (fun w_ hM => ?_)
  exact ⟨F19, W20, ((hx5.trans hx11).trans h22), rfl, hM.pick 2 [1] (by kernel_rfl) (by decide) rfl⟩
 · --
  have hp := cnd_f hc23 hp
  refine oR [oF 3, oF 4, oF 5, oF 6] [(26, .bool (!((x13.length : Int) == 2))), (0, .slice A_l l.length c_l)] [26, 0] (by kernel_rfl) ?_
  refine ops_nil ?_
  refine fin_then ?_
  refine st_if (b := !((x13.length : Int) == 2)) rfl (fun hc24 => ?_) (fun hc24 => ?_)
  · --
   have hp := cnd_t hc24 hp
   refine st_seq ?_
   refine st_region [oF 0] (by rfl) ?_
   refine oR [oF 0] [(2, .bool false)] [2] (by kernel_rfl) ?_
   refine ops_nil ?_
   refine fin_then ?_
   refine st_ret ?_
   refine fin_ret_then ?_
   have hq_ := Option.some.inj hp
   have hr0_ := hq_
   subst hr0_
   refine fin_ret [.tmp 2] [.bool false] rfl rfl (fun w_ hM => (.tmp rfl .nil)) (fun w_ hM => ?_)
   exact ⟨F19, W20, ((hx5.trans hx11).trans h22), rfl, hM.pick 2 [1] (by kernel_rfl) (by decide) rfl⟩
  · --
   have hp := cnd_f hc24 hp
   refine st_skip ?_
   refine fin_then ?_
   refine st_seq ?_
   refine st_region [oF 0, oF 1, oF 2, oF 3, oF 4, oF 5, oF 6] (by rfl) ?_
   refine oR [oF 0] [(28, .slice A_l l.length c_l), (0, .slice A_l l.length c_l)] [28, 0] (by kernel_rfl) ?_
   obtain ⟨x25, x26, hv27, hp⟩ := obind2 hp
   refine ops_callI (σ := (Option Addr) × Nat × (List Value) × (Nat → Prop) × World) (d := some 29) (f := 10) (args := #[.slice A_l l.length c_l]) (v := (fun x_ => match x_ with | (A28, c29, y30, F31, W32) => .tuple #[.slice A28 x25.length c29, vI x26])) (I := (fun x_ => match x_ with | (A28, c29, y30, F31, W32) => (RepL R_api_Cmd F31 W32 x25 y30) ∧ (Ext w0 F19 W20 F31 W32))) (M' := (fun x_ => match x_ with | (A28, c29, y30, F31, W32) => Mem w0 (orow A28 x25.length c29 27 5 y30 :: orow A16 x13.length c17 27 5 y18 :: Fz F31 W32 :: cs))) ⟨by kernel_rfl⟩ (fun w_ hM hS => (cmd_Join_ok w0 w_ (orow A16 x13.length c17 27 5 y18 :: cs) F19 W20 A_l c_l l (hM.pick 2 [1, 0] (by kernel_rfl) (by decide) rfl) h_l x25 x26 hv27).mono (by rintro e w' ⟨A28, c29, y30, F31, W32, ⟨h33, h34⟩, rfl, h'⟩; have h' : Mem w0 (orow A28 x25.length c29 27 5 y30 :: orow A16 x13.length c17 27 5 y18 :: Fz F31 W32 :: cs) w' := (h'.pick 3 [0, 2, 1] (by kernel_rfl) (by decide) rfl); exact ⟨(A28, c29, y30, F31, W32), ⟨h33, h34⟩, rfl, h', trivial⟩)) ?_
   rintro ⟨A28, c29, y30, F31, W32⟩ ⟨h33, h34⟩
   have h_l := h_l.ext h34
   have h21 := h21.ext h34
   refine ops_conv (l' := [(29, .tuple #[.slice A28 x25.length c29, vI x26]), (28, .slice A_l l.length c_l), (0, .slice A_l l.length c_l)]) (M' := Mem w0 (orow A28 x25.length c29 27 5 y30 :: orow A16 x13.length c17 27 5 y18 :: Fz F31 W32 :: cs)) rfl (fun _ h => h) ?_
   refine oR [oF 2, oF 3, oF 4, oF 5, oF 6] [(7, vI x26), (6, .slice A28 x25.length c29), (0, .slice A_l l.length c_l)] [7, 6, 0] (by kernel_rfl) ?_
   refine ops_nil ?_
   refine fin_then ?_
   refine st_seq ?_
   refine st_region [oF 0] (by rfl) ?_
   refine oR [oF 0] [(8, vI 0), (7, vI x26), (6, .slice A28 x25.length c29), (0, .slice A_l l.length c_l)] [8, 7, 6, 0] (by kernel_rfl) ?_
   refine ops_nil ?_
   refine fin_then ?_
   refine st_join1 (σ := Int) (L := fun x_ => match x_ with | i35 => [(0, .slice A_l l.length c_l), (6, .slice A28 x25.length c29), (7, vI x26), (8, vI i35)]) (N := fun x_ => match x_ with | i35 => Mem w0 (orow A28 x25.length c29 27 5 y30 :: Fz F31 W32 :: cs)) (I := fun x_ => match x_ with | i35 => ((tourlaw3_CmdJoins_j1 x26 x25 l) i35 = some t9001)) ?_ ?_
   · --
    rintro i35 hp
    refine st_conv (l' := [(0, .slice A_l l.length c_l), (6, .slice A28 x25.length c29), (7, vI x26), (8, vI i35)]) (M' := Mem w0 (orow A28 x25.length c29 27 5 y30 :: Fz F31 W32 :: cs)) rfl (fun _ h => h) ?_
    unfold tourlaw3_CmdJoins_j1 at hp
    refine st_seq ?_
    refine st_seq ?_
    refine st_region [oF 0, oF 1] (by rfl) ?_
    refine oR [oF 0, oF 1] [(44, .bool (decide (131072 < i35))), (0, .slice A_l l.length c_l), (6, .slice A28 x25.length c29), (7, vI x26)] [44, 0, 6, 7] (by kernel_rfl) ?_
    refine ops_nil ?_
    refine fin_then ?_
    refine st_if (b := decide (131072 < i35)) rfl (fun hc36 => ?_) (fun hc36 => ?_)
    · --
     have hp := cnd_t hc36 hp
     refine st_join1 (σ := Bool) (L := fun x_ => match x_ with | t37 => [(2, .bool t37)]) (N := fun x_ => match x_ with | t37 => Mem w0 (Fz F31 W32 :: cs)) (I := fun x_ => match x_ with | t37 => (tourlaw3_CmdJoins_j2 t37 = some t9001)) ?_ ?_
     · --
      rintro t37 hp
      refine st_conv (l' := [(2, .bool t37)]) (M' := Mem w0 (Fz F31 W32 :: cs)) rfl (fun _ h => h) ?_
      unfold tourlaw3_CmdJoins_j2 at hp
      refine st_ret ?_
      refine fin_ret_then ?_
      have hq_ := Option.some.inj hp
      have hr0_ := hq_
      subst hr0_
      refine fin_ret [.tmp 2] [.bool t37] rfl rfl (fun w_ hM => (.tmp rfl .nil)) (fun w_ hM => ?_)
      exact ⟨F31, W32, (((hx5.trans hx11).trans h22).trans h34), rfl, hM⟩
     · --
      intro HJ2
      refine st_seq ?_
      refine st_region [oF 0, oF 1, oF 2, oF 3, oF 4, oF 5, oF 6, oF 7] (by rfl) ?_
      refine oR [oF 0, oF 1, oF 2] [(47, .bool (x26 == 2)), (6, .slice A28 x25.length c29)] [47, 6] (by kernel_rfl) ?_
      refine ops_bool (t := (x26 == 2)) (l1 := [(47, .bool true), (6, .slice A28 x25.length c29)]) (l2 := [(47, .bool false), (6, .slice A28 x25.length c29)]) (fun h => by rw [h]) (fun h => by rw [h]) (fun hc38 => ?_) (fun hc38 => ?_)
      · --
       have hp := cnd_t hc38 hp
       refine oR [oF 3, oF 4, oF 5, oF 6, oF 7] [(2, .bool ((x25.length : Int) == 0))] [2] (by kernel_rfl) ?_
       refine ops_nil ?_
       exact fin_join HJ2 ((x25.length : Int) == 0) hp (look_has ⟨rfl, trivial⟩) (fun w_ hM => hM.pick 2 [1] (by kernel_rfl) (by decide) rfl)
      · --
       have hp := cnd_f hc38 hp
       refine oR [oF 3, oF 4, oF 5, oF 6, oF 7] [(2, .bool false)] [2] (by kernel_rfl) ?_
       refine ops_nil ?_
       exact fin_join HJ2 false hp (look_has ⟨rfl, trivial⟩) (fun w_ hM => hM.pick 2 [1] (by kernel_rfl) (by decide) rfl)
    · --
     have hp := cnd_f hc36 hp
     refine st_skip ?_
     refine fin_then ?_
     refine st_join1 (σ := Bool) (L := fun x_ => match x_ with | t39 => [(2, .bool t39)]) (N := fun x_ => match x_ with | t39 => Mem w0 (Fz F31 W32 :: cs)) (I := fun x_ => match x_ with | t39 => (tourlaw3_CmdJoins_j3 t39 = some t9001)) ?_ ?_
     · --
      rintro t39 hp
      refine st_conv (l' := [(2, .bool t39)]) (M' := Mem w0 (Fz F31 W32 :: cs)) rfl (fun _ h => h) ?_
      unfold tourlaw3_CmdJoins_j3 at hp
      refine st_ret ?_
      have hq_ := Option.some.inj hp
      have hr0_ := hq_
      subst hr0_
      refine fin_ret [.tmp 2] [.bool t39] rfl rfl (fun w_ hM => (.tmp rfl .nil)) (fun w_ hM => ?_)
      exact ⟨F31, W32, (((hx5.trans hx11).trans h22).trans h34), rfl, hM⟩
     · --
      intro HJ3
      refine st_seq ?_
      refine st_region [oF 0, oF 1, oF 2, oF 3, oF 4, oF 5, oF 6, oF 7, oF 8] (by rfl) ?_
      refine oR [oF 0, oF 1, oF 2] [(54, .bool (x26 == 0)), (0, .slice A_l l.length c_l), (6, .slice A28 x25.length c29)] [54, 0, 6] (by kernel_rfl) ?_
      refine ops_bool (t := (x26 == 0)) (l1 := [(54, .bool true), (0, .slice A_l l.length c_l), (6, .slice A28 x25.length c29)]) (l2 := [(54, .bool false), (0, .slice A_l l.length c_l), (6, .slice A28 x25.length c29)]) (fun h => by rw [h]) (fun h => by rw [h]) (fun hc40 => ?_) (fun hc40 => ?_)
      · --
       have hp := cnd_t hc40 hp
       refine oR [oF 3, oF 4] [(56, .slice A_l l.length c_l), (55, .slice A28 x25.length c29), (54, .bool true)] [56, 55, 54] (by kernel_rfl) ?_
       obtain ⟨x41, hv42, hp⟩ := obind hp
       refine ops_callI (σ := (Option Addr) × Nat × (List Value)) (d := some 57) (f := 12) (args := #[.slice A_l l.length c_l]) (v := (fun x_ => match x_ with | (A43, c44, y45) => .slice A43 x41.length c44)) (I := (fun x_ => match x_ with | (A43, c44, y45) => (RepL R_api_Cmd F31 W32 x41 y45))) (M' := (fun x_ => match x_ with | (A43, c44, y45) => Mem w0 (orow A43 x41.length c44 27 5 y45 :: orow A28 x25.length c29 27 5 y30 :: Fz F31 W32 :: cs))) ⟨by kernel_rfl⟩ (fun w_ hM hS => (slices_Concat_api_Cmd_api_Cmd_ok w0 w_ (orow A28 x25.length c29 27 5 y30 :: cs) F31 W32 A_l c_l l (hM.pick 2 [1, 0] (by kernel_rfl) (by decide) rfl) h_l x41 hv42).mono (by rintro e w' ⟨A43, c44, y45, h46, rfl, h'⟩; have h' : Mem w0 (orow A43 x41.length c44 27 5 y45 :: orow A28 x25.length c29 27 5 y30 :: Fz F31 W32 :: cs) w' := (h'.pick 3 [0, 2, 1] (by kernel_rfl) (by decide) rfl); exact ⟨(A43, c44, y45), h46, rfl, h', trivial⟩)) ?_
       rintro ⟨A43, c44, y45⟩ h46
       refine ops_conv (l' := [(57, .slice A43 x41.length c44), (56, .slice A_l l.length c_l), (55, .slice A28 x25.length c29), (54, .bool true)]) (M' := Mem w0 (orow A43 x41.length c44 27 5 y45 :: orow A28 x25.length c29 27 5 y30 :: Fz F31 W32 :: cs)) rfl (fun _ h => h) ?_
       refine oR [] [(57, .slice A43 x41.length c44), (55, .slice A28 x25.length c29), (54, .bool true)] [57, 55, 54] (by kernel_rfl) ?_
       obtain ⟨x47, hv48, hp⟩ := obind hp
       refine ops_callI (σ := Unit) (d := some 58) (f := 11) (args := #[.slice A28 x25.length c29, .slice A43 x41.length c44]) (v := (fun _ => .bool x47)) (I := (fun _ => True)) (M' := (fun _ => Mem w0 (orow A43 x41.length c44 27 5 y45 :: orow A28 x25.length c29 27 5 y30 :: Fz F31 W32 :: cs))) ⟨by kernel_rfl⟩ (fun w_ hM hS => (tourref3_SameCmds_ok w_ w_ [] (fun b => b < w_.heap.size) w_ A28 c29 x25 A43 c44 x41 (Mem.fz0 w_) (hM.ordS 1 2 rfl rfl h33 rfl rfl) (hM.ordS 0 2 rfl rfl h46 rfl rfl) x47 hv48).mono (by rintro e w' ⟨-, rfl, h'⟩; have h' : Mem w_ [] w' := h'.pick 1 [] (by kernel_rfl) (by decide) rfl; exact ⟨(), trivial, rfl, hM.join h' rfl, trivial⟩)) ?_
       rintro _ -
       refine ops_conv (l' := [(58, .bool x47), (57, .slice A43 x41.length c44), (55, .slice A28 x25.length c29), (54, .bool true)]) (M' := Mem w0 (orow A43 x41.length c44 27 5 y45 :: orow A28 x25.length c29 27 5 y30 :: Fz F31 W32 :: cs)) rfl (fun _ h => h) ?_
       refine oR [oF 7, oF 8] [(2, .bool x47)] [2] (by kernel_rfl) ?_
       refine ops_nil ?_
       exact fin_join HJ3 x47 hp (look_has ⟨rfl, trivial⟩) (fun w_ hM => hM.pick 3 [2] (by kernel_rfl) (by decide) rfl)
      · --
       have hp := cnd_f hc40 hp
       refine oR [oF 3, oF 4, oF 5, oF 6, oF 7, oF 8] [(2, .bool false)] [2] (by kernel_rfl) ?_
       refine ops_nil ?_
       exact fin_join HJ3 false hp (look_has ⟨rfl, trivial⟩) (fun w_ hM => hM.pick 2 [1] (by kernel_rfl) (by decide) rfl)
   · --
    intro HJ1
    refine st_seq ?_
    refine st_seq ?_
    refine st_region [oF 0, oF 1, oF 2] (by rfl) ?_
    refine oR [oF 0, oF 1, oF 2] [(34, vI 0), (33, vI (l.length : Int)), (32, .slice A_l l.length c_l), (8, vI 0), (7, vI x26), (6, .slice A28 x25.length c29), (0, .slice A_l l.length c_l)] [34, 33, 32, 8, 7, 6, 0] (by kernel_rfl) ?_
    refine ops_nil ?_
    refine fin_then ?_
    refine st_block ?_
    obtain ⟨r4, hl4, hk4⟩ := obind hp
    refine st_loopP (σ := Int × Int) (ρ := Int) (γ := Unit) hl4 () (fun s_ g_ => match s_, g_ with | (i49, i50), _ => [(0, .slice A_l l.length c_l), (6, .slice A28 x25.length c29), (7, vI x26), (8, vI i49), (32, .slice A_l l.length c_l), (33, vI (l.length : Int)), (34, vI i50)]) (fun s_ g_ => match s_, g_ with | (i49, i50), _ => Mem w0 (orow A28 x25.length c29 27 5 y30 :: Fz F31 W32 :: cs)) (fun s_ g_ => match s_, g_ with | (i49, i50), _ => True) trivial (look_has ⟨rfl, rfl, rfl, rfl, rfl, rfl, rfl, trivial⟩) (fun w_ hM => hM.pick 3 [0, 2] (by kernel_rfl) (by decide) rfl) ?_
    rintro ⟨i49, i50⟩ _ o4 - hs_ hd4
    have hp : (tourlaw3_CmdJoins_l4 l) i49 i50 = some o4 := hs_
    clear hs_
    unfold tourlaw3_CmdJoins_l4 at hp
    refine st_conv (l' := [(0, .slice A_l l.length c_l), (6, .slice A28 x25.length c29), (7, vI x26), (8, vI i49), (32, .slice A_l l.length c_l), (33, vI (l.length : Int)), (34, vI i50)]) (M' := Mem w0 (orow A28 x25.length c29 27 5 y30 :: Fz F31 W32 :: cs)) rfl (fun _ h => h) ?_
    refine st_seq ?_
    refine st_region [oF 0] (by rfl) ?_
    refine oR [oF 0] [(35, .bool (decide (i50 < (l.length : Int)))), (0, .slice A_l l.length c_l), (6, .slice A28 x25.length c29), (7, vI x26), (8, vI i49), (32, .slice A_l l.length c_l), (33, vI (l.length : Int)), (34, vI i50)] [35, 0, 6, 7, 8, 32, 33, 34] (by kernel_rfl) ?_
    refine ops_nil ?_
    refine fin_then ?_
    refine st_seq ?_
    refine st_if (b := decide (i50 < (l.length : Int))) rfl (fun hc51 => ?_) (fun hc51 => ?_)
    · --
     have hp := cnd_t hc51 hp
     refine st_skip ?_
     refine fin_then ?_
     refine st_seq ?_
     refine st_block ?_
     refine st_seq ?_
     refine st_region [oF 0, oF 1, oF 2] (by rfl) ?_
     refine oR [] [(0, .slice A_l l.length c_l), (6, .slice A28 x25.length c29), (7, vI x26), (8, vI i49), (32, .slice A_l l.length c_l), (33, vI (l.length : Int)), (34, vI i50)] [0, 6, 7, 8, 32, 33, 34] (by kernel_rfl) ?_
     obtain ⟨x52, hv53, hp⟩ := obind hp
     obtain ⟨m54, hm55, hx56⟩ := idx_some hv53
     have hl59 := (List.getElem?_eq_some_iff.1 hx56).1
     obtain ⟨ad60, vs57, hA61, hr58, hq62⟩ := RdS.el h_l hx56
     obtain ⟨A63, c64, rfl, h65⟩ := hr58
     refine ops_val (op := (Go.Op.indexAddr 22 (Go.Operand.tmp 32) (Go.Operand.tmp 34))) (d := some 36) (v := .pointer (some (ad60.add (m54 * 1)))) ⟨by kernel_rfl⟩ (run_indexA hA61 Try.underlying22 (z := 1) (by kernel_rfl) rfl rfl hm55 hl59) ?_
     refine ops_mem (d := some 37) (an := [.v (.slice A63 x52.length c64)]) (evs := [.load (ad60.add (m54 * 1)) (.slice A63 x52.length c64)]) (v := .slice A63 x52.length c64) (M' := Mem w0 (orow A28 x25.length c29 27 5 y30 :: Fz F31 W32 :: cs)) ⟨by kernel_rfl⟩ (fun w_ hM hS => ⟨w_, ⟨hM.elcell 1 rfl hq62 0 rfl, rfl⟩, hM, trivial⟩) ?_
     refine oR [oF 2] [(10, .slice A63 x52.length c64), (0, .slice A_l l.length c_l), (6, .slice A28 x25.length c29), (7, vI x26), (8, vI i49), (32, .slice A_l l.length c_l), (33, vI (l.length : Int)), (34, vI i50)] [10, 0, 6, 7, 8, 32, 33, 34] (by kernel_rfl) ?_
     refine ops_nil ?_
     refine fin_then ?_
     refine st_region [oF 0, oF 1, oF 2, oF 3, oF 4] (by rfl) ?_
     refine oR [oF 0, oF 1, oF 2, oF 3, oF 4] [(8, vI (IntKind.i64.wrap (i49 + (x52.length : Int)))), (0, .slice A_l l.length c_l), (6, .slice A28 x25.length c29), (7, vI x26), (32, .slice A_l l.length c_l), (33, vI (l.length : Int)), (34, vI i50)] [8, 0, 6, 7, 32, 33, 34] (by kernel_rfl) ?_
     refine ops_nil ?_
     refine fin_block ?_
     refine fin_then ?_
     refine st_region [oF 0, oF 1] (by rfl) ?_
     refine oR [oF 0, oF 1] [(34, vI (IntKind.i64.wrap (i50 + 1))), (8, vI (IntKind.i64.wrap (i49 + (x52.length : Int)))), (0, .slice A_l l.length c_l), (6, .slice A28 x25.length c29), (7, vI x26), (32, .slice A_l l.length c_l), (33, vI (l.length : Int))] [34, 8, 0, 6, 7, 32, 33] (by kernel_rfl) ?_
     refine ops_nil ?_
     exact fin_again (IntKind.i64.wrap (i49 + (x52.length : Int)), IntKind.i64.wrap (i50 + 1)) () (Option.some.inj hp).symm trivial (look_has ⟨rfl, rfl, rfl, rfl, rfl, rfl, rfl, trivial⟩) (fun w_ hM => hM)
    · --
     have hp := cnd_f hc51 hp
     refine st_exit ?_
     refine fin_exit_then ?_
     refine fin_exit_then ?_
     refine fin_exit ?_
     obtain hq_ := Option.some.inj hp
     subst hq_
     obtain hq_ := hd4 _ rfl
     subst hq_
     have hp : (tourlaw3_CmdJoins_j1 x26 x25 l) i49 = some t9001 := hk4
     exact fin_join HJ1 i49 hp (look_has ⟨rfl, rfl, rfl, rfl, trivial⟩) (fun w_ hM => hM)
end Go.Proofs.Ythcbepikeinglaa.Y
