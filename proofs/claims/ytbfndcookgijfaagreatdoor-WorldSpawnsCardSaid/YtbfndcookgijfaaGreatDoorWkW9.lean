/- The Go functions come to what the plain functions tell. No condition. -/
import Derived.Test.YtbfndcookgijfaaGreatDoorProg
import Derived.Test.YtbfndcookgijfaaGreatDoorFnW
namespace Go.Proofs.YtbfndcookgijfaaGreatDoor.W
open Go Go.RowKit Go.Proofs.YtbfndcookgijfaaGreatDoor.Sx
set_option linter.unusedVariables false
set_option maxHeartbeats 4000000
set_option maxRecDepth 100000
theorem slices_Equal_int_int_ok (w0 w : World) (cs : List Chunk) (F : Nat → Prop) (W : World) (A_s1 : Option Addr) (c_s1 : Nat) (s1_1 : List Int) (A_s2 : Option Addr) (c_s2 : Nat) (s2_1 : List Int) (hM0 : Mem w0 (Fz F W :: cs) w) (h_s1 : RdS (Rep.int .i64) F W A_s1 c_s1 s1_1) (h_s2 : RdS (Rep.int .i64) F W A_s2 c_s2 s2_1) (t9001 : Bool) (hp : slices_Equal_int_int s1_1 s2_1 = some t9001) : Calls Tryz.prog 19 #[sl A_s1 s1_1 c_s1, sl A_s2 s2_1 c_s2] w fun e w' => (True) ∧ e = .returned (.bool t9001) ∧ Mem w0 (Fz F W :: cs) w' := by
 unfold slices_Equal_int_int at hp
 refine sx_calls Tryz.func19 rfl (n := 26) (by kernel_rfl) (l := [(0, sl A_s1 s1_1 c_s1), (1, sl A_s2 s2_1 c_s2)]) rfl (by rfl) hM0 ?_
 refine st_seq (st_region [oF 0] (by rfl) ?_)
 refine oQ [oF 0] [(0, sl A_s1 s1_1 c_s1), (1, sl A_s2 s2_1 c_s2)] (by kernel_rfl) ?_
 refine ops_nil (fin_then (st_seq (st_seq (st_region [oF 0, oF 1, oF 2, oF 3, oF 4] (by rfl) ?_))))
 refine oQ [oF 0, oF 1, oF 2, oF 3, oF 4] [(10, .bool (!((s1_1.length : Int) == (s2_1.length : Int)))), (0, sl A_s1 s1_1 c_s1), (1, sl A_s2 s2_1 c_s2)] (by kernel_rfl) ?_
 refine ops_nil (fin_then ?_)
 refine st_if (b := !((s1_1.length : Int) == (s2_1.length : Int))) rfl (fun hc1 => ?_) (fun hc1 => ?_)
 ·
  have hp := cnd_t hc1 hp
  refine st_seq (st_region [oF 0] (by rfl) ?_)
  refine oQ [oF 0] [(4, .bool false)] (by kernel_rfl) ?_
  refine ops_nil (fin_then (st_ret (fin_ret_then ?_)))
  have hq_ := Option.some.inj hp
  have hr0_ := hq_
  subst hr0_
  refine fin_ret [.tmp 4] [.bool false] rfl rfl (fun w_ hM => (.tmp rfl .nil)) (fun w_ hM => ?_)
  exact ⟨trivial, rfl, hM⟩
 ·
  have hp := cnd_f hc1 hp
  refine st_skip (fin_then ?_)
  refine st_join1 (σ := Unit) (L := fun _ => []) (N := fun _ => Mem w0 (Fz F W :: cs)) (I := fun _ => (slices_Equal_int_int_j1 = some t9001)) ?_ ?_
  ·
   rintro _ hp
   unfold slices_Equal_int_int_j1 at hp
   refine st_seq (st_region [oF 0] (by rfl) ?_)
   refine oQ [oF 0] [(4, .bool true)] (by kernel_rfl) ?_
   refine ops_nil (fin_then (st_ret ?_))
   have hq_ := Option.some.inj hp
   have hr0_ := hq_
   subst hr0_
   refine fin_ret [.tmp 4] [.bool true] rfl rfl (fun w_ hM => (.tmp rfl .nil)) (fun w_ hM => ?_)
   exact ⟨trivial, rfl, hM⟩
  ·
   intro HJ1
   refine st_seq (st_seq (st_region [oF 0, oF 1, oF 2] (by rfl) ?_))
   refine oQ [oF 0, oF 1, oF 2] [(13, vI 0), (12, vI (s1_1.length : Int)), (0, sl A_s1 s1_1 c_s1), (1, sl A_s2 s2_1 c_s2)] (by kernel_rfl) ?_
   refine ops_nil (fin_then (st_block ?_))
   obtain ⟨r2, hl2, hk2⟩ := obind hp
   refine st_loopP (σ := Int) (ρ := (Bool ⊕ Unit)) (γ := Unit) hl2 () (fun s_ g_ => match s_, g_ with | i2, _ => [(0, sl A_s1 s1_1 c_s1), (1, sl A_s2 s2_1 c_s2), (12, vI (s1_1.length : Int)), (13, vI i2)]) (fun s_ g_ => match s_, g_ with | i2, _ => Mem w0 (Fz F W :: cs)) (fun s_ g_ => match s_, g_ with | i2, _ => True) trivial (look_has ⟨rfl, rfl, rfl, rfl, trivial⟩) (fun w_ hM => hM) ?_
   rintro i2 _ o2 - hs_ hd2
   have hp : (slices_Equal_int_int_l2 s1_1 s2_1) i2 = some o2 := hs_
   clear hs_
   unfold slices_Equal_int_int_l2 at hp
   refine st_seq (st_region [oF 0] (by rfl) ?_)
   refine oQ [oF 0] [(14, .bool (decide (i2 < (s1_1.length : Int)))), (0, sl A_s1 s1_1 c_s1), (1, sl A_s2 s2_1 c_s2), (12, vI (s1_1.length : Int)), (13, vI i2)] (by kernel_rfl) ?_
   refine ops_nil (fin_then (st_seq ?_))
   refine st_if (b := decide (i2 < (s1_1.length : Int))) rfl (fun hc3 => ?_) (fun hc3 => ?_)
   ·
    have hp := cnd_t hc3 hp
    refine st_skip (fin_then (st_seq (st_block (st_seq (st_region [oF 0, oF 1] (by rfl) ?_)))))
    refine oQ [oF 0, oF 1] [(5, vI i2), (0, sl A_s1 s1_1 c_s1), (1, sl A_s2 s2_1 c_s2), (12, vI (s1_1.length : Int)), (13, vI i2)] (by kernel_rfl) ?_
    refine ops_nil (fin_then (st_seq ?_))
    refine st_region_draw [oT 0, oT 1, oT 2, oT 3, oT 4, oT 5, oT 6, oT 7, oT 8] (Mem w0 (Fz F W :: cs)) (by kernel_rfl) (by kernel_rfl) (by kernel_rfl) (fun _ d _ _ _ h => by cases d <;> exact h) (M' := Mem w0 (Fz F W :: cs)) (fun w_ hM => ⟨hM.drew, hM.drew.sub (.cons_cons _ (.refl _))⟩) ?_
    refine oQ [oT 0, oT 1] [(17, vI i2), (16, sl A_s1 s1_1 c_s1), (5, vI i2), (0, sl A_s1 s1_1 c_s1), (1, sl A_s2 s2_1 c_s2), (12, vI (s1_1.length : Int)), (13, vI i2)] (by kernel_rfl) ?_
    obtain ⟨x4, hv5, hp⟩ := obind hp
    obtain ⟨m6, hm7, hx8⟩ := idx_some hv5
    have hl11 := (List.getElem?_eq_some_iff.1 hx8).1
    obtain ⟨ad12, vs9, hA13, hr10, hq14⟩ := RdS.el h_s1 hx8
    obtain rfl := hr10
    refine ops_val (op := (.indexAddr 23 (.tmp 16) (.tmp 17))) (d := some 18) (v := .pointer (some (ad12.add (m6 * 1)))) ⟨by kernel_rfl⟩ (run_indexA hA13 Tryz.underlying23 (z := 1) (by kernel_rfl) rfl rfl hm7 hl11) ?_
    refine ops_load (d := some 19) (an := [.v (vI x4)]) (evs := [.load (ad12.add (m6 * 1)) (vI x4)]) (v := vI x4) ⟨by kernel_rfl⟩ (fun w_ hM => ⟨hM.elcell 0 rfl hq14 0 rfl, rfl⟩) ?_
    refine oQ [oT 4, oT 5] [(21, vI i2), (20, sl A_s2 s2_1 c_s2), (19, vI x4), (0, sl A_s1 s1_1 c_s1), (1, sl A_s2 s2_1 c_s2), (12, vI (s1_1.length : Int)), (13, vI i2)] (by kernel_rfl) ?_
    obtain ⟨x15, hv16, hp⟩ := obind hp
    obtain ⟨m17, hm18, hx19⟩ := idx_some hv16
    have hl22 := (List.getElem?_eq_some_iff.1 hx19).1
    obtain ⟨ad23, vs20, hA24, hr21, hq25⟩ := RdS.el h_s2 hx19
    obtain rfl := hr21
    refine ops_val (op := (.indexAddr 23 (.tmp 20) (.tmp 21))) (d := some 22) (v := .pointer (some (ad23.add (m17 * 1)))) ⟨by kernel_rfl⟩ (run_indexA hA24 Tryz.underlying23 (z := 1) (by kernel_rfl) rfl rfl hm18 hl22) ?_
    refine ops_load (d := some 23) (an := [.v (vI x15)]) (evs := [.load (ad23.add (m17 * 1)) (vI x15)]) (v := vI x15) ⟨by kernel_rfl⟩ (fun w_ hM => ⟨hM.elcell 0 rfl hq25 0 rfl, rfl⟩) ?_
    refine oQ [oT 8] [(24, .bool (!(x4 == x15))), (0, sl A_s1 s1_1 c_s1), (1, sl A_s2 s2_1 c_s2), (12, vI (s1_1.length : Int)), (13, vI i2)] (by kernel_rfl) ?_
    refine ops_nil (fin_then ?_)
    refine st_if (b := !(x4 == x15)) rfl (fun hc26 => ?_) (fun hc26 => ?_)
    ·
     have hp := cnd_t hc26 hp
     refine st_seq (st_region [oF 0] (by rfl) ?_)
     refine oQ [oF 0] [(4, .bool false)] (by kernel_rfl) ?_
     refine ops_nil (fin_then (st_ret (fin_ret_block (fin_ret_then (fin_ret_then (fin_ret_block (fin_ret_then ?_)))))))
     obtain hq_ := Option.some.inj hp
     subst hq_
     obtain hq_ := hd2 _ rfl
     subst hq_
     have hp : some false = some t9001 := hk2
     have hq_ := Option.some.inj hp
     have hr0_ := hq_
     subst hr0_
     refine fin_ret [.tmp 4] [.bool false] rfl rfl (fun w_ hM => (.tmp rfl .nil)) (fun w_ hM => ?_)
     exact ⟨trivial, rfl, hM⟩
    ·
     have hp := cnd_f hc26 hp
     refine st_skip (fin_block (fin_then (st_region [oF 0, oF 1] (by rfl) ?_)))
     refine oQ [oF 0, oF 1] [(13, vI (IntKind.i64.wrap (i2 + 1))), (0, sl A_s1 s1_1 c_s1), (1, sl A_s2 s2_1 c_s2), (12, vI (s1_1.length : Int))] (by kernel_rfl) ?_
     refine ops_nil ?_
     exact fin_again (IntKind.i64.wrap (i2 + 1)) () (Option.some.inj hp).symm trivial (look_has ⟨rfl, rfl, rfl, rfl, trivial⟩) (fun w_ hM => hM)
   ·
    have hp := cnd_f hc3 hp
    refine st_exit (fin_exit_then (fin_exit_then (fin_exit ?_)))
    obtain hq_ := Option.some.inj hp
    subst hq_
    obtain hq_ := hd2 _ rfl
    subst hq_
    have hp : slices_Equal_int_int_j1 = some t9001 := hk2
    exact fin_join HJ1 () hp (look_has trivial) (fun w_ hM => hM)
theorem tourref3_SameComp_ok (w0 w : World) (cs : List Chunk) (F : Nat → Prop) (W : World) (a_0 : Int) (A_a_1 : Option Addr) (c_a_1 : Nat) (a_1 : List Int) (b_0 : Int) (A_b_1 : Option Addr) (c_b_1 : Nat) (b_1 : List Int) (hM0 : Mem w0 (Fz F W :: cs) w) (h_a_1 : RdS (Rep.int .i64) F W A_a_1 c_a_1 a_1) (h_b_1 : RdS (Rep.int .i64) F W A_b_1 c_b_1 b_1) (t9001 : Bool) (hp : tourref3_SameComp a_0 a_1 b_0 b_1 = some t9001) : Calls Tryz.prog 12 #[.agg #[vI a_0, sl A_a_1 a_1 c_a_1], .agg #[vI b_0, sl A_b_1 b_1 c_b_1]] w fun e w' => (True) ∧ e = .returned (.bool t9001) ∧ Mem w0 (Fz F W :: cs) w' := by
 unfold tourref3_SameComp at hp
 refine sx_calls Tryz.func12 rfl (n := 17) (by kernel_rfl) (l := [(0, .agg #[vI a_0, sl A_a_1 a_1 c_a_1]), (1, .agg #[vI b_0, sl A_b_1 b_1 c_b_1])]) rfl (by rfl) hM0 ?_
 refine st_seq (st_region [oF 0, oF 1, oF 2] (by rfl) ?_)
 refine ops_newB (d := some 2) [vI a_0, sl A_a_1 a_1 c_a_1] 42 (fun b1 => ⟨by kernel_rfl⟩) (fun w_ hM hS => trivial) (fun b1 => ?_)
 refine ops_newB (d := some 3) [vI b_0, sl A_b_1 b_1 c_b_1] 42 (fun b2 => ⟨by kernel_rfl⟩) (fun w_ hM hS => trivial) (fun b2 => ?_)
 refine oQ [oF 2] [(3, vP b2 0), (2, vP b1 0)] (by kernel_rfl) ?_
 refine ops_nil (fin_then ?_)
 refine st_join1 (σ := Bool) (L := fun x_ => match x_ with | t3 => [(4, .bool t3)]) (N := fun x_ => match x_ with | t3 => Mem w0 (Fz F W :: cs)) (I := fun x_ => match x_ with | t3 => (tourref3_SameComp_j1 t3 = some t9001)) ?_ ?_
 ·
  rintro t3 hp
  unfold tourref3_SameComp_j1 at hp
  refine st_ret ?_
  have hq_ := Option.some.inj hp
  have hr0_ := hq_
  subst hr0_
  refine fin_ret [.tmp 4] [.bool t3] rfl rfl (fun w_ hM => (.tmp rfl .nil)) (fun w_ hM => ?_)
  exact ⟨trivial, rfl, hM⟩
 ·
  intro HJ1
  refine st_seq (st_region [oF 0, oF 1, oF 2, oF 3, oF 4, oF 5, oF 6, oF 7, oF 8, oF 9, oF 10, oF 11, oF 12] (by rfl) ?_)
  refine oQ [oF 0] [(5, vP b1 0), (3, vP b2 0), (2, vP b1 0)] (by kernel_rfl) ?_
  refine ops_mem (d := some 6) (an := [.v (vI a_0)]) (evs := [ld b1 0 (vI a_0)]) (v := vI a_0) ⟨by kernel_rfl⟩ (fun w_ hM hS => ⟨w_, ⟨hM.cell 1 rfl rfl, rfl⟩, hM, trivial⟩) ?_
  refine oQ [oF 2] [(7, vP b2 0), (6, vI a_0), (3, vP b2 0), (2, vP b1 0)] (by kernel_rfl) ?_
  refine ops_mem (d := some 8) (an := [.v (vI b_0)]) (evs := [ld b2 0 (vI b_0)]) (v := vI b_0) ⟨by kernel_rfl⟩ (fun w_ hM hS => ⟨w_, ⟨hM.cell 0 rfl rfl, rfl⟩, hM, trivial⟩) ?_
  refine oQ [oF 4, oF 5] [(10, .bool (a_0 == b_0)), (3, vP b2 0), (2, vP b1 0)] (by kernel_rfl) ?_
  refine ops_bool (t := (a_0 == b_0)) (l1 := [(10, .bool true), (3, vP b2 0), (2, vP b1 0)]) (l2 := [(10, .bool false), (3, vP b2 0), (2, vP b1 0)]) (fun h => by rw [h]) (fun h => by rw [h]) (fun hc4 => ?_) (fun hc4 => ?_)
  ·
   have hp := cnd_t hc4 hp
   refine oQ [oF 6] [(11, vP b1 1), (10, .bool true), (3, vP b2 0)] (by kernel_rfl) ?_
   refine ops_mem (d := some 12) (an := [.v (sl A_a_1 a_1 c_a_1)]) (evs := [ld b1 1 (sl A_a_1 a_1 c_a_1)]) (v := sl A_a_1 a_1 c_a_1) ⟨by kernel_rfl⟩ (fun w_ hM hS => ⟨w_, ⟨hM.cell 1 rfl rfl, rfl⟩, hM, trivial⟩) ?_
   refine oQ [oF 8] [(13, vP b2 1), (12, sl A_a_1 a_1 c_a_1), (10, .bool true)] (by kernel_rfl) ?_
   refine ops_mem (d := some 14) (an := [.v (sl A_b_1 b_1 c_b_1)]) (evs := [ld b2 1 (sl A_b_1 b_1 c_b_1)]) (v := sl A_b_1 b_1 c_b_1) ⟨by kernel_rfl⟩ (fun w_ hM hS => ⟨w_, ⟨hM.cell 0 rfl rfl, rfl⟩, hM, trivial⟩) ?_
   obtain ⟨x5, hv6, hp⟩ := obind hp
   refine ops_callI (σ := Unit) (d := some 15) (f := 19) (args := #[sl A_a_1 a_1 c_a_1, sl A_b_1 b_1 c_b_1]) (v := (fun _ => .bool x5)) (I := (fun _ => True)) (M' := (fun _ => Mem w0 (.blk b2 [vI b_0, sl A_b_1 b_1 c_b_1] 42 :: .blk b1 [vI a_0, sl A_a_1 a_1 c_a_1] 42 :: Fz F W :: cs))) ⟨by kernel_rfl⟩ (fun w_ hM hS => (slices_Equal_int_int_ok w0 w_ (.blk b2 [vI b_0, sl A_b_1 b_1 c_b_1] 42 :: .blk b1 [vI a_0, sl A_a_1 a_1 c_a_1] 42 :: cs) F W A_a_1 c_a_1 a_1 A_b_1 c_b_1 b_1 (hM.pick 3 [2, 0, 1] (by kernel_rfl) (by decide) rfl) h_a_1 h_b_1 x5 hv6).mono (by rintro e w' ⟨-, rfl, h'⟩; have h' : Mem w0 (.blk b2 [vI b_0, sl A_b_1 b_1 c_b_1] 42 :: .blk b1 [vI a_0, sl A_a_1 a_1 c_a_1] 42 :: Fz F W :: cs) w' := (h'.pick 3 [1, 2, 0] (by kernel_rfl) (by decide) rfl); exact ⟨(), trivial, rfl, h', trivial⟩)) ?_
   rintro _ -
   refine oQ [oF 11, oF 12] [(4, .bool x5)] (by kernel_rfl) ?_
   refine ops_nil ?_
   exact fin_join HJ1 x5 hp (look_has ⟨rfl, trivial⟩) (fun w_ hM => hM.pick 3 [2] (by kernel_rfl) (by decide) rfl)
  ·
   have hp := cnd_f hc4 hp
   refine oQ [oF 6, oF 7, oF 8, oF 9, oF 10, oF 11, oF 12] [(4, .bool false)] (by kernel_rfl) ?_
   refine ops_nil ?_
   exact fin_join HJ1 false hp (look_has ⟨rfl, trivial⟩) (fun w_ hM => hM.pick 3 [2] (by kernel_rfl) (by decide) rfl)
theorem slices_EqualFunc_api_Comp_api_Comp_api_Comp_api_Comp_ok (w0 w : World) (cs : List Chunk) (F : Nat → Prop) (W : World) (A_s1 : Option Addr) (c_s1 : Nat) (s1_1 : List api_Comp) (A_s2 : Option Addr) (c_s2 : Nat) (s2_1 : List api_Comp) (hM0 : Mem w0 (Fz F W :: cs) w) (h_s1 : RdS R_api_Comp F W A_s1 c_s1 s1_1) (h_s2 : RdS R_api_Comp F W A_s2 c_s2 s2_1) (t9001 : Bool) (hp : slices_EqualFunc_api_Comp_api_Comp_api_Comp_api_Comp s1_1 s2_1 = some t9001) : Calls Tryz.prog 10 #[sl A_s1 s1_1 c_s1, sl A_s2 s2_1 c_s2, .func (.func 12) #[] #[]] w fun e w' => (True) ∧ e = .returned (.bool t9001) ∧ Mem w0 (Fz F W :: cs) w' := by
 unfold slices_EqualFunc_api_Comp_api_Comp_api_Comp_api_Comp at hp
 refine sx_calls Tryz.func10 rfl (n := 32) (by kernel_rfl) (l := [(0, sl A_s1 s1_1 c_s1), (1, sl A_s2 s2_1 c_s2), (2, .func (.func 12) #[] #[])]) rfl (by rfl) hM0 ?_
 refine st_seq (st_region [oF 0] (by rfl) ?_)
 refine oQ [oF 0] [(0, sl A_s1 s1_1 c_s1), (1, sl A_s2 s2_1 c_s2), (2, .func (.func 12) #[] #[])] (by kernel_rfl) ?_
 refine ops_nil (fin_then (st_seq (st_seq (st_region [oF 0, oF 1, oF 2, oF 3, oF 4] (by rfl) ?_))))
 refine oQ [oF 0, oF 1, oF 2, oF 3, oF 4] [(14, .bool (!((s1_1.length : Int) == (s2_1.length : Int)))), (0, sl A_s1 s1_1 c_s1), (1, sl A_s2 s2_1 c_s2), (2, .func (.func 12) #[] #[])] (by kernel_rfl) ?_
 refine ops_nil (fin_then ?_)
 refine st_if (b := !((s1_1.length : Int) == (s2_1.length : Int))) rfl (fun hc1 => ?_) (fun hc1 => ?_)
 ·
  have hp := cnd_t hc1 hp
  refine st_seq (st_region [oF 0] (by rfl) ?_)
  refine oQ [oF 0] [(6, .bool false)] (by kernel_rfl) ?_
  refine ops_nil (fin_then (st_ret (fin_ret_then ?_)))
  have hq_ := Option.some.inj hp
  have hr0_ := hq_
  subst hr0_
  refine fin_ret [.tmp 6] [.bool false] rfl rfl (fun w_ hM => (.tmp rfl .nil)) (fun w_ hM => ?_)
  exact ⟨trivial, rfl, hM⟩
 ·
  have hp := cnd_f hc1 hp
  refine st_skip (fin_then ?_)
  refine st_join1 (σ := Unit) (L := fun _ => []) (N := fun _ => Mem w0 (Fz F W :: cs)) (I := fun _ => (slices_EqualFunc_api_Comp_api_Comp_api_Comp_api_Comp_j1 = some t9001)) ?_ ?_
  ·
   rintro _ hp
   unfold slices_EqualFunc_api_Comp_api_Comp_api_Comp_api_Comp_j1 at hp
   refine st_seq (st_region [oF 0] (by rfl) ?_)
   refine oQ [oF 0] [(6, .bool true)] (by kernel_rfl) ?_
   refine ops_nil (fin_then (st_ret ?_))
   have hq_ := Option.some.inj hp
   have hr0_ := hq_
   subst hr0_
   refine fin_ret [.tmp 6] [.bool true] rfl rfl (fun w_ hM => (.tmp rfl .nil)) (fun w_ hM => ?_)
   exact ⟨trivial, rfl, hM⟩
  ·
   intro HJ1
   refine st_seq (st_seq (st_region [oF 0, oF 1, oF 2] (by rfl) ?_))
   refine oQ [oF 0, oF 1, oF 2] [(17, vI 0), (16, vI (s1_1.length : Int)), (15, sl A_s1 s1_1 c_s1), (1, sl A_s2 s2_1 c_s2), (2, .func (.func 12) #[] #[])] (by kernel_rfl) ?_
   refine ops_nil (fin_then (st_block ?_))
   obtain ⟨r2, hl2, hk2⟩ := obind hp
   refine st_loopP (σ := Int) (ρ := (Bool ⊕ Unit)) (γ := Unit) hl2 () (fun s_ g_ => match s_, g_ with | i2, _ => [(1, sl A_s2 s2_1 c_s2), (2, .func (.func 12) #[] #[]), (15, sl A_s1 s1_1 c_s1), (16, vI (s1_1.length : Int)), (17, vI i2)]) (fun s_ g_ => match s_, g_ with | i2, _ => Mem w0 (Fz F W :: cs)) (fun s_ g_ => match s_, g_ with | i2, _ => True) trivial (look_has ⟨rfl, rfl, rfl, rfl, rfl, trivial⟩) (fun w_ hM => hM) ?_
   rintro i2 _ o2 - hs_ hd2
   have hp : (slices_EqualFunc_api_Comp_api_Comp_api_Comp_api_Comp_l2 s1_1 s2_1) i2 = some o2 := hs_
   clear hs_
   unfold slices_EqualFunc_api_Comp_api_Comp_api_Comp_api_Comp_l2 at hp
   refine st_seq (st_region [oF 0] (by rfl) ?_)
   refine oQ [oF 0] [(18, .bool (decide (i2 < (s1_1.length : Int)))), (1, sl A_s2 s2_1 c_s2), (2, .func (.func 12) #[] #[]), (15, sl A_s1 s1_1 c_s1), (16, vI (s1_1.length : Int)), (17, vI i2)] (by kernel_rfl) ?_
   refine ops_nil (fin_then (st_seq ?_))
   refine st_if (b := decide (i2 < (s1_1.length : Int))) rfl (fun hc3 => ?_) (fun hc3 => ?_)
   ·
    have hp := cnd_t hc3 hp
    refine st_skip (fin_then (st_seq (st_block (st_seq (st_region [oF 0, oF 1, oF 2, oF 3, oF 4, oF 5] (by rfl) ?_)))))
    refine oQ [oF 0] [(19, vI i2), (1, sl A_s2 s2_1 c_s2), (2, .func (.func 12) #[] #[]), (15, sl A_s1 s1_1 c_s1), (16, vI (s1_1.length : Int)), (17, vI i2)] (by kernel_rfl) ?_
    obtain ⟨x4, hv5, hp⟩ := obind hp
    obtain ⟨m6, hm7, hx8⟩ := idx_some hv5
    have hl11 := (List.getElem?_eq_some_iff.1 hx8).1
    obtain ⟨ad12, vs9, hA13, hr10, hq14⟩ := RdS.el h_s1 hx8
    obtain ⟨A15, c16, rfl, h17⟩ := dec_api_Comp hr10
    refine ops_val (op := (.indexAddr 27 (.tmp 15) (.tmp 17))) (d := some 20) (v := .pointer (some (ad12.add (m6 * 2)))) ⟨by kernel_rfl⟩ (run_indexA hA13 Tryz.underlying27 (z := 2) (by kernel_rfl) rfl rfl hm7 hl11) ?_
    refine ops_mem (d := some 21) (an := [.v (vI x4.Kind), .v (sl A15 x4.Vals c16)]) (evs := [.load (ad12.add (m6 * 2)) (vI x4.Kind), .load ((ad12.add (m6 * 2)).add 1) (sl A15 x4.Vals c16)]) (v := .agg #[vI x4.Kind, sl A15 x4.Vals c16]) ⟨by kernel_rfl⟩ (fun w_ hM hS => ⟨w_, ⟨hM.elcell 0 rfl hq14 0 rfl, hM.elcell 0 rfl hq14 1 rfl, rfl⟩, hM, trivial⟩) ?_
    refine ops_newB (d := some 8) [vI 0, .slice none 0 0] 42 (fun b18 => ⟨by kernel_rfl⟩) (fun w_ hM hS => trivial) (fun b18 => ?_)
    refine oQ [oF 4] [(7, vI i2), (8, vP b18 0), (21, .agg #[vI x4.Kind, sl A15 x4.Vals c16]), (1, sl A_s2 s2_1 c_s2), (2, .func (.func 12) #[] #[]), (15, sl A_s1 s1_1 c_s1), (16, vI (s1_1.length : Int)), (17, vI i2)] (by kernel_rfl) ?_
    refine ops_store (an := []) (evs := [sr b18 0 (vI x4.Kind), sr b18 1 (sl A15 x4.Vals c16)]) ⟨by kernel_rfl⟩ (fun w_ hM hS => let ⟨w', he, h'⟩ := hM.evs_stores [vI x4.Kind, sl A15 x4.Vals c16] 0 rfl 0 (Nat.le_of_ble_eq_true rfl); ⟨w', he, h', trivial⟩) ?_
    refine ops_nil (fin_then (st_seq (st_region [oF 0, oF 1, oF 2, oF 3, oF 4, oF 5] (by rfl) ?_)))
    refine oQ [oF 0, oF 1] [(23, vI i2), (22, sl A_s2 s2_1 c_s2), (8, vP b18 0), (1, sl A_s2 s2_1 c_s2), (2, .func (.func 12) #[] #[]), (15, sl A_s1 s1_1 c_s1), (16, vI (s1_1.length : Int)), (17, vI i2)] (by kernel_rfl) ?_
    obtain ⟨x19, hv20, hp⟩ := obind hp
    obtain ⟨m21, hm22, hx23⟩ := idx_some hv20
    have hl26 := (List.getElem?_eq_some_iff.1 hx23).1
    obtain ⟨ad27, vs24, hA28, hr25, hq29⟩ := RdS.el h_s2 hx23
    obtain ⟨A30, c31, rfl, h32⟩ := dec_api_Comp hr25
    refine ops_val (op := (.indexAddr 27 (.tmp 22) (.tmp 23))) (d := some 24) (v := .pointer (some (ad27.add (m21 * 2)))) ⟨by kernel_rfl⟩ (run_indexA hA28 Tryz.underlying27 (z := 2) (by kernel_rfl) rfl rfl hm22 hl26) ?_
    refine ops_mem (d := some 25) (an := [.v (vI x19.Kind), .v (sl A30 x19.Vals c31)]) (evs := [.load (ad27.add (m21 * 2)) (vI x19.Kind), .load ((ad27.add (m21 * 2)).add 1) (sl A30 x19.Vals c31)]) (v := .agg #[vI x19.Kind, sl A30 x19.Vals c31]) ⟨by kernel_rfl⟩ (fun w_ hM hS => ⟨w_, ⟨hM.elcell 1 rfl hq29 0 rfl, hM.elcell 1 rfl hq29 1 rfl, rfl⟩, hM, trivial⟩) ?_
    refine ops_newB (d := some 9) [vI 0, .slice none 0 0] 42 (fun b33 => ⟨by kernel_rfl⟩) (fun w_ hM hS => trivial) (fun b33 => ?_)
    refine ops_store (an := []) (evs := [sr b33 0 (vI x19.Kind), sr b33 1 (sl A30 x19.Vals c31)]) ⟨by kernel_rfl⟩ (fun w_ hM hS => let ⟨w', he, h'⟩ := hM.evs_stores [vI x19.Kind, sl A30 x19.Vals c31] 0 rfl 0 (Nat.le_of_ble_eq_true rfl); ⟨w', he, h', trivial⟩) ?_
    refine ops_nil (fin_then (st_seq (st_region [oF 0, oF 1, oF 2, oF 3, oF 4] (by rfl) ?_)))
    refine oQ [oF 0] [(26, .func (.func 12) #[] #[]), (9, vP b33 0), (8, vP b18 0), (1, sl A_s2 s2_1 c_s2), (2, .func (.func 12) #[] #[]), (15, sl A_s1 s1_1 c_s1), (16, vI (s1_1.length : Int)), (17, vI i2)] (by kernel_rfl) ?_
    refine ops_mem (d := some 27) (an := [.v (vI x4.Kind), .v (sl A15 x4.Vals c16)]) (evs := [ld b18 0 (vI x4.Kind), ld b18 1 (sl A15 x4.Vals c16)]) (v := .agg #[vI x4.Kind, sl A15 x4.Vals c16]) ⟨by kernel_rfl⟩ (fun w_ hM hS => ⟨w_, ⟨hM.cell 1 rfl rfl, hM.cell 1 rfl rfl, rfl⟩, hM, trivial⟩) ?_
    refine ops_mem (d := some 28) (an := [.v (vI x19.Kind), .v (sl A30 x19.Vals c31)]) (evs := [ld b33 0 (vI x19.Kind), ld b33 1 (sl A30 x19.Vals c31)]) (v := .agg #[vI x19.Kind, sl A30 x19.Vals c31]) ⟨by kernel_rfl⟩ (fun w_ hM hS => ⟨w_, ⟨hM.cell 0 rfl rfl, hM.cell 0 rfl rfl, rfl⟩, hM, trivial⟩) ?_
    obtain ⟨x34, hv35, hp⟩ := obind hp
    refine ops_callI (σ := Unit) (d := some 29) (f := 12) (args := #[.agg #[vI x4.Kind, sl A15 x4.Vals c16], .agg #[vI x19.Kind, sl A30 x19.Vals c31]]) (v := (fun _ => .bool x34)) (I := (fun _ => True)) (M' := (fun _ => Mem w0 (.blk b33 [vI x19.Kind, sl A30 x19.Vals c31] 42 :: .blk b18 [vI x4.Kind, sl A15 x4.Vals c16] 42 :: Fz F W :: cs))) ⟨by kernel_rfl⟩ (fun w_ hM hS => (tourref3_SameComp_ok w0 w_ (.blk b33 [vI x19.Kind, sl A30 x19.Vals c31] 42 :: .blk b18 [vI x4.Kind, sl A15 x4.Vals c16] 42 :: cs) F W x4.Kind A15 c16 x4.Vals x19.Kind A30 c31 x19.Vals (hM.pick 3 [2, 0, 1] (by kernel_rfl) (by decide) rfl) h17 h32 x34 hv35).mono (by rintro e w' ⟨-, rfl, h'⟩; have h' : Mem w0 (.blk b33 [vI x19.Kind, sl A30 x19.Vals c31] 42 :: .blk b18 [vI x4.Kind, sl A15 x4.Vals c16] 42 :: Fz F W :: cs) w' := (h'.pick 3 [1, 2, 0] (by kernel_rfl) (by decide) rfl); exact ⟨(), trivial, rfl, h', trivial⟩)) ?_
    rintro _ -
    refine oQ [oF 4] [(30, .bool (!x34)), (1, sl A_s2 s2_1 c_s2), (2, .func (.func 12) #[] #[]), (15, sl A_s1 s1_1 c_s1), (16, vI (s1_1.length : Int)), (17, vI i2)] (by kernel_rfl) ?_
    refine ops_nil (fin_then ?_)
    refine st_if (b := !x34) rfl (fun hc36 => ?_) (fun hc36 => ?_)
    ·
     have hp := cnd_t hc36 hp
     refine st_seq (st_region [oF 0] (by rfl) ?_)
     refine oQ [oF 0] [(6, .bool false)] (by kernel_rfl) ?_
     refine ops_nil (fin_then (st_ret (fin_ret_block (fin_ret_then (fin_ret_then (fin_ret_block (fin_ret_then ?_)))))))
     obtain hq_ := Option.some.inj hp
     subst hq_
     obtain hq_ := hd2 _ rfl
     subst hq_
     have hp : some false = some t9001 := hk2
     have hq_ := Option.some.inj hp
     have hr0_ := hq_
     subst hr0_
     refine fin_ret [.tmp 6] [.bool false] rfl rfl (fun w_ hM => (.tmp rfl .nil)) (fun w_ hM => ?_)
     exact ⟨trivial, rfl, hM.pick 3 [2] (by kernel_rfl) (by decide) rfl⟩
    ·
     have hp := cnd_f hc36 hp
     refine st_skip (fin_block (fin_then (st_region [oF 0, oF 1] (by rfl) ?_)))
     refine oQ [oF 0, oF 1] [(17, vI (IntKind.i64.wrap (i2 + 1))), (1, sl A_s2 s2_1 c_s2), (2, .func (.func 12) #[] #[]), (15, sl A_s1 s1_1 c_s1), (16, vI (s1_1.length : Int))] (by kernel_rfl) ?_
     refine ops_nil ?_
     exact fin_again (IntKind.i64.wrap (i2 + 1)) () (Option.some.inj hp).symm trivial (look_has ⟨rfl, rfl, rfl, rfl, rfl, trivial⟩) (fun w_ hM => hM.pick 3 [2] (by kernel_rfl) (by decide) rfl)
   ·
    have hp := cnd_f hc3 hp
    refine st_exit (fin_exit_then (fin_exit_then (fin_exit ?_)))
    obtain hq_ := Option.some.inj hp
    subst hq_
    obtain hq_ := hd2 _ rfl
    subst hq_
    have hp : slices_EqualFunc_api_Comp_api_Comp_api_Comp_api_Comp_j1 = some t9001 := hk2
    exact fin_join HJ1 () hp (look_has trivial) (fun w_ hM => hM)
theorem slices_Clone_api_Field_api_Field_ok (w0 w : World) (cs : List Chunk) (F : Nat → Prop) (W : World) (A_s : Option Addr) (c_s : Nat) (s : List api_Field) (hM0 : Mem w0 (Fz F W :: cs) w) (h_s : RdS R_api_Field F W A_s c_s s) (l9003 : List api_Field) (hp : slices_Clone_api_Field_api_Field s = some l9003) : Calls Tryz.prog 50 #[sl A_s s c_s] w fun e w' => ∃ (A9001 : Option Addr), ∃ (c9002 : Nat), ∃ (y9004 : List Value), ((RepL R_api_Field F W l9003 y9004)) ∧ e = .returned (sl A9001 l9003 c9002) ∧ Mem w0 (ow A9001 l9003 c9002 99 3 y9004 :: Fz F W :: cs) w' := by
 unfold slices_Clone_api_Field_api_Field at hp
 refine sx_calls Tryz.func50 rfl (n := 8) (by kernel_rfl) (l := [(0, sl A_s s c_s)]) rfl (by rfl) hM0 ?_
 refine st_seq (st_region [oF 0] (by rfl) ?_)
 refine oQ [oF 0] [(0, sl A_s s c_s)] (by kernel_rfl) ?_
 refine ops_nil (fin_then (st_seq (st_seq (st_region [oF 0, oF 1] (by rfl) ?_))))
 refine oQ [oF 0] [(3, sl A_s s c_s), (0, sl A_s s c_s)] (by kernel_rfl) ?_
 have hz2 := fun e_ => RdS.len0 h_s e_
 rcases A_s with _ | ad1
 ·
  have hp : some ([] : List api_Field) = some l9003 := by rw [← hp, hz2 rfl]; simp [app]
  refine oQ [oF 1] [(4, .bool true), (3, sl none s c_s), (0, sl none s c_s)] (by kernel_rfl) ?_
  refine ops_nil (fin_then (st_true rfl (st_seq (st_region [oF 0] (by rfl) ?_))))
  refine oQ [oF 0] [(2, .slice none 0 0)] (by kernel_rfl) ?_
  refine ops_nil (fin_then (st_ret (fin_ret_then ?_)))
  refine fin_conv (l' := [(2, .slice none 0 0)]) (M' := Mem w0 (ow none ([] : List api_Field) 0 99 3 [] :: Fz F W :: cs)) rfl (fun w_ h => h.onil none 99 3) ?_
  refine fin_conv (l' := [(2, sl none ([] : List api_Field) 0)]) (M' := Mem w0 (ow none ([] : List api_Field) 0 99 3 [] :: Fz F W :: cs)) rfl (fun _ h => h) ?_
  have hq_ := Option.some.inj hp
  have hr0_ := hq_
  subst hr0_
  refine fin_ret [.tmp 2] [sl none ([] : List api_Field) 0] rfl rfl (fun w_ hM => (.tmp rfl .nil)) (fun w_ hM => ?_)
  exact ⟨none, 0, [], (RepL.nil (R := R_api_Field)), rfl, hM⟩
 ·
  clear hz2
  refine oQ [oF 1] [(4, .bool false), (3, sl (some ad1) s c_s), (0, sl (some ad1) s c_s)] (by kernel_rfl) ?_
  refine ops_nil (fin_then (st_false rfl (st_skip (fin_then (st_seq (st_region [oF 0, oF 1, oF 2, oF 3] (by rfl) ?_))))))
  have h3 : RepL R_api_Field F W ([] : List api_Field) ([]) := RepL.nil
  refine ops_new (d := some 5) (o := .cells ([] : List Value).toArray 99) (v := fun g4 => sl (sa g4) ([] : List api_Field) 0) (M' := fun g4 => Mem w0 (ow (sa g4) ([] : List api_Field) 0 99 3 [] :: Fz F W :: cs)) (fun g4 => ⟨by kernel_rfl⟩) (fun w_ hM hS => ⟨hM.onew [] 99 0 3 rfl (by decide), trivial⟩) (fun g4 => ?_)
  refine oQ [oF 1] [(6, sl (some ad1) s c_s), (5, sl (sa g4) ([] : List api_Field) 0)] (by kernel_rfl) ?_
  obtain ⟨l5, hv6, hp⟩ := obind hp
  obtain ⟨he7, hb8⟩ := app_some hv6
  obtain ⟨y12, h13, hs14⟩ := RdS.src h_s
  obtain ⟨y9, hy10⟩ : ∃ y_, [] ++ y12 = y_ := ⟨_, rfl⟩
  have h11 : RepL R_api_Field F W l5 y9 := by rw [he7, ← hy10]; exact RepL.app h3 h13
  refine ops_appendO (x := (Go.Operand.tmp 5)) (y := (Go.Operand.tmp 6)) (t := 84) (e := 99) (d := some 7) (n' := l5.length) (z := 3) (m := s.length) (bytes := 32) (xs' := y9) (news := y12) (zv := .agg #[.string ByteArray.empty, vI 0, vI 0]) 0 ⟨by kernel_rfl⟩ rfl rfl Tryz.underlying84 (by kernel_rfl) (by rfl) rfl (fun w_ hM => hM.srcS 1 rfl h13 hs14) h13.len h13.one hb8 (by have z_ := congrArg List.length he7; rw [List.length_append] at z_; exact z_.symm) hy10 (fun _ _ _ _ hS h' => trivial) ?_
  rintro ⟨A15, c16⟩
  refine oQ [oF 3] [(2, sl A15 l5 c16)] (by kernel_rfl) ?_
  refine ops_nil (fin_then (st_ret ?_))
  have hq_ := Option.some.inj hp
  have hr0_ := hq_
  subst hr0_
  refine fin_ret [.tmp 2] [sl A15 l5 c16] rfl rfl (fun w_ hM => (.tmp rfl .nil)) (fun w_ hM => ?_)
  exact ⟨A15, c16, y9, h11, rfl, hM⟩
end Go.Proofs.YtbfndcookgijfaaGreatDoor.W
