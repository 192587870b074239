/- The Go functions come to what the plain functions tell. No condition. -/
import Derived.Test.YtbfndcookgijfaaGreatDoorProg
import Derived.Test.YtbfndcookgijfaaGreatDoorFnW
import Derived.Test.YtbfndcookgijfaaGreatDoorWkW0
import Derived.Test.YtbfndcookgijfaaGreatDoorWkW3
import Derived.Test.YtbfndcookgijfaaGreatDoorWkW4
namespace Go.Proofs.YtbfndcookgijfaaGreatDoor.W
open Go Go.RowKit Go.Proofs.YtbfndcookgijfaaGreatDoor.Sx
set_option linter.unusedVariables false
set_option maxHeartbeats 4000000
set_option maxRecDepth 100000
theorem slices_IndexFunc_api_Comp_api_Comp_ok (w0 w : World) (cs : List Chunk) (F : Nat → Prop) (W : World) (A_s : Option Addr) (c_s : Nat) (s : List api_Comp) (b_f_c0 : Nat) (f_c0_0 : Int) (A_f_c0_1 : Option Addr) (c_f_c0_1 : Nat) (f_c0_1 : List Int) (hM0 : Mem w0 (.blk b_f_c0 [vI f_c0_0, sl A_f_c0_1 f_c0_1 c_f_c0_1] 42 :: Fz F W :: cs) w) (h_s : RdS R_api_Comp F W A_s c_s s) (h_f_c0_1 : RdS (Rep.int .i64) F W A_f_c0_1 c_f_c0_1 f_c0_1) (i9001 : Int) (hp : slices_IndexFunc_api_Comp_api_Comp s f_c0_0 f_c0_1 = some i9001) : Calls Tryz.prog 68 #[sl A_s s c_s, .func (.func 42) #[] #[vP b_f_c0 0]] w fun e w' => ((RdS (Rep.int .i64) F W A_f_c0_1 c_f_c0_1 f_c0_1)) ∧ e = .returned (vI i9001) ∧ Mem w0 (.blk b_f_c0 [vI f_c0_0, sl A_f_c0_1 f_c0_1 c_f_c0_1] 42 :: Fz F W :: cs) w' := by
 unfold slices_IndexFunc_api_Comp_api_Comp at hp
 refine sx_calls Tryz.func68 rfl (n := 19) (by kernel_rfl) (l := [(0, sl A_s s c_s), (1, .func (.func 42) #[] #[vP b_f_c0 0])]) rfl (by rfl) hM0 ?_
 refine st_seq (st_region [oF 0] (by rfl) ?_)
 refine oQ [oF 0] [(0, sl A_s s c_s), (1, .func (.func 42) #[] #[vP b_f_c0 0])] (by kernel_rfl) ?_
 refine ops_nil (fin_then ?_)
 refine st_join1 (σ := Unit) (L := fun _ => []) (N := fun _ => Mem w0 (.blk b_f_c0 [vI f_c0_0, sl A_f_c0_1 f_c0_1 c_f_c0_1] 42 :: Fz F W :: cs)) (I := fun _ => (slices_IndexFunc_api_Comp_api_Comp_j1 = some i9001) ∧ (RdS (Rep.int .i64) F W A_f_c0_1 c_f_c0_1 f_c0_1)) ?_ ?_
 ·
  rintro _ ⟨hp, h1⟩
  unfold slices_IndexFunc_api_Comp_api_Comp_j1 at hp
  refine st_seq (st_region [oF 0] (by rfl) ?_)
  refine oQ [oF 0] [(4, vI (-1))] (by kernel_rfl) ?_
  refine ops_nil (fin_then (st_ret ?_))
  have hq_ := Option.some.inj hp
  have hr0_ := hq_
  subst hr0_
  refine fin_ret [.tmp 4] [vI (-1)] rfl rfl (fun w_ hM => (.tmp rfl .nil)) (fun w_ hM => ?_)
  exact ⟨h1, rfl, hM⟩
 ·
  intro HJ1
  refine st_seq (st_seq (st_region [oF 0, oF 1, oF 2] (by rfl) ?_))
  refine oQ [oF 0, oF 1, oF 2] [(8, vI 0), (7, vI (s.length : Int)), (0, sl A_s s c_s), (1, .func (.func 42) #[] #[vP b_f_c0 0])] (by kernel_rfl) ?_
  refine ops_nil (fin_then (st_block ?_))
  obtain ⟨r2, hl2, hk2⟩ := obind hp
  refine st_loopP (σ := Int) (ρ := (Int ⊕ Unit)) (γ := Unit) hl2 () (fun s_ g_ => match s_, g_ with | i3, _ => [(0, sl A_s s c_s), (1, .func (.func 42) #[] #[vP b_f_c0 0]), (7, vI (s.length : Int)), (8, vI i3)]) (fun s_ g_ => match s_, g_ with | i3, _ => Mem w0 (.blk b_f_c0 [vI f_c0_0, sl A_f_c0_1 f_c0_1 c_f_c0_1] 42 :: Fz F W :: cs)) (fun s_ g_ => match s_, g_ with | i3, _ => (RdS (Rep.int .i64) F W A_f_c0_1 c_f_c0_1 f_c0_1)) h_f_c0_1 (look_has ⟨rfl, rfl, rfl, rfl, trivial⟩) (fun w_ hM => hM) ?_
  rintro i3 _ o2 h2 hs_ hd2
  have hp : (slices_IndexFunc_api_Comp_api_Comp_l2 s f_c0_0 f_c0_1) i3 = some o2 := hs_
  clear hs_
  unfold slices_IndexFunc_api_Comp_api_Comp_l2 at hp
  refine st_seq (st_region [oF 0] (by rfl) ?_)
  refine oQ [oF 0] [(9, .bool (decide (i3 < (s.length : Int)))), (0, sl A_s s c_s), (1, .func (.func 42) #[] #[vP b_f_c0 0]), (7, vI (s.length : Int)), (8, vI i3)] (by kernel_rfl) ?_
  refine ops_nil (fin_then (st_seq ?_))
  refine st_if (b := decide (i3 < (s.length : Int))) rfl (fun hc4 => ?_) (fun hc4 => ?_)
  ·
   have hp := cnd_t hc4 hp
   refine st_skip (fin_then (st_seq (st_block (st_seq (st_region [oF 0, oF 1] (by rfl) ?_)))))
   refine oQ [oF 0, oF 1] [(5, vI i3), (0, sl A_s s c_s), (1, .func (.func 42) #[] #[vP b_f_c0 0]), (7, vI (s.length : Int)), (8, vI i3)] (by kernel_rfl) ?_
   refine ops_nil (fin_then (st_seq (st_region [oF 0, oF 1, oF 2, oF 3, oF 4, oF 5] (by rfl) ?_)))
   refine oQ [oF 0, oF 1, oF 2] [(13, vI i3), (12, sl A_s s c_s), (11, .func (.func 42) #[] #[vP b_f_c0 0]), (5, vI i3), (0, sl A_s s c_s), (1, .func (.func 42) #[] #[vP b_f_c0 0]), (7, vI (s.length : Int)), (8, vI i3)] (by kernel_rfl) ?_
   obtain ⟨x5, hv6, hp⟩ := obind hp
   obtain ⟨m7, hm8, hx9⟩ := idx_some hv6
   have hl12 := (List.getElem?_eq_some_iff.1 hx9).1
   obtain ⟨ad13, vs10, hA14, hr11, hq15⟩ := RdS.el h_s hx9
   obtain ⟨A16, c17, rfl, h18⟩ := dec_api_Comp hr11
   refine ops_val (op := (.indexAddr 27 (.tmp 12) (.tmp 13))) (d := some 14) (v := .pointer (some (ad13.add (m7 * 2)))) ⟨by kernel_rfl⟩ (run_indexA hA14 Tryz.underlying27 (z := 2) (by kernel_rfl) rfl rfl hm8 hl12) ?_
   refine ops_mem (d := some 15) (an := [.v (vI x5.Kind), .v (sl A16 x5.Vals c17)]) (evs := [.load (ad13.add (m7 * 2)) (vI x5.Kind), .load ((ad13.add (m7 * 2)).add 1) (sl A16 x5.Vals c17)]) (v := .agg #[vI x5.Kind, sl A16 x5.Vals c17]) ⟨by kernel_rfl⟩ (fun w_ hM hS => ⟨w_, ⟨hM.elcell 1 rfl hq15 0 rfl, hM.elcell 1 rfl hq15 1 rfl, rfl⟩, hM, trivial⟩) ?_
   obtain ⟨x19, hv20, hp⟩ := obind hp
   refine ops_callI (σ := Unit) (d := some 16) (f := 42) (args := #[.agg #[vI x5.Kind, sl A16 x5.Vals c17], vP b_f_c0 0]) (v := (fun _ => .bool x19)) (I := (fun _ => (RdS (Rep.int .i64) F W A_f_c0_1 c_f_c0_1 f_c0_1))) (M' := (fun _ => Mem w0 (.blk b_f_c0 [vI f_c0_0, sl A_f_c0_1 f_c0_1 c_f_c0_1] 42 :: Fz F W :: cs))) ⟨by kernel_rfl⟩ (fun w_ hM hS => (world_Fit_1_ok w0 w_ (cs) F W x5.Kind A16 c17 x5.Vals b_f_c0 f_c0_0 A_f_c0_1 c_f_c0_1 f_c0_1 hM h18 h2 x19 hv20).mono (by rintro e w' ⟨h21, rfl, h'⟩; have h' : Mem w0 (.blk b_f_c0 [vI f_c0_0, sl A_f_c0_1 f_c0_1 c_f_c0_1] 42 :: Fz F W :: cs) w' := h'; exact ⟨(), h21, rfl, h', trivial⟩)) ?_
   rintro _ h21
   refine ops_nil (fin_then ?_)
   refine st_if (b := x19) rfl (fun hc22 => ?_) (fun hc22 => ?_)
   ·
    have hp := cnd_t hc22 hp
    refine st_seq (st_region [oF 0, oF 1] (by rfl) ?_)
    refine oQ [oF 0, oF 1] [(4, vI i3)] (by kernel_rfl) ?_
    refine ops_nil (fin_then (st_ret (fin_ret_block (fin_ret_then (fin_ret_then (fin_ret_block (fin_ret_then ?_)))))))
    obtain hq_ := Option.some.inj hp
    subst hq_
    obtain hq_ := hd2 _ rfl
    subst hq_
    have hp : some i3 = some i9001 := hk2
    have hq_ := Option.some.inj hp
    have hr0_ := hq_
    subst hr0_
    refine fin_ret [.tmp 4] [vI i3] rfl rfl (fun w_ hM => (.tmp rfl .nil)) (fun w_ hM => ?_)
    exact ⟨h21, rfl, hM⟩
   ·
    have hp := cnd_f hc22 hp
    refine st_skip (fin_block (fin_then (st_region [oF 0, oF 1] (by rfl) ?_)))
    refine oQ [oF 0, oF 1] [(8, vI (IntKind.i64.wrap (i3 + 1))), (0, sl A_s s c_s), (1, .func (.func 42) #[] #[vP b_f_c0 0]), (7, vI (s.length : Int))] (by kernel_rfl) ?_
    refine ops_nil ?_
    exact fin_again (IntKind.i64.wrap (i3 + 1)) () (Option.some.inj hp).symm h21 (look_has ⟨rfl, rfl, rfl, rfl, trivial⟩) (fun w_ hM => hM)
  ·
   have hp := cnd_f hc4 hp
   refine st_exit (fin_exit_then (fin_exit_then (fin_exit ?_)))
   obtain hq_ := Option.some.inj hp
   subst hq_
   obtain hq_ := hd2 _ rfl
   subst hq_
   have hp : slices_IndexFunc_api_Comp_api_Comp_j1 = some i9001 := hk2
   exact fin_join HJ1 () ⟨hp, h2⟩ (look_has trivial) (fun w_ hM => hM)
theorem slices_ContainsFunc_api_Comp_api_Comp_ok (w0 w : World) (cs : List Chunk) (F : Nat → Prop) (W : World) (A_s : Option Addr) (c_s : Nat) (s : List api_Comp) (b_f_c0 : Nat) (f_c0_0 : Int) (A_f_c0_1 : Option Addr) (c_f_c0_1 : Nat) (f_c0_1 : List Int) (hM0 : Mem w0 (.blk b_f_c0 [vI f_c0_0, sl A_f_c0_1 f_c0_1 c_f_c0_1] 42 :: Fz F W :: cs) w) (h_s : RdS R_api_Comp F W A_s c_s s) (h_f_c0_1 : RdS (Rep.int .i64) F W A_f_c0_1 c_f_c0_1 f_c0_1) (t9001 : Bool) (hp : slices_ContainsFunc_api_Comp_api_Comp s f_c0_0 f_c0_1 = some t9001) : Calls Tryz.prog 41 #[sl A_s s c_s, .func (.func 42) #[] #[vP b_f_c0 0]] w fun e w' => ((RdS (Rep.int .i64) F W A_f_c0_1 c_f_c0_1 f_c0_1)) ∧ e = .returned (.bool t9001) ∧ Mem w0 (.blk b_f_c0 [vI f_c0_0, sl A_f_c0_1 f_c0_1 c_f_c0_1] 42 :: Fz F W :: cs) w' := by
 unfold slices_ContainsFunc_api_Comp_api_Comp at hp
 refine sx_calls Tryz.func41 rfl (n := 9) (by kernel_rfl) (l := [(0, sl A_s s c_s), (1, .func (.func 42) #[] #[vP b_f_c0 0])]) rfl (by rfl) hM0 ?_
 refine st_seq (st_region [oF 0] (by rfl) ?_)
 refine oQ [oF 0] [(0, sl A_s s c_s), (1, .func (.func 42) #[] #[vP b_f_c0 0])] (by kernel_rfl) ?_
 refine ops_nil (fin_then (st_seq (st_region [oF 0, oF 1, oF 2, oF 3, oF 4] (by rfl) ?_)))
 refine oQ [oF 0, oF 1] [(6, .func (.func 42) #[] #[vP b_f_c0 0]), (5, sl A_s s c_s)] (by kernel_rfl) ?_
 obtain ⟨x1, hv2, hp⟩ := obind hp
 refine ops_callI (σ := Unit) (d := some 7) (f := 68) (args := #[sl A_s s c_s, .func (.func 42) #[] #[vP b_f_c0 0]]) (v := (fun _ => vI x1)) (I := (fun _ => (RdS (Rep.int .i64) F W A_f_c0_1 c_f_c0_1 f_c0_1))) (M' := (fun _ => Mem w0 (.blk b_f_c0 [vI f_c0_0, sl A_f_c0_1 f_c0_1 c_f_c0_1] 42 :: Fz F W :: cs))) ⟨by kernel_rfl⟩ (fun w_ hM hS => (slices_IndexFunc_api_Comp_api_Comp_ok w0 w_ (cs) F W A_s c_s s b_f_c0 f_c0_0 A_f_c0_1 c_f_c0_1 f_c0_1 hM h_s h_f_c0_1 x1 hv2).mono (by rintro e w' ⟨h3, rfl, h'⟩; have h' : Mem w0 (.blk b_f_c0 [vI f_c0_0, sl A_f_c0_1 f_c0_1 c_f_c0_1] 42 :: Fz F W :: cs) w' := h'; exact ⟨(), h3, rfl, h', trivial⟩)) ?_
 rintro _ h3
 refine oQ [oF 3, oF 4] [(4, .bool (decide (0 ≤ x1)))] (by kernel_rfl) ?_
 refine ops_nil (fin_then (st_ret ?_))
 have hq_ := Option.some.inj hp
 have hr0_ := hq_
 subst hr0_
 refine fin_ret [.tmp 4] [.bool (decide (0 ≤ x1))] rfl rfl (fun w_ hM => (.tmp rfl .nil)) (fun w_ hM => ?_)
 exact ⟨h3, rfl, hM⟩
theorem world_Fit_ok (w0 w : World) (cs : List Chunk) (F : Nat → Prop) (W : World) (A_k : Option Addr) (c_k : Nat) (k : List api_Kind) (A_l : Option Addr) (c_l : Nat) (l : List api_Comp) (hM0 : Mem w0 (Fz F W :: cs) w) (h_k : RdS R_api_Kind F W A_k c_k k) (h_l : RdS R_api_Comp F W A_l c_l l) (l9003 : List api_Comp) (i9006 : Int) (hp : world_Fit k l = some (l9003, i9006)) : Calls Tryz.prog 7 #[sl A_k k c_k, sl A_l l c_l] w fun e w' => ∃ (A9001 : Option Addr), ∃ (c9002 : Nat), ∃ (y9004 : List Value), ∃ (F9007 : Nat → Prop), ∃ (W9008 : World), ((RepL R_api_Comp F9007 W9008 l9003 y9004) ∧ (Ext w0 F W F9007 W9008)) ∧ e = .returned (.tuple #[sl A9001 l9003 c9002, vI i9006]) ∧ Mem w0 (ow A9001 l9003 c9002 42 2 y9004 :: Fz F9007 W9008 :: cs) w' := by
 unfold world_Fit at hp
 refine sx_calls Tryz.func7 rfl (n := 64) (by kernel_rfl) (l := [(0, sl A_k k c_k), (1, sl A_l l c_l)]) rfl (by rfl) hM0 ?_
 refine st_seq (st_region [oF 0, oF 1] (by rfl) ?_)
 refine oQ [oF 0, oF 1] [(0, sl A_k k c_k), (1, sl A_l l c_l)] (by kernel_rfl) ?_
 refine ops_nil (fin_then (st_seq (st_seq (st_region [oF 0, oF 1, oF 2] (by rfl) ?_))))
 refine oQ [oF 0] [(12, sl A_k k c_k), (0, sl A_k k c_k), (1, sl A_l l c_l)] (by kernel_rfl) ?_
 obtain ⟨x1, hv2, hp⟩ := obind hp
 refine ops_callI (σ := Unit) (d := some 13) (f := 40) (args := #[sl A_k k c_k]) (v := (fun _ => vI x1)) (I := (fun _ => True)) (M' := (fun _ => Mem w0 (Fz F W :: cs))) ⟨by kernel_rfl⟩ (fun w_ hM hS => (kind_Check_ok w0 w_ (cs) F W A_k c_k k hM h_k x1 hv2).mono (by rintro e w' ⟨-, rfl, h'⟩; have h' : Mem w0 (Fz F W :: cs) w' := h'; exact ⟨(), trivial, rfl, h', trivial⟩)) ?_
 rintro _ -
 refine oQ [oF 2] [(6, vI x1), (0, sl A_k k c_k), (1, sl A_l l c_l)] (by kernel_rfl) ?_
 refine ops_nil (fin_then (st_seq (st_region [oF 0, oF 1] (by rfl) ?_)))
 refine oQ [oF 0, oF 1] [(15, .bool (!(x1 == 0))), (6, vI x1), (0, sl A_k k c_k), (1, sl A_l l c_l)] (by kernel_rfl) ?_
 refine ops_nil (fin_then ?_)
 refine st_if (b := !(x1 == 0)) rfl (fun hc3 => ?_) (fun hc3 => ?_)
 ·
  have hp := cnd_t hc3 hp
  refine st_seq (st_region [oF 0, oF 1, oF 2] (by rfl) ?_)
  refine oQ [oF 0, oF 1, oF 2] [(5, vI x1), (4, .slice none 0 0)] (by kernel_rfl) ?_
  refine ops_nil (fin_then (st_ret (fin_ret_then ?_)))
  refine fin_conv (l' := [(5, vI x1), (4, .slice none 0 0)]) (M' := Mem w0 (ow none ([] : List api_Comp) 0 42 2 [] :: Fz F W :: cs)) rfl (fun w_ h => h.onil none 42 2) ?_
  refine fin_conv (l' := [(5, vI x1), (4, sl none ([] : List api_Comp) 0)]) (M' := Mem w0 (ow none ([] : List api_Comp) 0 42 2 [] :: Fz F W :: cs)) rfl (fun _ h => h) ?_
  have hq_ := Option.some.inj hp
  obtain ⟨hr0_, hq_⟩ := Prod.mk.inj hq_
  have hr1_ := hq_
  subst hr0_
  subst hr1_
  refine fin_ret [.tmp 4, .tmp 5] [sl none ([] : List api_Comp) 0, vI x1] rfl rfl (fun w_ hM => (.tmp rfl (.tmp rfl .nil))) (fun w_ hM => ?_)
  exact ⟨none, 0, [], F, W, ⟨(RepL.nil (R := R_api_Comp)), (Ext.refl _ _ _)⟩, rfl, hM⟩
 ·
  have hp := cnd_f hc3 hp
  refine st_skip (fin_then (st_seq (st_region [oF 0] (by rfl) ?_)))
  refine oQ [oF 0] [(7, .slice none 0 0), (0, sl A_k k c_k), (1, sl A_l l c_l)] (by kernel_rfl) ?_
  refine ops_nil (fin_then ?_)
  refine st_join1 (σ := (Option Addr) × Nat × (List api_Comp) × (List Value) × (Nat → Prop) × World) (L := fun x_ => match x_ with | (A4, c5, l6, y7, F9, W10) => [(7, sl A4 l6 c5)]) (N := fun x_ => match x_ with | (A4, c5, l6, y7, F9, W10) => Mem w0 (ow A4 l6 c5 42 2 y7 :: Fz F9 W10 :: cs)) (I := fun x_ => match x_ with | (A4, c5, l6, y7, F9, W10) => (world_Fit_j1 l6 = some (l9003, i9006)) ∧ (RepL R_api_Comp F9 W10 l6 y7) ∧ (Ext w0 F W F9 W10)) ?_ ?_
  ·
   rintro ⟨A4, c5, l6, y7, F9, W10⟩ ⟨hp, h8, hx1⟩
   unfold world_Fit_j1 at hp
   refine st_seq (st_region [oF 0, oF 1] (by rfl) ?_)
   refine oQ [oF 0] [(61, sl A4 l6 c5), (7, sl A4 l6 c5)] (by kernel_rfl) ?_
   obtain ⟨x11, hv12, hp⟩ := obind hp
   refine ops_callI (σ := (List Value)) (d := some 62) (f := 44) (args := #[sl A4 l6 c5, .func (.func 45) #[] #[]]) (v := (fun x_ => match x_ with | y13 => .tuple #[])) (I := (fun x_ => match x_ with | y13 => (RepL R_api_Comp F9 W10 x11 y13) ∧ (x11.length = l6.length))) (M' := (fun x_ => match x_ with | y13 => Mem w0 (ow A4 x11 c5 42 2 y13 :: Fz F9 W10 :: cs))) ⟨by kernel_rfl⟩ (fun w_ hM hS => (slices_SortFunc_api_Comp_api_Comp_ok w0 w_ (cs) F9 W10 A4 c5 l6 y7 hM h8 x11 hv12).mono (by rintro e w' ⟨y13, ⟨h14, h15⟩, rfl, h'⟩; have h' : Mem w0 (ow A4 x11 c5 42 2 y13 :: Fz F9 W10 :: cs) w' := h'; exact ⟨y13, ⟨h14, h15⟩, rfl, h', trivial⟩)) ?_
   rintro y13 ⟨h14, h15⟩
   refine ops_conv (l' := [(62, .tuple #[]), (61, sl A4 x11 c5), (7, sl A4 x11 c5)]) (M' := Mem w0 (ow A4 x11 c5 42 2 y13 :: Fz F9 W10 :: cs)) (by first | rfl | ((try dsimp only [sl, ow]); rw [h15]; done) | ((try dsimp only [sl, ow]); rw [h15]; rfl)) (fun _ h => h) ?_
   refine ops_nil (fin_then (st_seq (st_region [oF 0, oF 1, oF 2] (by rfl) ?_)))
   refine oQ [oF 0, oF 1, oF 2] [(5, vI 0), (4, sl A4 x11 c5)] (by kernel_rfl) ?_
   refine ops_nil (fin_then (st_ret ?_))
   have hq_ := Option.some.inj hp
   obtain ⟨hr0_, hq_⟩ := Prod.mk.inj hq_
   have hr1_ := hq_
   subst hr0_
   subst hr1_
   refine fin_ret [.tmp 4, .tmp 5] [sl A4 x11 c5, vI 0] rfl rfl (fun w_ hM => (.tmp rfl (.tmp rfl .nil))) (fun w_ hM => ?_)
   exact ⟨A4, c5, y13, F9, W10, ⟨h14, hx1⟩, rfl, hM⟩
  ·
   intro HJ1
   refine st_seq (st_seq (st_region [oF 0, oF 1, oF 2] (by rfl) ?_))
   refine oQ [oF 0, oF 1, oF 2] [(19, vI 0), (18, vI (l.length : Int)), (17, sl A_l l c_l), (7, .slice none 0 0), (0, sl A_k k c_k), (1, sl A_l l c_l)] (by kernel_rfl) ?_
   refine ops_nil (fin_then (st_block ?_))
   refine st_conv (l' := [(19, vI 0), (18, vI (l.length : Int)), (17, sl A_l l c_l), (7, .slice none 0 0), (0, sl A_k k c_k), (1, sl A_l l c_l)]) (M' := Mem w0 (ow none ([] : List api_Comp) 0 42 2 [] :: Fz F W :: cs)) rfl (fun w_ h => h.onil none 42 2) ?_
   obtain ⟨r2, hl2, hk2⟩ := obind hp
   refine st_loopP (σ := (List api_Comp) × Int) (ρ := (((List api_Comp) × Int) ⊕ (List api_Comp))) (γ := (Option Addr) × Nat × (List Value) × (Nat → Prop) × World) hl2 (none, 0, [], F, W) (fun s_ g_ => match s_, g_ with | (l18, i21), (A16, c17, y19, F22, W23) => [(0, sl A_k k c_k), (1, sl A_l l c_l), (7, sl A16 l18 c17), (17, sl A_l l c_l), (18, vI (l.length : Int)), (19, vI i21)]) (fun s_ g_ => match s_, g_ with | (l18, i21), (A16, c17, y19, F22, W23) => Mem w0 (ow A16 l18 c17 42 2 y19 :: Fz F22 W23 :: cs)) (fun s_ g_ => match s_, g_ with | (l18, i21), (A16, c17, y19, F22, W23) => (RepL R_api_Comp F22 W23 l18 y19) ∧ (Ext w0 F W F22 W23)) ⟨(RepL.nil (R := R_api_Comp)), (Ext.refl _ _ _)⟩ (look_has ⟨rfl, rfl, rfl, rfl, rfl, rfl, trivial⟩) (fun w_ hM => hM) ?_
   rintro ⟨l18, i21⟩ ⟨A16, c17, y19, F22, W23⟩ o2 ⟨h20, hx2⟩ hs_ hd2
   have hp : (world_Fit_l2 l k) l18 i21 = some o2 := hs_
   clear hs_
   unfold world_Fit_l2 at hp
   have h_k := h_k.ext hx2
   have h_l := h_l.ext hx2
   refine st_seq (st_region [oF 0] (by rfl) ?_)
   refine oQ [oF 0] [(20, .bool (decide (i21 < (l.length : Int)))), (0, sl A_k k c_k), (1, sl A_l l c_l), (7, sl A16 l18 c17), (17, sl A_l l c_l), (18, vI (l.length : Int)), (19, vI i21)] (by kernel_rfl) ?_
   refine ops_nil (fin_then (st_seq ?_))
   refine st_if (b := decide (i21 < (l.length : Int))) rfl (fun hc24 => ?_) (fun hc24 => ?_)
   ·
    have hp := cnd_t hc24 hp
    refine st_skip (fin_then (st_seq (st_block (st_seq (st_region [oF 0, oF 1, oF 2, oF 3, oF 4, oF 5] (by rfl) ?_)))))
    refine oQ [oF 0] [(21, vI i21), (0, sl A_k k c_k), (1, sl A_l l c_l), (7, sl A16 l18 c17), (17, sl A_l l c_l), (18, vI (l.length : Int)), (19, vI i21)] (by kernel_rfl) ?_
    obtain ⟨x25, hv26, hp⟩ := obind hp
    obtain ⟨m27, hm28, hx29⟩ := idx_some hv26
    have hl32 := (List.getElem?_eq_some_iff.1 hx29).1
    obtain ⟨ad33, vs30, hA34, hr31, hq35⟩ := RdS.el h_l hx29
    obtain ⟨A36, c37, rfl, h38⟩ := dec_api_Comp hr31
    refine ops_val (op := (.indexAddr 27 (.tmp 17) (.tmp 19))) (d := some 22) (v := .pointer (some (ad33.add (m27 * 2)))) ⟨by kernel_rfl⟩ (run_indexA hA34 Tryz.underlying27 (z := 2) (by kernel_rfl) rfl rfl hm28 hl32) ?_
    refine ops_mem (d := some 23) (an := [.v (vI x25.Kind), .v (sl A36 x25.Vals c37)]) (evs := [.load (ad33.add (m27 * 2)) (vI x25.Kind), .load ((ad33.add (m27 * 2)).add 1) (sl A36 x25.Vals c37)]) (v := .agg #[vI x25.Kind, sl A36 x25.Vals c37]) ⟨by kernel_rfl⟩ (fun w_ hM hS => ⟨w_, ⟨hM.elcell 1 rfl hq35 0 rfl, hM.elcell 1 rfl hq35 1 rfl, rfl⟩, hM, trivial⟩) ?_
    refine ops_newB (d := some 9) [vI 0, .slice none 0 0] 42 (fun b39 => ⟨by kernel_rfl⟩) (fun w_ hM hS => trivial) (fun b39 => ?_)
    refine oQ [oF 4] [(8, vI i21), (9, vP b39 0), (23, .agg #[vI x25.Kind, sl A36 x25.Vals c37]), (0, sl A_k k c_k), (1, sl A_l l c_l), (7, sl A16 l18 c17), (17, sl A_l l c_l), (18, vI (l.length : Int)), (19, vI i21)] (by kernel_rfl) ?_
    refine ops_store (an := []) (evs := [sr b39 0 (vI x25.Kind), sr b39 1 (sl A36 x25.Vals c37)]) ⟨by kernel_rfl⟩ (fun w_ hM hS => let ⟨w', he, h'⟩ := hM.evs_stores [vI x25.Kind, sl A36 x25.Vals c37] 0 rfl 0 (Nat.le_of_ble_eq_true rfl); ⟨w', he, h', trivial⟩) ?_
    refine ops_nil (fin_then (st_seq (st_seq (st_region [oF 0, oF 1, oF 2, oF 3, oF 4, oF 5, oF 6, oF 7, oF 8, oF 9] (by rfl) ?_))))
    refine oQ [oF 0] [(24, vP b39 0), (8, vI i21), (9, vP b39 0), (0, sl A_k k c_k), (1, sl A_l l c_l), (7, sl A16 l18 c17), (17, sl A_l l c_l), (18, vI (l.length : Int)), (19, vI i21)] (by kernel_rfl) ?_
    refine ops_mem (d := some 25) (an := [.v (vI x25.Kind)]) (evs := [ld b39 0 (vI x25.Kind)]) (v := vI x25.Kind) ⟨by kernel_rfl⟩ (fun w_ hM hS => ⟨w_, ⟨hM.cell 0 rfl rfl, rfl⟩, hM, trivial⟩) ?_
    refine oQ [oF 2, oF 3] [(27, .bool (decide (x25.Kind < 0))), (8, vI i21), (9, vP b39 0), (0, sl A_k k c_k), (1, sl A_l l c_l), (7, sl A16 l18 c17), (17, sl A_l l c_l), (18, vI (l.length : Int)), (19, vI i21)] (by kernel_rfl) ?_
    refine ops_bool (t := decide (x25.Kind < 0)) (l1 := [(27, .bool true), (8, vI i21), (9, vP b39 0), (0, sl A_k k c_k), (1, sl A_l l c_l), (7, sl A16 l18 c17), (17, sl A_l l c_l), (18, vI (l.length : Int)), (19, vI i21)]) (l2 := [(27, .bool false), (8, vI i21), (9, vP b39 0), (0, sl A_k k c_k), (1, sl A_l l c_l), (7, sl A16 l18 c17), (17, sl A_l l c_l), (18, vI (l.length : Int)), (19, vI i21)]) (fun h => by rw [h]) (fun h => by rw [h]) (fun hc40 => ?_) (fun hc40 => ?_)
    ·
     have hp := cnd_t hc40 hp
     refine oQ [oF 4, oF 5, oF 6, oF 7, oF 8, oF 9] [(33, .bool true), (8, vI i21), (9, vP b39 0), (0, sl A_k k c_k), (1, sl A_l l c_l), (7, sl A16 l18 c17), (17, sl A_l l c_l), (18, vI (l.length : Int)), (19, vI i21)] (by kernel_rfl) ?_
     refine ops_nil (fin_then (st_true rfl (st_seq (st_region [oF 0, oF 1] (by rfl) ?_))))
     refine oQ [oF 0, oF 1] [(5, vI 1), (4, .slice none 0 0)] (by kernel_rfl) ?_
     refine ops_nil (fin_then (st_ret (fin_ret_then (fin_ret_block (fin_ret_then (fin_ret_then (fin_ret_block (fin_ret_then ?_))))))))
     refine fin_conv (l' := [(5, vI 1), (4, .slice none 0 0)]) (M' := Mem w0 (ow none ([] : List api_Comp) 0 42 2 [] :: .blk b39 [vI x25.Kind, sl A36 x25.Vals c37] 42 :: ow A16 l18 c17 42 2 y19 :: Fz F22 W23 :: cs)) rfl (fun w_ h => h.onil none 42 2) ?_
     refine fin_conv (l' := [(5, vI 1), (4, sl none ([] : List api_Comp) 0)]) (M' := Mem w0 (ow none ([] : List api_Comp) 0 42 2 [] :: .blk b39 [vI x25.Kind, sl A36 x25.Vals c37] 42 :: ow A16 l18 c17 42 2 y19 :: Fz F22 W23 :: cs)) rfl (fun _ h => h) ?_
     obtain hq_ := Option.some.inj hp
     subst hq_
     obtain hq_ := hd2 _ rfl
     subst hq_
     have hp : some (([] : List api_Comp), 1) = some (l9003, i9006) := hk2
     have hq_ := Option.some.inj hp
     obtain ⟨hr0_, hq_⟩ := Prod.mk.inj hq_
     have hr1_ := hq_
     subst hr0_
     subst hr1_
     refine fin_ret [.tmp 4, .tmp 5] [sl none ([] : List api_Comp) 0, vI 1] rfl rfl (fun w_ hM => (.tmp rfl (.tmp rfl .nil))) (fun w_ hM => ?_)
     exact ⟨none, 0, [], F22, W23, ⟨(RepL.nil (R := R_api_Comp)), hx2⟩, rfl, hM.pick 4 [0, 3] (by kernel_rfl) (by decide) rfl⟩
    ·
     have hp := cnd_f hc40 hp
     refine oQ [oF 4] [(28, vP b39 0), (27, .bool false), (8, vI i21), (9, vP b39 0), (0, sl A_k k c_k), (1, sl A_l l c_l), (7, sl A16 l18 c17), (17, sl A_l l c_l), (18, vI (l.length : Int)), (19, vI i21)] (by kernel_rfl) ?_
     refine ops_mem (d := some 29) (an := [.v (vI x25.Kind)]) (evs := [ld b39 0 (vI x25.Kind)]) (v := vI x25.Kind) ⟨by kernel_rfl⟩ (fun w_ hM hS => ⟨w_, ⟨hM.cell 0 rfl rfl, rfl⟩, hM, trivial⟩) ?_
     refine oQ [oF 6, oF 7, oF 8, oF 9] [(33, .bool (decide ((k.length : Int) ≤ x25.Kind))), (8, vI i21), (9, vP b39 0), (0, sl A_k k c_k), (1, sl A_l l c_l), (7, sl A16 l18 c17), (17, sl A_l l c_l), (18, vI (l.length : Int)), (19, vI i21)] (by kernel_rfl) ?_
     refine ops_nil (fin_then ?_)
     refine st_if (b := decide ((k.length : Int) ≤ x25.Kind)) rfl (fun hc41 => ?_) (fun hc41 => ?_)
     ·
      have hp := cnd_t hc41 hp
      refine st_seq (st_region [oF 0, oF 1] (by rfl) ?_)
      refine oQ [oF 0, oF 1] [(5, vI 1), (4, .slice none 0 0)] (by kernel_rfl) ?_
      refine ops_nil (fin_then (st_ret (fin_ret_then (fin_ret_block (fin_ret_then (fin_ret_then (fin_ret_block (fin_ret_then ?_))))))))
      refine fin_conv (l' := [(5, vI 1), (4, .slice none 0 0)]) (M' := Mem w0 (ow none ([] : List api_Comp) 0 42 2 [] :: .blk b39 [vI x25.Kind, sl A36 x25.Vals c37] 42 :: ow A16 l18 c17 42 2 y19 :: Fz F22 W23 :: cs)) rfl (fun w_ h => h.onil none 42 2) ?_
      refine fin_conv (l' := [(5, vI 1), (4, sl none ([] : List api_Comp) 0)]) (M' := Mem w0 (ow none ([] : List api_Comp) 0 42 2 [] :: .blk b39 [vI x25.Kind, sl A36 x25.Vals c37] 42 :: ow A16 l18 c17 42 2 y19 :: Fz F22 W23 :: cs)) rfl (fun _ h => h) ?_
      obtain hq_ := Option.some.inj hp
      subst hq_
      obtain hq_ := hd2 _ rfl
      subst hq_
      have hp : some (([] : List api_Comp), 1) = some (l9003, i9006) := hk2
      have hq_ := Option.some.inj hp
      obtain ⟨hr0_, hq_⟩ := Prod.mk.inj hq_
      have hr1_ := hq_
      subst hr0_
      subst hr1_
      refine fin_ret [.tmp 4, .tmp 5] [sl none ([] : List api_Comp) 0, vI 1] rfl rfl (fun w_ hM => (.tmp rfl (.tmp rfl .nil))) (fun w_ hM => ?_)
      exact ⟨none, 0, [], F22, W23, ⟨(RepL.nil (R := R_api_Comp)), hx2⟩, rfl, hM.pick 4 [0, 3] (by kernel_rfl) (by decide) rfl⟩
     ·
      have hp := cnd_f hc41 hp
      refine st_skip (fin_then (st_seq (st_seq (st_region [oF 0, oF 1, oF 2, oF 3, oF 4] (by rfl) ?_))))
      refine oQ [oF 0, oF 1] [(35, vI i21), (34, sl A_l l c_l), (9, vP b39 0), (0, sl A_k k c_k), (1, sl A_l l c_l), (7, sl A16 l18 c17), (17, sl A_l l c_l), (18, vI (l.length : Int)), (19, vI i21)] (by kernel_rfl) ?_
      obtain ⟨l42, hv43, hp⟩ := obind hp
      obtain ⟨m44, n45, hm46, hn47, h48, h49, he50⟩ := cut_some hv43
      have hl51 := cut_len he50 h48 h49
      have h52 : RdS R_api_Comp F22 W23 A_l c_l l42 := by have h_ := h_l.cut h48 h49; rw [← he50] at h_; rw [show m44 = 0 by omega, cutA_zero, Nat.sub_zero] at h_; exact h_
      refine ops_val (op := (.slice 27 (.tmp 34) none (some (.tmp 35)) none)) (d := some 36) (v := sl A_l l42 c_l) ⟨by kernel_rfl⟩ (run_cutH0 (by kernel_rfl) (z := 2) (by kernel_rfl) rfl rfl hn47 (Nat.le_trans h49 h_l.cap) (by omega)) ?_
      refine oQ [oF 3] [(37, .func (.func 42) #[] #[vP b39 0]), (36, sl A_l l42 c_l), (9, vP b39 0), (0, sl A_k k c_k), (1, sl A_l l c_l), (7, sl A16 l18 c17), (17, sl A_l l c_l), (18, vI (l.length : Int)), (19, vI i21)] (by kernel_rfl) ?_
      obtain ⟨x53, hv54, hp⟩ := obind hp
      refine ops_callI (σ := Unit) (d := some 38) (f := 41) (args := #[sl A_l l42 c_l, .func (.func 42) #[] #[vP b39 0]]) (v := (fun _ => .bool x53)) (I := (fun _ => (RdS (Rep.int .i64) F22 W23 A36 c37 x25.Vals))) (M' := (fun _ => Mem w0 (.blk b39 [vI x25.Kind, sl A36 x25.Vals c37] 42 :: ow A16 l18 c17 42 2 y19 :: Fz F22 W23 :: cs))) ⟨by kernel_rfl⟩ (fun w_ hM hS => (slices_ContainsFunc_api_Comp_api_Comp_ok w0 w_ (ow A16 l18 c17 42 2 y19 :: cs) F22 W23 A_l c_l l42 b39 x25.Kind A36 c37 x25.Vals (hM.pick 3 [0, 2, 1] (by kernel_rfl) (by decide) rfl) h52 h38 x53 hv54).mono (by rintro e w' ⟨h55, rfl, h'⟩; have h' : Mem w0 (.blk b39 [vI x25.Kind, sl A36 x25.Vals c37] 42 :: ow A16 l18 c17 42 2 y19 :: Fz F22 W23 :: cs) w' := (h'.pick 3 [0, 2, 1] (by kernel_rfl) (by decide) rfl); exact ⟨(), h55, rfl, h', trivial⟩)) ?_
      rintro _ h55
      refine ops_nil (fin_then ?_)
      refine st_if (b := x53) rfl (fun hc56 => ?_) (fun hc56 => ?_)
      ·
       have hp := cnd_t hc56 hp
       refine st_seq (st_region [oF 0, oF 1] (by rfl) ?_)
       refine oQ [oF 0, oF 1] [(5, vI 5), (4, .slice none 0 0)] (by kernel_rfl) ?_
       refine ops_nil (fin_then (st_ret (fin_ret_then (fin_ret_block (fin_ret_then (fin_ret_then (fin_ret_block (fin_ret_then ?_))))))))
       refine fin_conv (l' := [(5, vI 5), (4, .slice none 0 0)]) (M' := Mem w0 (ow none ([] : List api_Comp) 0 42 2 [] :: .blk b39 [vI x25.Kind, sl A36 x25.Vals c37] 42 :: ow A16 l18 c17 42 2 y19 :: Fz F22 W23 :: cs)) rfl (fun w_ h => h.onil none 42 2) ?_
       refine fin_conv (l' := [(5, vI 5), (4, sl none ([] : List api_Comp) 0)]) (M' := Mem w0 (ow none ([] : List api_Comp) 0 42 2 [] :: .blk b39 [vI x25.Kind, sl A36 x25.Vals c37] 42 :: ow A16 l18 c17 42 2 y19 :: Fz F22 W23 :: cs)) rfl (fun _ h => h) ?_
       obtain hq_ := Option.some.inj hp
       subst hq_
       obtain hq_ := hd2 _ rfl
       subst hq_
       have hp : some (([] : List api_Comp), 5) = some (l9003, i9006) := hk2
       have hq_ := Option.some.inj hp
       obtain ⟨hr0_, hq_⟩ := Prod.mk.inj hq_
       have hr1_ := hq_
       subst hr0_
       subst hr1_
       refine fin_ret [.tmp 4, .tmp 5] [sl none ([] : List api_Comp) 0, vI 5] rfl rfl (fun w_ hM => (.tmp rfl (.tmp rfl .nil))) (fun w_ hM => ?_)
       exact ⟨none, 0, [], F22, W23, ⟨(RepL.nil (R := R_api_Comp)), hx2⟩, rfl, hM.pick 4 [0, 3] (by kernel_rfl) (by decide) rfl⟩
      ·
       have hp := cnd_f hc56 hp
       refine st_skip (fin_then (st_seq ?_))
       refine st_region_draw [oT 0, oT 1, oT 2, oT 3, oT 4, oT 5, oT 6, oF 7, oT 8, oT 9, oT 10, oT 11, oT 12] (Mem w0 (.blk b39 [vI x25.Kind, sl A36 x25.Vals c37] 42 :: ow A16 l18 c17 42 2 y19 :: Fz F22 W23 :: cs)) (by kernel_rfl) (by kernel_rfl) (by kernel_rfl) (fun _ d _ _ _ h => by cases d <;> exact h) (M' := Mem w0 (.blk b39 [vI x25.Kind, sl A36 x25.Vals c37] 42 :: ow A16 l18 c17 42 2 y19 :: Fz F22 W23 :: cs)) (fun w_ hM => ⟨hM.drew, hM.drew.sub (.cons_cons _ (.cons_cons _ (.cons_cons _ (.refl _))))⟩) ?_
       refine oQ [oT 0, oT 1] [(41, vP b39 0), (40, sl A_k k c_k), (9, vP b39 0), (0, sl A_k k c_k), (1, sl A_l l c_l), (7, sl A16 l18 c17), (17, sl A_l l c_l), (18, vI (l.length : Int)), (19, vI i21)] (by kernel_rfl) ?_
       refine ops_load (d := some 42) (an := [.v (vI x25.Kind)]) (evs := [ld b39 0 (vI x25.Kind)]) (v := vI x25.Kind) ⟨by kernel_rfl⟩ (fun w_ hM => ⟨hM.cell 0 rfl rfl, rfl⟩) ?_
       obtain ⟨x57, hv58, hp⟩ := obind hp
       obtain ⟨m59, hm60, hx61⟩ := idx_some hv58
       have hl64 := (List.getElem?_eq_some_iff.1 hx61).1
       obtain ⟨ad65, vs62, hA66, hr63, hq67⟩ := RdS.el h_k hx61
       obtain ⟨A68, c69, rfl, h70⟩ := dec_api_Kind hr63
       refine ops_val (op := (.indexAddr 22 (.tmp 40) (.tmp 42))) (d := some 43) (v := .pointer (some (ad65.add (m59 * 2)))) ⟨by kernel_rfl⟩ (run_indexA hA66 Tryz.underlying22 (z := 2) (by kernel_rfl) rfl rfl hm60 hl64) ?_
       refine ops_load (d := some 44) (an := [.v (.string x57.Name), .v (sl A68 x57.Fields c69)]) (evs := [.load (ad65.add (m59 * 2)) (.string x57.Name), .load ((ad65.add (m59 * 2)).add 1) (sl A68 x57.Fields c69)]) (v := .agg #[.string x57.Name, sl A68 x57.Fields c69]) ⟨by kernel_rfl⟩ (fun w_ hM => ⟨hM.elcell 2 rfl hq67 0 rfl, hM.elcell 2 rfl hq67 1 rfl, rfl⟩) ?_
       refine oQ [oT 5] [(45, vP b39 1), (44, .agg #[.string x57.Name, sl A68 x57.Fields c69]), (9, vP b39 0), (0, sl A_k k c_k), (1, sl A_l l c_l), (7, sl A16 l18 c17), (17, sl A_l l c_l), (18, vI (l.length : Int)), (19, vI i21)] (by kernel_rfl) ?_
       refine ops_load (d := some 46) (an := [.v (sl A36 x25.Vals c37)]) (evs := [ld b39 1 (sl A36 x25.Vals c37)]) (v := sl A36 x25.Vals c37) ⟨by kernel_rfl⟩ (fun w_ hM => ⟨hM.cell 0 rfl rfl, rfl⟩) ?_
       obtain ⟨x71, x72, hv73, hp⟩ := obind2 hp
       refine ops_callI (σ := (Option Addr) × Nat × (List Value)) (d := some 47) (f := 43) (args := #[.agg #[.string x57.Name, sl A68 x57.Fields c69], sl A36 x25.Vals c37]) (v := (fun x_ => match x_ with | (A74, c75, y76) => .tuple #[sl A74 x71 c75, vI x72])) (I := (fun x_ => match x_ with | (A74, c75, y76) => (RepL (Rep.int .i64) F22 W23 x71 y76))) (M' := (fun x_ => match x_ with | (A74, c75, y76) => Mem w0 (ow A74 x71 c75 3 1 y76 :: .blk b39 [vI x25.Kind, sl A36 x25.Vals c37] 42 :: ow A16 l18 c17 42 2 y19 :: Fz F22 W23 :: cs))) ⟨by kernel_rfl⟩ (fun w_ hM hS => (kind_Fit_ok w0 w_ (.blk b39 [vI x25.Kind, sl A36 x25.Vals c37] 42 :: ow A16 l18 c17 42 2 y19 :: cs) F22 W23 x57.Name A68 c69 x57.Fields A36 c37 x25.Vals (hM.pick 3 [2, 0, 1] (by kernel_rfl) (by decide) rfl) h70 h55 x71 x72 hv73).mono (by rintro e w' ⟨A74, c75, y76, h77, rfl, h'⟩; have h' : Mem w0 (ow A74 x71 c75 3 1 y76 :: .blk b39 [vI x25.Kind, sl A36 x25.Vals c37] 42 :: ow A16 l18 c17 42 2 y19 :: Fz F22 W23 :: cs) w' := (h'.pick 4 [0, 2, 3, 1] (by kernel_rfl) (by decide) rfl); exact ⟨(A74, c75, y76), h77, rfl, h', (by exact h'.sub (.cons _ (.cons_cons _ (.cons_cons _ (.cons_cons _ (.refl _))))))⟩)) ?_
       rintro ⟨A74, c75, y76⟩ h77
       refine oQ [oT 8, oT 9, oT 10, oT 11, oT 12] [(11, vI x72), (10, sl A74 x71 c75), (9, vP b39 0), (0, sl A_k k c_k), (1, sl A_l l c_l), (7, sl A16 l18 c17), (17, sl A_l l c_l), (18, vI (l.length : Int)), (19, vI i21)] (by kernel_rfl) ?_
       refine ops_nil (fin_then (st_seq (st_seq (st_region [oF 0, oF 1] (by rfl) ?_))))
       refine oQ [oF 0, oF 1] [(51, .bool (!(x72 == 0))), (11, vI x72), (10, sl A74 x71 c75), (9, vP b39 0), (0, sl A_k k c_k), (1, sl A_l l c_l), (7, sl A16 l18 c17), (17, sl A_l l c_l), (18, vI (l.length : Int)), (19, vI i21)] (by kernel_rfl) ?_
       refine ops_nil (fin_then ?_)
       refine st_if (b := !(x72 == 0)) rfl (fun hc78 => ?_) (fun hc78 => ?_)
       ·
        have hp := cnd_t hc78 hp
        refine st_seq (st_region [oF 0, oF 1, oF 2] (by rfl) ?_)
        refine oQ [oF 0, oF 1, oF 2] [(5, vI x72), (4, .slice none 0 0)] (by kernel_rfl) ?_
        refine ops_nil (fin_then (st_ret (fin_ret_then (fin_ret_block (fin_ret_then (fin_ret_then (fin_ret_block (fin_ret_then ?_))))))))
        refine fin_conv (l' := [(5, vI x72), (4, .slice none 0 0)]) (M' := Mem w0 (ow none ([] : List api_Comp) 0 42 2 [] :: ow A74 x71 c75 3 1 y76 :: .blk b39 [vI x25.Kind, sl A36 x25.Vals c37] 42 :: ow A16 l18 c17 42 2 y19 :: Fz F22 W23 :: cs)) rfl (fun w_ h => h.onil none 42 2) ?_
        refine fin_conv (l' := [(5, vI x72), (4, sl none ([] : List api_Comp) 0)]) (M' := Mem w0 (ow none ([] : List api_Comp) 0 42 2 [] :: ow A74 x71 c75 3 1 y76 :: .blk b39 [vI x25.Kind, sl A36 x25.Vals c37] 42 :: ow A16 l18 c17 42 2 y19 :: Fz F22 W23 :: cs)) rfl (fun _ h => h) ?_
        obtain hq_ := Option.some.inj hp
        subst hq_
        obtain hq_ := hd2 _ rfl
        subst hq_
        have hp : some (([] : List api_Comp), x72) = some (l9003, i9006) := hk2
        have hq_ := Option.some.inj hp
        obtain ⟨hr0_, hq_⟩ := Prod.mk.inj hq_
        have hr1_ := hq_
        subst hr0_
        subst hr1_
        refine fin_ret [.tmp 4, .tmp 5] [sl none ([] : List api_Comp) 0, vI x72] rfl rfl (fun w_ hM => (.tmp rfl (.tmp rfl .nil))) (fun w_ hM => ?_)
        exact ⟨none, 0, [], F22, W23, ⟨(RepL.nil (R := R_api_Comp)), hx2⟩, rfl, hM.pick 5 [0, 4] (by kernel_rfl) (by decide) rfl⟩
       ·
        have hp := cnd_f hc78 hp
        refine st_skip (fin_then (st_region [oF 0, oF 1, oF 2, oF 3, oF 4, oF 5, oF 6, oF 7] (by rfl) ?_))
        refine oQ [oF 0, oF 1] [(54, vP b39 0), (53, sl A16 l18 c17), (10, sl A74 x71 c75), (0, sl A_k k c_k), (1, sl A_l l c_l), (7, sl A16 l18 c17), (17, sl A_l l c_l), (18, vI (l.length : Int)), (19, vI i21)] (by kernel_rfl) ?_
        refine ops_mem (d := some 55) (an := [.v (vI x25.Kind)]) (evs := [ld b39 0 (vI x25.Kind)]) (v := vI x25.Kind) ⟨by kernel_rfl⟩ (fun w_ hM hS => ⟨w_, ⟨hM.cell 1 rfl rfl, rfl⟩, hM, trivial⟩) ?_
        refine oQ [oF 3, oF 4] [(57, .agg #[vI x25.Kind, sl A74 x71 c75]), (53, sl A16 l18 c17), (0, sl A_k k c_k), (1, sl A_l l c_l), (7, sl A16 l18 c17), (17, sl A_l l c_l), (18, vI (l.length : Int)), (19, vI i21)] (by kernel_rfl) ?_
        refine ops_ex (σ := (Nat → Prop) × World) (I := fun x_ => Ext w0 F22 W23 x_.1 x_.2 ∧ RdS (Rep.int .i64) x_.1 x_.2 A74 c75 x71) (M' := fun x_ => Mem w0 (.blk b39 [vI x25.Kind, sl A36 x25.Vals c37] 42 :: ow A16 l18 c17 42 2 y19 :: Fz x_.1 x_.2 :: cs)) (fun w_ hM => ?_) ?_
        · obtain ⟨F_, h1_, h2_, h3_⟩ := (hM.pick 4 [0, 3, 1, 2] (by kernel_rfl) (by decide) rfl : Mem w0 (ow A74 x71 c75 3 1 y76 :: Fz F22 W23 :: .blk b39 [vI x25.Kind, sl A36 x25.Vals c37] 42 :: ow A16 l18 c17 42 2 y19 :: cs) w_).freeze (z := 1) h77 rfl rfl
          exact ⟨(F_, w_), ⟨h1_, h2_⟩, h3_.pick 3 [1, 2, 0] (by kernel_rfl) (by decide) rfl⟩
        rintro ⟨F79, W80⟩ ⟨hx81, h82⟩
        have hx81 : Ext w0 F22 W23 F79 W80 := hx81
        have h82 : RdS (Rep.int .i64) F79 W80 A74 c75 x71 := h82
        have h_k := h_k.ext hx81
        have h_l := h_l.ext hx81
        have h55 := h55.ext hx81
        have h20 := h20.ext hx81
        have h83 : RepL R_api_Comp F79 W80 ([(api_Comp.mk x25.Kind x71)] : List api_Comp) ([vI x25.Kind, sl A74 x71 c75]) := (RepL.cons (R := R_api_Comp) (F := F79) (w := W80) (vs := [vI x25.Kind, sl A74 x71 c75]) (ys := []) (enc_api_Comp h82) RepL.nil)
        refine ops_new (d := some 58) (o := .cells ([vI x25.Kind, sl A74 x71 c75] : List Value).toArray 42) (v := fun g84 => .slice (sa g84) ([(api_Comp.mk x25.Kind x71)] : List api_Comp).length 1) (M' := fun g84 => Mem w0 (orow (sa g84) ([(api_Comp.mk x25.Kind x71)] : List api_Comp).length 1 42 2 ([vI x25.Kind, sl A74 x71 c75]) :: .blk b39 [vI x25.Kind, sl A36 x25.Vals c37] 42 :: ow A16 l18 c17 42 2 y19 :: Fz F79 W80 :: cs)) (fun g84 => ⟨by kernel_rfl⟩) (fun w_ hM hS => ⟨hM.onew [vI x25.Kind, sl A74 x71 c75] 42 1 2 rfl (by decide), trivial⟩) (fun g84 => ?_)
        obtain ⟨l85, hv86, hp⟩ := obind hp
        obtain ⟨he87, hb88⟩ := app_some hv86
        obtain ⟨y89, hy90⟩ : ∃ y_, y19 ++ ([vI x25.Kind, sl A74 x71 c75]) = y_ := ⟨_, rfl⟩
        have h91 : RepL R_api_Comp F79 W80 l85 y89 := by rw [he87, ← hy90]; exact RepL.app h20 h83
        refine ops_appendO (x := (Go.Operand.tmp 53)) (y := (Go.Operand.tmp 58)) (t := 27) (e := 42) (d := some 59) (n' := l85.length) (z := 2) (m := ([(api_Comp.mk x25.Kind x71)] : List api_Comp).length) (bytes := 32) (xs' := y89) (news := ([vI x25.Kind, sl A74 x71 c75])) (zv := .agg #[vI 0, .slice none 0 0]) 2 ⟨by kernel_rfl⟩ rfl rfl Tryz.underlying27 (by kernel_rfl) (by rfl) rfl (fun w_ hM => hM.srcO 0 rfl) h83.len h83.one hb88 (by have z_ := congrArg List.length he87; rw [List.length_append] at z_; exact z_.symm) hy90 (fun _ _ _ _ hS h' => trivial) ?_
        rintro ⟨A92, c93⟩
        refine oQ [oF 7] [(7, sl A92 l85 c93), (0, sl A_k k c_k), (1, sl A_l l c_l), (17, sl A_l l c_l), (18, vI (l.length : Int)), (19, vI i21)] (by kernel_rfl) ?_
        refine ops_nil (fin_block (fin_then (st_region [oF 0, oF 1] (by rfl) ?_)))
        refine oQ [oF 0, oF 1] [(19, vI (IntKind.i64.wrap (i21 + 1))), (7, sl A92 l85 c93), (0, sl A_k k c_k), (1, sl A_l l c_l), (17, sl A_l l c_l), (18, vI (l.length : Int))] (by kernel_rfl) ?_
        refine ops_nil ?_
        exact fin_again (l85, IntKind.i64.wrap (i21 + 1)) (A92, c93, y89, F79, W80) (Option.some.inj hp).symm ⟨h91, (hx2.trans hx81)⟩ (look_has ⟨rfl, rfl, rfl, rfl, rfl, rfl, trivial⟩) (fun w_ hM => hM.pick 4 [2, 3] (by kernel_rfl) (by decide) rfl)
   ·
    have hp := cnd_f hc24 hp
    refine st_exit (fin_exit_then (fin_exit_then (fin_exit ?_)))
    obtain hq_ := Option.some.inj hp
    subst hq_
    obtain hq_ := hd2 _ rfl
    subst hq_
    have hp : world_Fit_j1 l18 = some (l9003, i9006) := hk2
    exact fin_join HJ1 (A16, c17, l18, y19, F22, W23) ⟨hp, h20, hx2⟩ (look_has ⟨rfl, trivial⟩) (fun w_ hM => hM)
theorem world_Free_ok (w0 w : World) (cs : List Chunk) (F : Nat → Prop) (W : World) (A_w_0 : Option Addr) (c_w_0 : Nat) (w_0 : List api_Kind) (A_w_1 : Option Addr) (c_w_1 : Nat) (w_1 : List Int) (A_w_2 : Option Addr) (c_w_2 : Nat) (w_2 : List api_Item) (hM0 : Mem w0 (Fz F W :: cs) w) (h_w_0 : RdS R_api_Kind F W A_w_0 c_w_0 w_0) (h_w_1 : RdS (Rep.int .i64) F W A_w_1 c_w_1 w_1) (h_w_2 : RdS R_api_Item F W A_w_2 c_w_2 w_2) (i9001 : Int) (t9002 : Bool) (hp : world_Free w_0 w_1 w_2 = some (i9001, t9002)) : Calls Tryz.prog 15 #[.agg #[sl A_w_0 w_0 c_w_0, sl A_w_1 w_1 c_w_1, sl A_w_2 w_2 c_w_2]] w fun e w' => (True) ∧ e = .returned (.tuple #[vI i9001, .bool t9002]) ∧ Mem w0 (Fz F W :: cs) w' := by
 unfold world_Free at hp
 refine sx_calls Tryz.func15 rfl (n := 64) (by kernel_rfl) (l := [(0, .agg #[sl A_w_0 w_0 c_w_0, sl A_w_1 w_1 c_w_1, sl A_w_2 w_2 c_w_2])]) rfl (by rfl) hM0 ?_
 refine st_seq (st_region [oF 0, oF 1, oF 2] (by rfl) ?_)
 refine ops_newB (d := some 1) [sl A_w_0 w_0 c_w_0, sl A_w_1 w_1 c_w_1, sl A_w_2 w_2 c_w_2] 26 (fun b1 => ⟨by kernel_rfl⟩) (fun w_ hM hS => trivial) (fun b1 => ?_)
 refine oQ [oF 1, oF 2] [(1, vP b1 0)] (by kernel_rfl) ?_
 refine ops_nil (fin_then (st_seq (st_region [oF 0, oF 1, oF 2, oF 3, oF 4] (by rfl) ?_)))
 refine oQ [oF 0] [(9, vP b1 1), (1, vP b1 0)] (by kernel_rfl) ?_
 refine ops_mem (d := some 10) (an := [.v (sl A_w_1 w_1 c_w_1)]) (evs := [ld b1 1 (sl A_w_1 w_1 c_w_1)]) (v := sl A_w_1 w_1 c_w_1) ⟨by kernel_rfl⟩ (fun w_ hM hS => ⟨w_, ⟨hM.cell 0 rfl rfl, rfl⟩, hM, trivial⟩) ?_
 refine oQ [oF 2] [(11, vI (w_1.length : Int)), (1, vP b1 0)] (by kernel_rfl) ?_
 obtain ⟨l2, hv3, hp⟩ := obind hp
 obtain ⟨m4, hm5, he6, hb7⟩ := mk_some hv3
 have hl8 : l2.length = m4 := by rw [he6, List.length_replicate]
 obtain ⟨y9, hy10⟩ : ∃ y_, (Sx.madeOf [.bool false] (l2.length * 1)).toList = y_ := ⟨_, rfl⟩
 have h11 : RepL Rep.bool F W l2 y9 := by rw [← hy10, hl8, he6]; exact RepL.made rfl (by decide) _
 refine ops_makeO (t := 101) (x := (Go.Operand.tmp 11)) (y := (Go.Operand.tmp 11)) (d := some 12) (nn := l2.length) (z := 1) (bytes := 1) (xs := y9) (zv := .bool false) ⟨by kernel_rfl⟩ rfl rfl (by rw [hl8]; exact hm5) (by rw [hl8]; exact hm5) Tryz.underlying101 (by kernel_rfl) (by rw [hl8]; exact hb7) (by rfl) hy10 (fun _ _ _ hS h' => trivial) (fun g12 => ?_)
 refine oQ [oF 4] [(4, sl (sa g12) l2 l2.length), (1, vP b1 0)] (by kernel_rfl) ?_
 refine ops_nil (fin_then ?_)
 refine st_join1 (σ := (List Bool) × (List Value)) (L := fun x_ => match x_ with | (l13, y14) => [(1, vP b1 0), (4, sl (sa g12) l13 l2.length)]) (N := fun x_ => match x_ with | (l13, y14) => Mem w0 (.blk b1 [sl A_w_0 w_0 c_w_0, sl A_w_1 w_1 c_w_1, sl A_w_2 w_2 c_w_2] 26 :: ow (sa g12) l13 l2.length 4 1 y14 :: Fz F W :: cs)) (I := fun x_ => match x_ with | (l13, y14) => ((world_Free_j1 w_1) l13 = some (i9001, t9002)) ∧ (RepL Rep.bool F W l13 y14)) ?_ ?_
 ·
  rintro ⟨l13, y14⟩ ⟨hp, h15⟩
  unfold world_Free_j1 at hp
  refine st_join1 (σ := Unit) (L := fun _ => [(1, vP b1 0)]) (N := fun _ => Mem w0 (.blk b1 [sl A_w_0 w_0 c_w_0, sl A_w_1 w_1 c_w_1, sl A_w_2 w_2 c_w_2] 26 :: Fz F W :: cs)) (I := fun _ => ((world_Free_j2 w_1) = some (i9001, t9002))) ?_ ?_
  ·
   rintro _ hp
   unfold world_Free_j2 at hp
   refine st_seq ?_
   refine st_region_draw [oT 0, oT 1, oT 2, oT 3, oT 4, oT 5, oT 6, oT 7, oT 8] (Mem w0 (.blk b1 [sl A_w_0 w_0 c_w_0, sl A_w_1 w_1 c_w_1, sl A_w_2 w_2 c_w_2] 26 :: Fz F W :: cs)) (by kernel_rfl) (by kernel_rfl) (by kernel_rfl) (fun _ d _ _ _ h => by cases d <;> exact h) (M' := Mem w0 (.blk b1 [sl A_w_0 w_0 c_w_0, sl A_w_1 w_1 c_w_1, sl A_w_2 w_2 c_w_2] 26 :: Fz F W :: cs)) (fun w_ hM => ⟨hM.drew, hM.drew.sub (.cons_cons _ (.cons_cons _ (.refl _)))⟩) ?_
   refine oQ [oT 0] [(57, vP b1 1), (1, vP b1 0)] (by kernel_rfl) ?_
   refine ops_load (d := some 58) (an := [.v (sl A_w_1 w_1 c_w_1)]) (evs := [ld b1 1 (sl A_w_1 w_1 c_w_1)]) (v := sl A_w_1 w_1 c_w_1) ⟨by kernel_rfl⟩ (fun w_ hM => ⟨hM.cell 0 rfl rfl, rfl⟩) ?_
   refine oQ [oT 2, oT 3] [(60, vP b1 1), (59, vI (w_1.length : Int))] (by kernel_rfl) ?_
   refine ops_load (d := some 61) (an := [.v (sl A_w_1 w_1 c_w_1)]) (evs := [ld b1 1 (sl A_w_1 w_1 c_w_1)]) (v := sl A_w_1 w_1 c_w_1) ⟨by kernel_rfl⟩ (fun w_ hM => ⟨hM.cell 0 rfl rfl, rfl⟩) ?_
   refine oQ [oT 5, oT 6, oT 7, oT 8] [(3, .bool (decide ((w_1.length : Int) < 256))), (2, vI (w_1.length : Int))] (by kernel_rfl) ?_
   refine ops_nil (fin_then (st_ret ?_))
   have hq_ := Option.some.inj hp
   obtain ⟨hr0_, hq_⟩ := Prod.mk.inj hq_
   have hr1_ := hq_
   subst hr0_
   subst hr1_
   refine fin_ret [.tmp 2, .tmp 3] [vI (w_1.length : Int), .bool (decide ((w_1.length : Int) < 256))] rfl rfl (fun w_ hM => (.tmp rfl (.tmp rfl .nil))) (fun w_ hM => ?_)
   exact ⟨trivial, rfl, hM.pick 2 [1] (by kernel_rfl) (by decide) rfl⟩
  ·
   intro HJ2
   refine st_seq (st_seq (st_region [oF 0, oF 1, oF 2, oF 3] (by rfl) ?_))
   refine oQ [oF 0] [(38, vP b1 1), (1, vP b1 0), (4, sl (sa g12) l13 l2.length)] (by kernel_rfl) ?_
   refine ops_mem (d := some 39) (an := [.v (sl A_w_1 w_1 c_w_1)]) (evs := [ld b1 1 (sl A_w_1 w_1 c_w_1)]) (v := sl A_w_1 w_1 c_w_1) ⟨by kernel_rfl⟩ (fun w_ hM hS => ⟨w_, ⟨hM.cell 0 rfl rfl, rfl⟩, hM, trivial⟩) ?_
   refine oQ [oF 2, oF 3] [(41, vI 0), (40, vI (w_1.length : Int)), (39, sl A_w_1 w_1 c_w_1), (1, vP b1 0), (4, sl (sa g12) l13 l2.length)] (by kernel_rfl) ?_
   refine ops_nil (fin_then (st_block ?_))
   obtain ⟨r3, hl3, hk3⟩ := obind hp
   refine st_loopP (σ := Int) (ρ := ((Int × Bool) ⊕ Unit)) (γ := Unit) hl3 () (fun s_ g_ => match s_, g_ with | i16, _ => [(1, vP b1 0), (4, sl (sa g12) l13 l2.length), (39, sl A_w_1 w_1 c_w_1), (40, vI (w_1.length : Int)), (41, vI i16)]) (fun s_ g_ => match s_, g_ with | i16, _ => Mem w0 (.blk b1 [sl A_w_0 w_0 c_w_0, sl A_w_1 w_1 c_w_1, sl A_w_2 w_2 c_w_2] 26 :: ow (sa g12) l13 l2.length 4 1 y14 :: Fz F W :: cs)) (fun s_ g_ => match s_, g_ with | i16, _ => True) trivial (look_has ⟨rfl, rfl, rfl, rfl, rfl, trivial⟩) (fun w_ hM => hM) ?_
   rintro i16 _ o3 - hs_ hd3
   have hp : (world_Free_l3 w_1 l13) i16 = some o3 := hs_
   clear hs_
   unfold world_Free_l3 at hp
   refine st_seq (st_region [oF 0] (by rfl) ?_)
   refine oQ [oF 0] [(42, .bool (decide (i16 < (w_1.length : Int)))), (1, vP b1 0), (4, sl (sa g12) l13 l2.length), (39, sl A_w_1 w_1 c_w_1), (40, vI (w_1.length : Int)), (41, vI i16)] (by kernel_rfl) ?_
   refine ops_nil (fin_then (st_seq ?_))
   refine st_if (b := decide (i16 < (w_1.length : Int))) rfl (fun hc17 => ?_) (fun hc17 => ?_)
   ·
    have hp := cnd_t hc17 hp
    refine st_skip (fin_then ?_)
    refine st_join1 (σ := Unit) (L := fun _ => [(1, vP b1 0), (4, sl (sa g12) l13 l2.length), (39, sl A_w_1 w_1 c_w_1), (40, vI (w_1.length : Int)), (41, vI i16)]) (N := fun _ => Mem w0 (.blk b1 [sl A_w_0 w_0 c_w_0, sl A_w_1 w_1 c_w_1, sl A_w_2 w_2 c_w_2] 26 :: ow (sa g12) l13 l2.length 4 1 y14 :: Fz F W :: cs)) (I := fun _ => ((world_Free_j4 i16) = some o3)) ?_ ?_
    ·
     rintro _ hp
     unfold world_Free_j4 at hp
     refine st_region [oF 0, oF 1] (by rfl) ?_
     refine oQ [oF 0, oF 1] [(41, vI (IntKind.i64.wrap (i16 + 1))), (1, vP b1 0), (4, sl (sa g12) l13 l2.length), (39, sl A_w_1 w_1 c_w_1), (40, vI (w_1.length : Int))] (by kernel_rfl) ?_
     refine ops_nil ?_
     exact fin_again (IntKind.i64.wrap (i16 + 1)) () (Option.some.inj hp).symm trivial (look_has ⟨rfl, rfl, rfl, rfl, rfl, trivial⟩) (fun w_ hM => hM)
    ·
     intro HJ4
     refine st_seq (st_block (st_seq (st_region [oF 0, oF 1, oF 2, oF 3, oF 4] (by rfl) ?_)))
     refine oQ [oF 0] [(43, vI i16), (1, vP b1 0), (4, sl (sa g12) l13 l2.length), (39, sl A_w_1 w_1 c_w_1), (40, vI (w_1.length : Int)), (41, vI i16)] (by kernel_rfl) ?_
     obtain ⟨x18, hv19, hp⟩ := obind hp
     obtain ⟨m20, hm21, hx22⟩ := idx_some hv19
     have hl25 := (List.getElem?_eq_some_iff.1 hx22).1
     obtain ⟨ad26, vs23, hA27, hr24, hq28⟩ := RdS.el h_w_1 hx22
     obtain rfl := hr24
     refine ops_val (op := (.indexAddr 23 (.tmp 39) (.tmp 41))) (d := some 44) (v := .pointer (some (ad26.add (m20 * 1)))) ⟨by kernel_rfl⟩ (run_indexA hA27 Tryz.underlying23 (z := 1) (by kernel_rfl) rfl rfl hm21 hl25) ?_
     refine ops_mem (d := some 45) (an := [.v (vI x18)]) (evs := [.load (ad26.add (m20 * 1)) (vI x18)]) (v := vI x18) ⟨by kernel_rfl⟩ (fun w_ hM hS => ⟨w_, ⟨hM.elcell 2 rfl hq28 0 rfl, rfl⟩, hM, trivial⟩) ?_
     refine oQ [oF 3, oF 4] [(8, vI x18), (7, vI i16), (1, vP b1 0), (4, sl (sa g12) l13 l2.length), (39, sl A_w_1 w_1 c_w_1), (40, vI (w_1.length : Int)), (41, vI i16)] (by kernel_rfl) ?_
     refine ops_nil (fin_then (st_seq (st_region [oF 0, oF 1, oF 2, oF 3, oF 4, oF 5, oF 6, oF 7, oF 8] (by rfl) ?_)))
     refine oQ [oF 0, oF 1] [(47, vI i16), (46, sl (sa g12) l13 l2.length), (8, vI x18), (7, vI i16), (1, vP b1 0), (4, sl (sa g12) l13 l2.length), (39, sl A_w_1 w_1 c_w_1), (40, vI (w_1.length : Int)), (41, vI i16)] (by kernel_rfl) ?_
     obtain ⟨x29, hv30, hp⟩ := obind hp
     obtain ⟨m31, hm32, hx33⟩ := idx_some hv30
     have hl36 := (List.getElem?_eq_some_iff.1 hx33).1
     obtain ⟨vs34, hr35, hq37⟩ := h15.at_ m31 x29 hx33
     obtain rfl := hr35
     refine ops_val (op := (.indexAddr 101 (.tmp 46) (.tmp 47))) (d := some 48) (v := vP g12 (m31 * 1)) ⟨by kernel_rfl⟩ (run_indexRow Tryz.underlying101 (z := 1) (by kernel_rfl) rfl rfl hm32 hl36 rfl) ?_
     refine ops_mem (d := some 49) (an := [.v (.bool x29)]) (evs := [.load ⟨g12, m31 * 1, none⟩ (.bool x29)]) (v := .bool x29) ⟨by kernel_rfl⟩ (fun w_ hM hS => ⟨w_, ⟨hM.ocell 1 rfl (hq37 0 _ rfl), rfl⟩, hM, trivial⟩) ?_
     refine oQ [oF 4, oF 5] [(51, .bool (!x29)), (8, vI x18), (7, vI i16), (1, vP b1 0), (4, sl (sa g12) l13 l2.length), (39, sl A_w_1 w_1 c_w_1), (40, vI (w_1.length : Int)), (41, vI i16)] (by kernel_rfl) ?_
     refine ops_bool (t := !x29) (l1 := [(51, .bool true), (8, vI x18), (7, vI i16), (1, vP b1 0), (4, sl (sa g12) l13 l2.length), (39, sl A_w_1 w_1 c_w_1), (40, vI (w_1.length : Int)), (41, vI i16)]) (l2 := [(51, .bool false), (8, vI x18), (7, vI i16), (1, vP b1 0), (4, sl (sa g12) l13 l2.length), (39, sl A_w_1 w_1 c_w_1), (40, vI (w_1.length : Int)), (41, vI i16)]) (fun h => by rw [h]) (fun h => by rw [h]) (fun hc38 => ?_) (fun hc38 => ?_)
     ·
      have hp := cnd_t hc38 hp
      refine oQ [oF 6, oF 7, oF 8] [(54, .bool (decide (x18 < 1073741824))), (7, vI i16), (1, vP b1 0), (4, sl (sa g12) l13 l2.length), (39, sl A_w_1 w_1 c_w_1), (40, vI (w_1.length : Int)), (41, vI i16)] (by kernel_rfl) ?_
      refine ops_nil (fin_then ?_)
      refine st_if (b := decide (x18 < 1073741824)) rfl (fun hc39 => ?_) (fun hc39 => ?_)
      ·
       have hp := cnd_t hc39 hp
       refine st_seq (st_region [oF 0, oF 1, oF 2] (by rfl) ?_)
       refine oQ [oF 0, oF 1, oF 2] [(3, .bool true), (2, vI i16)] (by kernel_rfl) ?_
       refine ops_nil (fin_then (st_ret (fin_ret_block (fin_ret_then (fin_ret_then (fin_ret_block (fin_ret_then ?_)))))))
       obtain hq_ := Option.some.inj hp
       subst hq_
       obtain hq_ := hd3 _ rfl
       subst hq_
       have hp : some (i16, true) = some (i9001, t9002) := hk3
       have hq_ := Option.some.inj hp
       obtain ⟨hr0_, hq_⟩ := Prod.mk.inj hq_
       have hr1_ := hq_
       subst hr0_
       subst hr1_
       refine fin_ret [.tmp 2, .tmp 3] [vI i16, .bool true] rfl rfl (fun w_ hM => (.tmp rfl (.tmp rfl .nil))) (fun w_ hM => ?_)
       exact ⟨trivial, rfl, hM.pick 3 [2] (by kernel_rfl) (by decide) rfl⟩
      ·
       have hp := cnd_f hc39 hp
       refine st_skip (fin_block ?_)
       exact fin_join HJ4 () hp (look_has ⟨rfl, rfl, rfl, rfl, rfl, trivial⟩) (fun w_ hM => hM)
     ·
      have hp := cnd_f hc38 hp
      refine oQ [oF 6, oF 7, oF 8] [(54, .bool false), (7, vI i16), (1, vP b1 0), (4, sl (sa g12) l13 l2.length), (39, sl A_w_1 w_1 c_w_1), (40, vI (w_1.length : Int)), (41, vI i16)] (by kernel_rfl) ?_
      refine ops_nil (fin_then (st_false rfl (st_skip (fin_block ?_))))
      exact fin_join HJ4 () hp (look_has ⟨rfl, rfl, rfl, rfl, rfl, trivial⟩) (fun w_ hM => hM)
   ·
    have hp := cnd_f hc17 hp
    refine st_exit (fin_exit_then (fin_exit_then (fin_exit ?_)))
    obtain hq_ := Option.some.inj hp
    subst hq_
    obtain hq_ := hd3 _ rfl
    subst hq_
    have hp : (world_Free_j2 w_1) = some (i9001, t9002) := hk3
    exact fin_join HJ2 () hp (look_has ⟨rfl, trivial⟩) (fun w_ hM => hM.pick 3 [0, 2] (by kernel_rfl) (by decide) rfl)
 ·
  intro HJ1
  refine st_seq (st_seq (st_region [oF 0, oF 1, oF 2, oF 3] (by rfl) ?_))
  refine oQ [oF 0] [(13, vP b1 2), (4, sl (sa g12) l2 l2.length), (1, vP b1 0)] (by kernel_rfl) ?_
  refine ops_mem (d := some 14) (an := [.v (sl A_w_2 w_2 c_w_2)]) (evs := [ld b1 2 (sl A_w_2 w_2 c_w_2)]) (v := sl A_w_2 w_2 c_w_2) ⟨by kernel_rfl⟩ (fun w_ hM hS => ⟨w_, ⟨hM.cell 1 rfl rfl, rfl⟩, hM, trivial⟩) ?_
  refine oQ [oF 2, oF 3] [(16, vI 0), (15, vI (w_2.length : Int)), (14, sl A_w_2 w_2 c_w_2), (4, sl (sa g12) l2 l2.length), (1, vP b1 0)] (by kernel_rfl) ?_
  refine ops_nil (fin_then (st_block ?_))
  obtain ⟨r5, hl5, hk5⟩ := obind hp
  refine st_loopP (σ := (List Bool) × Int) (ρ := (List Bool)) (γ := (List Value)) hl5 y9 (fun s_ g_ => match s_, g_ with | (l40, i43), y41 => [(1, vP b1 0), (4, sl (sa g12) l40 l2.length), (14, sl A_w_2 w_2 c_w_2), (15, vI (w_2.length : Int)), (16, vI i43)]) (fun s_ g_ => match s_, g_ with | (l40, i43), y41 => Mem w0 (.blk b1 [sl A_w_0 w_0 c_w_0, sl A_w_1 w_1 c_w_1, sl A_w_2 w_2 c_w_2] 26 :: ow (sa g12) l40 l2.length 4 1 y41 :: Fz F W :: cs)) (fun s_ g_ => match s_, g_ with | (l40, i43), y41 => (RepL Rep.bool F W l40 y41)) h11 (look_has ⟨rfl, rfl, rfl, rfl, rfl, trivial⟩) (fun w_ hM => hM.pick 3 [1, 0, 2] (by kernel_rfl) (by decide) rfl) ?_
  rintro ⟨l40, i43⟩ y41 o5 h42 hs_ hd5
  have hp : (world_Free_l5 w_2) l40 i43 = some o5 := hs_
  clear hs_
  unfold world_Free_l5 at hp
  refine st_seq (st_region [oF 0] (by rfl) ?_)
  refine oQ [oF 0] [(17, .bool (decide (i43 < (w_2.length : Int)))), (1, vP b1 0), (4, sl (sa g12) l40 l2.length), (14, sl A_w_2 w_2 c_w_2), (15, vI (w_2.length : Int)), (16, vI i43)] (by kernel_rfl) ?_
  refine ops_nil (fin_then (st_seq ?_))
  refine st_if (b := decide (i43 < (w_2.length : Int))) rfl (fun hc44 => ?_) (fun hc44 => ?_)
  ·
   have hp := cnd_t hc44 hp
   refine st_skip (fin_then ?_)
   refine st_join1 (σ := (List Bool) × (List Value)) (L := fun x_ => match x_ with | (l45, y46) => [(1, vP b1 0), (4, sl (sa g12) l45 l2.length), (14, sl A_w_2 w_2 c_w_2), (15, vI (w_2.length : Int)), (16, vI i43)]) (N := fun x_ => match x_ with | (l45, y46) => Mem w0 (.blk b1 [sl A_w_0 w_0 c_w_0, sl A_w_1 w_1 c_w_1, sl A_w_2 w_2 c_w_2] 26 :: ow (sa g12) l45 l2.length 4 1 y46 :: Fz F W :: cs)) (I := fun x_ => match x_ with | (l45, y46) => ((world_Free_j6 i43) l45 = some o5) ∧ (RepL Rep.bool F W l45 y46)) ?_ ?_
   ·
    rintro ⟨l45, y46⟩ ⟨hp, h47⟩
    unfold world_Free_j6 at hp
    refine st_region [oF 0, oF 1] (by rfl) ?_
    refine oQ [oF 0, oF 1] [(16, vI (IntKind.i64.wrap (i43 + 1))), (1, vP b1 0), (4, sl (sa g12) l45 l2.length), (14, sl A_w_2 w_2 c_w_2), (15, vI (w_2.length : Int))] (by kernel_rfl) ?_
    refine ops_nil ?_
    exact fin_again (l45, IntKind.i64.wrap (i43 + 1)) y46 (Option.some.inj hp).symm h47 (look_has ⟨rfl, rfl, rfl, rfl, rfl, trivial⟩) (fun w_ hM => hM)
   ·
    intro HJ6
    refine st_seq (st_block (st_seq (st_region [oF 0, oF 1, oF 2, oF 3] (by rfl) ?_)))
    obtain ⟨x48, hv49, hp⟩ := obind hp
    obtain ⟨m50, hm51, hx52⟩ := idx_some hv49
    have hl55 := (List.getElem?_eq_some_iff.1 hx52).1
    obtain ⟨ad56, vs53, hA57, hr54, hq58⟩ := RdS.el h_w_2 hx52
    obtain ⟨A59, c60, rfl, h61⟩ := dec_api_Item hr54
    refine ops_val (op := (.indexAddr 24 (.tmp 14) (.tmp 16))) (d := some 18) (v := .pointer (some (ad56.add (m50 * 3)))) ⟨by kernel_rfl⟩ (run_indexA hA57 Tryz.underlying24 (z := 3) (by kernel_rfl) rfl rfl hm51 hl55) ?_
    refine ops_mem (d := some 19) (an := [.v (vI x48.Ent.N), .v (vI x48.Ent.Gen), .v (sl A59 x48.Comps c60)]) (evs := [.load (ad56.add (m50 * 3)) (vI x48.Ent.N), .load ((ad56.add (m50 * 3)).add 1) (vI x48.Ent.Gen), .load ((ad56.add (m50 * 3)).add 2) (sl A59 x48.Comps c60)]) (v := .agg #[vI x48.Ent.N, vI x48.Ent.Gen, sl A59 x48.Comps c60]) ⟨by kernel_rfl⟩ (fun w_ hM hS => ⟨w_, ⟨hM.elcell 2 rfl hq58 0 rfl, hM.elcell 2 rfl hq58 1 rfl, hM.elcell 2 rfl hq58 2 rfl, rfl⟩, hM, trivial⟩) ?_
    refine ops_newB (d := some 6) [vI 0, vI 0, .slice none 0 0] 61 (fun b62 => ⟨by kernel_rfl⟩) (fun w_ hM hS => trivial) (fun b62 => ?_)
    refine ops_store (an := []) (evs := [sr b62 0 (vI x48.Ent.N), sr b62 1 (vI x48.Ent.Gen), sr b62 2 (sl A59 x48.Comps c60)]) ⟨by kernel_rfl⟩ (fun w_ hM hS => let ⟨w', he, h'⟩ := hM.evs_stores [vI x48.Ent.N, vI x48.Ent.Gen, sl A59 x48.Comps c60] 0 rfl 0 (Nat.le_of_ble_eq_true rfl); ⟨w', he, h', trivial⟩) ?_
    refine ops_nil (fin_then (st_seq (st_region [oF 0, oF 1, oF 2, oF 3, oF 4, oF 5, oF 6, oF 7, oF 8, oF 9, oF 10, oF 11] (by rfl) ?_)))
    refine oQ [oF 0, oF 1] [(21, vP b62 0), (6, vP b62 0), (1, vP b1 0), (4, sl (sa g12) l40 l2.length), (14, sl A_w_2 w_2 c_w_2), (15, vI (w_2.length : Int)), (16, vI i43)] (by kernel_rfl) ?_
    refine ops_mem (d := some 22) (an := [.v (vI x48.Ent.N)]) (evs := [ld b62 0 (vI x48.Ent.N)]) (v := vI x48.Ent.N) ⟨by kernel_rfl⟩ (fun w_ hM hS => ⟨w_, ⟨hM.cell 0 rfl rfl, rfl⟩, hM, trivial⟩) ?_
    refine oQ [oF 3, oF 4] [(24, .bool (decide (0 ≤ x48.Ent.N))), (6, vP b62 0), (1, vP b1 0), (4, sl (sa g12) l40 l2.length), (14, sl A_w_2 w_2 c_w_2), (15, vI (w_2.length : Int)), (16, vI i43)] (by kernel_rfl) ?_
    refine ops_bool (t := decide (0 ≤ x48.Ent.N)) (l1 := [(24, .bool true), (6, vP b62 0), (1, vP b1 0), (4, sl (sa g12) l40 l2.length), (14, sl A_w_2 w_2 c_w_2), (15, vI (w_2.length : Int)), (16, vI i43)]) (l2 := [(24, .bool false), (6, vP b62 0), (1, vP b1 0), (4, sl (sa g12) l40 l2.length), (14, sl A_w_2 w_2 c_w_2), (15, vI (w_2.length : Int)), (16, vI i43)]) (fun h => by rw [h]) (fun h => by rw [h]) (fun hc63 => ?_) (fun hc63 => ?_)
    ·
     have hp := cnd_t hc63 hp
     refine oQ [oF 5, oF 6] [(26, vP b62 0), (24, .bool true), (6, vP b62 0), (1, vP b1 0), (4, sl (sa g12) l40 l2.length), (14, sl A_w_2 w_2 c_w_2), (15, vI (w_2.length : Int)), (16, vI i43)] (by kernel_rfl) ?_
     refine ops_mem (d := some 27) (an := [.v (vI x48.Ent.N)]) (evs := [ld b62 0 (vI x48.Ent.N)]) (v := vI x48.Ent.N) ⟨by kernel_rfl⟩ (fun w_ hM hS => ⟨w_, ⟨hM.cell 0 rfl rfl, rfl⟩, hM, trivial⟩) ?_
     refine oQ [oF 8, oF 9, oF 10, oF 11] [(31, .bool (decide (x48.Ent.N < (l40.length : Int)))), (6, vP b62 0), (1, vP b1 0), (4, sl (sa g12) l40 l2.length), (14, sl A_w_2 w_2 c_w_2), (15, vI (w_2.length : Int)), (16, vI i43)] (by kernel_rfl) ?_
     refine ops_nil (fin_then ?_)
     refine st_if (b := decide (x48.Ent.N < (l40.length : Int))) rfl (fun hc64 => ?_) (fun hc64 => ?_)
     ·
      have hp := cnd_t hc64 hp
      refine st_region [oF 0, oF 1, oF 2, oF 3, oF 4, oF 5] (by rfl) ?_
      refine oQ [oF 0, oF 1, oF 2] [(34, vP b62 0), (32, sl (sa g12) l40 l2.length), (1, vP b1 0), (4, sl (sa g12) l40 l2.length), (14, sl A_w_2 w_2 c_w_2), (15, vI (w_2.length : Int)), (16, vI i43)] (by kernel_rfl) ?_
      refine ops_mem (d := some 35) (an := [.v (vI x48.Ent.N)]) (evs := [ld b62 0 (vI x48.Ent.N)]) (v := vI x48.Ent.N) ⟨by kernel_rfl⟩ (fun w_ hM hS => ⟨w_, ⟨hM.cell 0 rfl rfl, rfl⟩, hM, trivial⟩) ?_
      obtain ⟨x65, hv66, hp⟩ := obind hp
      obtain ⟨m67, hm68, hx69⟩ := idx_some hv66
      have hl72 := (List.getElem?_eq_some_iff.1 hx69).1
      obtain ⟨vs70, hr71, hq73⟩ := h42.at_ m67 x65 hx69
      obtain rfl := hr71
      refine ops_val (op := (.indexAddr 101 (.tmp 32) (.tmp 35))) (d := some 36) (v := vP g12 (m67 * 1)) ⟨by kernel_rfl⟩ (run_indexRow Tryz.underlying101 (z := 1) (by kernel_rfl) rfl rfl hm68 hl72 rfl) ?_
      refine oQ [] [(36, vP g12 (m67 * 1)), (1, vP b1 0), (4, sl (sa g12) l40 l2.length), (14, sl A_w_2 w_2 c_w_2), (15, vI (w_2.length : Int)), (16, vI i43)] (by kernel_rfl) ?_
      obtain ⟨l74, hv75, hp⟩ := obind hp
      obtain ⟨m76, hm77, hl78, he79⟩ := upd_some hv75
      obtain rfl : m67 = m76 := by have := hm68; omega
      have hl80 : l40.length = l74.length := by rw [he79, List.length_set]
      obtain ⟨y81, hy82⟩ : ∃ y_, setAll y41 (m67 * 1 + 0) [.bool true] = y_ := ⟨_, rfl⟩
      have h83 : RepL Rep.bool F W l74 y81 := by rw [he79, ← hy82]; exact RepL.set h42 (List.getElem?_eq_getElem hl78) (fun vs_ hr_ _ => by obtain rfl := hr_; exact ⟨rfl, Nat.le_of_ble_eq_true rfl⟩)
      refine ops_store (an := []) (evs := [.store ⟨g12, m67 * 1, none⟩ (.bool true)]) ⟨by kernel_rfl⟩ (fun w_ hM hS => let ⟨w', he, h'⟩ := hM.ostore' 2 rfl (m67 * 1 + 0) [.bool true] (by have z_ : y41.length = l40.length * 1 := h42.len; have y_ : (m67 + 1) * 1 ≤ l40.length * 1 := Nat.mul_le_mul_right _ hl78; rw [Nat.add_mul] at y_; simp only [List.length_cons, List.length_nil]; omega) hl80 hy82; ⟨w', he, h', trivial⟩) ?_
      refine ops_conv (l' := [(36, vP g12 (m67 * 1)), (1, vP b1 0), (4, sl (sa g12) l74 l2.length), (14, sl A_w_2 w_2 c_w_2), (15, vI (w_2.length : Int)), (16, vI i43)]) (M' := Mem w0 (.blk b62 [vI x48.Ent.N, vI x48.Ent.Gen, sl A59 x48.Comps c60] 61 :: .blk b1 [sl A_w_0 w_0 c_w_0, sl A_w_1 w_1 c_w_1, sl A_w_2 w_2 c_w_2] 26 :: ow (sa g12) l74 l2.length 4 1 y81 :: Fz F W :: cs)) (by first | rfl | ((try dsimp only [sl, ow]); rw [hl80])) (fun w_ hM => by first | exact hM | ((try dsimp only [sl, ow] at hM ⊢); rw [hl80] at hM; exact hM)) ?_
      refine ops_nil (fin_block ?_)
      exact fin_join HJ6 (l74, y81) ⟨hp, h83⟩ (look_has ⟨rfl, rfl, rfl, rfl, rfl, trivial⟩) (fun w_ hM => hM.pick 4 [1, 2, 3] (by kernel_rfl) (by decide) rfl)
     ·
      have hp := cnd_f hc64 hp
      refine st_skip (fin_block ?_)
      exact fin_join HJ6 (l40, y41) ⟨hp, h42⟩ (look_has ⟨rfl, rfl, rfl, rfl, rfl, trivial⟩) (fun w_ hM => hM.pick 4 [1, 2, 3] (by kernel_rfl) (by decide) rfl)
    ·
     have hp := cnd_f hc63 hp
     refine oQ [oF 5, oF 6, oF 7, oF 8, oF 9, oF 10, oF 11] [(31, .bool false), (6, vP b62 0), (1, vP b1 0), (4, sl (sa g12) l40 l2.length), (14, sl A_w_2 w_2 c_w_2), (15, vI (w_2.length : Int)), (16, vI i43)] (by kernel_rfl) ?_
     refine ops_nil (fin_then (st_false rfl (st_skip (fin_block ?_))))
     exact fin_join HJ6 (l40, y41) ⟨hp, h42⟩ (look_has ⟨rfl, rfl, rfl, rfl, rfl, trivial⟩) (fun w_ hM => hM.pick 4 [1, 2, 3] (by kernel_rfl) (by decide) rfl)
  ·
   have hp := cnd_f hc44 hp
   refine st_exit (fin_exit_then (fin_exit_then (fin_exit ?_)))
   obtain hq_ := Option.some.inj hp
   subst hq_
   obtain hq_ := hd5 _ rfl
   subst hq_
   have hp : (world_Free_j1 w_1) l40 = some (i9001, t9002) := hk5
   exact fin_join HJ1 (l40, y41) ⟨hp, h42⟩ (look_has ⟨rfl, rfl, trivial⟩) (fun w_ hM => hM)
theorem kind_Copy_ok (w0 w : World) (cs : List Chunk) (F : Nat → Prop) (W : World) (A_l : Option Addr) (c_l : Nat) (l : List api_Kind) (hM0 : Mem w0 (Fz F W :: cs) w) (h_l : RdS R_api_Kind F W A_l c_l l) (l9003 : List api_Kind) (hp : kind_Copy l = some l9003) : Calls Tryz.prog 61 #[sl A_l l c_l] w fun e w' => ∃ (A9001 : Option Addr), ∃ (c9002 : Nat), ∃ (y9004 : List Value), ∃ (F9006 : Nat → Prop), ∃ (W9007 : World), ((RepL R_api_Kind F9006 W9007 l9003 y9004) ∧ (Ext w0 F W F9006 W9007)) ∧ e = .returned (sl A9001 l9003 c9002) ∧ Mem w0 (ow A9001 l9003 c9002 86 2 y9004 :: Fz F9006 W9007 :: cs) w' := by
 unfold kind_Copy at hp
 refine sx_calls Tryz.func61 rfl (n := 27) (by kernel_rfl) (l := [(0, sl A_l l c_l)]) rfl (by rfl) hM0 ?_
 refine st_seq (st_region [oF 0] (by rfl) ?_)
 refine oQ [oF 0] [(0, sl A_l l c_l)] (by kernel_rfl) ?_
 refine ops_nil (fin_then (st_seq (st_region [oF 0, oF 1, oF 2, oF 3] (by rfl) ?_)))
 refine oQ [oF 0, oF 1] [(7, vI (l.length : Int)), (0, sl A_l l c_l)] (by kernel_rfl) ?_
 obtain ⟨l1, hv2, hp⟩ := obind hp
 obtain ⟨m3, hm4, he5, hb6⟩ := mk_some hv2
 have hl7 : l1.length = m3 := by rw [he5, List.length_replicate]
 obtain ⟨y8, hy9⟩ : ∃ y_, (Sx.madeOf [.string ByteArray.empty, .slice none 0 0] (l1.length * 2)).toList = y_ := ⟨_, rfl⟩
 have h10 : RepL R_api_Kind F W l1 y8 := by rw [← hy9, hl7, he5]; exact RepL.made (enc_api_Kind (RdS.empty _)) (by decide) _
 refine ops_makeO (t := 22) (x := (Go.Operand.tmp 7)) (y := (Go.Operand.tmp 7)) (d := some 8) (nn := l1.length) (z := 2) (bytes := 40) (xs := y8) (zv := .agg #[.string ByteArray.empty, .slice none 0 0]) ⟨by kernel_rfl⟩ rfl rfl (by rw [hl7]; exact hm4) (by rw [hl7]; exact hm4) Tryz.underlying22 (by kernel_rfl) (by rw [hl7]; exact hb6) (by rfl) hy9 (fun _ _ _ hS h' => trivial) (fun g11 => ?_)
 refine oQ [oF 3] [(3, sl (sa g11) l1 l1.length), (0, sl A_l l c_l)] (by kernel_rfl) ?_
 refine ops_nil (fin_then ?_)
 refine st_join1 (σ := (List api_Kind) × (List Value) × (Nat → Prop) × World) (L := fun x_ => match x_ with | (l12, y13, F15, W16) => [(3, sl (sa g11) l12 l1.length)]) (N := fun x_ => match x_ with | (l12, y13, F15, W16) => Mem w0 (ow (sa g11) l12 l1.length 86 2 y13 :: Fz F15 W16 :: cs)) (I := fun x_ => match x_ with | (l12, y13, F15, W16) => (kind_Copy_j1 l12 = some l9003) ∧ (RepL R_api_Kind F15 W16 l12 y13) ∧ (Ext w0 F W F15 W16)) ?_ ?_
 ·
  rintro ⟨l12, y13, F15, W16⟩ ⟨hp, h14, hx1⟩
  unfold kind_Copy_j1 at hp
  refine st_seq (st_region [oF 0, oF 1] (by rfl) ?_)
  refine oQ [oF 0, oF 1] [(2, sl (sa g11) l12 l1.length)] (by kernel_rfl) ?_
  refine ops_nil (fin_then (st_ret ?_))
  have hq_ := Option.some.inj hp
  have hr0_ := hq_
  subst hr0_
  refine fin_ret [.tmp 2] [sl (sa g11) l12 l1.length] rfl rfl (fun w_ hM => (.tmp rfl .nil)) (fun w_ hM => ?_)
  exact ⟨(sa g11), l1.length, y13, F15, W16, ⟨h14, hx1⟩, rfl, hM⟩
 ·
  intro HJ1
  refine st_seq (st_seq (st_region [oF 0, oF 1, oF 2] (by rfl) ?_))
  refine oQ [oF 0, oF 1, oF 2] [(11, vI 0), (10, vI (l.length : Int)), (9, sl A_l l c_l), (3, sl (sa g11) l1 l1.length)] (by kernel_rfl) ?_
  refine ops_nil (fin_then (st_block ?_))
  obtain ⟨r2, hl2, hk2⟩ := obind hp
  refine st_loopP (σ := (List api_Kind) × Int) (ρ := (List api_Kind)) (γ := (List Value) × (Nat → Prop) × World) hl2 (y8, F, W) (fun s_ g_ => match s_, g_ with | (l17, i20), (y18, F21, W22) => [(3, sl (sa g11) l17 l1.length), (9, sl A_l l c_l), (10, vI (l.length : Int)), (11, vI i20)]) (fun s_ g_ => match s_, g_ with | (l17, i20), (y18, F21, W22) => Mem w0 (ow (sa g11) l17 l1.length 86 2 y18 :: Fz F21 W22 :: cs)) (fun s_ g_ => match s_, g_ with | (l17, i20), (y18, F21, W22) => (RepL R_api_Kind F21 W22 l17 y18) ∧ (Ext w0 F W F21 W22)) ⟨h10, (Ext.refl _ _ _)⟩ (look_has ⟨rfl, rfl, rfl, rfl, trivial⟩) (fun w_ hM => hM) ?_
  rintro ⟨l17, i20⟩ ⟨y18, F21, W22⟩ o2 ⟨h19, hx2⟩ hs_ hd2
  have hp : (kind_Copy_l2 l) l17 i20 = some o2 := hs_
  clear hs_
  unfold kind_Copy_l2 at hp
  have h_l := h_l.ext hx2
  refine st_seq (st_region [oF 0] (by rfl) ?_)
  refine oQ [oF 0] [(12, .bool (decide (i20 < (l.length : Int)))), (3, sl (sa g11) l17 l1.length), (9, sl A_l l c_l), (10, vI (l.length : Int)), (11, vI i20)] (by kernel_rfl) ?_
  refine ops_nil (fin_then (st_seq ?_))
  refine st_if (b := decide (i20 < (l.length : Int))) rfl (fun hc23 => ?_) (fun hc23 => ?_)
  ·
   have hp := cnd_t hc23 hp
   refine st_skip (fin_then (st_seq (st_block (st_seq (st_region [oF 0, oF 1, oF 2, oF 3, oF 4, oF 5] (by rfl) ?_)))))
   refine oQ [oF 0] [(13, vI i20), (3, sl (sa g11) l17 l1.length), (9, sl A_l l c_l), (10, vI (l.length : Int)), (11, vI i20)] (by kernel_rfl) ?_
   obtain ⟨x24, hv25, hp⟩ := obind hp
   obtain ⟨m26, hm27, hx28⟩ := idx_some hv25
   have hl31 := (List.getElem?_eq_some_iff.1 hx28).1
   obtain ⟨ad32, vs29, hA33, hr30, hq34⟩ := RdS.el h_l hx28
   obtain ⟨A35, c36, rfl, h37⟩ := dec_api_Kind hr30
   refine ops_val (op := (.indexAddr 22 (.tmp 9) (.tmp 11))) (d := some 14) (v := .pointer (some (ad32.add (m26 * 2)))) ⟨by kernel_rfl⟩ (run_indexA hA33 Tryz.underlying22 (z := 2) (by kernel_rfl) rfl rfl hm27 hl31) ?_
   refine ops_mem (d := some 15) (an := [.v (.string x24.Name), .v (sl A35 x24.Fields c36)]) (evs := [.load (ad32.add (m26 * 2)) (.string x24.Name), .load ((ad32.add (m26 * 2)).add 1) (sl A35 x24.Fields c36)]) (v := .agg #[.string x24.Name, sl A35 x24.Fields c36]) ⟨by kernel_rfl⟩ (fun w_ hM hS => ⟨w_, ⟨hM.elcell 1 rfl hq34 0 rfl, hM.elcell 1 rfl hq34 1 rfl, rfl⟩, hM, trivial⟩) ?_
   refine ops_newB (d := some 5) [.string ByteArray.empty, .slice none 0 0] 86 (fun b38 => ⟨by kernel_rfl⟩) (fun w_ hM hS => trivial) (fun b38 => ?_)
   refine oQ [oF 4] [(4, vI i20), (5, vP b38 0), (15, .agg #[.string x24.Name, sl A35 x24.Fields c36]), (3, sl (sa g11) l17 l1.length), (9, sl A_l l c_l), (10, vI (l.length : Int)), (11, vI i20)] (by kernel_rfl) ?_
   refine ops_store (an := []) (evs := [sr b38 0 (.string x24.Name), sr b38 1 (sl A35 x24.Fields c36)]) ⟨by kernel_rfl⟩ (fun w_ hM hS => let ⟨w', he, h'⟩ := hM.evs_stores [.string x24.Name, sl A35 x24.Fields c36] 0 rfl 0 (Nat.le_of_ble_eq_true rfl); ⟨w', he, h', trivial⟩) ?_
   refine ops_nil (fin_then ?_)
   refine st_region_draw [oT 0, oT 1, oT 2, oT 3, oT 4, oT 5, oF 6, oT 7, oT 8, oF 9] (Mem w0 (.blk b38 [.string x24.Name, sl A35 x24.Fields c36] 86 :: Fz F21 W22 :: cs)) (by kernel_rfl) (by kernel_rfl) (by kernel_rfl) (fun _ d _ _ _ h => by cases d <;> exact h) (M' := Mem w0 (.blk b38 [.string x24.Name, sl A35 x24.Fields c36] 86 :: ow (sa g11) l17 l1.length 86 2 y18 :: Fz F21 W22 :: cs)) (fun w_ hM => ⟨hM.drew, hM.drew.sub (.cons_cons _ (.cons _ (.cons_cons _ (.refl _))))⟩) ?_
   refine oQ [oT 0, oT 1, oT 2] [(18, vP b38 0), (17, vI i20), (16, sl (sa g11) l17 l1.length), (5, vP b38 0), (3, sl (sa g11) l17 l1.length), (9, sl A_l l c_l), (10, vI (l.length : Int)), (11, vI i20)] (by kernel_rfl) ?_
   refine ops_load (d := some 19) (an := [.v (.string x24.Name)]) (evs := [ld b38 0 (.string x24.Name)]) (v := .string x24.Name) ⟨by kernel_rfl⟩ (fun w_ hM => ⟨hM.cell 0 rfl rfl, rfl⟩) ?_
   refine oQ [oT 4] [(20, vP b38 1), (19, .string x24.Name), (17, vI i20), (16, sl (sa g11) l17 l1.length), (3, sl (sa g11) l17 l1.length), (9, sl A_l l c_l), (10, vI (l.length : Int)), (11, vI i20)] (by kernel_rfl) ?_
   refine ops_load (d := some 21) (an := [.v (sl A35 x24.Fields c36)]) (evs := [ld b38 1 (sl A35 x24.Fields c36)]) (v := sl A35 x24.Fields c36) ⟨by kernel_rfl⟩ (fun w_ hM => ⟨hM.cell 0 rfl rfl, rfl⟩) ?_
   refine oQ [] [(21, sl A35 x24.Fields c36), (19, .string x24.Name), (17, vI i20), (16, sl (sa g11) l17 l1.length), (3, sl (sa g11) l17 l1.length), (9, sl A_l l c_l), (10, vI (l.length : Int)), (11, vI i20)] (by kernel_rfl) ?_
   refine ops_conv (l' := [(21, sl A35 x24.Fields c36), (19, .string x24.Name), (17, vI i20), (16, sl (sa g11) l17 l1.length), (3, sl (sa g11) l17 l1.length), (9, sl A_l l c_l), (10, vI (l.length : Int)), (11, vI i20)]) (M' := Mem w0 (ow none ([] : List api_Field) 0 99 3 [] :: .blk b38 [.string x24.Name, sl A35 x24.Fields c36] 86 :: ow (sa g11) l17 l1.length 86 2 y18 :: Fz F21 W22 :: cs)) rfl (fun w_ h => h.onil none 99 3) ?_
   obtain ⟨l39, hv40, hp⟩ := obind hp
   obtain ⟨he41, hb42⟩ := app_some hv40
   obtain ⟨y46, h47, hs48⟩ := RdS.src h37
   obtain ⟨y43, hy44⟩ : ∃ y_, [] ++ y46 = y_ := ⟨_, rfl⟩
   have h45 : RepL R_api_Field F21 W22 l39 y43 := by rw [he41, ← hy44]; exact RepL.app (RepL.nil (R := R_api_Field)) h47
   refine ops_appendO (x := (Go.Operand.const (Go.Value.slice none 0 0))) (y := (Go.Operand.tmp 21)) (t := 84) (e := 99) (d := some 22) (n' := l39.length) (z := 3) (m := x24.Fields.length) (bytes := 32) (xs' := y43) (news := y46) (zv := .agg #[.string ByteArray.empty, vI 0, vI 0]) 0 ⟨by kernel_rfl⟩ rfl rfl Tryz.underlying84 (by kernel_rfl) (by rfl) rfl (fun w_ hM => hM.srcS 3 rfl h47 hs48) h47.len h47.one hb42 (by have z_ := congrArg List.length he41; rw [List.length_append] at z_; exact z_.symm) hy44 (fun _ _ _ _ hS h' => (by exact h'.sub (.cons _ (.cons_cons _ (.cons _ (.cons_cons _ (.refl _))))))) ?_
   rintro ⟨A49, c50⟩
   refine oQ [oT 7] [(23, .agg #[.string x24.Name, sl A49 l39 c50]), (17, vI i20), (16, sl (sa g11) l17 l1.length), (3, sl (sa g11) l17 l1.length), (9, sl A_l l c_l), (10, vI (l.length : Int)), (11, vI i20)] (by kernel_rfl) ?_
   obtain ⟨x51, hv52, hp⟩ := obind hp
   obtain ⟨m53, hm54, hx55⟩ := idx_some hv52
   have hl58 := (List.getElem?_eq_some_iff.1 hx55).1
   obtain ⟨vs56, hr57, hq59⟩ := h19.at_ m53 x51 hx55
   obtain ⟨A60, c61, rfl, h62⟩ := dec_api_Kind hr57
   refine ops_val (op := (.indexAddr 22 (.tmp 16) (.tmp 17))) (d := some 24) (v := vP g11 (m53 * 2)) ⟨by kernel_rfl⟩ (run_indexRow Tryz.underlying22 (z := 2) (by kernel_rfl) rfl rfl hm54 hl58 rfl) ?_
   refine oQ [] [(24, vP g11 (m53 * 2)), (23, .agg #[.string x24.Name, sl A49 l39 c50]), (3, sl (sa g11) l17 l1.length), (9, sl A_l l c_l), (10, vI (l.length : Int)), (11, vI i20)] (by kernel_rfl) ?_
   refine ops_ex (σ := (Nat → Prop) × World) (I := fun x_ => Ext w0 F21 W22 x_.1 x_.2 ∧ RdS R_api_Field x_.1 x_.2 A49 c50 l39) (M' := fun x_ => Mem w0 (.blk b38 [.string x24.Name, sl A35 x24.Fields c36] 86 :: ow (sa g11) l17 l1.length 86 2 y18 :: Fz x_.1 x_.2 :: cs)) (fun w_ hM => ?_) ?_
   · obtain ⟨F_, h1_, h2_, h3_⟩ := (hM.pick 4 [0, 3, 1, 2] (by kernel_rfl) (by decide) rfl : Mem w0 (ow A49 l39 c50 99 3 y43 :: Fz F21 W22 :: .blk b38 [.string x24.Name, sl A35 x24.Fields c36] 86 :: ow (sa g11) l17 l1.length 86 2 y18 :: cs) w_).freeze (z := 3) h45 rfl rfl
     exact ⟨(F_, w_), ⟨h1_, h2_⟩, h3_.pick 3 [1, 2, 0] (by kernel_rfl) (by decide) rfl⟩
   rintro ⟨F63, W64⟩ ⟨hx65, h66⟩
   have hx65 : Ext w0 F21 W22 F63 W64 := hx65
   have h66 : RdS R_api_Field F63 W64 A49 c50 l39 := h66
   have h_l := h_l.ext hx65
   have h37 := h37.ext hx65
   have h19 := h19.ext hx65
   obtain ⟨l67, hv68, hp⟩ := obind hp
   obtain ⟨m69, hm70, hl71, he72⟩ := upd_some hv68
   obtain rfl : m53 = m69 := by have := hm54; omega
   have hl73 : l17.length = l67.length := by rw [he72, List.length_set]
   obtain ⟨y74, hy75⟩ : ∃ y_, setAll y18 (m53 * 2 + 0) [.string x24.Name, sl A49 l39 c50] = y_ := ⟨_, rfl⟩
   have h76 : RepL R_api_Kind F63 W64 l67 y74 := by rw [he72, ← hy75]; exact RepL.set h19 (List.getElem?_eq_getElem hl71) (fun vs_ hr_ _ => by obtain ⟨A78, c79, rfl, h80⟩ := dec_api_Kind hr_; exact ⟨(enc_api_Kind h66), Nat.le_of_ble_eq_true rfl⟩)
   refine ops_store (an := []) (evs := [.store ⟨g11, m53 * 2, none⟩ (.string x24.Name), .store ⟨g11, m53 * 2 + 1, none⟩ (sl A49 l39 c50)]) ⟨by kernel_rfl⟩ (fun w_ hM hS => let ⟨w', he, h'⟩ := hM.ostore' 1 rfl (m53 * 2 + 0) [.string x24.Name, sl A49 l39 c50] (by have z_ : y18.length = l17.length * 2 := h19.len; have y_ : (m53 + 1) * 2 ≤ l17.length * 2 := Nat.mul_le_mul_right _ hl71; rw [Nat.add_mul] at y_; simp only [List.length_cons, List.length_nil]; omega) hl73 hy75; ⟨w', he, h', (by first | exact (Mem.fzback h' 2 rfl hx65).sub (.cons_cons _ (.cons _ (.cons_cons _ (.refl _)))) | exact (Mem.fzback h' 2 rfl (hx2.trans hx65)).sub (.cons_cons _ (.cons _ (.cons_cons _ (.refl _)))))⟩) ?_
   refine ops_conv (l' := [(24, vP g11 (m53 * 2)), (23, .agg #[.string x24.Name, sl A49 l39 c50]), (3, sl (sa g11) l67 l1.length), (9, sl A_l l c_l), (10, vI (l.length : Int)), (11, vI i20)]) (M' := Mem w0 (.blk b38 [.string x24.Name, sl A35 x24.Fields c36] 86 :: ow (sa g11) l67 l1.length 86 2 y74 :: Fz F63 W64 :: cs)) (by first | rfl | ((try dsimp only [sl, ow]); rw [hl73])) (fun w_ hM => by first | exact hM | ((try dsimp only [sl, ow] at hM ⊢); rw [hl73] at hM; exact hM)) ?_
   refine ops_nil (fin_block (fin_then (st_region [oF 0, oF 1] (by rfl) ?_)))
   refine oQ [oF 0, oF 1] [(11, vI (IntKind.i64.wrap (i20 + 1))), (3, sl (sa g11) l67 l1.length), (9, sl A_l l c_l), (10, vI (l.length : Int))] (by kernel_rfl) ?_
   refine ops_nil ?_
   exact fin_again (l67, IntKind.i64.wrap (i20 + 1)) (y74, F63, W64) (Option.some.inj hp).symm ⟨h76, (hx2.trans hx65)⟩ (look_has ⟨rfl, rfl, rfl, rfl, trivial⟩) (fun w_ hM => hM.pick 3 [1, 2] (by kernel_rfl) (by decide) rfl)
  ·
   have hp := cnd_f hc23 hp
   refine st_exit (fin_exit_then (fin_exit_then (fin_exit ?_)))
   obtain hq_ := Option.some.inj hp
   subst hq_
   obtain hq_ := hd2 _ rfl
   subst hq_
   have hp : kind_Copy_j1 l17 = some l9003 := hk2
   exact fin_join HJ1 (l17, y18, F21, W22) ⟨hp, h19, hx2⟩ (look_has ⟨rfl, trivial⟩) (fun w_ hM => hM)
theorem slices_Clone_int_int_ok (w0 w : World) (cs : List Chunk) (F : Nat → Prop) (W : World) (A_s : Option Addr) (c_s : Nat) (s : List Int) (hM0 : Mem w0 (Fz F W :: cs) w) (h_s : RdS (Rep.int .i64) F W A_s c_s s) (l9003 : List Int) (hp : slices_Clone_int_int s = some l9003) : Calls Tryz.prog 49 #[sl A_s s c_s] w fun e w' => ∃ (A9001 : Option Addr), ∃ (c9002 : Nat), ∃ (y9004 : List Value), ((RepL (Rep.int .i64) F W l9003 y9004)) ∧ e = .returned (sl A9001 l9003 c9002) ∧ Mem w0 (ow A9001 l9003 c9002 3 1 y9004 :: Fz F W :: cs) w' := by
 unfold slices_Clone_int_int at hp
 refine sx_calls Tryz.func49 rfl (n := 8) (by kernel_rfl) (l := [(0, sl A_s s c_s)]) rfl (by rfl) hM0 ?_
 refine st_seq (st_region [oF 0] (by rfl) ?_)
 refine oQ [oF 0] [(0, sl A_s s c_s)] (by kernel_rfl) ?_
 refine ops_nil (fin_then (st_seq (st_seq (st_region [oF 0, oF 1] (by rfl) ?_))))
 refine oQ [oF 0] [(3, sl A_s s c_s), (0, sl A_s s c_s)] (by kernel_rfl) ?_
 have hz2 := fun e_ => RdS.len0 h_s e_
 rcases A_s with _ | ad1
 ·
  have hp : some ([] : List Int) = some l9003 := by rw [← hp, hz2 rfl]; simp [app]
  refine oQ [oF 1] [(4, .bool true), (3, sl none s c_s), (0, sl none s c_s)] (by kernel_rfl) ?_
  refine ops_nil (fin_then (st_true rfl (st_seq (st_region [oF 0] (by rfl) ?_))))
  refine oQ [oF 0] [(2, .slice none 0 0)] (by kernel_rfl) ?_
  refine ops_nil (fin_then (st_ret (fin_ret_then ?_)))
  refine fin_conv (l' := [(2, .slice none 0 0)]) (M' := Mem w0 (ow none ([] : List Int) 0 3 1 [] :: Fz F W :: cs)) rfl (fun w_ h => h.onil none 3 1) ?_
  refine fin_conv (l' := [(2, sl none ([] : List Int) 0)]) (M' := Mem w0 (ow none ([] : List Int) 0 3 1 [] :: Fz F W :: cs)) rfl (fun _ h => h) ?_
  have hq_ := Option.some.inj hp
  have hr0_ := hq_
  subst hr0_
  refine fin_ret [.tmp 2] [sl none ([] : List Int) 0] rfl rfl (fun w_ hM => (.tmp rfl .nil)) (fun w_ hM => ?_)
  exact ⟨none, 0, [], (RepL.nil (R := (Rep.int .i64))), rfl, hM⟩
 ·
  clear hz2
  refine oQ [oF 1] [(4, .bool false), (3, sl (some ad1) s c_s), (0, sl (some ad1) s c_s)] (by kernel_rfl) ?_
  refine ops_nil (fin_then (st_false rfl (st_skip (fin_then (st_seq (st_region [oF 0, oF 1, oF 2, oF 3] (by rfl) ?_))))))
  have h3 : RepL (Rep.int .i64) F W ([] : List Int) ([]) := RepL.nil
  refine ops_new (d := some 5) (o := .cells ([] : List Value).toArray 3) (v := fun g4 => sl (sa g4) ([] : List Int) 0) (M' := fun g4 => Mem w0 (ow (sa g4) ([] : List Int) 0 3 1 [] :: Fz F W :: cs)) (fun g4 => ⟨by kernel_rfl⟩) (fun w_ hM hS => ⟨hM.onew [] 3 0 1 rfl (by decide), trivial⟩) (fun g4 => ?_)
  refine oQ [oF 1] [(6, sl (some ad1) s c_s), (5, sl (sa g4) ([] : List Int) 0)] (by kernel_rfl) ?_
  obtain ⟨l5, hv6, hp⟩ := obind hp
  obtain ⟨he7, hb8⟩ := app_some hv6
  obtain ⟨y12, h13, hs14⟩ := RdS.src h_s
  obtain ⟨y9, hy10⟩ : ∃ y_, [] ++ y12 = y_ := ⟨_, rfl⟩
  have h11 : RepL (Rep.int .i64) F W l5 y9 := by rw [he7, ← hy10]; exact RepL.app h3 h13
  refine ops_appendO (x := (Go.Operand.tmp 5)) (y := (Go.Operand.tmp 6)) (t := 23) (e := 3) (d := some 7) (n' := l5.length) (z := 1) (m := s.length) (bytes := 8) (xs' := y9) (news := y12) (zv := vI 0) 0 ⟨by kernel_rfl⟩ rfl rfl Tryz.underlying23 (by kernel_rfl) (by rfl) rfl (fun w_ hM => hM.srcS 1 rfl h13 hs14) h13.len h13.one hb8 (by have z_ := congrArg List.length he7; rw [List.length_append] at z_; exact z_.symm) hy10 (fun _ _ _ _ hS h' => trivial) ?_
  rintro ⟨A15, c16⟩
  refine oQ [oF 3] [(2, sl A15 l5 c16)] (by kernel_rfl) ?_
  refine ops_nil (fin_then (st_ret ?_))
  have hq_ := Option.some.inj hp
  have hr0_ := hq_
  subst hr0_
  refine fin_ret [.tmp 2] [sl A15 l5 c16] rfl rfl (fun w_ hM => (.tmp rfl .nil)) (fun w_ hM => ?_)
  exact ⟨A15, c16, y9, h11, rfl, hM⟩
theorem world_CopyComps_ok (w0 w : World) (cs : List Chunk) (F : Nat → Prop) (W : World) (A_l : Option Addr) (c_l : Nat) (l : List api_Comp) (hM0 : Mem w0 (Fz F W :: cs) w) (h_l : RdS R_api_Comp F W A_l c_l l) (l9003 : List api_Comp) (hp : world_CopyComps l = some l9003) : Calls Tryz.prog 62 #[sl A_l l c_l] w fun e w' => ∃ (A9001 : Option Addr), ∃ (c9002 : Nat), ∃ (y9004 : List Value), ∃ (F9006 : Nat → Prop), ∃ (W9007 : World), ((RepL R_api_Comp F9006 W9007 l9003 y9004) ∧ (Ext w0 F W F9006 W9007)) ∧ e = .returned (sl A9001 l9003 c9002) ∧ Mem w0 (ow A9001 l9003 c9002 42 2 y9004 :: Fz F9006 W9007 :: cs) w' := by
 unfold world_CopyComps at hp
 refine sx_calls Tryz.func62 rfl (n := 27) (by kernel_rfl) (l := [(0, sl A_l l c_l)]) rfl (by rfl) hM0 ?_
 refine st_seq (st_region [oF 0] (by rfl) ?_)
 refine oQ [oF 0] [(0, sl A_l l c_l)] (by kernel_rfl) ?_
 refine ops_nil (fin_then (st_seq (st_region [oF 0, oF 1, oF 2, oF 3] (by rfl) ?_)))
 refine oQ [oF 0, oF 1] [(7, vI (l.length : Int)), (0, sl A_l l c_l)] (by kernel_rfl) ?_
 obtain ⟨l1, hv2, hp⟩ := obind hp
 obtain ⟨m3, hm4, he5, hb6⟩ := mk_some hv2
 have hl7 : l1.length = m3 := by rw [he5, List.length_replicate]
 obtain ⟨y8, hy9⟩ : ∃ y_, (Sx.madeOf [vI 0, .slice none 0 0] (l1.length * 2)).toList = y_ := ⟨_, rfl⟩
 have h10 : RepL R_api_Comp F W l1 y8 := by rw [← hy9, hl7, he5]; exact RepL.made (enc_api_Comp (RdS.empty _)) (by decide) _
 refine ops_makeO (t := 27) (x := (Go.Operand.tmp 7)) (y := (Go.Operand.tmp 7)) (d := some 8) (nn := l1.length) (z := 2) (bytes := 32) (xs := y8) (zv := .agg #[vI 0, .slice none 0 0]) ⟨by kernel_rfl⟩ rfl rfl (by rw [hl7]; exact hm4) (by rw [hl7]; exact hm4) Tryz.underlying27 (by kernel_rfl) (by rw [hl7]; exact hb6) (by rfl) hy9 (fun _ _ _ hS h' => trivial) (fun g11 => ?_)
 refine oQ [oF 3] [(3, sl (sa g11) l1 l1.length), (0, sl A_l l c_l)] (by kernel_rfl) ?_
 refine ops_nil (fin_then ?_)
 refine st_join1 (σ := (List api_Comp) × (List Value) × (Nat → Prop) × World) (L := fun x_ => match x_ with | (l12, y13, F15, W16) => [(3, sl (sa g11) l12 l1.length)]) (N := fun x_ => match x_ with | (l12, y13, F15, W16) => Mem w0 (ow (sa g11) l12 l1.length 42 2 y13 :: Fz F15 W16 :: cs)) (I := fun x_ => match x_ with | (l12, y13, F15, W16) => (world_CopyComps_j1 l12 = some l9003) ∧ (RepL R_api_Comp F15 W16 l12 y13) ∧ (Ext w0 F W F15 W16)) ?_ ?_
 ·
  rintro ⟨l12, y13, F15, W16⟩ ⟨hp, h14, hx1⟩
  unfold world_CopyComps_j1 at hp
  refine st_seq (st_region [oF 0, oF 1] (by rfl) ?_)
  refine oQ [oF 0, oF 1] [(2, sl (sa g11) l12 l1.length)] (by kernel_rfl) ?_
  refine ops_nil (fin_then (st_ret ?_))
  have hq_ := Option.some.inj hp
  have hr0_ := hq_
  subst hr0_
  refine fin_ret [.tmp 2] [sl (sa g11) l12 l1.length] rfl rfl (fun w_ hM => (.tmp rfl .nil)) (fun w_ hM => ?_)
  exact ⟨(sa g11), l1.length, y13, F15, W16, ⟨h14, hx1⟩, rfl, hM⟩
 ·
  intro HJ1
  refine st_seq (st_seq (st_region [oF 0, oF 1, oF 2] (by rfl) ?_))
  refine oQ [oF 0, oF 1, oF 2] [(11, vI 0), (10, vI (l.length : Int)), (9, sl A_l l c_l), (3, sl (sa g11) l1 l1.length)] (by kernel_rfl) ?_
  refine ops_nil (fin_then (st_block ?_))
  obtain ⟨r2, hl2, hk2⟩ := obind hp
  refine st_loopP (σ := (List api_Comp) × Int) (ρ := (List api_Comp)) (γ := (List Value) × (Nat → Prop) × World) hl2 (y8, F, W) (fun s_ g_ => match s_, g_ with | (l17, i20), (y18, F21, W22) => [(3, sl (sa g11) l17 l1.length), (9, sl A_l l c_l), (10, vI (l.length : Int)), (11, vI i20)]) (fun s_ g_ => match s_, g_ with | (l17, i20), (y18, F21, W22) => Mem w0 (ow (sa g11) l17 l1.length 42 2 y18 :: Fz F21 W22 :: cs)) (fun s_ g_ => match s_, g_ with | (l17, i20), (y18, F21, W22) => (RepL R_api_Comp F21 W22 l17 y18) ∧ (Ext w0 F W F21 W22)) ⟨h10, (Ext.refl _ _ _)⟩ (look_has ⟨rfl, rfl, rfl, rfl, trivial⟩) (fun w_ hM => hM) ?_
  rintro ⟨l17, i20⟩ ⟨y18, F21, W22⟩ o2 ⟨h19, hx2⟩ hs_ hd2
  have hp : (world_CopyComps_l2 l) l17 i20 = some o2 := hs_
  clear hs_
  unfold world_CopyComps_l2 at hp
  have h_l := h_l.ext hx2
  refine st_seq (st_region [oF 0] (by rfl) ?_)
  refine oQ [oF 0] [(12, .bool (decide (i20 < (l.length : Int)))), (3, sl (sa g11) l17 l1.length), (9, sl A_l l c_l), (10, vI (l.length : Int)), (11, vI i20)] (by kernel_rfl) ?_
  refine ops_nil (fin_then (st_seq ?_))
  refine st_if (b := decide (i20 < (l.length : Int))) rfl (fun hc23 => ?_) (fun hc23 => ?_)
  ·
   have hp := cnd_t hc23 hp
   refine st_skip (fin_then (st_seq (st_block (st_seq (st_region [oF 0, oF 1, oF 2, oF 3, oF 4, oF 5] (by rfl) ?_)))))
   refine oQ [oF 0] [(13, vI i20), (3, sl (sa g11) l17 l1.length), (9, sl A_l l c_l), (10, vI (l.length : Int)), (11, vI i20)] (by kernel_rfl) ?_
   obtain ⟨x24, hv25, hp⟩ := obind hp
   obtain ⟨m26, hm27, hx28⟩ := idx_some hv25
   have hl31 := (List.getElem?_eq_some_iff.1 hx28).1
   obtain ⟨ad32, vs29, hA33, hr30, hq34⟩ := RdS.el h_l hx28
   obtain ⟨A35, c36, rfl, h37⟩ := dec_api_Comp hr30
   refine ops_val (op := (.indexAddr 27 (.tmp 9) (.tmp 11))) (d := some 14) (v := .pointer (some (ad32.add (m26 * 2)))) ⟨by kernel_rfl⟩ (run_indexA hA33 Tryz.underlying27 (z := 2) (by kernel_rfl) rfl rfl hm27 hl31) ?_
   refine ops_mem (d := some 15) (an := [.v (vI x24.Kind), .v (sl A35 x24.Vals c36)]) (evs := [.load (ad32.add (m26 * 2)) (vI x24.Kind), .load ((ad32.add (m26 * 2)).add 1) (sl A35 x24.Vals c36)]) (v := .agg #[vI x24.Kind, sl A35 x24.Vals c36]) ⟨by kernel_rfl⟩ (fun w_ hM hS => ⟨w_, ⟨hM.elcell 1 rfl hq34 0 rfl, hM.elcell 1 rfl hq34 1 rfl, rfl⟩, hM, trivial⟩) ?_
   refine ops_newB (d := some 5) [vI 0, .slice none 0 0] 42 (fun b38 => ⟨by kernel_rfl⟩) (fun w_ hM hS => trivial) (fun b38 => ?_)
   refine oQ [oF 4] [(4, vI i20), (5, vP b38 0), (15, .agg #[vI x24.Kind, sl A35 x24.Vals c36]), (3, sl (sa g11) l17 l1.length), (9, sl A_l l c_l), (10, vI (l.length : Int)), (11, vI i20)] (by kernel_rfl) ?_
   refine ops_store (an := []) (evs := [sr b38 0 (vI x24.Kind), sr b38 1 (sl A35 x24.Vals c36)]) ⟨by kernel_rfl⟩ (fun w_ hM hS => let ⟨w', he, h'⟩ := hM.evs_stores [vI x24.Kind, sl A35 x24.Vals c36] 0 rfl 0 (Nat.le_of_ble_eq_true rfl); ⟨w', he, h', trivial⟩) ?_
   refine ops_nil (fin_then ?_)
   refine st_region_draw [oT 0, oT 1, oT 2, oT 3, oT 4, oT 5, oF 6, oT 7, oT 8, oF 9] (Mem w0 (.blk b38 [vI x24.Kind, sl A35 x24.Vals c36] 42 :: Fz F21 W22 :: cs)) (by kernel_rfl) (by kernel_rfl) (by kernel_rfl) (fun _ d _ _ _ h => by cases d <;> exact h) (M' := Mem w0 (.blk b38 [vI x24.Kind, sl A35 x24.Vals c36] 42 :: ow (sa g11) l17 l1.length 42 2 y18 :: Fz F21 W22 :: cs)) (fun w_ hM => ⟨hM.drew, hM.drew.sub (.cons_cons _ (.cons _ (.cons_cons _ (.refl _))))⟩) ?_
   refine oQ [oT 0, oT 1, oT 2] [(18, vP b38 0), (17, vI i20), (16, sl (sa g11) l17 l1.length), (5, vP b38 0), (3, sl (sa g11) l17 l1.length), (9, sl A_l l c_l), (10, vI (l.length : Int)), (11, vI i20)] (by kernel_rfl) ?_
   refine ops_load (d := some 19) (an := [.v (vI x24.Kind)]) (evs := [ld b38 0 (vI x24.Kind)]) (v := vI x24.Kind) ⟨by kernel_rfl⟩ (fun w_ hM => ⟨hM.cell 0 rfl rfl, rfl⟩) ?_
   refine oQ [oT 4] [(20, vP b38 1), (19, vI x24.Kind), (17, vI i20), (16, sl (sa g11) l17 l1.length), (3, sl (sa g11) l17 l1.length), (9, sl A_l l c_l), (10, vI (l.length : Int)), (11, vI i20)] (by kernel_rfl) ?_
   refine ops_load (d := some 21) (an := [.v (sl A35 x24.Vals c36)]) (evs := [ld b38 1 (sl A35 x24.Vals c36)]) (v := sl A35 x24.Vals c36) ⟨by kernel_rfl⟩ (fun w_ hM => ⟨hM.cell 0 rfl rfl, rfl⟩) ?_
   obtain ⟨x39, hv40, hp⟩ := obind hp
   refine ops_callI (σ := (Option Addr) × Nat × (List Value)) (d := some 22) (f := 49) (args := #[sl A35 x24.Vals c36]) (v := (fun x_ => match x_ with | (A41, c42, y43) => sl A41 x39 c42)) (I := (fun x_ => match x_ with | (A41, c42, y43) => (RepL (Rep.int .i64) F21 W22 x39 y43))) (M' := (fun x_ => match x_ with | (A41, c42, y43) => Mem w0 (ow A41 x39 c42 3 1 y43 :: .blk b38 [vI x24.Kind, sl A35 x24.Vals c36] 42 :: ow (sa g11) l17 l1.length 42 2 y18 :: Fz F21 W22 :: cs))) ⟨by kernel_rfl⟩ (fun w_ hM hS => (slices_Clone_int_int_ok w0 w_ (.blk b38 [vI x24.Kind, sl A35 x24.Vals c36] 42 :: ow (sa g11) l17 l1.length 42 2 y18 :: cs) F21 W22 A35 c36 x24.Vals (hM.pick 3 [2, 0, 1] (by kernel_rfl) (by decide) rfl) h37 x39 hv40).mono (by rintro e w' ⟨A41, c42, y43, h44, rfl, h'⟩; have h' : Mem w0 (ow A41 x39 c42 3 1 y43 :: .blk b38 [vI x24.Kind, sl A35 x24.Vals c36] 42 :: ow (sa g11) l17 l1.length 42 2 y18 :: Fz F21 W22 :: cs) w' := (h'.pick 4 [0, 2, 3, 1] (by kernel_rfl) (by decide) rfl); exact ⟨(A41, c42, y43), h44, rfl, h', (by exact h'.sub (.cons _ (.cons_cons _ (.cons _ (.cons_cons _ (.refl _))))))⟩)) ?_
   rintro ⟨A41, c42, y43⟩ h44
   refine oQ [oT 7] [(23, .agg #[vI x24.Kind, sl A41 x39 c42]), (17, vI i20), (16, sl (sa g11) l17 l1.length), (3, sl (sa g11) l17 l1.length), (9, sl A_l l c_l), (10, vI (l.length : Int)), (11, vI i20)] (by kernel_rfl) ?_
   obtain ⟨x45, hv46, hp⟩ := obind hp
   obtain ⟨m47, hm48, hx49⟩ := idx_some hv46
   have hl52 := (List.getElem?_eq_some_iff.1 hx49).1
   obtain ⟨vs50, hr51, hq53⟩ := h19.at_ m47 x45 hx49
   obtain ⟨A54, c55, rfl, h56⟩ := dec_api_Comp hr51
   refine ops_val (op := (.indexAddr 27 (.tmp 16) (.tmp 17))) (d := some 24) (v := vP g11 (m47 * 2)) ⟨by kernel_rfl⟩ (run_indexRow Tryz.underlying27 (z := 2) (by kernel_rfl) rfl rfl hm48 hl52 rfl) ?_
   refine oQ [] [(24, vP g11 (m47 * 2)), (23, .agg #[vI x24.Kind, sl A41 x39 c42]), (3, sl (sa g11) l17 l1.length), (9, sl A_l l c_l), (10, vI (l.length : Int)), (11, vI i20)] (by kernel_rfl) ?_
   refine ops_ex (σ := (Nat → Prop) × World) (I := fun x_ => Ext w0 F21 W22 x_.1 x_.2 ∧ RdS (Rep.int .i64) x_.1 x_.2 A41 c42 x39) (M' := fun x_ => Mem w0 (.blk b38 [vI x24.Kind, sl A35 x24.Vals c36] 42 :: ow (sa g11) l17 l1.length 42 2 y18 :: Fz x_.1 x_.2 :: cs)) (fun w_ hM => ?_) ?_
   · obtain ⟨F_, h1_, h2_, h3_⟩ := (hM.pick 4 [0, 3, 1, 2] (by kernel_rfl) (by decide) rfl : Mem w0 (ow A41 x39 c42 3 1 y43 :: Fz F21 W22 :: .blk b38 [vI x24.Kind, sl A35 x24.Vals c36] 42 :: ow (sa g11) l17 l1.length 42 2 y18 :: cs) w_).freeze (z := 1) h44 rfl rfl
     exact ⟨(F_, w_), ⟨h1_, h2_⟩, h3_.pick 3 [1, 2, 0] (by kernel_rfl) (by decide) rfl⟩
   rintro ⟨F57, W58⟩ ⟨hx59, h60⟩
   have hx59 : Ext w0 F21 W22 F57 W58 := hx59
   have h60 : RdS (Rep.int .i64) F57 W58 A41 c42 x39 := h60
   have h_l := h_l.ext hx59
   have h37 := h37.ext hx59
   have h19 := h19.ext hx59
   obtain ⟨l61, hv62, hp⟩ := obind hp
   obtain ⟨m63, hm64, hl65, he66⟩ := upd_some hv62
   obtain rfl : m47 = m63 := by have := hm48; omega
   have hl67 : l17.length = l61.length := by rw [he66, List.length_set]
   obtain ⟨y68, hy69⟩ : ∃ y_, setAll y18 (m47 * 2 + 0) [vI x24.Kind, sl A41 x39 c42] = y_ := ⟨_, rfl⟩
   have h70 : RepL R_api_Comp F57 W58 l61 y68 := by rw [he66, ← hy69]; exact RepL.set h19 (List.getElem?_eq_getElem hl65) (fun vs_ hr_ _ => by obtain ⟨A72, c73, rfl, h74⟩ := dec_api_Comp hr_; exact ⟨(enc_api_Comp h60), Nat.le_of_ble_eq_true rfl⟩)
   refine ops_store (an := []) (evs := [.store ⟨g11, m47 * 2, none⟩ (vI x24.Kind), .store ⟨g11, m47 * 2 + 1, none⟩ (sl A41 x39 c42)]) ⟨by kernel_rfl⟩ (fun w_ hM hS => let ⟨w', he, h'⟩ := hM.ostore' 1 rfl (m47 * 2 + 0) [vI x24.Kind, sl A41 x39 c42] (by have z_ : y18.length = l17.length * 2 := h19.len; have y_ : (m47 + 1) * 2 ≤ l17.length * 2 := Nat.mul_le_mul_right _ hl65; rw [Nat.add_mul] at y_; simp only [List.length_cons, List.length_nil]; omega) hl67 hy69; ⟨w', he, h', (by first | exact (Mem.fzback h' 2 rfl hx59).sub (.cons_cons _ (.cons _ (.cons_cons _ (.refl _)))) | exact (Mem.fzback h' 2 rfl (hx2.trans hx59)).sub (.cons_cons _ (.cons _ (.cons_cons _ (.refl _)))))⟩) ?_
   refine ops_conv (l' := [(24, vP g11 (m47 * 2)), (23, .agg #[vI x24.Kind, sl A41 x39 c42]), (3, sl (sa g11) l61 l1.length), (9, sl A_l l c_l), (10, vI (l.length : Int)), (11, vI i20)]) (M' := Mem w0 (.blk b38 [vI x24.Kind, sl A35 x24.Vals c36] 42 :: ow (sa g11) l61 l1.length 42 2 y68 :: Fz F57 W58 :: cs)) (by first | rfl | ((try dsimp only [sl, ow]); rw [hl67])) (fun w_ hM => by first | exact hM | ((try dsimp only [sl, ow] at hM ⊢); rw [hl67] at hM; exact hM)) ?_
   refine ops_nil (fin_block (fin_then (st_region [oF 0, oF 1] (by rfl) ?_)))
   refine oQ [oF 0, oF 1] [(11, vI (IntKind.i64.wrap (i20 + 1))), (3, sl (sa g11) l61 l1.length), (9, sl A_l l c_l), (10, vI (l.length : Int))] (by kernel_rfl) ?_
   refine ops_nil ?_
   exact fin_again (l61, IntKind.i64.wrap (i20 + 1)) (y68, F57, W58) (Option.some.inj hp).symm ⟨h70, (hx2.trans hx59)⟩ (look_has ⟨rfl, rfl, rfl, rfl, trivial⟩) (fun w_ hM => hM.pick 3 [1, 2] (by kernel_rfl) (by decide) rfl)
  ·
   have hp := cnd_f hc23 hp
   refine st_exit (fin_exit_then (fin_exit_then (fin_exit ?_)))
   obtain hq_ := Option.some.inj hp
   subst hq_
   obtain hq_ := hd2 _ rfl
   subst hq_
   have hp : world_CopyComps_j1 l17 = some l9003 := hk2
   exact fin_join HJ1 (l17, y18, F21, W22) ⟨hp, h19, hx2⟩ (look_has ⟨rfl, trivial⟩) (fun w_ hM => hM)
end Go.Proofs.YtbfndcookgijfaaGreatDoor.W
