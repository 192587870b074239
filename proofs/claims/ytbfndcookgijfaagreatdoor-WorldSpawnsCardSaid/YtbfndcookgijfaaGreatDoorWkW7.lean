/- The Go functions come to what the plain functions tell. No condition. -/
import Derived.Test.YtbfndcookgijfaaGreatDoorProg
import Derived.Test.YtbfndcookgijfaaGreatDoorFnW
import Derived.Test.YtbfndcookgijfaaGreatDoorWkW1
import Derived.Test.YtbfndcookgijfaaGreatDoorWkW2
import Derived.Test.YtbfndcookgijfaaGreatDoorWkW4
import Derived.Test.YtbfndcookgijfaaGreatDoorWkW5
import Derived.Test.YtbfndcookgijfaaGreatDoorWkW6
namespace Go.Proofs.YtbfndcookgijfaaGreatDoor.W
open Go Go.RowKit Go.Proofs.YtbfndcookgijfaaGreatDoor.Sx
set_option linter.unusedVariables false
set_option maxHeartbeats 4000000
set_option maxRecDepth 100000
theorem cmp_isNaN_int_ok (w0 w : World) (cs : List Chunk) (F : Nat → Prop) (W : World) (x : Int) (hM0 : Mem w0 (Fz F W :: cs) w) (hp : cmp_isNaN_int x = some ()) : Calls Tryz.prog 63 #[vI x] w fun e w' => (True) ∧ e = .returned (.bool false) ∧ Mem w0 (Fz F W :: cs) w' := by
 unfold cmp_isNaN_int at hp
 refine sx_calls Tryz.func63 rfl (n := 6) (by kernel_rfl) (l := [(0, vI x)]) rfl (by rfl) hM0 ?_
 refine st_seq (st_region [oF 0] (by rfl) ?_)
 refine oQ [oF 0] [(0, vI x)] (by kernel_rfl) ?_
 refine ops_nil (fin_then (st_seq (st_region [oF 0, oF 1, oF 2, oF 3] (by rfl) ?_)))
 refine oQ [oF 0, oF 1] [(4, vI x), (3, vI x)] (by kernel_rfl) ?_
 refine ops_val (op := (.binOp Go.BinOp.neq 3 (.tmp 3) (.tmp 4) 3)) (d := some 5) (v := .bool false) ⟨by kernel_rfl⟩ (run_neq_same rfl rfl) ?_
 refine oQ [oF 3] [(2, .bool false)] (by kernel_rfl) ?_
 refine ops_nil (fin_then (st_ret ?_))
 refine fin_ret [.tmp 2] [.bool false] rfl rfl (fun w_ hM => (.tmp rfl .nil)) (fun w_ hM => ?_)
 exact ⟨trivial, rfl, hM⟩
theorem cmp_Compare_int_ok (w0 w : World) (cs : List Chunk) (F : Nat → Prop) (W : World) (x : Int) (y : Int) (hM0 : Mem w0 (Fz F W :: cs) w) (i9001 : Int) (hp : cmp_Compare_int x y = some i9001) : Calls Tryz.prog 37 #[vI x, vI y] w fun e w' => (True) ∧ e = .returned (vI i9001) ∧ Mem w0 (Fz F W :: cs) w' := by
 unfold cmp_Compare_int at hp
 refine sx_calls Tryz.func37 rfl (n := 20) (by kernel_rfl) (l := [(0, vI x), (1, vI y)]) rfl (by rfl) hM0 ?_
 refine st_seq (st_region [oF 0] (by rfl) ?_)
 refine oQ [oF 0] [(0, vI x), (1, vI y)] (by kernel_rfl) ?_
 refine ops_nil (fin_then (st_seq (st_region [oF 0, oF 1, oF 2] (by rfl) ?_)))
 refine oQ [oF 0] [(7, vI x), (0, vI x), (1, vI y)] (by kernel_rfl) ?_
 obtain ⟨_, hv1, hp⟩ := obind hp
 refine ops_callI (σ := Unit) (d := some 8) (f := 63) (args := #[vI x]) (v := (fun _ => .bool false)) (I := (fun _ => True)) (M' := (fun _ => Mem w0 (Fz F W :: cs))) ⟨by kernel_rfl⟩ (fun w_ hM hS => (cmp_isNaN_int_ok w0 w_ (cs) F W x hM   hv1).mono (by rintro e w' ⟨-, rfl, h'⟩; have h' : Mem w0 (Fz F W :: cs) w' := h'; exact ⟨(), trivial, rfl, h', trivial⟩)) ?_
 rintro _ -
 refine oQ [oF 2] [(5, .bool false), (0, vI x), (1, vI y)] (by kernel_rfl) ?_
 refine ops_nil (fin_then (st_seq (st_region [oF 0, oF 1, oF 2] (by rfl) ?_)))
 refine oQ [oF 0] [(9, vI y), (5, .bool false), (0, vI x), (1, vI y)] (by kernel_rfl) ?_
 obtain ⟨_, hv2, hp⟩ := obind hp
 refine ops_callI (σ := Unit) (d := some 10) (f := 63) (args := #[vI y]) (v := (fun _ => .bool false)) (I := (fun _ => True)) (M' := (fun _ => Mem w0 (Fz F W :: cs))) ⟨by kernel_rfl⟩ (fun w_ hM hS => (cmp_isNaN_int_ok w0 w_ (cs) F W y hM   hv2).mono (by rintro e w' ⟨-, rfl, h'⟩; have h' : Mem w0 (Fz F W :: cs) w' := h'; exact ⟨(), trivial, rfl, h', trivial⟩)) ?_
 rintro _ -
 refine oQ [oF 2] [(6, .bool false), (5, .bool false), (0, vI x), (1, vI y)] (by kernel_rfl) ?_
 refine ops_nil (fin_then (st_seq (st_seq (st_region [oF 0] (by rfl) ?_))))
 refine oQ [oF 0] [(11, .bool false), (6, .bool false), (0, vI x), (1, vI y)] (by kernel_rfl) ?_
 refine ops_nil (fin_then (st_false rfl (st_skip (fin_then (st_seq (st_seq (st_region [oF 0] (by rfl) ?_)))))))
 refine oQ [oF 0] [(13, .bool false), (0, vI x), (1, vI y)] (by kernel_rfl) ?_
 refine ops_nil (fin_then (st_false rfl (st_skip (fin_then (st_seq (st_seq (st_region [oF 0, oF 1, oF 2] (by rfl) ?_)))))))
 refine oQ [oF 0, oF 1, oF 2] [(16, .bool (decide (x < y))), (0, vI x), (1, vI y)] (by kernel_rfl) ?_
 refine ops_nil (fin_then ?_)
 refine st_if (b := decide (x < y)) rfl (fun hc3 => ?_) (fun hc3 => ?_)
 ·
  have hp := cnd_t hc3 hp
  refine st_seq (st_region [oF 0] (by rfl) ?_)
  refine oQ [oF 0] [(4, vI (-1))] (by kernel_rfl) ?_
  refine ops_nil (fin_then (st_ret (fin_ret_then ?_)))
  have hq_ := Option.some.inj hp
  have hr0_ := hq_
  subst hr0_
  refine fin_ret [.tmp 4] [vI (-1)] rfl rfl (fun w_ hM => (.tmp rfl .nil)) (fun w_ hM => ?_)
  exact ⟨trivial, rfl, hM⟩
 ·
  have hp := cnd_f hc3 hp
  refine st_skip (fin_then (st_seq (st_seq (st_region [oF 0, oF 1, oF 2] (by rfl) ?_))))
  refine oQ [oF 0, oF 1, oF 2] [(19, .bool (decide (y < x)))] (by kernel_rfl) ?_
  refine ops_nil (fin_then ?_)
  refine st_if (b := decide (y < x)) rfl (fun hc4 => ?_) (fun hc4 => ?_)
  ·
   have hp := cnd_t hc4 hp
   refine st_seq (st_region [oF 0] (by rfl) ?_)
   refine oQ [oF 0] [(4, vI 1)] (by kernel_rfl) ?_
   refine ops_nil (fin_then (st_ret (fin_ret_then ?_)))
   have hq_ := Option.some.inj hp
   have hr0_ := hq_
   subst hr0_
   refine fin_ret [.tmp 4] [vI 1] rfl rfl (fun w_ hM => (.tmp rfl .nil)) (fun w_ hM => ?_)
   exact ⟨trivial, rfl, hM⟩
  ·
   have hp := cnd_f hc4 hp
   refine st_skip (fin_then (st_seq (st_region [oF 0] (by rfl) ?_)))
   refine oQ [oF 0] [(4, vI 0)] (by kernel_rfl) ?_
   refine ops_nil (fin_then (st_ret ?_))
   have hq_ := Option.some.inj hp
   have hr0_ := hq_
   subst hr0_
   refine fin_ret [.tmp 4] [vI 0] rfl rfl (fun w_ hM => (.tmp rfl .nil)) (fun w_ hM => ?_)
   exact ⟨trivial, rfl, hM⟩
theorem world_Spawn_1_ok (w0 w : World) (cs : List Chunk) (F : Nat → Prop) (W : World) (it_0 : Int) (it_1 : Int) (A_it_2 : Option Addr) (c_it_2 : Nat) (it_2 : List api_Comp) (n : Int) (hM0 : Mem w0 (Fz F W :: cs) w) (h_it_2 : RdS R_api_Comp F W A_it_2 c_it_2 it_2) (i9001 : Int) (hp : world_Spawn_1 it_0 it_1 it_2 n = some i9001) : Calls Tryz.prog 36 #[.agg #[vI it_0, vI it_1, sl A_it_2 it_2 c_it_2], vI n] w fun e w' => (True) ∧ e = .returned (vI i9001) ∧ Mem w0 (Fz F W :: cs) w' := by
 unfold world_Spawn_1 at hp
 refine sx_calls Tryz.func36 rfl (n := 10) (by kernel_rfl) (l := [(0, .agg #[vI it_0, vI it_1, sl A_it_2 it_2 c_it_2]), (1, vI n)]) rfl (by rfl) hM0 ?_
 refine st_seq (st_region [oF 0, oF 1] (by rfl) ?_)
 refine ops_newB (d := some 2) [vI it_0, vI it_1, sl A_it_2 it_2 c_it_2] 61 (fun b1 => ⟨by kernel_rfl⟩) (fun w_ hM hS => trivial) (fun b1 => ?_)
 refine oQ [oF 1] [(2, vP b1 0), (1, vI n)] (by kernel_rfl) ?_
 refine ops_nil (fin_then (st_seq (st_region [oF 0, oF 1, oF 2, oF 3, oF 4, oF 5] (by rfl) ?_)))
 refine oQ [oF 0, oF 1] [(6, vP b1 0), (1, vI n)] (by kernel_rfl) ?_
 refine ops_mem (d := some 7) (an := [.v (vI it_0)]) (evs := [ld b1 0 (vI it_0)]) (v := vI it_0) ⟨by kernel_rfl⟩ (fun w_ hM hS => ⟨w_, ⟨hM.cell 0 rfl rfl, rfl⟩, hM, trivial⟩) ?_
 refine oQ [oF 3] [(8, vI n), (7, vI it_0)] (by kernel_rfl) ?_
 obtain ⟨x2, hv3, hp⟩ := obind hp
 refine ops_callI (σ := Unit) (d := some 9) (f := 37) (args := #[vI it_0, vI n]) (v := (fun _ => vI x2)) (I := (fun _ => True)) (M' := (fun _ => Mem w0 (.blk b1 [vI it_0, vI it_1, sl A_it_2 it_2 c_it_2] 61 :: Fz F W :: cs))) ⟨by kernel_rfl⟩ (fun w_ hM hS => (cmp_Compare_int_ok w0 w_ (.blk b1 [vI it_0, vI it_1, sl A_it_2 it_2 c_it_2] 61 :: cs) F W it_0 n (hM.pick 2 [1, 0] (by kernel_rfl) (by decide) rfl)  x2 hv3).mono (by rintro e w' ⟨-, rfl, h'⟩; have h' : Mem w0 (.blk b1 [vI it_0, vI it_1, sl A_it_2 it_2 c_it_2] 61 :: Fz F W :: cs) w' := (h'.pick 2 [1, 0] (by kernel_rfl) (by decide) rfl); exact ⟨(), trivial, rfl, h', trivial⟩)) ?_
 rintro _ -
 refine oQ [oF 5] [(4, vI x2)] (by kernel_rfl) ?_
 refine ops_nil (fin_then (st_ret ?_))
 have hq_ := Option.some.inj hp
 have hr0_ := hq_
 subst hr0_
 refine fin_ret [.tmp 4] [vI x2] rfl rfl (fun w_ hM => (.tmp rfl .nil)) (fun w_ hM => ?_)
 exact ⟨trivial, rfl, hM.pick 2 [1] (by kernel_rfl) (by decide) rfl⟩
theorem slices_BinarySearchFunc_api_Item_api_Item_int_ok (w0 w : World) (cs : List Chunk) (F : Nat → Prop) (W : World) (A_x : Option Addr) (c_x : Nat) (x : List api_Item) (target : Int) (hM0 : Mem w0 (Fz F W :: cs) w) (h_x : RdS R_api_Item F W A_x c_x x) (i9001 : Int) (t9002 : Bool) (hp : slices_BinarySearchFunc_api_Item_api_Item_int x target = some (i9001, t9002)) : Calls Tryz.prog 35 #[sl A_x x c_x, vI target, .func (.func 36) #[] #[]] w fun e w' => (True) ∧ e = .returned (.tuple #[vI i9001, .bool t9002]) ∧ Mem w0 (Fz F W :: cs) w' := by
 unfold slices_BinarySearchFunc_api_Item_api_Item_int at hp
 refine sx_calls Tryz.func35 rfl (n := 49) (by kernel_rfl) (l := [(0, sl A_x x c_x), (1, vI target), (2, .func (.func 36) #[] #[])]) rfl (by rfl) hM0 ?_
 refine st_seq (st_region [oF 0, oF 1] (by rfl) ?_)
 refine oQ [oF 0, oF 1] [(0, sl A_x x c_x), (1, vI target), (2, .func (.func 36) #[] #[])] (by kernel_rfl) ?_
 refine ops_nil (fin_then (st_seq (st_region [oF 0, oF 1, oF 2] (by rfl) ?_)))
 refine oQ [oF 0, oF 1, oF 2] [(8, vI (x.length : Int)), (0, sl A_x x c_x), (1, vI target), (2, .func (.func 36) #[] #[])] (by kernel_rfl) ?_
 refine ops_nil (fin_then (st_seq (st_region [oF 0, oF 1, oF 2] (by rfl) ?_)))
 refine oQ [oF 0, oF 1, oF 2] [(10, vI (x.length : Int)), (9, vI 0), (8, vI (x.length : Int)), (0, sl A_x x c_x), (1, vI target), (2, .func (.func 36) #[] #[])] (by kernel_rfl) ?_
 refine ops_nil (fin_then ?_)
 refine st_join1 (σ := Int) (L := fun x_ => match x_ with | i1 => [(0, sl A_x x c_x), (1, vI target), (2, .func (.func 36) #[] #[]), (8, vI (x.length : Int)), (9, vI i1)]) (N := fun x_ => match x_ with | i1 => Mem w0 (Fz F W :: cs)) (I := fun x_ => match x_ with | i1 => ((slices_BinarySearchFunc_api_Item_api_Item_int_j1 x target) i1 = some (i9001, t9002))) ?_ ?_
 ·
  rintro i1 hp
  unfold slices_BinarySearchFunc_api_Item_api_Item_int_j1 at hp
  refine st_join1 (σ := Bool) (L := fun x_ => match x_ with | t2 => [(6, vI i1), (7, .bool t2)]) (N := fun x_ => match x_ with | t2 => Mem w0 (Fz F W :: cs)) (I := fun x_ => match x_ with | t2 => ((slices_BinarySearchFunc_api_Item_api_Item_int_j2 i1) t2 = some (i9001, t9002))) ?_ ?_
  ·
   rintro t2 hp
   unfold slices_BinarySearchFunc_api_Item_api_Item_int_j2 at hp
   refine st_ret ?_
   have hq_ := Option.some.inj hp
   obtain ⟨hr0_, hq_⟩ := Prod.mk.inj hq_
   have hr1_ := hq_
   subst hr0_
   subst hr1_
   refine fin_ret [.tmp 6, .tmp 7] [vI i1, .bool t2] rfl rfl (fun w_ hM => (.tmp rfl (.tmp rfl .nil))) (fun w_ hM => ?_)
   exact ⟨trivial, rfl, hM⟩
  ·
   intro HJ2
   refine st_seq (st_region [oF 0, oF 1, oF 2, oF 3, oF 4, oF 5, oF 6, oF 7, oF 8, oF 9, oF 10, oF 11, oF 12, oF 13, oF 14, oF 15] (by rfl) ?_)
   refine oQ [oF 0, oF 1, oF 2, oF 3, oF 4] [(39, .bool (decide (i1 < (x.length : Int)))), (35, vI i1), (0, sl A_x x c_x), (1, vI target), (2, .func (.func 36) #[] #[]), (9, vI i1)] (by kernel_rfl) ?_
   refine ops_bool (t := decide (i1 < (x.length : Int))) (l1 := [(39, .bool true), (35, vI i1), (0, sl A_x x c_x), (1, vI target), (2, .func (.func 36) #[] #[]), (9, vI i1)]) (l2 := [(39, .bool false), (35, vI i1), (0, sl A_x x c_x), (1, vI target), (2, .func (.func 36) #[] #[]), (9, vI i1)]) (fun h => by rw [h]) (fun h => by rw [h]) (fun hc3 => ?_) (fun hc3 => ?_)
   ·
    have hp := cnd_t hc3 hp
    refine oQ [oF 5, oF 6, oF 7] [(42, vI i1), (41, sl A_x x c_x), (40, .func (.func 36) #[] #[]), (39, .bool true), (35, vI i1), (1, vI target)] (by kernel_rfl) ?_
    obtain ⟨x4, hv5, hp⟩ := obind hp
    obtain ⟨m6, hm7, hx8⟩ := idx_some hv5
    have hl11 := (List.getElem?_eq_some_iff.1 hx8).1
    obtain ⟨ad12, vs9, hA13, hr10, hq14⟩ := RdS.el h_x hx8
    obtain ⟨A15, c16, rfl, h17⟩ := dec_api_Item hr10
    refine ops_val (op := (.indexAddr 24 (.tmp 41) (.tmp 42))) (d := some 43) (v := .pointer (some (ad12.add (m6 * 3)))) ⟨by kernel_rfl⟩ (run_indexA hA13 Tryz.underlying24 (z := 3) (by kernel_rfl) rfl rfl hm7 hl11) ?_
    refine ops_mem (d := some 44) (an := [.v (vI x4.Ent.N), .v (vI x4.Ent.Gen), .v (sl A15 x4.Comps c16)]) (evs := [.load (ad12.add (m6 * 3)) (vI x4.Ent.N), .load ((ad12.add (m6 * 3)).add 1) (vI x4.Ent.Gen), .load ((ad12.add (m6 * 3)).add 2) (sl A15 x4.Comps c16)]) (v := .agg #[vI x4.Ent.N, vI x4.Ent.Gen, sl A15 x4.Comps c16]) ⟨by kernel_rfl⟩ (fun w_ hM hS => ⟨w_, ⟨hM.elcell 0 rfl hq14 0 rfl, hM.elcell 0 rfl hq14 1 rfl, hM.elcell 0 rfl hq14 2 rfl, rfl⟩, hM, trivial⟩) ?_
    refine oQ [oF 10] [(45, vI target), (44, .agg #[vI x4.Ent.N, vI x4.Ent.Gen, sl A15 x4.Comps c16]), (40, .func (.func 36) #[] #[]), (39, .bool true), (35, vI i1)] (by kernel_rfl) ?_
    obtain ⟨x18, hv19, hp⟩ := obind hp
    refine ops_callI (σ := Unit) (d := some 46) (f := 36) (args := #[.agg #[vI x4.Ent.N, vI x4.Ent.Gen, sl A15 x4.Comps c16], vI target]) (v := (fun _ => vI x18)) (I := (fun _ => True)) (M' := (fun _ => Mem w0 (Fz F W :: cs))) ⟨by kernel_rfl⟩ (fun w_ hM hS => (world_Spawn_1_ok w0 w_ (cs) F W x4.Ent.N x4.Ent.Gen A15 c16 x4.Comps target hM h17 x18 hv19).mono (by rintro e w' ⟨-, rfl, h'⟩; have h' : Mem w0 (Fz F W :: cs) w' := h'; exact ⟨(), trivial, rfl, h', trivial⟩)) ?_
    rintro _ -
    refine oQ [oF 12, oF 13, oF 14, oF 15] [(7, .bool (x18 == 0)), (6, vI i1)] (by kernel_rfl) ?_
    refine ops_nil ?_
    exact fin_join HJ2 (x18 == 0) hp (look_has ⟨rfl, rfl, trivial⟩) (fun w_ hM => hM)
   ·
    have hp := cnd_f hc3 hp
    refine oQ [oF 5, oF 6, oF 7, oF 8, oF 9, oF 10, oF 11, oF 12, oF 13, oF 14, oF 15] [(7, .bool false), (6, vI i1)] (by kernel_rfl) ?_
    refine ops_nil ?_
    exact fin_join HJ2 false hp (look_has ⟨rfl, rfl, trivial⟩) (fun w_ hM => hM)
 ·
  intro HJ1
  refine st_seq (st_block ?_)
  obtain ⟨r3, hl3, hk3⟩ := obind hp
  refine st_loopP (σ := Int × Int) (ρ := Int) (γ := Unit) hl3 () (fun s_ g_ => match s_, g_ with | (i20, i21), _ => [(0, sl A_x x c_x), (1, vI target), (2, .func (.func 36) #[] #[]), (8, vI (x.length : Int)), (9, vI i20), (10, vI i21)]) (fun s_ g_ => match s_, g_ with | (i20, i21), _ => Mem w0 (Fz F W :: cs)) (fun s_ g_ => match s_, g_ with | (i20, i21), _ => True) trivial (look_has ⟨rfl, rfl, rfl, rfl, rfl, rfl, trivial⟩) (fun w_ hM => hM) ?_
  rintro ⟨i20, i21⟩ _ o3 - hs_ hd3
  have hp : (slices_BinarySearchFunc_api_Item_api_Item_int_l3 x target) i20 i21 = some o3 := hs_
  clear hs_
  unfold slices_BinarySearchFunc_api_Item_api_Item_int_l3 at hp
  refine st_seq (st_seq (st_region [oF 0, oF 1, oF 2] (by rfl) ?_))
  refine oQ [oF 0, oF 1, oF 2] [(17, .bool (decide (i20 < i21))), (0, sl A_x x c_x), (1, vI target), (2, .func (.func 36) #[] #[]), (8, vI (x.length : Int)), (9, vI i20), (10, vI i21)] (by kernel_rfl) ?_
  refine ops_nil (fin_then ?_)
  refine st_if (b := decide (i20 < i21)) rfl (fun hc22 => ?_) (fun hc22 => ?_)
  ·
   have hp := cnd_t hc22 hp
   refine st_skip (fin_then (st_block (st_seq (st_region [oF 0, oF 1, oF 2, oF 3, oF 4, oF 5, oF 6] (by rfl) ?_))))
   refine oQ [oF 0, oF 1, oF 2, oF 3, oF 4, oF 5, oF 6] [(11, vI (IntKind.i64.wrap (Int.fdiv (IntKind.u64.wrap (IntKind.i64.wrap (i20 + i21))) 2))), (0, sl A_x x c_x), (1, vI target), (2, .func (.func 36) #[] #[]), (8, vI (x.length : Int)), (9, vI i20), (10, vI i21)] (by kernel_rfl) ?_
   obtain ⟨x23, hv24, hp⟩ := obind hp
   refine ops_conv (l' := [(11, vI x23), (0, sl A_x x c_x), (1, vI target), (2, .func (.func 36) #[] #[]), (8, vI (x.length : Int)), (9, vI i20), (10, vI i21)]) (by rw [← Option.some.inj hv24]) (fun _ h => h) ?_
   refine ops_nil (fin_then (st_seq (st_region [oF 0, oF 1, oF 2, oF 3, oF 4, oF 5, oF 6, oF 7] (by rfl) ?_)))
   refine oQ [oF 0, oF 1, oF 2] [(26, vI x23), (25, sl A_x x c_x), (24, .func (.func 36) #[] #[]), (11, vI x23), (0, sl A_x x c_x), (1, vI target), (2, .func (.func 36) #[] #[]), (8, vI (x.length : Int)), (9, vI i20), (10, vI i21)] (by kernel_rfl) ?_
   obtain ⟨x25, hv26, hp⟩ := obind hp
   obtain ⟨m27, hm28, hx29⟩ := idx_some hv26
   have hl32 := (List.getElem?_eq_some_iff.1 hx29).1
   obtain ⟨ad33, vs30, hA34, hr31, hq35⟩ := RdS.el h_x hx29
   obtain ⟨A36, c37, rfl, h38⟩ := dec_api_Item hr31
   refine ops_val (op := (.indexAddr 24 (.tmp 25) (.tmp 26))) (d := some 27) (v := .pointer (some (ad33.add (m27 * 3)))) ⟨by kernel_rfl⟩ (run_indexA hA34 Tryz.underlying24 (z := 3) (by kernel_rfl) rfl rfl hm28 hl32) ?_
   refine ops_mem (d := some 28) (an := [.v (vI x25.Ent.N), .v (vI x25.Ent.Gen), .v (sl A36 x25.Comps c37)]) (evs := [.load (ad33.add (m27 * 3)) (vI x25.Ent.N), .load ((ad33.add (m27 * 3)).add 1) (vI x25.Ent.Gen), .load ((ad33.add (m27 * 3)).add 2) (sl A36 x25.Comps c37)]) (v := .agg #[vI x25.Ent.N, vI x25.Ent.Gen, sl A36 x25.Comps c37]) ⟨by kernel_rfl⟩ (fun w_ hM hS => ⟨w_, ⟨hM.elcell 0 rfl hq35 0 rfl, hM.elcell 0 rfl hq35 1 rfl, hM.elcell 0 rfl hq35 2 rfl, rfl⟩, hM, trivial⟩) ?_
   refine oQ [oF 5] [(29, vI target), (28, .agg #[vI x25.Ent.N, vI x25.Ent.Gen, sl A36 x25.Comps c37]), (24, .func (.func 36) #[] #[]), (11, vI x23), (0, sl A_x x c_x), (1, vI target), (2, .func (.func 36) #[] #[]), (8, vI (x.length : Int)), (9, vI i20), (10, vI i21)] (by kernel_rfl) ?_
   obtain ⟨x39, hv40, hp⟩ := obind hp
   refine ops_callI (σ := Unit) (d := some 30) (f := 36) (args := #[.agg #[vI x25.Ent.N, vI x25.Ent.Gen, sl A36 x25.Comps c37], vI target]) (v := (fun _ => vI x39)) (I := (fun _ => True)) (M' := (fun _ => Mem w0 (Fz F W :: cs))) ⟨by kernel_rfl⟩ (fun w_ hM hS => (world_Spawn_1_ok w0 w_ (cs) F W x25.Ent.N x25.Ent.Gen A36 c37 x25.Comps target hM h38 x39 hv40).mono (by rintro e w' ⟨-, rfl, h'⟩; have h' : Mem w0 (Fz F W :: cs) w' := h'; exact ⟨(), trivial, rfl, h', trivial⟩)) ?_
   rintro _ -
   refine oQ [oF 7] [(31, .bool (decide (x39 < 0))), (11, vI x23), (0, sl A_x x c_x), (1, vI target), (2, .func (.func 36) #[] #[]), (8, vI (x.length : Int)), (9, vI i20), (10, vI i21)] (by kernel_rfl) ?_
   refine ops_nil (fin_then ?_)
   refine st_if (b := decide (x39 < 0)) rfl (fun hc41 => ?_) (fun hc41 => ?_)
   ·
    have hp := cnd_t hc41 hp
    refine st_region [oF 0, oF 1, oF 2] (by rfl) ?_
    refine oQ [oF 0, oF 1, oF 2] [(9, vI (IntKind.i64.wrap (x23 + 1))), (0, sl A_x x c_x), (1, vI target), (2, .func (.func 36) #[] #[]), (8, vI (x.length : Int)), (10, vI i21)] (by kernel_rfl) ?_
    refine ops_nil (fin_block ?_)
    exact fin_again (IntKind.i64.wrap (x23 + 1), i21) () (Option.some.inj hp).symm trivial (look_has ⟨rfl, rfl, rfl, rfl, rfl, rfl, trivial⟩) (fun w_ hM => hM)
   ·
    have hp := cnd_f hc41 hp
    refine st_region [oF 0, oF 1] (by rfl) ?_
    refine oQ [oF 0, oF 1] [(10, vI x23), (0, sl A_x x c_x), (1, vI target), (2, .func (.func 36) #[] #[]), (8, vI (x.length : Int)), (9, vI i20)] (by kernel_rfl) ?_
    refine ops_nil (fin_block ?_)
    exact fin_again (i20, x23) () (Option.some.inj hp).symm trivial (look_has ⟨rfl, rfl, rfl, rfl, rfl, rfl, trivial⟩) (fun w_ hM => hM)
  ·
   have hp := cnd_f hc22 hp
   refine st_exit (fin_exit_then (fin_exit_then (fin_exit ?_)))
   obtain hq_ := Option.some.inj hp
   subst hq_
   obtain hq_ := hd3 _ rfl
   subst hq_
   have hp : (slices_BinarySearchFunc_api_Item_api_Item_int_j1 x target) i20 = some (i9001, t9002) := hk3
   exact fin_join HJ1 i20 hp (look_has ⟨rfl, rfl, rfl, rfl, rfl, trivial⟩) (fun w_ hM => hM)
theorem world_Spawn_ok (w0 w : World) (cs : List Chunk) (F : Nat → Prop) (W : World) (A_w_0 : Option Addr) (c_w_0 : Nat) (w_0 : List api_Kind) (A_w_1 : Option Addr) (c_w_1 : Nat) (w_1 : List Int) (A_w_2 : Option Addr) (c_w_2 : Nat) (w_2 : List api_Item) (A_comps : Option Addr) (c_comps : Nat) (comps : List api_Comp) (hM0 : Mem w0 (Fz F W :: cs) w) (h_w_0 : RdS R_api_Kind F W A_w_0 c_w_0 w_0) (h_w_1 : RdS (Rep.int .i64) F W A_w_1 c_w_1 w_1) (h_w_2 : RdS R_api_Item F W A_w_2 c_w_2 w_2) (h_comps : RdS R_api_Comp F W A_comps c_comps comps) (l9003 : List api_Kind) (l9008 : List Int) (l9013 : List api_Item) (i9016 : Int) (i9017 : Int) (i9018 : Int) (hp : world_Spawn w_0 w_1 w_2 comps = some (l9003, l9008, l9013, i9016, i9017, i9018)) : Calls Tryz.prog 5 #[.agg #[sl A_w_0 w_0 c_w_0, sl A_w_1 w_1 c_w_1, sl A_w_2 w_2 c_w_2], sl A_comps comps c_comps] w fun e w' => ∃ (A9001 : Option Addr), ∃ (c9002 : Nat), ∃ (y9004 : List Value), ∃ (A9006 : Option Addr), ∃ (c9007 : Nat), ∃ (y9009 : List Value), ∃ (A9011 : Option Addr), ∃ (c9012 : Nat), ∃ (y9014 : List Value), ∃ (F9019 : Nat → Prop), ∃ (W9020 : World), ((RepL R_api_Kind F9019 W9020 l9003 y9004) ∧ (RepL (Rep.int .i64) F9019 W9020 l9008 y9009) ∧ (RepL R_api_Item F9019 W9020 l9013 y9014) ∧ (Ext w0 F W F9019 W9020)) ∧ e = .returned (.tuple #[.agg #[sl A9001 l9003 c9002, sl A9006 l9008 c9007, sl A9011 l9013 c9012], .agg #[vI i9016, vI i9017], vI i9018]) ∧ Mem w0 (ow A9001 l9003 c9002 86 2 y9004 :: ow A9006 l9008 c9007 3 1 y9009 :: ow A9011 l9013 c9012 61 3 y9014 :: Fz F9019 W9020 :: cs) w' := by
 unfold world_Spawn at hp
 refine sx_calls Tryz.func5 rfl (n := 80) (by kernel_rfl) (l := [(0, .agg #[sl A_w_0 w_0 c_w_0, sl A_w_1 w_1 c_w_1, sl A_w_2 w_2 c_w_2]), (1, sl A_comps comps c_comps)]) rfl (by rfl) hM0 ?_
 refine st_seq (st_region [oF 0, oF 1, oF 2, oF 3] (by rfl) ?_)
 refine ops_newB (d := some 2) [sl A_w_0 w_0 c_w_0, sl A_w_1 w_1 c_w_1, sl A_w_2 w_2 c_w_2] 26 (fun b1 => ⟨by kernel_rfl⟩) (fun w_ hM hS => trivial) (fun b1 => ?_)
 refine ops_newB (d := some 4) [.slice none 0 0, .slice none 0 0, .slice none 0 0] 26 (fun b2 => ⟨by kernel_rfl⟩) (fun w_ hM hS => trivial) (fun b2 => ?_)
 refine ops_newB (d := some 5) [vI 0, vI 0] 29 (fun b3 => ⟨by kernel_rfl⟩) (fun w_ hM hS => trivial) (fun b3 => ?_)
 refine oQ [oF 3] [(5, vP b3 0), (4, vP b2 0), (2, vP b1 0), (1, sl A_comps comps c_comps)] (by kernel_rfl) ?_
 refine ops_nil (fin_then (st_seq (st_seq (st_region [oF 0, oF 1, oF 2] (by rfl) ?_))))
 refine ops_mem (d := some 15) (an := [.v (sl A_w_0 w_0 c_w_0), .v (sl A_w_1 w_1 c_w_1), .v (sl A_w_2 w_2 c_w_2)]) (evs := [ld b1 0 (sl A_w_0 w_0 c_w_0), ld b1 1 (sl A_w_1 w_1 c_w_1), ld b1 2 (sl A_w_2 w_2 c_w_2)]) (v := .agg #[sl A_w_0 w_0 c_w_0, sl A_w_1 w_1 c_w_1, sl A_w_2 w_2 c_w_2]) ⟨by kernel_rfl⟩ (fun w_ hM hS => ⟨w_, ⟨hM.cell 2 rfl rfl, hM.cell 2 rfl rfl, hM.cell 2 rfl rfl, rfl⟩, hM, trivial⟩) ?_
 obtain ⟨x4, hv5, hp⟩ := obind hp
 refine ops_callI (σ := Unit) (d := some 16) (f := 33) (args := #[.agg #[sl A_w_0 w_0 c_w_0, sl A_w_1 w_1 c_w_1, sl A_w_2 w_2 c_w_2]]) (v := (fun _ => vI x4)) (I := (fun _ => True)) (M' := (fun _ => Mem w0 (.blk b3 [vI 0, vI 0] 29 :: .blk b2 [.slice none 0 0, .slice none 0 0, .slice none 0 0] 26 :: .blk b1 [sl A_w_0 w_0 c_w_0, sl A_w_1 w_1 c_w_1, sl A_w_2 w_2 c_w_2] 26 :: Fz F W :: cs))) ⟨by kernel_rfl⟩ (fun w_ hM hS => (world_Check_ok w0 w_ (.blk b3 [vI 0, vI 0] 29 :: .blk b2 [.slice none 0 0, .slice none 0 0, .slice none 0 0] 26 :: .blk b1 [sl A_w_0 w_0 c_w_0, sl A_w_1 w_1 c_w_1, sl A_w_2 w_2 c_w_2] 26 :: cs) F W A_w_0 c_w_0 w_0 A_w_1 c_w_1 w_1 A_w_2 c_w_2 w_2 (hM.pick 4 [3, 0, 1, 2] (by kernel_rfl) (by decide) rfl) h_w_0 h_w_1 h_w_2 x4 hv5).mono (by rintro e w' ⟨-, rfl, h'⟩; have h' : Mem w0 (.blk b3 [vI 0, vI 0] 29 :: .blk b2 [.slice none 0 0, .slice none 0 0, .slice none 0 0] 26 :: .blk b1 [sl A_w_0 w_0 c_w_0, sl A_w_1 w_1 c_w_1, sl A_w_2 w_2 c_w_2] 26 :: Fz F W :: cs) w' := (h'.pick 4 [1, 2, 3, 0] (by kernel_rfl) (by decide) rfl); exact ⟨(), trivial, rfl, h', trivial⟩)) ?_
 rintro _ -
 refine oQ [oF 2] [(7, vI x4), (5, vP b3 0), (4, vP b2 0), (2, vP b1 0), (1, sl A_comps comps c_comps)] (by kernel_rfl) ?_
 refine ops_nil (fin_then (st_seq (st_region [oF 0, oF 1] (by rfl) ?_)))
 refine oQ [oF 0, oF 1] [(18, .bool (!(x4 == 0))), (7, vI x4), (5, vP b3 0), (4, vP b2 0), (2, vP b1 0), (1, sl A_comps comps c_comps)] (by kernel_rfl) ?_
 refine ops_nil (fin_then ?_)
 refine st_if (b := !(x4 == 0)) rfl (fun hc6 => ?_) (fun hc6 => ?_)
 ·
  have hp := cnd_t hc6 hp
  refine st_seq (st_region [oF 0, oF 1, oF 2, oF 3, oF 4, oF 5] (by rfl) ?_)
  refine oQ [oF 0, oF 1, oF 2] [(21, vI x4), (20, .agg #[vI 0, vI 0]), (19, .agg #[.slice none 0 0, .slice none 0 0, .slice none 0 0]), (5, vP b3 0), (4, vP b2 0)] (by kernel_rfl) ?_
  refine ops_store (an := []) (evs := [sr b2 0 (.slice none 0 0), sr b2 1 (.slice none 0 0), sr b2 2 (.slice none 0 0)]) ⟨by kernel_rfl⟩ (fun w_ hM hS => let ⟨w', he, h'⟩ := hM.evs_stores [.slice none 0 0, .slice none 0 0, .slice none 0 0] 1 rfl 0 (Nat.le_of_ble_eq_true rfl); ⟨w', he, h', trivial⟩) ?_
  refine ops_store (an := []) (evs := [sr b3 0 (vI 0), sr b3 1 (vI 0)]) ⟨by kernel_rfl⟩ (fun w_ hM hS => let ⟨w', he, h'⟩ := hM.evs_stores [vI 0, vI 0] 0 rfl 0 (Nat.le_of_ble_eq_true rfl); ⟨w', he, h', trivial⟩) ?_
  refine oQ [oF 5] [(6, vI x4), (5, vP b3 0), (4, vP b2 0)] (by kernel_rfl) ?_
  refine ops_nil (fin_then (st_ret (fin_ret_then ?_)))
  refine fin_conv (l' := [(6, vI x4), (5, vP b3 0), (4, vP b2 0)]) (M' := Mem w0 (ow none ([] : List api_Kind) 0 86 2 [] :: .blk b3 [vI 0, vI 0] 29 :: .blk b2 [.slice none 0 0, .slice none 0 0, .slice none 0 0] 26 :: .blk b1 [sl A_w_0 w_0 c_w_0, sl A_w_1 w_1 c_w_1, sl A_w_2 w_2 c_w_2] 26 :: Fz F W :: cs)) rfl (fun w_ h => h.onil none 86 2) ?_
  refine fin_conv (l' := [(6, vI x4), (5, vP b3 0), (4, vP b2 0)]) (M' := Mem w0 (ow none ([] : List Int) 0 3 1 [] :: ow none ([] : List api_Kind) 0 86 2 [] :: .blk b3 [vI 0, vI 0] 29 :: .blk b2 [.slice none 0 0, .slice none 0 0, .slice none 0 0] 26 :: .blk b1 [sl A_w_0 w_0 c_w_0, sl A_w_1 w_1 c_w_1, sl A_w_2 w_2 c_w_2] 26 :: Fz F W :: cs)) rfl (fun w_ h => h.onil none 3 1) ?_
  refine fin_conv (l' := [(6, vI x4), (5, vP b3 0), (4, vP b2 0)]) (M' := Mem w0 (ow none ([] : List api_Item) 0 61 3 [] :: ow none ([] : List Int) 0 3 1 [] :: ow none ([] : List api_Kind) 0 86 2 [] :: .blk b3 [vI 0, vI 0] 29 :: .blk b2 [.slice none 0 0, .slice none 0 0, .slice none 0 0] 26 :: .blk b1 [sl A_w_0 w_0 c_w_0, sl A_w_1 w_1 c_w_1, sl A_w_2 w_2 c_w_2] 26 :: Fz F W :: cs)) rfl (fun w_ h => h.onil none 61 3) ?_
  refine fin_conv (l' := [(6, vI x4), (5, vP b3 0), (4, vP b2 0)]) (M' := Mem w0 (ow none ([] : List api_Item) 0 61 3 [] :: ow none ([] : List Int) 0 3 1 [] :: ow none ([] : List api_Kind) 0 86 2 [] :: .blk b3 [vI 0, vI 0] 29 :: .blk b2 [.slice none 0 0, .slice none 0 0, .slice none 0 0] 26 :: .blk b1 [sl A_w_0 w_0 c_w_0, sl A_w_1 w_1 c_w_1, sl A_w_2 w_2 c_w_2] 26 :: Fz F W :: cs)) rfl (fun _ h => h) ?_
  have hq_ := Option.some.inj hp
  obtain ⟨hr0_, hq_⟩ := Prod.mk.inj hq_
  obtain ⟨hr1_, hq_⟩ := Prod.mk.inj hq_
  obtain ⟨hr2_, hq_⟩ := Prod.mk.inj hq_
  obtain ⟨hr3_, hq_⟩ := Prod.mk.inj hq_
  obtain ⟨hr4_, hq_⟩ := Prod.mk.inj hq_
  have hr5_ := hq_
  subst hr0_
  subst hr1_
  subst hr2_
  subst hr3_
  subst hr4_
  subst hr5_
  refine fin_ret [.cell 4 26, .cell 5 29, .tmp 6] [.agg #[sl none ([] : List api_Kind) 0, sl none ([] : List Int) 0, sl none ([] : List api_Item) 0], .agg #[vI 0, vI 0], vI x4] rfl rfl (fun w_ hM => (.cell rfl (tr_run _ [.v (.slice none 0 0), .v (.slice none 0 0), .v (.slice none 0 0)] [ld b2 0 (.slice none 0 0), ld b2 1 (.slice none 0 0), ld b2 2 (.slice none 0 0)] (.agg #[.slice none 0 0, .slice none 0 0, .slice none 0 0] : Value) _ _ (by kernel_rfl) ⟨hM.cell 4 rfl rfl, hM.cell 4 rfl rfl, hM.cell 4 rfl rfl, rfl⟩) (.cell rfl (tr_run _ [.v (vI 0), .v (vI 0)] [ld b3 0 (vI 0), ld b3 1 (vI 0)] (.agg #[vI 0, vI 0] : Value) _ _ (by kernel_rfl) ⟨hM.cell 3 rfl rfl, hM.cell 3 rfl rfl, rfl⟩) (.tmp rfl .nil)))) (fun w_ hM => ?_)
  exact ⟨none, 0, [], none, 0, [], none, 0, [], F, W, ⟨(RepL.nil (R := R_api_Kind)), (RepL.nil (R := (Rep.int .i64))), (RepL.nil (R := R_api_Item)), (Ext.refl _ _ _)⟩, rfl, hM.pick 7 [2, 1, 0, 6] (by kernel_rfl) (by decide) rfl⟩
 ·
  have hp := cnd_f hc6 hp
  refine st_skip (fin_then (st_seq (st_region [oF 0, oF 1, oF 2, oF 3, oF 4, oF 5, oF 6, oF 7, oF 8] (by rfl) ?_)))
  refine oQ [oF 0] [(23, vP b1 0), (5, vP b3 0), (4, vP b2 0), (2, vP b1 0), (1, sl A_comps comps c_comps)] (by kernel_rfl) ?_
  refine ops_mem (d := some 24) (an := [.v (sl A_w_0 w_0 c_w_0)]) (evs := [ld b1 0 (sl A_w_0 w_0 c_w_0)]) (v := sl A_w_0 w_0 c_w_0) ⟨by kernel_rfl⟩ (fun w_ hM hS => ⟨w_, ⟨hM.cell 2 rfl rfl, rfl⟩, hM, trivial⟩) ?_
  refine oQ [oF 2] [(25, sl A_comps comps c_comps), (24, sl A_w_0 w_0 c_w_0), (5, vP b3 0), (4, vP b2 0), (2, vP b1 0)] (by kernel_rfl) ?_
  obtain ⟨x7, x8, hv9, hp⟩ := obind2 hp
  refine ops_callI (σ := (Option Addr) × Nat × (List Value) × (Nat → Prop) × World) (d := some 26) (f := 7) (args := #[sl A_w_0 w_0 c_w_0, sl A_comps comps c_comps]) (v := (fun x_ => match x_ with | (A10, c11, y12, F13, W14) => .tuple #[sl A10 x7 c11, vI x8])) (I := (fun x_ => match x_ with | (A10, c11, y12, F13, W14) => (RepL R_api_Comp F13 W14 x7 y12) ∧ (Ext w0 F W F13 W14))) (M' := (fun x_ => match x_ with | (A10, c11, y12, F13, W14) => Mem w0 (ow A10 x7 c11 42 2 y12 :: .blk b3 [vI 0, vI 0] 29 :: .blk b2 [.slice none 0 0, .slice none 0 0, .slice none 0 0] 26 :: .blk b1 [sl A_w_0 w_0 c_w_0, sl A_w_1 w_1 c_w_1, sl A_w_2 w_2 c_w_2] 26 :: Fz F13 W14 :: cs))) ⟨by kernel_rfl⟩ (fun w_ hM hS => (world_Fit_ok w0 w_ (.blk b3 [vI 0, vI 0] 29 :: .blk b2 [.slice none 0 0, .slice none 0 0, .slice none 0 0] 26 :: .blk b1 [sl A_w_0 w_0 c_w_0, sl A_w_1 w_1 c_w_1, sl A_w_2 w_2 c_w_2] 26 :: cs) F W A_w_0 c_w_0 w_0 A_comps c_comps comps (hM.pick 4 [3, 0, 1, 2] (by kernel_rfl) (by decide) rfl) h_w_0 h_comps x7 x8 hv9).mono (by rintro e w' ⟨A10, c11, y12, F13, W14, ⟨h15, h16⟩, rfl, h'⟩; have h' : Mem w0 (ow A10 x7 c11 42 2 y12 :: .blk b3 [vI 0, vI 0] 29 :: .blk b2 [.slice none 0 0, .slice none 0 0, .slice none 0 0] 26 :: .blk b1 [sl A_w_0 w_0 c_w_0, sl A_w_1 w_1 c_w_1, sl A_w_2 w_2 c_w_2] 26 :: Fz F13 W14 :: cs) w' := (h'.pick 5 [0, 2, 3, 4, 1] (by kernel_rfl) (by decide) rfl); exact ⟨(A10, c11, y12, F13, W14), ⟨h15, h16⟩, rfl, h', trivial⟩)) ?_
  rintro ⟨A10, c11, y12, F13, W14⟩ ⟨h15, h16⟩
  have h_comps := h_comps.ext h16
  have h_w_0 := h_w_0.ext h16
  have h_w_1 := h_w_1.ext h16
  have h_w_2 := h_w_2.ext h16
  refine oQ [oF 4, oF 5, oF 6, oF 7, oF 8] [(9, vI x8), (8, sl A10 x7 c11), (5, vP b3 0), (4, vP b2 0), (2, vP b1 0)] (by kernel_rfl) ?_
  refine ops_nil (fin_then (st_seq (st_seq (st_region [oF 0, oF 1] (by rfl) ?_))))
  refine oQ [oF 0, oF 1] [(30, .bool (!(x8 == 0))), (9, vI x8), (8, sl A10 x7 c11), (5, vP b3 0), (4, vP b2 0), (2, vP b1 0)] (by kernel_rfl) ?_
  refine ops_nil (fin_then ?_)
  refine st_if (b := !(x8 == 0)) rfl (fun hc17 => ?_) (fun hc17 => ?_)
  ·
   have hp := cnd_t hc17 hp
   refine st_seq (st_region [oF 0, oF 1, oF 2, oF 3, oF 4, oF 5] (by rfl) ?_)
   refine oQ [oF 0, oF 1, oF 2] [(33, vI x8), (32, .agg #[vI 0, vI 0]), (31, .agg #[.slice none 0 0, .slice none 0 0, .slice none 0 0]), (5, vP b3 0), (4, vP b2 0)] (by kernel_rfl) ?_
   refine ops_store (an := []) (evs := [sr b2 0 (.slice none 0 0), sr b2 1 (.slice none 0 0), sr b2 2 (.slice none 0 0)]) ⟨by kernel_rfl⟩ (fun w_ hM hS => let ⟨w', he, h'⟩ := hM.evs_stores [.slice none 0 0, .slice none 0 0, .slice none 0 0] 2 rfl 0 (Nat.le_of_ble_eq_true rfl); ⟨w', he, h', trivial⟩) ?_
   refine ops_store (an := []) (evs := [sr b3 0 (vI 0), sr b3 1 (vI 0)]) ⟨by kernel_rfl⟩ (fun w_ hM hS => let ⟨w', he, h'⟩ := hM.evs_stores [vI 0, vI 0] 1 rfl 0 (Nat.le_of_ble_eq_true rfl); ⟨w', he, h', trivial⟩) ?_
   refine oQ [oF 5] [(6, vI x8), (5, vP b3 0), (4, vP b2 0)] (by kernel_rfl) ?_
   refine ops_nil (fin_then (st_ret (fin_ret_then ?_)))
   refine fin_conv (l' := [(6, vI x8), (5, vP b3 0), (4, vP b2 0)]) (M' := Mem w0 (ow none ([] : List api_Kind) 0 86 2 [] :: ow A10 x7 c11 42 2 y12 :: .blk b3 [vI 0, vI 0] 29 :: .blk b2 [.slice none 0 0, .slice none 0 0, .slice none 0 0] 26 :: .blk b1 [sl A_w_0 w_0 c_w_0, sl A_w_1 w_1 c_w_1, sl A_w_2 w_2 c_w_2] 26 :: Fz F13 W14 :: cs)) rfl (fun w_ h => h.onil none 86 2) ?_
   refine fin_conv (l' := [(6, vI x8), (5, vP b3 0), (4, vP b2 0)]) (M' := Mem w0 (ow none ([] : List Int) 0 3 1 [] :: ow none ([] : List api_Kind) 0 86 2 [] :: ow A10 x7 c11 42 2 y12 :: .blk b3 [vI 0, vI 0] 29 :: .blk b2 [.slice none 0 0, .slice none 0 0, .slice none 0 0] 26 :: .blk b1 [sl A_w_0 w_0 c_w_0, sl A_w_1 w_1 c_w_1, sl A_w_2 w_2 c_w_2] 26 :: Fz F13 W14 :: cs)) rfl (fun w_ h => h.onil none 3 1) ?_
   refine fin_conv (l' := [(6, vI x8), (5, vP b3 0), (4, vP b2 0)]) (M' := Mem w0 (ow none ([] : List api_Item) 0 61 3 [] :: ow none ([] : List Int) 0 3 1 [] :: ow none ([] : List api_Kind) 0 86 2 [] :: ow A10 x7 c11 42 2 y12 :: .blk b3 [vI 0, vI 0] 29 :: .blk b2 [.slice none 0 0, .slice none 0 0, .slice none 0 0] 26 :: .blk b1 [sl A_w_0 w_0 c_w_0, sl A_w_1 w_1 c_w_1, sl A_w_2 w_2 c_w_2] 26 :: Fz F13 W14 :: cs)) rfl (fun w_ h => h.onil none 61 3) ?_
   refine fin_conv (l' := [(6, vI x8), (5, vP b3 0), (4, vP b2 0)]) (M' := Mem w0 (ow none ([] : List api_Item) 0 61 3 [] :: ow none ([] : List Int) 0 3 1 [] :: ow none ([] : List api_Kind) 0 86 2 [] :: ow A10 x7 c11 42 2 y12 :: .blk b3 [vI 0, vI 0] 29 :: .blk b2 [.slice none 0 0, .slice none 0 0, .slice none 0 0] 26 :: .blk b1 [sl A_w_0 w_0 c_w_0, sl A_w_1 w_1 c_w_1, sl A_w_2 w_2 c_w_2] 26 :: Fz F13 W14 :: cs)) rfl (fun _ h => h) ?_
   have hq_ := Option.some.inj hp
   obtain ⟨hr0_, hq_⟩ := Prod.mk.inj hq_
   obtain ⟨hr1_, hq_⟩ := Prod.mk.inj hq_
   obtain ⟨hr2_, hq_⟩ := Prod.mk.inj hq_
   obtain ⟨hr3_, hq_⟩ := Prod.mk.inj hq_
   obtain ⟨hr4_, hq_⟩ := Prod.mk.inj hq_
   have hr5_ := hq_
   subst hr0_
   subst hr1_
   subst hr2_
   subst hr3_
   subst hr4_
   subst hr5_
   refine fin_ret [.cell 4 26, .cell 5 29, .tmp 6] [.agg #[sl none ([] : List api_Kind) 0, sl none ([] : List Int) 0, sl none ([] : List api_Item) 0], .agg #[vI 0, vI 0], vI x8] rfl rfl (fun w_ hM => (.cell rfl (tr_run _ [.v (.slice none 0 0), .v (.slice none 0 0), .v (.slice none 0 0)] [ld b2 0 (.slice none 0 0), ld b2 1 (.slice none 0 0), ld b2 2 (.slice none 0 0)] (.agg #[.slice none 0 0, .slice none 0 0, .slice none 0 0] : Value) _ _ (by kernel_rfl) ⟨hM.cell 5 rfl rfl, hM.cell 5 rfl rfl, hM.cell 5 rfl rfl, rfl⟩) (.cell rfl (tr_run _ [.v (vI 0), .v (vI 0)] [ld b3 0 (vI 0), ld b3 1 (vI 0)] (.agg #[vI 0, vI 0] : Value) _ _ (by kernel_rfl) ⟨hM.cell 4 rfl rfl, hM.cell 4 rfl rfl, rfl⟩) (.tmp rfl .nil)))) (fun w_ hM => ?_)
   exact ⟨none, 0, [], none, 0, [], none, 0, [], F13, W14, ⟨(RepL.nil (R := R_api_Kind)), (RepL.nil (R := (Rep.int .i64))), (RepL.nil (R := R_api_Item)), h16⟩, rfl, hM.pick 8 [2, 1, 0, 7] (by kernel_rfl) (by decide) rfl⟩
  ·
   have hp := cnd_f hc17 hp
   refine st_skip (fin_then (st_seq (st_region [oF 0, oF 1, oF 2, oF 3, oF 4, oF 5, oF 6] (by rfl) ?_)))
   refine ops_mem (d := some 35) (an := [.v (sl A_w_0 w_0 c_w_0), .v (sl A_w_1 w_1 c_w_1), .v (sl A_w_2 w_2 c_w_2)]) (evs := [ld b1 0 (sl A_w_0 w_0 c_w_0), ld b1 1 (sl A_w_1 w_1 c_w_1), ld b1 2 (sl A_w_2 w_2 c_w_2)]) (v := .agg #[sl A_w_0 w_0 c_w_0, sl A_w_1 w_1 c_w_1, sl A_w_2 w_2 c_w_2]) ⟨by kernel_rfl⟩ (fun w_ hM hS => ⟨w_, ⟨hM.cell 3 rfl rfl, hM.cell 3 rfl rfl, hM.cell 3 rfl rfl, rfl⟩, hM, trivial⟩) ?_
   obtain ⟨x18, x19, hv20, hp⟩ := obind2 hp
   refine ops_callI (σ := Unit) (d := some 36) (f := 15) (args := #[.agg #[sl A_w_0 w_0 c_w_0, sl A_w_1 w_1 c_w_1, sl A_w_2 w_2 c_w_2]]) (v := (fun _ => .tuple #[vI x18, .bool x19])) (I := (fun _ => True)) (M' := (fun _ => Mem w0 (ow A10 x7 c11 42 2 y12 :: .blk b3 [vI 0, vI 0] 29 :: .blk b2 [.slice none 0 0, .slice none 0 0, .slice none 0 0] 26 :: .blk b1 [sl A_w_0 w_0 c_w_0, sl A_w_1 w_1 c_w_1, sl A_w_2 w_2 c_w_2] 26 :: Fz F13 W14 :: cs))) ⟨by kernel_rfl⟩ (fun w_ hM hS => (world_Free_ok w0 w_ (ow A10 x7 c11 42 2 y12 :: .blk b3 [vI 0, vI 0] 29 :: .blk b2 [.slice none 0 0, .slice none 0 0, .slice none 0 0] 26 :: .blk b1 [sl A_w_0 w_0 c_w_0, sl A_w_1 w_1 c_w_1, sl A_w_2 w_2 c_w_2] 26 :: cs) F13 W14 A_w_0 c_w_0 w_0 A_w_1 c_w_1 w_1 A_w_2 c_w_2 w_2 (hM.pick 5 [4, 0, 1, 2, 3] (by kernel_rfl) (by decide) rfl) h_w_0 h_w_1 h_w_2 x18 x19 hv20).mono (by rintro e w' ⟨-, rfl, h'⟩; have h' : Mem w0 (ow A10 x7 c11 42 2 y12 :: .blk b3 [vI 0, vI 0] 29 :: .blk b2 [.slice none 0 0, .slice none 0 0, .slice none 0 0] 26 :: .blk b1 [sl A_w_0 w_0 c_w_0, sl A_w_1 w_1 c_w_1, sl A_w_2 w_2 c_w_2] 26 :: Fz F13 W14 :: cs) w' := (h'.pick 5 [1, 2, 3, 4, 0] (by kernel_rfl) (by decide) rfl); exact ⟨(), trivial, rfl, h', trivial⟩)) ?_
   rintro _ -
   refine oQ [oF 2, oF 3, oF 4, oF 5, oF 6] [(11, .bool x19), (10, vI x18), (8, sl A10 x7 c11), (5, vP b3 0), (4, vP b2 0), (2, vP b1 0)] (by kernel_rfl) ?_
   refine ops_nil (fin_then (st_seq (st_seq (st_region [oF 0, oF 1] (by rfl) ?_))))
   refine oQ [oF 0, oF 1] [(40, .bool (!x19)), (10, vI x18), (8, sl A10 x7 c11), (5, vP b3 0), (4, vP b2 0), (2, vP b1 0)] (by kernel_rfl) ?_
   refine ops_nil (fin_then ?_)
   refine st_if (b := !x19) rfl (fun hc21 => ?_) (fun hc21 => ?_)
   ·
    have hp := cnd_t hc21 hp
    refine st_seq (st_region [oF 0, oF 1, oF 2, oF 3, oF 4] (by rfl) ?_)
    refine oQ [oF 0, oF 1] [(42, .agg #[vI 0, vI 0]), (41, .agg #[.slice none 0 0, .slice none 0 0, .slice none 0 0]), (5, vP b3 0), (4, vP b2 0)] (by kernel_rfl) ?_
    refine ops_store (an := []) (evs := [sr b2 0 (.slice none 0 0), sr b2 1 (.slice none 0 0), sr b2 2 (.slice none 0 0)]) ⟨by kernel_rfl⟩ (fun w_ hM hS => let ⟨w', he, h'⟩ := hM.evs_stores [.slice none 0 0, .slice none 0 0, .slice none 0 0] 2 rfl 0 (Nat.le_of_ble_eq_true rfl); ⟨w', he, h', trivial⟩) ?_
    refine ops_store (an := []) (evs := [sr b3 0 (vI 0), sr b3 1 (vI 0)]) ⟨by kernel_rfl⟩ (fun w_ hM hS => let ⟨w', he, h'⟩ := hM.evs_stores [vI 0, vI 0] 1 rfl 0 (Nat.le_of_ble_eq_true rfl); ⟨w', he, h', trivial⟩) ?_
    refine oQ [oF 4] [(6, vI 6), (5, vP b3 0), (4, vP b2 0)] (by kernel_rfl) ?_
    refine ops_nil (fin_then (st_ret (fin_ret_then ?_)))
    refine fin_conv (l' := [(6, vI 6), (5, vP b3 0), (4, vP b2 0)]) (M' := Mem w0 (ow none ([] : List api_Kind) 0 86 2 [] :: ow A10 x7 c11 42 2 y12 :: .blk b3 [vI 0, vI 0] 29 :: .blk b2 [.slice none 0 0, .slice none 0 0, .slice none 0 0] 26 :: .blk b1 [sl A_w_0 w_0 c_w_0, sl A_w_1 w_1 c_w_1, sl A_w_2 w_2 c_w_2] 26 :: Fz F13 W14 :: cs)) rfl (fun w_ h => h.onil none 86 2) ?_
    refine fin_conv (l' := [(6, vI 6), (5, vP b3 0), (4, vP b2 0)]) (M' := Mem w0 (ow none ([] : List Int) 0 3 1 [] :: ow none ([] : List api_Kind) 0 86 2 [] :: ow A10 x7 c11 42 2 y12 :: .blk b3 [vI 0, vI 0] 29 :: .blk b2 [.slice none 0 0, .slice none 0 0, .slice none 0 0] 26 :: .blk b1 [sl A_w_0 w_0 c_w_0, sl A_w_1 w_1 c_w_1, sl A_w_2 w_2 c_w_2] 26 :: Fz F13 W14 :: cs)) rfl (fun w_ h => h.onil none 3 1) ?_
    refine fin_conv (l' := [(6, vI 6), (5, vP b3 0), (4, vP b2 0)]) (M' := Mem w0 (ow none ([] : List api_Item) 0 61 3 [] :: ow none ([] : List Int) 0 3 1 [] :: ow none ([] : List api_Kind) 0 86 2 [] :: ow A10 x7 c11 42 2 y12 :: .blk b3 [vI 0, vI 0] 29 :: .blk b2 [.slice none 0 0, .slice none 0 0, .slice none 0 0] 26 :: .blk b1 [sl A_w_0 w_0 c_w_0, sl A_w_1 w_1 c_w_1, sl A_w_2 w_2 c_w_2] 26 :: Fz F13 W14 :: cs)) rfl (fun w_ h => h.onil none 61 3) ?_
    refine fin_conv (l' := [(6, vI 6), (5, vP b3 0), (4, vP b2 0)]) (M' := Mem w0 (ow none ([] : List api_Item) 0 61 3 [] :: ow none ([] : List Int) 0 3 1 [] :: ow none ([] : List api_Kind) 0 86 2 [] :: ow A10 x7 c11 42 2 y12 :: .blk b3 [vI 0, vI 0] 29 :: .blk b2 [.slice none 0 0, .slice none 0 0, .slice none 0 0] 26 :: .blk b1 [sl A_w_0 w_0 c_w_0, sl A_w_1 w_1 c_w_1, sl A_w_2 w_2 c_w_2] 26 :: Fz F13 W14 :: cs)) rfl (fun _ h => h) ?_
    have hq_ := Option.some.inj hp
    obtain ⟨hr0_, hq_⟩ := Prod.mk.inj hq_
    obtain ⟨hr1_, hq_⟩ := Prod.mk.inj hq_
    obtain ⟨hr2_, hq_⟩ := Prod.mk.inj hq_
    obtain ⟨hr3_, hq_⟩ := Prod.mk.inj hq_
    obtain ⟨hr4_, hq_⟩ := Prod.mk.inj hq_
    have hr5_ := hq_
    subst hr0_
    subst hr1_
    subst hr2_
    subst hr3_
    subst hr4_
    subst hr5_
    refine fin_ret [.cell 4 26, .cell 5 29, .tmp 6] [.agg #[sl none ([] : List api_Kind) 0, sl none ([] : List Int) 0, sl none ([] : List api_Item) 0], .agg #[vI 0, vI 0], vI 6] rfl rfl (fun w_ hM => (.cell rfl (tr_run _ [.v (.slice none 0 0), .v (.slice none 0 0), .v (.slice none 0 0)] [ld b2 0 (.slice none 0 0), ld b2 1 (.slice none 0 0), ld b2 2 (.slice none 0 0)] (.agg #[.slice none 0 0, .slice none 0 0, .slice none 0 0] : Value) _ _ (by kernel_rfl) ⟨hM.cell 5 rfl rfl, hM.cell 5 rfl rfl, hM.cell 5 rfl rfl, rfl⟩) (.cell rfl (tr_run _ [.v (vI 0), .v (vI 0)] [ld b3 0 (vI 0), ld b3 1 (vI 0)] (.agg #[vI 0, vI 0] : Value) _ _ (by kernel_rfl) ⟨hM.cell 4 rfl rfl, hM.cell 4 rfl rfl, rfl⟩) (.tmp rfl .nil)))) (fun w_ hM => ?_)
    exact ⟨none, 0, [], none, 0, [], none, 0, [], F13, W14, ⟨(RepL.nil (R := R_api_Kind)), (RepL.nil (R := (Rep.int .i64))), (RepL.nil (R := R_api_Item)), h16⟩, rfl, hM.pick 8 [2, 1, 0, 7] (by kernel_rfl) (by decide) rfl⟩
   ·
    have hp := cnd_f hc21 hp
    refine st_skip (fin_then (st_seq (st_region [oF 0, oF 1, oF 2] (by rfl) ?_)))
    refine ops_mem (d := some 43) (an := [.v (sl A_w_0 w_0 c_w_0), .v (sl A_w_1 w_1 c_w_1), .v (sl A_w_2 w_2 c_w_2)]) (evs := [ld b1 0 (sl A_w_0 w_0 c_w_0), ld b1 1 (sl A_w_1 w_1 c_w_1), ld b1 2 (sl A_w_2 w_2 c_w_2)]) (v := .agg #[sl A_w_0 w_0 c_w_0, sl A_w_1 w_1 c_w_1, sl A_w_2 w_2 c_w_2]) ⟨by kernel_rfl⟩ (fun w_ hM hS => ⟨w_, ⟨hM.cell 3 rfl rfl, hM.cell 3 rfl rfl, hM.cell 3 rfl rfl, rfl⟩, hM, trivial⟩) ?_
    obtain ⟨x22, x23, x24, hv25, hp⟩ := obind3 hp
    refine ops_callI (σ := (Option Addr) × Nat × (List Value) × (Option Addr) × Nat × (List Value) × (Option Addr) × Nat × (List Value) × (Nat → Prop) × World) (d := some 44) (f := 34) (args := #[.agg #[sl A_w_0 w_0 c_w_0, sl A_w_1 w_1 c_w_1, sl A_w_2 w_2 c_w_2]]) (v := (fun x_ => match x_ with | (A26, c27, y28, A29, c30, y31, A32, c33, y34, F35, W36) => .agg #[sl A26 x22 c27, sl A29 x23 c30, sl A32 x24 c33])) (I := (fun x_ => match x_ with | (A26, c27, y28, A29, c30, y31, A32, c33, y34, F35, W36) => (RepL R_api_Kind F35 W36 x22 y28) ∧ (RepL (Rep.int .i64) F35 W36 x23 y31) ∧ (RepL R_api_Item F35 W36 x24 y34) ∧ (Ext w0 F13 W14 F35 W36))) (M' := (fun x_ => match x_ with | (A26, c27, y28, A29, c30, y31, A32, c33, y34, F35, W36) => Mem w0 (ow A26 x22 c27 86 2 y28 :: ow A29 x23 c30 3 1 y31 :: ow A32 x24 c33 61 3 y34 :: ow A10 x7 c11 42 2 y12 :: .blk b3 [vI 0, vI 0] 29 :: .blk b2 [.slice none 0 0, .slice none 0 0, .slice none 0 0] 26 :: .blk b1 [sl A_w_0 w_0 c_w_0, sl A_w_1 w_1 c_w_1, sl A_w_2 w_2 c_w_2] 26 :: Fz F35 W36 :: cs))) ⟨by kernel_rfl⟩ (fun w_ hM hS => (world_Copy_ok w0 w_ (ow A10 x7 c11 42 2 y12 :: .blk b3 [vI 0, vI 0] 29 :: .blk b2 [.slice none 0 0, .slice none 0 0, .slice none 0 0] 26 :: .blk b1 [sl A_w_0 w_0 c_w_0, sl A_w_1 w_1 c_w_1, sl A_w_2 w_2 c_w_2] 26 :: cs) F13 W14 A_w_0 c_w_0 w_0 A_w_1 c_w_1 w_1 A_w_2 c_w_2 w_2 (hM.pick 5 [4, 0, 1, 2, 3] (by kernel_rfl) (by decide) rfl) h_w_0 h_w_1 h_w_2 x22 x23 x24 hv25).mono (by rintro e w' ⟨A26, c27, y28, A29, c30, y31, A32, c33, y34, F35, W36, ⟨h37, h38, h39, h40⟩, rfl, h'⟩; have h' : Mem w0 (ow A26 x22 c27 86 2 y28 :: ow A29 x23 c30 3 1 y31 :: ow A32 x24 c33 61 3 y34 :: ow A10 x7 c11 42 2 y12 :: .blk b3 [vI 0, vI 0] 29 :: .blk b2 [.slice none 0 0, .slice none 0 0, .slice none 0 0] 26 :: .blk b1 [sl A_w_0 w_0 c_w_0, sl A_w_1 w_1 c_w_1, sl A_w_2 w_2 c_w_2] 26 :: Fz F35 W36 :: cs) w' := (h'.pick 8 [0, 1, 2, 4, 5, 6, 7, 3] (by kernel_rfl) (by decide) rfl); exact ⟨(A26, c27, y28, A29, c30, y31, A32, c33, y34, F35, W36), ⟨h37, h38, h39, h40⟩, rfl, h', trivial⟩)) ?_
    rintro ⟨A26, c27, y28, A29, c30, y31, A32, c33, y34, F35, W36⟩ ⟨h37, h38, h39, h40⟩
    have h_w_0 := h_w_0.ext h40
    have h_w_1 := h_w_1.ext h40
    have h_w_2 := h_w_2.ext h40
    have h15 := h15.ext h40
    refine ops_store (an := []) (evs := [sr b1 0 (sl A26 x22 c27), sr b1 1 (sl A29 x23 c30), sr b1 2 (sl A32 x24 c33)]) ⟨by kernel_rfl⟩ (fun w_ hM hS => let ⟨w', he, h'⟩ := hM.evs_stores [sl A26 x22 c27, sl A29 x23 c30, sl A32 x24 c33] 6 rfl 0 (Nat.le_of_ble_eq_true rfl); ⟨w', he, h', trivial⟩) ?_
    refine ops_nil (fin_then ?_)
    refine st_join1 (σ := (Option Addr) × Nat × (List Int) × (List Value) × (Option Addr) × Nat × (List Value) × (List Value) × (List Value)) (L := fun x_ => match x_ with | (A41, c42, l43, y44, A46, c47, y48, y50, y52) => [(2, vP b1 0), (4, vP b2 0), (5, vP b3 0), (8, sl A10 x7 c11), (10, vI x18)]) (N := fun x_ => match x_ with | (A41, c42, l43, y44, A46, c47, y48, y50, y52) => Mem w0 (.blk b1 [sl A26 x22 c27, sl A41 l43 c42, sl A32 x24 c33] 26 :: ow A26 x22 c27 86 2 y28 :: ow A41 l43 c42 3 1 y44 :: ow A32 x24 c33 61 3 y34 :: .blk b2 [sl A46 ([] : List api_Kind) c47, sl A46 ([] : List Int) c47, sl A46 ([] : List api_Item) c47] 26 :: ow A46 ([] : List api_Kind) c47 86 2 y48 :: ow A46 ([] : List Int) c47 3 1 y50 :: ow A46 ([] : List api_Item) c47 61 3 y52 :: .blk b3 [vI 0, vI 0] 29 :: ow A10 x7 c11 42 2 y12 :: Fz F35 W36 :: cs)) (I := fun x_ => match x_ with | (A41, c42, l43, y44, A46, c47, y48, y50, y52) => ((world_Spawn_j1 x18 x24 x7 x22) l43 = some (l9003, l9008, l9013, i9016, i9017, i9018)) ∧ (RepL (Rep.int .i64) F35 W36 l43 y44) ∧ (RepL R_api_Kind F35 W36 ([] : List api_Kind) y48) ∧ (RepL (Rep.int .i64) F35 W36 ([] : List Int) y50) ∧ (RepL R_api_Item F35 W36 ([] : List api_Item) y52)) ?_ ?_
    ·
     rintro ⟨A41, c42, l43, y44, A46, c47, y48, y50, y52⟩ ⟨hp, h45, h49, h51, h53⟩
     unfold world_Spawn_j1 at hp
     refine st_seq (st_region [oF 0, oF 1, oF 2, oF 3, oF 4, oF 5, oF 6, oF 7, oF 8] (by rfl) ?_)
     refine oQ [oF 0, oF 1] [(56, vP b1 1), (55, vI x18), (2, vP b1 0), (4, vP b2 0), (5, vP b3 0), (8, sl A10 x7 c11), (10, vI x18)] (by kernel_rfl) ?_
     refine ops_mem (d := some 57) (an := [.v (sl A41 l43 c42)]) (evs := [ld b1 1 (sl A41 l43 c42)]) (v := sl A41 l43 c42) ⟨by kernel_rfl⟩ (fun w_ hM hS => ⟨w_, ⟨hM.cell 0 rfl rfl, rfl⟩, hM, trivial⟩) ?_
     refine oQ [oF 3] [(58, vI x18), (57, sl A41 l43 c42), (55, vI x18), (2, vP b1 0), (4, vP b2 0), (5, vP b3 0), (8, sl A10 x7 c11), (10, vI x18)] (by kernel_rfl) ?_
     obtain ⟨x54, hv55, hp⟩ := obind hp
     obtain ⟨m56, hm57, hx58⟩ := idx_some hv55
     have hl61 := (List.getElem?_eq_some_iff.1 hx58).1
     refine ops_fact (fun w_ hM => hM.orowSome 2 rfl (Nat.lt_of_le_of_lt (Nat.zero_le _) hl61)) ?_
     rintro ⟨g62, rfl, -⟩
     obtain ⟨vs59, hr60, hq63⟩ := h45.at_ m56 x54 hx58
     obtain rfl := hr60
     refine ops_val (op := (.indexAddr 23 (.tmp 57) (.tmp 58))) (d := some 59) (v := vP g62 (m56 * 1)) ⟨by kernel_rfl⟩ (run_indexRow Tryz.underlying23 (z := 1) (by kernel_rfl) rfl rfl hm57 hl61 rfl) ?_
     refine ops_mem (d := some 60) (an := [.v (vI x54)]) (evs := [.load ⟨g62, m56 * 1, none⟩ (vI x54)]) (v := vI x54) ⟨by kernel_rfl⟩ (fun w_ hM hS => ⟨w_, ⟨hM.ocell 2 rfl (hq63 0 _ rfl), rfl⟩, hM, trivial⟩) ?_
     refine oQ [oF 6] [(61, .agg #[vI x18, vI x54]), (2, vP b1 0), (4, vP b2 0), (5, vP b3 0), (8, sl A10 x7 c11), (10, vI x18)] (by kernel_rfl) ?_
     refine ops_newB (d := some 12) [vI 0, vI 0] 29 (fun b64 => ⟨by kernel_rfl⟩) (fun w_ hM hS => trivial) (fun b64 => ?_)
     refine ops_store (an := []) (evs := [sr b64 0 (vI x18), sr b64 1 (vI x54)]) ⟨by kernel_rfl⟩ (fun w_ hM hS => let ⟨w', he, h'⟩ := hM.evs_stores [vI x18, vI x54] 0 rfl 0 (Nat.le_of_ble_eq_true rfl); ⟨w', he, h', trivial⟩) ?_
     refine ops_nil (fin_then (st_seq (st_region [oF 0, oF 1, oF 2, oF 3, oF 4, oF 5, oF 6, oF 7, oF 8] (by rfl) ?_)))
     refine oQ [oF 0] [(63, vP b1 2), (12, vP b64 0), (2, vP b1 0), (4, vP b2 0), (5, vP b3 0), (8, sl A10 x7 c11), (10, vI x18)] (by kernel_rfl) ?_
     refine ops_mem (d := some 64) (an := [.v (sl A32 x24 c33)]) (evs := [ld b1 2 (sl A32 x24 c33)]) (v := sl A32 x24 c33) ⟨by kernel_rfl⟩ (fun w_ hM hS => ⟨w_, ⟨hM.cell 1 rfl rfl, rfl⟩, hM, trivial⟩) ?_
     refine oQ [oF 2] [(65, vI x18), (64, sl A32 x24 c33), (12, vP b64 0), (2, vP b1 0), (4, vP b2 0), (5, vP b3 0), (8, sl A10 x7 c11)] (by kernel_rfl) ?_
     obtain ⟨x65, x66, hv67, hp⟩ := obind2 hp
     refine ops_callI (σ := Unit) (d := some 66) (f := 35) (args := #[sl A32 x24 c33, vI x18, .func (.func 36) #[] #[]]) (v := (fun _ => .tuple #[vI x65, .bool x66])) (I := (fun _ => True)) (M' := (fun _ => Mem w0 (.blk b64 [vI x18, vI x54] 29 :: .blk b1 [sl A26 x22 c27, sl (sa g62) l43 c42, sl A32 x24 c33] 26 :: ow A26 x22 c27 86 2 y28 :: ow (sa g62) l43 c42 3 1 y44 :: ow A32 x24 c33 61 3 y34 :: .blk b2 [sl A46 ([] : List api_Kind) c47, sl A46 ([] : List Int) c47, sl A46 ([] : List api_Item) c47] 26 :: ow A46 ([] : List api_Kind) c47 86 2 y48 :: ow A46 ([] : List Int) c47 3 1 y50 :: ow A46 ([] : List api_Item) c47 61 3 y52 :: .blk b3 [vI 0, vI 0] 29 :: ow A10 x7 c11 42 2 y12 :: Fz F35 W36 :: cs))) ⟨by kernel_rfl⟩ (fun w_ hM hS => (slices_BinarySearchFunc_api_Item_api_Item_int_ok w_ w_ [] (fun b => b < w_.heap.size) w_ A32 c33 x24 x18 (Mem.fz0 w_) (hM.ordS 4 11 rfl rfl h39 rfl rfl) x65 x66 hv67).mono (by rintro e w' ⟨-, rfl, h'⟩; have h' : Mem w_ [] w' := h'.pick 1 [] (by kernel_rfl) (by decide) rfl; exact ⟨(), trivial, rfl, hM.join h' rfl, trivial⟩)) ?_
     rintro _ -
     refine oQ [oF 4, oF 5, oF 6, oF 7, oF 8] [(13, vI x65), (12, vP b64 0), (2, vP b1 0), (4, vP b2 0), (5, vP b3 0), (8, sl A10 x7 c11)] (by kernel_rfl) ?_
     refine ops_nil (fin_then (st_seq (st_region [oF 0, oF 1, oF 2, oF 3, oF 4, oF 5, oF 6, oF 7, oF 8, oF 9] (by rfl) ?_)))
     refine oQ [oF 0] [(69, vP b1 2), (13, vI x65), (12, vP b64 0), (2, vP b1 0), (4, vP b2 0), (5, vP b3 0), (8, sl A10 x7 c11)] (by kernel_rfl) ?_
     refine ops_mem (d := some 70) (an := [.v (sl A32 x24 c33)]) (evs := [ld b1 2 (sl A32 x24 c33)]) (v := sl A32 x24 c33) ⟨by kernel_rfl⟩ (fun w_ hM hS => ⟨w_, ⟨hM.cell 1 rfl rfl, rfl⟩, hM, trivial⟩) ?_
     refine oQ [oF 2] [(71, vI x65), (70, sl A32 x24 c33), (12, vP b64 0), (2, vP b1 0), (4, vP b2 0), (5, vP b3 0), (8, sl A10 x7 c11)] (by kernel_rfl) ?_
     refine ops_mem (d := some 72) (an := [.v (vI x18), .v (vI x54)]) (evs := [ld b64 0 (vI x18), ld b64 1 (vI x54)]) (v := .agg #[vI x18, vI x54]) ⟨by kernel_rfl⟩ (fun w_ hM hS => ⟨w_, ⟨hM.cell 0 rfl rfl, hM.cell 0 rfl rfl, rfl⟩, hM, trivial⟩) ?_
     refine oQ [oF 4, oF 5] [(74, .agg #[vI x18, vI x54, sl A10 x7 c11]), (71, vI x65), (70, sl A32 x24 c33), (12, vP b64 0), (2, vP b1 0), (4, vP b2 0), (5, vP b3 0)] (by kernel_rfl) ?_
     refine ops_ex (σ := (Nat → Prop) × World) (I := fun x_ => Ext w0 F35 W36 x_.1 x_.2 ∧ RdS R_api_Comp x_.1 x_.2 A10 c11 x7) (M' := fun x_ => Mem w0 (.blk b64 [vI x18, vI x54] 29 :: .blk b1 [sl A26 x22 c27, sl (sa g62) l43 c42, sl A32 x24 c33] 26 :: ow A26 x22 c27 86 2 y28 :: ow (sa g62) l43 c42 3 1 y44 :: ow A32 x24 c33 61 3 y34 :: .blk b2 [sl A46 ([] : List api_Kind) c47, sl A46 ([] : List Int) c47, sl A46 ([] : List api_Item) c47] 26 :: ow A46 ([] : List api_Kind) c47 86 2 y48 :: ow A46 ([] : List Int) c47 3 1 y50 :: ow A46 ([] : List api_Item) c47 61 3 y52 :: .blk b3 [vI 0, vI 0] 29 :: Fz x_.1 x_.2 :: cs)) (fun w_ hM => ?_) ?_
     · obtain ⟨F_, h1_, h2_, h3_⟩ := (hM.pick 12 [10, 11, 0, 1, 2, 3, 4, 5, 6, 7, 8, 9] (by kernel_rfl) (by decide) rfl : Mem w0 (ow A10 x7 c11 42 2 y12 :: Fz F35 W36 :: .blk b64 [vI x18, vI x54] 29 :: .blk b1 [sl A26 x22 c27, sl (sa g62) l43 c42, sl A32 x24 c33] 26 :: ow A26 x22 c27 86 2 y28 :: ow (sa g62) l43 c42 3 1 y44 :: ow A32 x24 c33 61 3 y34 :: .blk b2 [sl A46 ([] : List api_Kind) c47, sl A46 ([] : List Int) c47, sl A46 ([] : List api_Item) c47] 26 :: ow A46 ([] : List api_Kind) c47 86 2 y48 :: ow A46 ([] : List Int) c47 3 1 y50 :: ow A46 ([] : List api_Item) c47 61 3 y52 :: .blk b3 [vI 0, vI 0] 29 :: cs) w_).freeze (z := 2) h15 rfl rfl
       exact ⟨(F_, w_), ⟨h1_, h2_⟩, h3_.pick 11 [1, 2, 3, 4, 5, 6, 7, 8, 9, 10, 0] (by kernel_rfl) (by decide) rfl⟩
     rintro ⟨F68, W69⟩ ⟨hx70, h71⟩
     have hx70 : Ext w0 F35 W36 F68 W69 := hx70
     have h71 : RdS R_api_Comp F68 W69 A10 c11 x7 := h71
     have h37 := h37.ext hx70
     have h45 := h45.ext hx70
     have h39 := h39.ext hx70
     have h49 := h49.ext hx70
     have h51 := h51.ext hx70
     have h53 := h53.ext hx70
     have h72 : RepL R_api_Item F68 W69 ([(api_Item.mk (api_Ent.mk x18 x54) x7)] : List api_Item) ([vI x18, vI x54, sl A10 x7 c11]) := (RepL.cons (R := R_api_Item) (F := F68) (w := W69) (vs := [vI x18, vI x54, sl A10 x7 c11]) (ys := []) (enc_api_Item h71) RepL.nil)
     refine ops_new (d := some 75) (o := .cells ([vI x18, vI x54, sl A10 x7 c11] : List Value).toArray 61) (v := fun g73 => .slice (sa g73) ([(api_Item.mk (api_Ent.mk x18 x54) x7)] : List api_Item).length 1) (M' := fun g73 => Mem w0 (orow (sa g73) ([(api_Item.mk (api_Ent.mk x18 x54) x7)] : List api_Item).length 1 61 3 ([vI x18, vI x54, sl A10 x7 c11]) :: .blk b64 [vI x18, vI x54] 29 :: .blk b1 [sl A26 x22 c27, sl (sa g62) l43 c42, sl A32 x24 c33] 26 :: ow A26 x22 c27 86 2 y28 :: ow (sa g62) l43 c42 3 1 y44 :: ow A32 x24 c33 61 3 y34 :: .blk b2 [sl A46 ([] : List api_Kind) c47, sl A46 ([] : List Int) c47, sl A46 ([] : List api_Item) c47] 26 :: ow A46 ([] : List api_Kind) c47 86 2 y48 :: ow A46 ([] : List Int) c47 3 1 y50 :: ow A46 ([] : List api_Item) c47 61 3 y52 :: .blk b3 [vI 0, vI 0] 29 :: Fz F68 W69 :: cs)) (fun g73 => ⟨by kernel_rfl⟩) (fun w_ hM hS => ⟨hM.onew [vI x18, vI x54, sl A10 x7 c11] 61 1 3 rfl (by decide), trivial⟩) (fun g73 => ?_)
     obtain ⟨x74, hv75, hp⟩ := obind hp
     refine ops_callI (σ := (Option Addr) × Nat × (List Value)) (d := some 76) (f := 38) (args := #[sl A32 x24 c33, vI x65, .slice (sa g73) ([(api_Item.mk (api_Ent.mk x18 x54) x7)] : List api_Item).length 1]) (v := (fun x_ => match x_ with | (A76, c77, y78) => sl A76 x74 c77)) (I := (fun x_ => match x_ with | (A76, c77, y78) => (RepL R_api_Item F68 W69 x74 y78))) (M' := (fun x_ => match x_ with | (A76, c77, y78) => Mem w0 (ow A76 x74 c77 61 3 y78 :: .blk b64 [vI x18, vI x54] 29 :: .blk b1 [sl A26 x22 c27, sl (sa g62) l43 c42, sl A32 x24 c33] 26 :: ow A26 x22 c27 86 2 y28 :: ow (sa g62) l43 c42 3 1 y44 :: .blk b2 [sl A46 ([] : List api_Kind) c47, sl A46 ([] : List Int) c47, sl A46 ([] : List api_Item) c47] 26 :: ow A46 ([] : List api_Kind) c47 86 2 y48 :: ow A46 ([] : List Int) c47 3 1 y50 :: ow A46 ([] : List api_Item) c47 61 3 y52 :: .blk b3 [vI 0, vI 0] 29 :: Fz F68 W69 :: cs))) ⟨by kernel_rfl⟩ (fun w_ hM hS => (slices_Insert_api_Item_api_Item_ok w0 w_ (.blk b64 [vI x18, vI x54] 29 :: .blk b1 [sl A26 x22 c27, sl (sa g62) l43 c42, sl A32 x24 c33] 26 :: ow A26 x22 c27 86 2 y28 :: ow (sa g62) l43 c42 3 1 y44 :: .blk b2 [sl A46 ([] : List api_Kind) c47, sl A46 ([] : List Int) c47, sl A46 ([] : List api_Item) c47] 26 :: ow A46 ([] : List api_Kind) c47 86 2 y48 :: ow A46 ([] : List Int) c47 3 1 y50 :: ow A46 ([] : List api_Item) c47 61 3 y52 :: .blk b3 [vI 0, vI 0] 29 :: cs) F68 W69 A32 c33 x24 y34 x65 (sa g73) 1 ([(api_Item.mk (api_Ent.mk x18 x54) x7)] : List api_Item) ([vI x18, vI x54, sl A10 x7 c11]) (hM.pick 12 [5, 0, 11, 1, 2, 3, 4, 6, 7, 8, 9, 10] (by kernel_rfl) (by decide) rfl) h39 h72 x74 hv75).mono (by rintro e w' ⟨A76, c77, y78, h79, rfl, h'⟩; have h' : Mem w0 (ow A76 x74 c77 61 3 y78 :: .blk b64 [vI x18, vI x54] 29 :: .blk b1 [sl A26 x22 c27, sl (sa g62) l43 c42, sl A32 x24 c33] 26 :: ow A26 x22 c27 86 2 y28 :: ow (sa g62) l43 c42 3 1 y44 :: .blk b2 [sl A46 ([] : List api_Kind) c47, sl A46 ([] : List Int) c47, sl A46 ([] : List api_Item) c47] 26 :: ow A46 ([] : List api_Kind) c47 86 2 y48 :: ow A46 ([] : List Int) c47 3 1 y50 :: ow A46 ([] : List api_Item) c47 61 3 y52 :: .blk b3 [vI 0, vI 0] 29 :: Fz F68 W69 :: cs) w' := (h'.pick 11 [0, 2, 3, 4, 5, 6, 7, 8, 9, 10, 1] (by kernel_rfl) (by decide) rfl); exact ⟨(A76, c77, y78), h79, rfl, h', trivial⟩)) ?_
     rintro ⟨A76, c77, y78⟩ h79
     refine oQ [oF 8] [(77, vP b1 2), (76, sl A76 x74 c77), (12, vP b64 0), (2, vP b1 0), (4, vP b2 0), (5, vP b3 0)] (by kernel_rfl) ?_
     refine ops_store (an := []) (evs := [sr b1 2 (sl A76 x74 c77)]) ⟨by kernel_rfl⟩ (fun w_ hM hS => let ⟨w', he, h'⟩ := hM.evs_stores [sl A76 x74 c77] 2 rfl 2 (Nat.le_of_ble_eq_true rfl); ⟨w', he, h', trivial⟩) ?_
     refine ops_nil (fin_then (st_seq ?_))
     refine st_region_draw [oT 0, oT 1, oF 2, oF 3, oT 4] (Mem w0 (ow A76 x74 c77 61 3 y78 :: .blk b64 [vI x18, vI x54] 29 :: .blk b1 [sl A26 x22 c27, sl (sa g62) l43 c42, sl A76 x74 c77] 26 :: ow A26 x22 c27 86 2 y28 :: ow (sa g62) l43 c42 3 1 y44 :: ow A46 ([] : List api_Kind) c47 86 2 y48 :: ow A46 ([] : List Int) c47 3 1 y50 :: ow A46 ([] : List api_Item) c47 61 3 y52 :: Fz F68 W69 :: cs)) (by kernel_rfl) (by kernel_rfl) (by kernel_rfl) (fun _ d _ _ _ h => by cases d <;> exact h) (M' := Mem w0 (ow A76 x74 c77 61 3 y78 :: .blk b64 [vI x18, vI x54] 29 :: .blk b1 [sl A26 x22 c27, sl (sa g62) l43 c42, sl A76 x74 c77] 26 :: ow A26 x22 c27 86 2 y28 :: ow (sa g62) l43 c42 3 1 y44 :: .blk b2 [sl A46 ([] : List api_Kind) c47, sl A46 ([] : List Int) c47, sl A46 ([] : List api_Item) c47] 26 :: ow A46 ([] : List api_Kind) c47 86 2 y48 :: ow A46 ([] : List Int) c47 3 1 y50 :: ow A46 ([] : List api_Item) c47 61 3 y52 :: .blk b3 [vI 0, vI 0] 29 :: Fz F68 W69 :: cs)) (fun w_ hM => ⟨hM.drew, hM.drew.sub (.cons_cons _ (.cons_cons _ (.cons_cons _ (.cons_cons _ (.cons_cons _ (.cons _ (.cons_cons _ (.cons_cons _ (.cons_cons _ (.cons _ (.cons_cons _ (.refl _))))))))))))⟩) ?_
     refine ops_load (d := some 78) (an := [.v (sl A26 x22 c27), .v (sl (sa g62) l43 c42), .v (sl A76 x74 c77)]) (evs := [ld b1 0 (sl A26 x22 c27), ld b1 1 (sl (sa g62) l43 c42), ld b1 2 (sl A76 x74 c77)]) (v := .agg #[sl A26 x22 c27, sl (sa g62) l43 c42, sl A76 x74 c77]) ⟨by kernel_rfl⟩ (fun w_ hM => ⟨hM.cell 2 rfl rfl, hM.cell 2 rfl rfl, hM.cell 2 rfl rfl, rfl⟩) ?_
     refine ops_load (d := some 79) (an := [.v (vI x18), .v (vI x54)]) (evs := [ld b64 0 (vI x18), ld b64 1 (vI x54)]) (v := .agg #[vI x18, vI x54]) ⟨by kernel_rfl⟩ (fun w_ hM => ⟨hM.cell 1 rfl rfl, hM.cell 1 rfl rfl, rfl⟩) ?_
     refine ops_store (an := []) (evs := [sr b2 0 (sl A26 x22 c27), sr b2 1 (sl (sa g62) l43 c42), sr b2 2 (sl A76 x74 c77)]) ⟨by kernel_rfl⟩ (fun w_ hM hS => let ⟨w', he, h'⟩ := hM.evs_stores [sl A26 x22 c27, sl (sa g62) l43 c42, sl A76 x74 c77] 5 rfl 0 (Nat.le_of_ble_eq_true rfl); ⟨w', he, h', (by exact h'.sub (.cons_cons _ (.cons_cons _ (.cons_cons _ (.cons_cons _ (.cons_cons _ (.cons _ (.cons_cons _ (.cons_cons _ (.cons_cons _ (.cons _ (.cons_cons _ (.refl _)))))))))))))⟩) ?_
     refine ops_store (an := []) (evs := [sr b3 0 (vI x18), sr b3 1 (vI x54)]) ⟨by kernel_rfl⟩ (fun w_ hM hS => let ⟨w', he, h'⟩ := hM.evs_stores [vI x18, vI x54] 9 rfl 0 (Nat.le_of_ble_eq_true rfl); ⟨w', he, h', (by exact h'.sub (.cons_cons _ (.cons_cons _ (.cons_cons _ (.cons_cons _ (.cons_cons _ (.cons _ (.cons_cons _ (.cons_cons _ (.cons_cons _ (.cons _ (.cons_cons _ (.refl _)))))))))))))⟩) ?_
     refine oQ [oT 4] [(6, vI 0), (4, vP b2 0), (5, vP b3 0)] (by kernel_rfl) ?_
     refine ops_nil (fin_then (st_ret ?_))
     have hq_ := Option.some.inj hp
     obtain ⟨hr0_, hq_⟩ := Prod.mk.inj hq_
     obtain ⟨hr1_, hq_⟩ := Prod.mk.inj hq_
     obtain ⟨hr2_, hq_⟩ := Prod.mk.inj hq_
     obtain ⟨hr3_, hq_⟩ := Prod.mk.inj hq_
     obtain ⟨hr4_, hq_⟩ := Prod.mk.inj hq_
     have hr5_ := hq_
     subst hr0_
     subst hr1_
     subst hr2_
     subst hr3_
     subst hr4_
     subst hr5_
     refine fin_ret [.cell 4 26, .cell 5 29, .tmp 6] [.agg #[sl A26 x22 c27, sl (sa g62) l43 c42, sl A76 x74 c77], .agg #[vI x18, vI x54], vI 0] rfl rfl (fun w_ hM => (.cell rfl (tr_run _ [.v (sl A26 x22 c27), .v (sl (sa g62) l43 c42), .v (sl A76 x74 c77)] [ld b2 0 (sl A26 x22 c27), ld b2 1 (sl (sa g62) l43 c42), ld b2 2 (sl A76 x74 c77)] (.agg #[sl A26 x22 c27, sl (sa g62) l43 c42, sl A76 x74 c77] : Value) _ _ (by kernel_rfl) ⟨hM.cell 5 rfl rfl, hM.cell 5 rfl rfl, hM.cell 5 rfl rfl, rfl⟩) (.cell rfl (tr_run _ [.v (vI x18), .v (vI x54)] [ld b3 0 (vI x18), ld b3 1 (vI x54)] (.agg #[vI x18, vI x54] : Value) _ _ (by kernel_rfl) ⟨hM.cell 9 rfl rfl, hM.cell 9 rfl rfl, rfl⟩) (.tmp rfl .nil)))) (fun w_ hM => ?_)
     exact ⟨A26, c27, y28, (sa g62), c42, y44, A76, c77, y78, F68, W69, ⟨h37, h45, h79, ((h16.trans h40).trans hx70)⟩, rfl, hM.pick 11 [3, 4, 0, 10] (by kernel_rfl) (by decide) rfl⟩
    ·
     intro HJ1
     refine st_seq (st_seq (st_region [oF 0, oF 1, oF 2, oF 3, oF 4] (by rfl) ?_))
     refine oQ [oF 0, oF 1] [(46, vP b1 1), (45, vI x18), (10, vI x18), (8, sl A10 x7 c11), (5, vP b3 0), (4, vP b2 0), (2, vP b1 0)] (by kernel_rfl) ?_
     refine ops_mem (d := some 47) (an := [.v (sl A29 x23 c30)]) (evs := [ld b1 1 (sl A29 x23 c30)]) (v := sl A29 x23 c30) ⟨by kernel_rfl⟩ (fun w_ hM hS => ⟨w_, ⟨hM.cell 6 rfl rfl, rfl⟩, hM, trivial⟩) ?_
     refine oQ [oF 3, oF 4] [(49, .bool (x18 == (x23.length : Int))), (10, vI x18), (8, sl A10 x7 c11), (5, vP b3 0), (4, vP b2 0), (2, vP b1 0)] (by kernel_rfl) ?_
     refine ops_nil (fin_then ?_)
     refine st_if (b := (x18 == (x23.length : Int))) rfl (fun hc80 => ?_) (fun hc80 => ?_)
     ·
      have hp := cnd_t hc80 hp
      refine st_region [oF 0, oF 1, oF 2, oF 3, oF 4, oF 5] (by rfl) ?_
      refine oQ [oF 0] [(50, vP b1 1), (10, vI x18), (8, sl A10 x7 c11), (5, vP b3 0), (4, vP b2 0), (2, vP b1 0)] (by kernel_rfl) ?_
      refine ops_mem (d := some 51) (an := [.v (sl A29 x23 c30)]) (evs := [ld b1 1 (sl A29 x23 c30)]) (v := sl A29 x23 c30) ⟨by kernel_rfl⟩ (fun w_ hM hS => ⟨w_, ⟨hM.cell 6 rfl rfl, rfl⟩, hM, trivial⟩) ?_
      have h81 : RepL (Rep.int .i64) F35 W36 ([0] : List Int) ([vI 0]) := (RepL.cons (R := (Rep.int .i64)) (F := F35) (w := W36) (vs := [vI 0]) (ys := []) rfl RepL.nil)
      refine ops_new (d := some 52) (o := .cells ([vI 0] : List Value).toArray 3) (v := fun g82 => .slice (sa g82) ([0] : List Int).length 1) (M' := fun g82 => Mem w0 (orow (sa g82) ([0] : List Int).length 1 3 1 ([vI 0]) :: ow A26 x22 c27 86 2 y28 :: ow A29 x23 c30 3 1 y31 :: ow A32 x24 c33 61 3 y34 :: ow A10 x7 c11 42 2 y12 :: .blk b3 [vI 0, vI 0] 29 :: .blk b2 [.slice none 0 0, .slice none 0 0, .slice none 0 0] 26 :: .blk b1 [sl A26 x22 c27, sl A29 x23 c30, sl A32 x24 c33] 26 :: Fz F35 W36 :: cs)) (fun g82 => ⟨by kernel_rfl⟩) (fun w_ hM hS => ⟨hM.onew [vI 0] 3 1 1 rfl (by decide), trivial⟩) (fun g82 => ?_)
      obtain ⟨l83, hv84, hp⟩ := obind hp
      obtain ⟨he85, hb86⟩ := app_some hv84
      obtain ⟨y87, hy88⟩ : ∃ y_, y31 ++ ([vI 0]) = y_ := ⟨_, rfl⟩
      have h89 : RepL (Rep.int .i64) F35 W36 l83 y87 := by rw [he85, ← hy88]; exact RepL.app h38 h81
      refine ops_appendO (x := (Go.Operand.tmp 51)) (y := (Go.Operand.tmp 52)) (t := 23) (e := 3) (d := some 53) (n' := l83.length) (z := 1) (m := ([0] : List Int).length) (bytes := 8) (xs' := y87) (news := ([vI 0])) (zv := vI 0) 2 ⟨by kernel_rfl⟩ rfl rfl Tryz.underlying23 (by kernel_rfl) (by rfl) rfl (fun w_ hM => hM.srcO 0 rfl) h81.len h81.one hb86 (by have z_ := congrArg List.length he85; rw [List.length_append] at z_; exact z_.symm) hy88 (fun _ _ _ _ hS h' => trivial) ?_
      rintro ⟨A90, c91⟩
      refine oQ [oF 4] [(54, vP b1 1), (53, sl A90 l83 c91), (10, vI x18), (8, sl A10 x7 c11), (5, vP b3 0), (4, vP b2 0), (2, vP b1 0)] (by kernel_rfl) ?_
      refine ops_store (an := []) (evs := [sr b1 1 (sl A90 l83 c91)]) ⟨by kernel_rfl⟩ (fun w_ hM hS => let ⟨w', he, h'⟩ := hM.evs_stores [sl A90 l83 c91] 7 rfl 1 (Nat.le_of_ble_eq_true rfl); ⟨w', he, h', trivial⟩) ?_
      refine oQ [] [(10, vI x18), (8, sl A10 x7 c11), (5, vP b3 0), (4, vP b2 0), (2, vP b1 0)] (by kernel_rfl) ?_
      refine ops_nil ?_
      refine fin_conv (l' := [(10, vI x18), (8, sl A10 x7 c11), (5, vP b3 0), (4, vP b2 0), (2, vP b1 0)]) (M' := Mem w0 (ow none ([] : List api_Kind) 0 86 2 [] :: orow (sa g82) ([0] : List Int).length 1 3 1 ([vI 0]) :: ow A26 x22 c27 86 2 y28 :: ow A90 l83 c91 3 1 y87 :: ow A32 x24 c33 61 3 y34 :: ow A10 x7 c11 42 2 y12 :: .blk b3 [vI 0, vI 0] 29 :: .blk b2 [.slice none 0 0, .slice none 0 0, .slice none 0 0] 26 :: .blk b1 [sl A26 x22 c27, sl A90 l83 c91, sl A32 x24 c33] 26 :: Fz F35 W36 :: cs)) rfl (fun w_ h => h.onil none 86 2) ?_
      refine fin_conv (l' := [(10, vI x18), (8, sl A10 x7 c11), (5, vP b3 0), (4, vP b2 0), (2, vP b1 0)]) (M' := Mem w0 (ow none ([] : List Int) 0 3 1 [] :: ow none ([] : List api_Kind) 0 86 2 [] :: orow (sa g82) ([0] : List Int).length 1 3 1 ([vI 0]) :: ow A26 x22 c27 86 2 y28 :: ow A90 l83 c91 3 1 y87 :: ow A32 x24 c33 61 3 y34 :: ow A10 x7 c11 42 2 y12 :: .blk b3 [vI 0, vI 0] 29 :: .blk b2 [.slice none 0 0, .slice none 0 0, .slice none 0 0] 26 :: .blk b1 [sl A26 x22 c27, sl A90 l83 c91, sl A32 x24 c33] 26 :: Fz F35 W36 :: cs)) rfl (fun w_ h => h.onil none 3 1) ?_
      refine fin_conv (l' := [(10, vI x18), (8, sl A10 x7 c11), (5, vP b3 0), (4, vP b2 0), (2, vP b1 0)]) (M' := Mem w0 (ow none ([] : List api_Item) 0 61 3 [] :: ow none ([] : List Int) 0 3 1 [] :: ow none ([] : List api_Kind) 0 86 2 [] :: orow (sa g82) ([0] : List Int).length 1 3 1 ([vI 0]) :: ow A26 x22 c27 86 2 y28 :: ow A90 l83 c91 3 1 y87 :: ow A32 x24 c33 61 3 y34 :: ow A10 x7 c11 42 2 y12 :: .blk b3 [vI 0, vI 0] 29 :: .blk b2 [.slice none 0 0, .slice none 0 0, .slice none 0 0] 26 :: .blk b1 [sl A26 x22 c27, sl A90 l83 c91, sl A32 x24 c33] 26 :: Fz F35 W36 :: cs)) rfl (fun w_ h => h.onil none 61 3) ?_
      refine fin_conv (l' := [(10, vI x18), (8, sl A10 x7 c11), (5, vP b3 0), (4, vP b2 0), (2, vP b1 0)]) (M' := Mem w0 (ow none ([] : List api_Item) 0 61 3 [] :: ow none ([] : List Int) 0 3 1 [] :: ow none ([] : List api_Kind) 0 86 2 [] :: orow (sa g82) ([0] : List Int).length 1 3 1 ([vI 0]) :: ow A26 x22 c27 86 2 y28 :: ow A90 l83 c91 3 1 y87 :: ow A32 x24 c33 61 3 y34 :: ow A10 x7 c11 42 2 y12 :: .blk b3 [vI 0, vI 0] 29 :: .blk b2 [sl none ([] : List api_Kind) 0, sl none ([] : List Int) 0, sl none ([] : List api_Item) 0] 26 :: .blk b1 [sl A26 x22 c27, sl A90 l83 c91, sl A32 x24 c33] 26 :: Fz F35 W36 :: cs)) rfl (fun _ h => h) ?_
      exact fin_join HJ1 (A90, c91, l83, y87, none, 0, [], [], []) ⟨hp, h89, (RepL.nil (R := R_api_Kind)), (RepL.nil (R := (Rep.int .i64))), (RepL.nil (R := R_api_Item))⟩ (look_has ⟨rfl, rfl, rfl, rfl, rfl, trivial⟩) (fun w_ hM => hM.pick 12 [10, 4, 5, 6, 9, 2, 1, 0, 8, 7, 11] (by kernel_rfl) (by decide) rfl)
     ·
      have hp := cnd_f hc80 hp
      refine st_skip ?_
      refine fin_conv (l' := [(49, .bool (x18 == (x23.length : Int))), (10, vI x18), (8, sl A10 x7 c11), (5, vP b3 0), (4, vP b2 0), (2, vP b1 0)]) (M' := Mem w0 (ow none ([] : List api_Kind) 0 86 2 [] :: ow A26 x22 c27 86 2 y28 :: ow A29 x23 c30 3 1 y31 :: ow A32 x24 c33 61 3 y34 :: ow A10 x7 c11 42 2 y12 :: .blk b3 [vI 0, vI 0] 29 :: .blk b2 [.slice none 0 0, .slice none 0 0, .slice none 0 0] 26 :: .blk b1 [sl A26 x22 c27, sl A29 x23 c30, sl A32 x24 c33] 26 :: Fz F35 W36 :: cs)) rfl (fun w_ h => h.onil none 86 2) ?_
      refine fin_conv (l' := [(49, .bool (x18 == (x23.length : Int))), (10, vI x18), (8, sl A10 x7 c11), (5, vP b3 0), (4, vP b2 0), (2, vP b1 0)]) (M' := Mem w0 (ow none ([] : List Int) 0 3 1 [] :: ow none ([] : List api_Kind) 0 86 2 [] :: ow A26 x22 c27 86 2 y28 :: ow A29 x23 c30 3 1 y31 :: ow A32 x24 c33 61 3 y34 :: ow A10 x7 c11 42 2 y12 :: .blk b3 [vI 0, vI 0] 29 :: .blk b2 [.slice none 0 0, .slice none 0 0, .slice none 0 0] 26 :: .blk b1 [sl A26 x22 c27, sl A29 x23 c30, sl A32 x24 c33] 26 :: Fz F35 W36 :: cs)) rfl (fun w_ h => h.onil none 3 1) ?_
      refine fin_conv (l' := [(49, .bool (x18 == (x23.length : Int))), (10, vI x18), (8, sl A10 x7 c11), (5, vP b3 0), (4, vP b2 0), (2, vP b1 0)]) (M' := Mem w0 (ow none ([] : List api_Item) 0 61 3 [] :: ow none ([] : List Int) 0 3 1 [] :: ow none ([] : List api_Kind) 0 86 2 [] :: ow A26 x22 c27 86 2 y28 :: ow A29 x23 c30 3 1 y31 :: ow A32 x24 c33 61 3 y34 :: ow A10 x7 c11 42 2 y12 :: .blk b3 [vI 0, vI 0] 29 :: .blk b2 [.slice none 0 0, .slice none 0 0, .slice none 0 0] 26 :: .blk b1 [sl A26 x22 c27, sl A29 x23 c30, sl A32 x24 c33] 26 :: Fz F35 W36 :: cs)) rfl (fun w_ h => h.onil none 61 3) ?_
      refine fin_conv (l' := [(49, .bool (x18 == (x23.length : Int))), (10, vI x18), (8, sl A10 x7 c11), (5, vP b3 0), (4, vP b2 0), (2, vP b1 0)]) (M' := Mem w0 (ow none ([] : List api_Item) 0 61 3 [] :: ow none ([] : List Int) 0 3 1 [] :: ow none ([] : List api_Kind) 0 86 2 [] :: ow A26 x22 c27 86 2 y28 :: ow A29 x23 c30 3 1 y31 :: ow A32 x24 c33 61 3 y34 :: ow A10 x7 c11 42 2 y12 :: .blk b3 [vI 0, vI 0] 29 :: .blk b2 [sl none ([] : List api_Kind) 0, sl none ([] : List Int) 0, sl none ([] : List api_Item) 0] 26 :: .blk b1 [sl A26 x22 c27, sl A29 x23 c30, sl A32 x24 c33] 26 :: Fz F35 W36 :: cs)) rfl (fun _ h => h) ?_
      exact fin_join HJ1 (A29, c30, x23, y31, none, 0, [], [], []) ⟨hp, h38, (RepL.nil (R := R_api_Kind)), (RepL.nil (R := (Rep.int .i64))), (RepL.nil (R := R_api_Item))⟩ (look_has ⟨rfl, rfl, rfl, rfl, rfl, trivial⟩) (fun w_ hM => hM.pick 11 [9, 3, 4, 5, 8, 2, 1, 0, 7, 6, 10] (by kernel_rfl) (by decide) rfl)
theorem tourref3_IsName_ok (w0 w : World) (cs : List Chunk) (F : Nat → Prop) (W : World) (s : ByteArray) (hM0 : Mem w0 (Fz F W :: cs) w) (t9001 : Bool) (hp : tourref3_IsName s = some t9001) : Calls Tryz.prog 72 #[.string s] w fun e w' => (True) ∧ e = .returned (.bool t9001) ∧ Mem w0 (Fz F W :: cs) w' := by
 unfold tourref3_IsName at hp
 refine sx_calls Tryz.func72 rfl (n := 20) (by kernel_rfl) (l := [(0, .string s)]) rfl (by rfl) hM0 ?_
 refine st_seq (st_region [oF 0] (by rfl) ?_)
 refine oQ [oF 0] [(0, .string s)] (by kernel_rfl) ?_
 refine ops_nil (fin_then ?_)
 refine st_join1 (σ := Bool) (L := fun x_ => match x_ with | t1 => [(2, .bool t1)]) (N := fun x_ => match x_ with | t1 => Mem w0 (Fz F W :: cs)) (I := fun x_ => match x_ with | t1 => (tourref3_IsName_j1 t1 = some t9001)) ?_ ?_
 ·
  rintro t1 hp
  unfold tourref3_IsName_j1 at hp
  refine st_ret ?_
  have hq_ := Option.some.inj hp
  have hr0_ := hq_
  subst hr0_
  refine fin_ret [.tmp 2] [.bool t1] rfl rfl (fun w_ hM => (.tmp rfl .nil)) (fun w_ hM => ?_)
  exact ⟨trivial, rfl, hM⟩
 ·
  intro HJ1
  refine st_seq (st_region [oF 0, oF 1, oF 2, oF 3, oF 4, oF 5, oF 6, oF 7, oF 8, oF 9, oF 10, oF 11, oF 12, oF 13, oF 14, oF 15, oF 16, oF 17] (by rfl) ?_)
  refine oQ [oF 0, oF 1, oF 2] [(5, .bool (!(s.toList == (⟨#[]⟩ : ByteArray).toList))), (0, .string s)] (by kernel_rfl) ?_
  refine ops_bool (t := !(s.toList == (⟨#[]⟩ : ByteArray).toList)) (l1 := [(5, .bool true), (0, .string s)]) (l2 := [(5, .bool false), (0, .string s)]) (fun h => by rw [h]) (fun h => by rw [h]) (fun hc2 => ?_) (fun hc2 => ?_)
  ·
   have hp := cnd_t hc2 hp
   refine oQ [oF 3, oF 4, oF 5, oF 6, oF 7] [(10, .bool (decide ((s.size : Int) < 17))), (0, .string s)] (by kernel_rfl) ?_
   refine ops_bool (t := decide ((s.size : Int) < 17)) (l1 := [(10, .bool true), (0, .string s)]) (l2 := [(10, .bool false), (0, .string s)]) (fun h => by rw [h]) (fun h => by rw [h]) (fun hc3 => ?_) (fun hc3 => ?_)
   ·
    have hp := cnd_t hc3 hp
    refine oQ [oF 8] [(11, .string s), (10, .bool true), (0, .string s)] (by kernel_rfl) ?_
    obtain ⟨x4, hv5, hp⟩ := obind hp
    refine ops_callI (σ := Unit) (d := some 12) (f := 99) (args := #[.string s, .string (⟨#[97, 98, 99, 100, 101, 102, 103, 104, 105, 106, 107, 108, 109, 110, 111, 112, 113, 114, 115, 116, 117, 118, 119, 120, 121, 122, 48, 49, 50, 51, 52, 53, 54, 55, 56, 57]⟩)]) (v := (fun _ => .string x4)) (I := (fun _ => True)) (M' := (fun _ => Mem w0 (Fz F W :: cs))) ⟨by kernel_rfl⟩ (fun w_ hM hS => (strings_Trim_ok w0 w_ (cs) F W s hM  x4 hv5).mono (by rintro e w' ⟨-, rfl, h'⟩; have h' : Mem w0 (Fz F W :: cs) w' := h'; exact ⟨(), trivial, rfl, h', trivial⟩)) ?_
    rintro _ -
    refine oQ [oF 10, oF 11, oF 12] [(15, .bool (x4.toList == (⟨#[]⟩ : ByteArray).toList)), (0, .string s)] (by kernel_rfl) ?_
    refine ops_bool (t := (x4.toList == (⟨#[]⟩ : ByteArray).toList)) (l1 := [(15, .bool true), (0, .string s)]) (l2 := [(15, .bool false), (0, .string s)]) (fun h => by rw [h]) (fun h => by rw [h]) (fun hc6 => ?_) (fun hc6 => ?_)
    ·
     have hp := cnd_t hc6 hp
     refine oQ [oF 13] [(16, .string s), (15, .bool true)] (by kernel_rfl) ?_
     obtain ⟨x7, hv8, hp⟩ := obind hp
     refine ops_val (op := (.index 9 (.tmp 16) (.const (Go.Value.int Go.IntKind.i64 0)))) (d := some 17) (v := .int .u8 x7) ⟨by kernel_rfl⟩ (run_strIdx Tryz.underlying9 rfl rfl hv8) ?_
     refine oQ [oF 15, oF 16, oF 17] [(2, .bool (decide (57 < x7)))] (by kernel_rfl) ?_
     refine ops_nil ?_
     exact fin_join HJ1 (decide (57 < x7)) hp (look_has ⟨rfl, trivial⟩) (fun w_ hM => hM)
    ·
     have hp := cnd_f hc6 hp
     refine oQ [oF 13, oF 14, oF 15, oF 16, oF 17] [(2, .bool false)] (by kernel_rfl) ?_
     refine ops_nil ?_
     exact fin_join HJ1 false hp (look_has ⟨rfl, trivial⟩) (fun w_ hM => hM)
   ·
    have hp := cnd_f hc3 hp
    refine oQ [oF 8, oF 9, oF 10, oF 11, oF 12, oF 13, oF 14, oF 15, oF 16, oF 17] [(2, .bool false)] (by kernel_rfl) ?_
    refine ops_nil ?_
    exact fin_join HJ1 false hp (look_has ⟨rfl, trivial⟩) (fun w_ hM => hM)
  ·
   have hp := cnd_f hc2 hp
   refine oQ [oF 3, oF 4, oF 5, oF 6, oF 7, oF 8, oF 9, oF 10, oF 11, oF 12, oF 13, oF 14, oF 15, oF 16, oF 17] [(2, .bool false)] (by kernel_rfl) ?_
   refine ops_nil ?_
   exact fin_join HJ1 false hp (look_has ⟨rfl, trivial⟩) (fun w_ hM => hM)
theorem tourref3_FieldOK_ok (w0 w : World) (cs : List Chunk) (F : Nat → Prop) (W : World) (f_0 : ByteArray) (f_1 : Int) (f_2 : Int) (hM0 : Mem w0 (Fz F W :: cs) w) (t9001 : Bool) (hp : tourref3_FieldOK f_0 f_1 f_2 = some t9001) : Calls Tryz.prog 73 #[.agg #[.string f_0, vI f_1, vI f_2]] w fun e w' => (True) ∧ e = .returned (.bool t9001) ∧ Mem w0 (Fz F W :: cs) w' := by
 unfold tourref3_FieldOK at hp
 refine sx_calls Tryz.func73 rfl (n := 26) (by kernel_rfl) (l := [(0, .agg #[.string f_0, vI f_1, vI f_2])]) rfl (by rfl) hM0 ?_
 refine st_seq (st_region [oF 0, oF 1] (by rfl) ?_)
 refine ops_newB (d := some 1) [.string f_0, vI f_1, vI f_2] 99 (fun b1 => ⟨by kernel_rfl⟩) (fun w_ hM hS => trivial) (fun b1 => ?_)
 refine oQ [oF 1] [(1, vP b1 0)] (by kernel_rfl) ?_
 refine ops_nil (fin_then ?_)
 refine st_join1 (σ := Bool) (L := fun x_ => match x_ with | t2 => [(2, .bool t2)]) (N := fun x_ => match x_ with | t2 => Mem w0 (Fz F W :: cs)) (I := fun x_ => match x_ with | t2 => (tourref3_FieldOK_j1 t2 = some t9001)) ?_ ?_
 ·
  rintro t2 hp
  unfold tourref3_FieldOK_j1 at hp
  refine st_ret ?_
  have hq_ := Option.some.inj hp
  have hr0_ := hq_
  subst hr0_
  refine fin_ret [.tmp 2] [.bool t2] rfl rfl (fun w_ hM => (.tmp rfl .nil)) (fun w_ hM => ?_)
  exact ⟨trivial, rfl, hM⟩
 ·
  intro HJ1
  refine st_seq (st_region [oF 0, oF 1, oF 2, oF 3, oF 4, oF 5, oF 6, oF 7, oF 8, oF 9, oF 10, oF 11, oF 12, oF 13, oF 14, oF 15, oF 16, oF 17, oF 18, oF 19, oF 20, oF 21, oF 22, oF 23] (by rfl) ?_)
  refine oQ [oF 0] [(3, vP b1 0), (1, vP b1 0)] (by kernel_rfl) ?_
  refine ops_mem (d := some 4) (an := [.v (.string f_0)]) (evs := [ld b1 0 (.string f_0)]) (v := .string f_0) ⟨by kernel_rfl⟩ (fun w_ hM hS => ⟨w_, ⟨hM.cell 0 rfl rfl, rfl⟩, hM, trivial⟩) ?_
  obtain ⟨x3, hv4, hp⟩ := obind hp
  refine ops_callI (σ := Unit) (d := some 5) (f := 72) (args := #[.string f_0]) (v := (fun _ => .bool x3)) (I := (fun _ => True)) (M' := (fun _ => Mem w0 (.blk b1 [.string f_0, vI f_1, vI f_2] 99 :: Fz F W :: cs))) ⟨by kernel_rfl⟩ (fun w_ hM hS => (tourref3_IsName_ok w0 w_ (.blk b1 [.string f_0, vI f_1, vI f_2] 99 :: cs) F W f_0 (hM.pick 2 [1, 0] (by kernel_rfl) (by decide) rfl)  x3 hv4).mono (by rintro e w' ⟨-, rfl, h'⟩; have h' : Mem w0 (.blk b1 [.string f_0, vI f_1, vI f_2] 99 :: Fz F W :: cs) w' := (h'.pick 2 [1, 0] (by kernel_rfl) (by decide) rfl); exact ⟨(), trivial, rfl, h', trivial⟩)) ?_
  rintro _ -
  refine oQ [oF 3] [(6, .bool x3), (1, vP b1 0)] (by kernel_rfl) ?_
  refine ops_bool (t := x3) (l1 := [(6, .bool true), (1, vP b1 0)]) (l2 := [(6, .bool false), (1, vP b1 0)]) (fun h => by rw [h]) (fun h => by rw [h]) (fun hc5 => ?_) (fun hc5 => ?_)
  ·
   have hp := cnd_t hc5 hp
   refine oQ [oF 4] [(7, vP b1 1), (6, .bool true), (1, vP b1 0)] (by kernel_rfl) ?_
   refine ops_mem (d := some 8) (an := [.v (vI f_1)]) (evs := [ld b1 1 (vI f_1)]) (v := vI f_1) ⟨by kernel_rfl⟩ (fun w_ hM hS => ⟨w_, ⟨hM.cell 0 rfl rfl, rfl⟩, hM, trivial⟩) ?_
   refine oQ [oF 6, oF 7, oF 8] [(11, .bool (decide (0 < f_1))), (1, vP b1 0)] (by kernel_rfl) ?_
   refine ops_bool (t := decide (0 < f_1)) (l1 := [(11, .bool true), (1, vP b1 0)]) (l2 := [(11, .bool false), (1, vP b1 0)]) (fun h => by rw [h]) (fun h => by rw [h]) (fun hc6 => ?_) (fun hc6 => ?_)
   ·
    have hp := cnd_t hc6 hp
    refine oQ [oF 9] [(12, vP b1 1), (11, .bool true), (1, vP b1 0)] (by kernel_rfl) ?_
    refine ops_mem (d := some 13) (an := [.v (vI f_1)]) (evs := [ld b1 1 (vI f_1)]) (v := vI f_1) ⟨by kernel_rfl⟩ (fun w_ hM hS => ⟨w_, ⟨hM.cell 0 rfl rfl, rfl⟩, hM, trivial⟩) ?_
    refine oQ [oF 11, oF 12, oF 13] [(16, .bool (decide (f_1 < 33))), (1, vP b1 0)] (by kernel_rfl) ?_
    refine ops_bool (t := decide (f_1 < 33)) (l1 := [(16, .bool true), (1, vP b1 0)]) (l2 := [(16, .bool false), (1, vP b1 0)]) (fun h => by rw [h]) (fun h => by rw [h]) (fun hc7 => ?_) (fun hc7 => ?_)
    ·
     have hp := cnd_t hc7 hp
     refine oQ [oF 14] [(17, vP b1 2), (16, .bool true), (1, vP b1 0)] (by kernel_rfl) ?_
     refine ops_mem (d := some 18) (an := [.v (vI f_2)]) (evs := [ld b1 2 (vI f_2)]) (v := vI f_2) ⟨by kernel_rfl⟩ (fun w_ hM hS => ⟨w_, ⟨hM.cell 0 rfl rfl, rfl⟩, hM, trivial⟩) ?_
     refine oQ [oF 16, oF 17, oF 18] [(21, .bool (decide ((-4294967296) ≤ f_2))), (1, vP b1 0)] (by kernel_rfl) ?_
     refine ops_bool (t := decide ((-4294967296) ≤ f_2)) (l1 := [(21, .bool true), (1, vP b1 0)]) (l2 := [(21, .bool false), (1, vP b1 0)]) (fun h => by rw [h]) (fun h => by rw [h]) (fun hc8 => ?_) (fun hc8 => ?_)
     ·
      have hp := cnd_t hc8 hp
      refine oQ [oF 19] [(22, vP b1 2), (21, .bool true)] (by kernel_rfl) ?_
      refine ops_mem (d := some 23) (an := [.v (vI f_2)]) (evs := [ld b1 2 (vI f_2)]) (v := vI f_2) ⟨by kernel_rfl⟩ (fun w_ hM hS => ⟨w_, ⟨hM.cell 0 rfl rfl, rfl⟩, hM, trivial⟩) ?_
      refine oQ [oF 21, oF 22, oF 23] [(2, .bool (decide (f_2 ≤ 4294967296)))] (by kernel_rfl) ?_
      refine ops_nil ?_
      exact fin_join HJ1 (decide (f_2 ≤ 4294967296)) hp (look_has ⟨rfl, trivial⟩) (fun w_ hM => hM.pick 2 [1] (by kernel_rfl) (by decide) rfl)
     ·
      have hp := cnd_f hc8 hp
      refine oQ [oF 19, oF 20, oF 21, oF 22, oF 23] [(2, .bool false)] (by kernel_rfl) ?_
      refine ops_nil ?_
      exact fin_join HJ1 false hp (look_has ⟨rfl, trivial⟩) (fun w_ hM => hM.pick 2 [1] (by kernel_rfl) (by decide) rfl)
    ·
     have hp := cnd_f hc7 hp
     refine oQ [oF 14, oF 15, oF 16, oF 17, oF 18, oF 19, oF 20, oF 21, oF 22, oF 23] [(2, .bool false)] (by kernel_rfl) ?_
     refine ops_nil ?_
     exact fin_join HJ1 false hp (look_has ⟨rfl, trivial⟩) (fun w_ hM => hM.pick 2 [1] (by kernel_rfl) (by decide) rfl)
   ·
    have hp := cnd_f hc6 hp
    refine oQ [oF 9, oF 10, oF 11, oF 12, oF 13, oF 14, oF 15, oF 16, oF 17, oF 18, oF 19, oF 20, oF 21, oF 22, oF 23] [(2, .bool false)] (by kernel_rfl) ?_
    refine ops_nil ?_
    exact fin_join HJ1 false hp (look_has ⟨rfl, trivial⟩) (fun w_ hM => hM.pick 2 [1] (by kernel_rfl) (by decide) rfl)
  ·
   have hp := cnd_f hc5 hp
   refine oQ [oF 4, oF 5, oF 6, oF 7, oF 8, oF 9, oF 10, oF 11, oF 12, oF 13, oF 14, oF 15, oF 16, oF 17, oF 18, oF 19, oF 20, oF 21, oF 22, oF 23] [(2, .bool false)] (by kernel_rfl) ?_
   refine ops_nil ?_
   exact fin_join HJ1 false hp (look_has ⟨rfl, trivial⟩) (fun w_ hM => hM.pick 2 [1] (by kernel_rfl) (by decide) rfl)
theorem slices_Index_string_string_ok (w0 w : World) (cs : List Chunk) (F : Nat → Prop) (W : World) (A_s : Option Addr) (c_s : Nat) (s : List ByteArray) (v : ByteArray) (hM0 : Mem w0 (Fz F W :: cs) w) (h_s : RdS Rep.str F W A_s c_s s) (i9001 : Int) (hp : slices_Index_string_string s v = some i9001) : Calls Tryz.prog 100 #[sl A_s s c_s, .string v] w fun e w' => (True) ∧ e = .returned (vI i9001) ∧ Mem w0 (Fz F W :: cs) w' := by
 unfold slices_Index_string_string at hp
 refine sx_calls Tryz.func100 rfl (n := 19) (by kernel_rfl) (l := [(0, sl A_s s c_s), (1, .string v)]) rfl (by rfl) hM0 ?_
 refine st_seq (st_region [oF 0] (by rfl) ?_)
 refine oQ [oF 0] [(0, sl A_s s c_s), (1, .string v)] (by kernel_rfl) ?_
 refine ops_nil (fin_then ?_)
 refine st_join1 (σ := Unit) (L := fun _ => []) (N := fun _ => Mem w0 (Fz F W :: cs)) (I := fun _ => (slices_Index_string_string_j1 = some i9001)) ?_ ?_
 ·
  rintro _ hp
  unfold slices_Index_string_string_j1 at hp
  refine st_seq (st_region [oF 0] (by rfl) ?_)
  refine oQ [oF 0] [(4, vI (-1))] (by kernel_rfl) ?_
  refine ops_nil (fin_then (st_ret ?_))
  have hq_ := Option.some.inj hp
  have hr0_ := hq_
  subst hr0_
  refine fin_ret [.tmp 4] [vI (-1)] rfl rfl (fun w_ hM => (.tmp rfl .nil)) (fun w_ hM => ?_)
  exact ⟨trivial, rfl, hM⟩
 ·
  intro HJ1
  refine st_seq (st_seq (st_region [oF 0, oF 1, oF 2] (by rfl) ?_))
  refine oQ [oF 0, oF 1, oF 2] [(8, vI 0), (7, vI (s.length : Int)), (0, sl A_s s c_s), (1, .string v)] (by kernel_rfl) ?_
  refine ops_nil (fin_then (st_block ?_))
  obtain ⟨r2, hl2, hk2⟩ := obind hp
  refine st_loopP (σ := Int) (ρ := (Int ⊕ Unit)) (γ := Unit) hl2 () (fun s_ g_ => match s_, g_ with | i1, _ => [(0, sl A_s s c_s), (1, .string v), (7, vI (s.length : Int)), (8, vI i1)]) (fun s_ g_ => match s_, g_ with | i1, _ => Mem w0 (Fz F W :: cs)) (fun s_ g_ => match s_, g_ with | i1, _ => True) trivial (look_has ⟨rfl, rfl, rfl, rfl, trivial⟩) (fun w_ hM => hM) ?_
  rintro i1 _ o2 - hs_ hd2
  have hp : (slices_Index_string_string_l2 s v) i1 = some o2 := hs_
  clear hs_
  unfold slices_Index_string_string_l2 at hp
  refine st_seq (st_region [oF 0] (by rfl) ?_)
  refine oQ [oF 0] [(9, .bool (decide (i1 < (s.length : Int)))), (0, sl A_s s c_s), (1, .string v), (7, vI (s.length : Int)), (8, vI i1)] (by kernel_rfl) ?_
  refine ops_nil (fin_then (st_seq ?_))
  refine st_if (b := decide (i1 < (s.length : Int))) rfl (fun hc2 => ?_) (fun hc2 => ?_)
  ·
   have hp := cnd_t hc2 hp
   refine st_skip (fin_then (st_seq (st_block (st_seq (st_region [oF 0, oF 1] (by rfl) ?_)))))
   refine oQ [oF 0, oF 1] [(5, vI i1), (0, sl A_s s c_s), (1, .string v), (7, vI (s.length : Int)), (8, vI i1)] (by kernel_rfl) ?_
   refine ops_nil (fin_then (st_seq (st_region [oF 0, oF 1, oF 2, oF 3, oF 4, oF 5] (by rfl) ?_)))
   refine oQ [oF 0, oF 1, oF 2] [(13, vI i1), (12, sl A_s s c_s), (11, .string v), (5, vI i1), (0, sl A_s s c_s), (1, .string v), (7, vI (s.length : Int)), (8, vI i1)] (by kernel_rfl) ?_
   obtain ⟨x3, hv4, hp⟩ := obind hp
   obtain ⟨m5, hm6, hx7⟩ := idx_some hv4
   have hl10 := (List.getElem?_eq_some_iff.1 hx7).1
   obtain ⟨ad11, vs8, hA12, hr9, hq13⟩ := RdS.el h_s hx7
   obtain rfl := hr9
   refine ops_val (op := (.indexAddr 89 (.tmp 12) (.tmp 13))) (d := some 14) (v := .pointer (some (ad11.add (m5 * 1)))) ⟨by kernel_rfl⟩ (run_indexA hA12 Tryz.underlying89 (z := 1) (by kernel_rfl) rfl rfl hm6 hl10) ?_
   refine ops_mem (d := some 15) (an := [.v (.string x3)]) (evs := [.load (ad11.add (m5 * 1)) (.string x3)]) (v := .string x3) ⟨by kernel_rfl⟩ (fun w_ hM hS => ⟨w_, ⟨hM.elcell 0 rfl hq13 0 rfl, rfl⟩, hM, trivial⟩) ?_
   refine oQ [oF 5] [(16, .bool (v.toList == x3.toList)), (5, vI i1), (0, sl A_s s c_s), (1, .string v), (7, vI (s.length : Int)), (8, vI i1)] (by kernel_rfl) ?_
   refine ops_nil (fin_then ?_)
   refine st_if (b := (v.toList == x3.toList)) rfl (fun hc14 => ?_) (fun hc14 => ?_)
   ·
    have hp := cnd_t hc14 hp
    refine st_seq (st_region [oF 0, oF 1] (by rfl) ?_)
    refine oQ [oF 0, oF 1] [(4, vI i1)] (by kernel_rfl) ?_
    refine ops_nil (fin_then (st_ret (fin_ret_block (fin_ret_then (fin_ret_then (fin_ret_block (fin_ret_then ?_)))))))
    obtain hq_ := Option.some.inj hp
    subst hq_
    obtain hq_ := hd2 _ rfl
    subst hq_
    have hp : some i1 = some i9001 := hk2
    have hq_ := Option.some.inj hp
    have hr0_ := hq_
    subst hr0_
    refine fin_ret [.tmp 4] [vI i1] rfl rfl (fun w_ hM => (.tmp rfl .nil)) (fun w_ hM => ?_)
    exact ⟨trivial, rfl, hM⟩
   ·
    have hp := cnd_f hc14 hp
    refine st_skip (fin_block (fin_then (st_region [oF 0, oF 1] (by rfl) ?_)))
    refine oQ [oF 0, oF 1] [(8, vI (IntKind.i64.wrap (i1 + 1))), (0, sl A_s s c_s), (1, .string v), (7, vI (s.length : Int))] (by kernel_rfl) ?_
    refine ops_nil ?_
    exact fin_again (IntKind.i64.wrap (i1 + 1)) () (Option.some.inj hp).symm trivial (look_has ⟨rfl, rfl, rfl, rfl, trivial⟩) (fun w_ hM => hM)
  ·
   have hp := cnd_f hc2 hp
   refine st_exit (fin_exit_then (fin_exit_then (fin_exit ?_)))
   obtain hq_ := Option.some.inj hp
   subst hq_
   obtain hq_ := hd2 _ rfl
   subst hq_
   have hp : slices_Index_string_string_j1 = some i9001 := hk2
   exact fin_join HJ1 () hp (look_has trivial) (fun w_ hM => hM)
theorem slices_Contains_string_string_ok (w0 w : World) (cs : List Chunk) (F : Nat → Prop) (W : World) (A_s : Option Addr) (c_s : Nat) (s : List ByteArray) (v : ByteArray) (hM0 : Mem w0 (Fz F W :: cs) w) (h_s : RdS Rep.str F W A_s c_s s) (t9001 : Bool) (hp : slices_Contains_string_string s v = some t9001) : Calls Tryz.prog 74 #[sl A_s s c_s, .string v] w fun e w' => (True) ∧ e = .returned (.bool t9001) ∧ Mem w0 (Fz F W :: cs) w' := by
 unfold slices_Contains_string_string at hp
 refine sx_calls Tryz.func74 rfl (n := 9) (by kernel_rfl) (l := [(0, sl A_s s c_s), (1, .string v)]) rfl (by rfl) hM0 ?_
 refine st_seq (st_region [oF 0] (by rfl) ?_)
 refine oQ [oF 0] [(0, sl A_s s c_s), (1, .string v)] (by kernel_rfl) ?_
 refine ops_nil (fin_then (st_seq (st_region [oF 0, oF 1, oF 2, oF 3, oF 4] (by rfl) ?_)))
 refine oQ [oF 0, oF 1] [(6, .string v), (5, sl A_s s c_s)] (by kernel_rfl) ?_
 obtain ⟨x1, hv2, hp⟩ := obind hp
 refine ops_callI (σ := Unit) (d := some 7) (f := 100) (args := #[sl A_s s c_s, .string v]) (v := (fun _ => vI x1)) (I := (fun _ => True)) (M' := (fun _ => Mem w0 (Fz F W :: cs))) ⟨by kernel_rfl⟩ (fun w_ hM hS => (slices_Index_string_string_ok w0 w_ (cs) F W A_s c_s s v hM h_s x1 hv2).mono (by rintro e w' ⟨-, rfl, h'⟩; have h' : Mem w0 (Fz F W :: cs) w' := h'; exact ⟨(), trivial, rfl, h', trivial⟩)) ?_
 rintro _ -
 refine oQ [oF 3, oF 4] [(4, .bool (decide (0 ≤ x1)))] (by kernel_rfl) ?_
 refine ops_nil (fin_then (st_ret ?_))
 have hq_ := Option.some.inj hp
 have hr0_ := hq_
 subst hr0_
 refine fin_ret [.tmp 4] [.bool (decide (0 ≤ x1))] rfl rfl (fun w_ hM => (.tmp rfl .nil)) (fun w_ hM => ?_)
 exact ⟨trivial, rfl, hM⟩
theorem tourref3_twice_ok (w0 w : World) (cs : List Chunk) (F : Nat → Prop) (W : World) (A_l : Option Addr) (c_l : Nat) (l : List ByteArray) (s : ByteArray) (hM0 : Mem w0 (Fz F W :: cs) w) (h_l : RdS Rep.str F W A_l c_l l) (t9001 : Bool) (hp : tourref3_twice l s = some t9001) : Calls Tryz.prog 47 #[sl A_l l c_l, .string s] w fun e w' => (True) ∧ e = .returned (.bool t9001) ∧ Mem w0 (Fz F W :: cs) w' := by
 unfold tourref3_twice at hp
 refine sx_calls Tryz.func47 rfl (n := 8) (by kernel_rfl) (l := [(0, sl A_l l c_l), (1, .string s)]) rfl (by rfl) hM0 ?_
 refine st_seq (st_region [oF 0] (by rfl) ?_)
 refine oQ [oF 0] [(0, sl A_l l c_l), (1, .string s)] (by kernel_rfl) ?_
 refine ops_nil (fin_then (st_seq (st_region [oF 0, oF 1, oF 2, oF 3] (by rfl) ?_)))
 refine oQ [oF 0, oF 1] [(6, .string s), (5, sl A_l l c_l)] (by kernel_rfl) ?_
 obtain ⟨x1, hv2, hp⟩ := obind hp
 refine ops_callI (σ := Unit) (d := some 7) (f := 74) (args := #[sl A_l l c_l, .string s]) (v := (fun _ => .bool x1)) (I := (fun _ => True)) (M' := (fun _ => Mem w0 (Fz F W :: cs))) ⟨by kernel_rfl⟩ (fun w_ hM hS => (slices_Contains_string_string_ok w0 w_ (cs) F W A_l c_l l s hM h_l x1 hv2).mono (by rintro e w' ⟨-, rfl, h'⟩; have h' : Mem w0 (Fz F W :: cs) w' := h'; exact ⟨(), trivial, rfl, h', trivial⟩)) ?_
 rintro _ -
 refine oQ [oF 3] [(4, .bool x1)] (by kernel_rfl) ?_
 refine ops_nil (fin_then (st_ret ?_))
 have hq_ := Option.some.inj hp
 have hr0_ := hq_
 subst hr0_
 refine fin_ret [.tmp 4] [.bool x1] rfl rfl (fun w_ hM => (.tmp rfl .nil)) (fun w_ hM => ?_)
 exact ⟨trivial, rfl, hM⟩
end Go.Proofs.YtbfndcookgijfaaGreatDoor.W
