/- The Go functions come to what the plain functions tell. No condition. -/
import Derived.Test.YthcniadbdjoecaaProg
import Derived.Test.YthcniadbdjoecaaFnE
import Derived.Test.YthcniadbdjoecaaWkE0
import Derived.Test.YthcniadbdjoecaaEqE
namespace Go.Proofs.Ythcniadbdjoecaa.E
open Go Go.RowKit Go.Proofs.Ythcniadbdjoecaa.Sx
set_option linter.unusedVariables false
set_option maxHeartbeats 4000000
set_option maxRecDepth 100000
theorem cmp_isNaN_int_ok (w0 w : World) (cs : List Chunk) (F : Nat → Prop) (W : World) (x : Int) (hM0 : Mem w0 (Fz F W :: cs) w) (hp : cmp_isNaN_int x = some ()) : Calls Try.prog 89 #[vI x] w fun e w' => (True) ∧ e = .returned (.bool false) ∧ Mem w0 (Fz F W :: cs) w' := by
 unfold cmp_isNaN_int at hp
 refine sx_calls Try.func89 rfl (n := 6) (by kernel_rfl) (l := [(0, vI x)]) rfl (by rfl) hM0 ?_
 refine st_seq (st_region [oF 0] (by rfl) ?_)
 refine oQ [oF 0] [(0, vI x)] (by kernel_rfl) ?_
 refine ops_nil (fin_then (st_seq (st_region [oF 0, oF 1, oF 2, oF 3] (by rfl) ?_)))
 refine oQ [oF 0, oF 1] [(4, vI x), (3, vI x)] (by kernel_rfl) ?_
 refine ops_val (op := (.binOp Go.BinOp.neq 3 (.tmp 3) (.tmp 4) 3)) (d := some 5) (v := .bool false) ⟨by kernel_rfl⟩ (run_neq_same rfl rfl) ?_
 refine oQ [oF 3] [(2, .bool false)] (by kernel_rfl) ?_
 refine ops_nil (fin_then (st_ret ?_))
 refine fin_ret [.tmp 2] [.bool false] rfl rfl (fun w_ hM => (.tmp rfl .nil)) (fun w_ hM => ?_)
 exact ⟨trivial, rfl, hM⟩
theorem cmp_Compare_int_ok (w0 w : World) (cs : List Chunk) (F : Nat → Prop) (W : World) (x : Int) (y : Int) (hM0 : Mem w0 (Fz F W :: cs) w) (i9001 : Int) (hp : cmp_Compare_int x y = some i9001) : Calls Try.prog 79 #[vI x, vI y] w fun e w' => (True) ∧ e = .returned (vI i9001) ∧ Mem w0 (Fz F W :: cs) w' := by
 unfold cmp_Compare_int at hp
 refine sx_calls Try.func79 rfl (n := 20) (by kernel_rfl) (l := [(0, vI x), (1, vI y)]) rfl (by rfl) hM0 ?_
 refine st_seq (st_region [oF 0] (by rfl) ?_)
 refine oQ [oF 0] [(0, vI x), (1, vI y)] (by kernel_rfl) ?_
 refine ops_nil (fin_then (st_seq (st_region [oF 0, oF 1, oF 2] (by rfl) ?_)))
 refine oQ [oF 0] [(7, vI x), (0, vI x), (1, vI y)] (by kernel_rfl) ?_
 obtain ⟨_, hv1, hp⟩ := obind hp
 refine ops_callI (σ := Unit) (d := some 8) (f := 89) (args := #[vI x]) (v := (fun _ => .bool false)) (I := (fun _ => True)) (M' := (fun _ => Mem w0 (Fz F W :: cs))) ⟨by kernel_rfl⟩ (fun w_ hM hS => (cmp_isNaN_int_ok w0 w_ (cs) F W x hM   hv1).mono (by rintro e w' ⟨-, rfl, h'⟩; have h' : Mem w0 (Fz F W :: cs) w' := h'; exact ⟨(), trivial, rfl, h', trivial⟩)) ?_
 rintro _ -
 refine oQ [oF 2] [(5, .bool false), (0, vI x), (1, vI y)] (by kernel_rfl) ?_
 refine ops_nil (fin_then (st_seq (st_region [oF 0, oF 1, oF 2] (by rfl) ?_)))
 refine oQ [oF 0] [(9, vI y), (5, .bool false), (0, vI x), (1, vI y)] (by kernel_rfl) ?_
 obtain ⟨_, hv2, hp⟩ := obind hp
 refine ops_callI (σ := Unit) (d := some 10) (f := 89) (args := #[vI y]) (v := (fun _ => .bool false)) (I := (fun _ => True)) (M' := (fun _ => Mem w0 (Fz F W :: cs))) ⟨by kernel_rfl⟩ (fun w_ hM hS => (cmp_isNaN_int_ok w0 w_ (cs) F W y hM   hv2).mono (by rintro e w' ⟨-, rfl, h'⟩; have h' : Mem w0 (Fz F W :: cs) w' := h'; exact ⟨(), trivial, rfl, h', trivial⟩)) ?_
 rintro _ -
 refine oQ [oF 2] [(6, .bool false), (5, .bool false), (0, vI x), (1, vI y)] (by kernel_rfl) ?_
 refine ops_nil (fin_then (st_seq (st_seq (st_region [oF 0] (by rfl) ?_))))
 refine oQ [oF 0] [(11, .bool false), (6, .bool false), (0, vI x), (1, vI y)] (by kernel_rfl) ?_
 refine ops_nil (fin_then (st_false rfl (st_skip (fin_then (st_seq (st_seq (st_region [oF 0] (by rfl) ?_)))))))
 refine oQ [oF 0] [(13, .bool false), (0, vI x), (1, vI y)] (by kernel_rfl) ?_
 refine ops_nil (fin_then (st_false rfl (st_skip (fin_then (st_seq (st_seq (st_region [oF 0, oF 1, oF 2] (by rfl) ?_)))))))
 refine oQ [oF 0, oF 1, oF 2] [(16, .bool (decide (x < y))), (0, vI x), (1, vI y)] (by kernel_rfl) ?_
 refine ops_nil (fin_then ?_)
 refine st_if (b := decide (x < y)) rfl (fun hc3 => ?_) (fun hc3 => ?_)
 ·
  have hp := cnd_t hc3 hp
  refine st_seq (st_region [oF 0] (by rfl) ?_)
  refine oQ [oF 0] [(4, vI (-1))] (by kernel_rfl) ?_
  refine ops_nil (fin_then (st_ret (fin_ret_then ?_)))
  have hq_ := Option.some.inj hp
  have hr0_ := hq_
  subst hr0_
  refine fin_ret [.tmp 4] [vI (-1)] rfl rfl (fun w_ hM => (.tmp rfl .nil)) (fun w_ hM => ?_)
  exact ⟨trivial, rfl, hM⟩
 ·
  have hp := cnd_f hc3 hp
  refine st_skip (fin_then (st_seq (st_seq (st_region [oF 0, oF 1, oF 2] (by rfl) ?_))))
  refine oQ [oF 0, oF 1, oF 2] [(19, .bool (decide (y < x)))] (by kernel_rfl) ?_
  refine ops_nil (fin_then ?_)
  refine st_if (b := decide (y < x)) rfl (fun hc4 => ?_) (fun hc4 => ?_)
  ·
   have hp := cnd_t hc4 hp
   refine st_seq (st_region [oF 0] (by rfl) ?_)
   refine oQ [oF 0] [(4, vI 1)] (by kernel_rfl) ?_
   refine ops_nil (fin_then (st_ret (fin_ret_then ?_)))
   have hq_ := Option.some.inj hp
   have hr0_ := hq_
   subst hr0_
   refine fin_ret [.tmp 4] [vI 1] rfl rfl (fun w_ hM => (.tmp rfl .nil)) (fun w_ hM => ?_)
   exact ⟨trivial, rfl, hM⟩
  ·
   have hp := cnd_f hc4 hp
   refine st_skip (fin_then (st_seq (st_region [oF 0] (by rfl) ?_)))
   refine oQ [oF 0] [(4, vI 0)] (by kernel_rfl) ?_
   refine ops_nil (fin_then (st_ret ?_))
   have hq_ := Option.some.inj hp
   have hr0_ := hq_
   subst hr0_
   refine fin_ret [.tmp 4] [vI 0] rfl rfl (fun w_ hM => (.tmp rfl .nil)) (fun w_ hM => ?_)
   exact ⟨trivial, rfl, hM⟩
theorem event_Counts_1_ok (w0 w : World) (cs : List Chunk) (F : Nat → Prop) (W : World) (c_0 : Int) (c_1 : Int) (s : Int) (hM0 : Mem w0 (Fz F W :: cs) w) (i9001 : Int) (hp : event_Counts_1 c_0 c_1 s = some i9001) : Calls Try.prog 78 #[.agg #[vI c_0, vI c_1], vI s] w fun e w' => (True) ∧ e = .returned (vI i9001) ∧ Mem w0 (Fz F W :: cs) w' := by
 unfold event_Counts_1 at hp
 refine sx_calls Try.func78 rfl (n := 9) (by kernel_rfl) (l := [(0, .agg #[vI c_0, vI c_1]), (1, vI s)]) rfl (by rfl) hM0 ?_
 refine st_seq (st_region [oF 0, oF 1] (by rfl) ?_)
 refine ops_newB (d := some 2) [vI c_0, vI c_1] 103 (fun b1 => ⟨by kernel_rfl⟩) (fun w_ hM hS => trivial) (fun b1 => ?_)
 refine oQ [oF 1] [(2, vP b1 0), (1, vI s)] (by kernel_rfl) ?_
 refine ops_nil (fin_then (st_seq (st_region [oF 0, oF 1, oF 2, oF 3, oF 4] (by rfl) ?_)))
 refine oQ [oF 0] [(5, vP b1 0), (1, vI s)] (by kernel_rfl) ?_
 refine ops_mem (d := some 6) (an := [.v (vI c_0)]) (evs := [ld b1 0 (vI c_0)]) (v := vI c_0) ⟨by kernel_rfl⟩ (fun w_ hM hS => ⟨w_, ⟨hM.cell 0 rfl rfl, rfl⟩, hM, trivial⟩) ?_
 refine oQ [oF 2] [(7, vI s), (6, vI c_0)] (by kernel_rfl) ?_
 obtain ⟨x2, hv3, hp⟩ := obind hp
 refine ops_callI (σ := Unit) (d := some 8) (f := 79) (args := #[vI c_0, vI s]) (v := (fun _ => vI x2)) (I := (fun _ => True)) (M' := (fun _ => Mem w0 (.blk b1 [vI c_0, vI c_1] 103 :: Fz F W :: cs))) ⟨by kernel_rfl⟩ (fun w_ hM hS => (cmp_Compare_int_ok w0 w_ (.blk b1 [vI c_0, vI c_1] 103 :: cs) F W c_0 s (hM.pick 2 [1, 0] (by kernel_rfl) (by decide) rfl)  x2 hv3).mono (by rintro e w' ⟨-, rfl, h'⟩; have h' : Mem w0 (.blk b1 [vI c_0, vI c_1] 103 :: Fz F W :: cs) w' := (h'.pick 2 [1, 0] (by kernel_rfl) (by decide) rfl); exact ⟨(), trivial, rfl, h', trivial⟩)) ?_
 rintro _ -
 refine oQ [oF 4] [(4, vI x2)] (by kernel_rfl) ?_
 refine ops_nil (fin_then (st_ret ?_))
 have hq_ := Option.some.inj hp
 have hr0_ := hq_
 subst hr0_
 refine fin_ret [.tmp 4] [vI x2] rfl rfl (fun w_ hM => (.tmp rfl .nil)) (fun w_ hM => ?_)
 exact ⟨trivial, rfl, hM.pick 2 [1] (by kernel_rfl) (by decide) rfl⟩
theorem slices_BinarySearchFunc_event_Count_event_Count_int_ok (w0 w : World) (cs : List Chunk) (F : Nat → Prop) (W : World) (A_x : Option Addr) (c_x : Nat) (x : List event_Count) (target : Int) (hM0 : Mem w0 (Fz F W :: cs) w) (h_x : RdS R_event_Count F W A_x c_x x) (i9001 : Int) (t9002 : Bool) (hp : slices_BinarySearchFunc_event_Count_event_Count_int x target = some (i9001, t9002)) : Calls Try.prog 77 #[sl A_x x c_x, vI target, .func (.func 78) #[] #[]] w fun e w' => (True) ∧ e = .returned (.tuple #[vI i9001, .bool t9002]) ∧ Mem w0 (Fz F W :: cs) w' := by
 unfold slices_BinarySearchFunc_event_Count_event_Count_int at hp
 refine sx_calls Try.func77 rfl (n := 49) (by kernel_rfl) (l := [(0, sl A_x x c_x), (1, vI target), (2, .func (.func 78) #[] #[])]) rfl (by rfl) hM0 ?_
 refine st_seq (st_region [oF 0, oF 1] (by rfl) ?_)
 refine oQ [oF 0, oF 1] [(0, sl A_x x c_x), (1, vI target), (2, .func (.func 78) #[] #[])] (by kernel_rfl) ?_
 refine ops_nil (fin_then (st_seq (st_region [oF 0, oF 1, oF 2] (by rfl) ?_)))
 refine oQ [oF 0, oF 1, oF 2] [(8, vI (x.length : Int)), (0, sl A_x x c_x), (1, vI target), (2, .func (.func 78) #[] #[])] (by kernel_rfl) ?_
 refine ops_nil (fin_then (st_seq (st_region [oF 0, oF 1, oF 2] (by rfl) ?_)))
 refine oQ [oF 0, oF 1, oF 2] [(10, vI (x.length : Int)), (9, vI 0), (8, vI (x.length : Int)), (0, sl A_x x c_x), (1, vI target), (2, .func (.func 78) #[] #[])] (by kernel_rfl) ?_
 refine ops_nil (fin_then ?_)
 refine st_join1 (σ := Int) (L := fun x_ => match x_ with | i1 => [(0, sl A_x x c_x), (1, vI target), (2, .func (.func 78) #[] #[]), (8, vI (x.length : Int)), (9, vI i1)]) (N := fun x_ => match x_ with | i1 => Mem w0 (Fz F W :: cs)) (I := fun x_ => match x_ with | i1 => ((slices_BinarySearchFunc_event_Count_event_Count_int_j1 x target) i1 = some (i9001, t9002))) ?_ ?_
 ·
  rintro i1 hp
  unfold slices_BinarySearchFunc_event_Count_event_Count_int_j1 at hp
  refine st_join1 (σ := Bool) (L := fun x_ => match x_ with | t2 => [(6, vI i1), (7, .bool t2)]) (N := fun x_ => match x_ with | t2 => Mem w0 (Fz F W :: cs)) (I := fun x_ => match x_ with | t2 => ((slices_BinarySearchFunc_event_Count_event_Count_int_j2 i1) t2 = some (i9001, t9002))) ?_ ?_
  ·
   rintro t2 hp
   unfold slices_BinarySearchFunc_event_Count_event_Count_int_j2 at hp
   refine st_ret ?_
   have hq_ := Option.some.inj hp
   obtain ⟨hr0_, hq_⟩ := Prod.mk.inj hq_
   have hr1_ := hq_
   subst hr0_
   subst hr1_
   refine fin_ret [.tmp 6, .tmp 7] [vI i1, .bool t2] rfl rfl (fun w_ hM => (.tmp rfl (.tmp rfl .nil))) (fun w_ hM => ?_)
   exact ⟨trivial, rfl, hM⟩
  ·
   intro HJ2
   refine st_seq (st_region [oF 0, oF 1, oF 2, oF 3, oF 4, oF 5, oF 6, oF 7, oF 8, oF 9, oF 10, oF 11, oF 12, oF 13, oF 14, oF 15] (by rfl) ?_)
   refine oQ [oF 0, oF 1, oF 2, oF 3, oF 4] [(39, .bool (decide (i1 < (x.length : Int)))), (35, vI i1), (0, sl A_x x c_x), (1, vI target), (2, .func (.func 78) #[] #[]), (9, vI i1)] (by kernel_rfl) ?_
   refine ops_bool (t := decide (i1 < (x.length : Int))) (l1 := [(39, .bool true), (35, vI i1), (0, sl A_x x c_x), (1, vI target), (2, .func (.func 78) #[] #[]), (9, vI i1)]) (l2 := [(39, .bool false), (35, vI i1), (0, sl A_x x c_x), (1, vI target), (2, .func (.func 78) #[] #[]), (9, vI i1)]) (fun h => by rw [h]) (fun h => by rw [h]) (fun hc3 => ?_) (fun hc3 => ?_)
   ·
    have hp := cnd_t hc3 hp
    refine oQ [oF 5, oF 6, oF 7] [(42, vI i1), (41, sl A_x x c_x), (40, .func (.func 78) #[] #[]), (39, .bool true), (35, vI i1), (1, vI target)] (by kernel_rfl) ?_
    obtain ⟨x4, hv5, hp⟩ := obind hp
    obtain ⟨m6, hm7, hx8⟩ := idx_some hv5
    have hl11 := (List.getElem?_eq_some_iff.1 hx8).1
    obtain ⟨ad12, vs9, hA13, hr10, hq14⟩ := RdS.el h_x hx8
    obtain rfl := dec_event_Count hr10
    refine ops_val (op := (.indexAddr 91 (.tmp 41) (.tmp 42))) (d := some 43) (v := .pointer (some (ad12.add (m6 * 2)))) ⟨by kernel_rfl⟩ (run_indexA hA13 Try.underlying91 (z := 2) (by kernel_rfl) rfl rfl hm7 hl11) ?_
    refine ops_mem (d := some 44) (an := [.v (vI x4.System), .v (vI x4.N)]) (evs := [.load (ad12.add (m6 * 2)) (vI x4.System), .load ((ad12.add (m6 * 2)).add 1) (vI x4.N)]) (v := .agg #[vI x4.System, vI x4.N]) ⟨by kernel_rfl⟩ (fun w_ hM hS => ⟨w_, ⟨hM.elcell 0 rfl hq14 0 rfl, hM.elcell 0 rfl hq14 1 rfl, rfl⟩, hM, trivial⟩) ?_
    refine oQ [oF 10] [(45, vI target), (44, .agg #[vI x4.System, vI x4.N]), (40, .func (.func 78) #[] #[]), (39, .bool true), (35, vI i1)] (by kernel_rfl) ?_
    obtain ⟨x15, hv16, hp⟩ := obind hp
    refine ops_callI (σ := Unit) (d := some 46) (f := 78) (args := #[.agg #[vI x4.System, vI x4.N], vI target]) (v := (fun _ => vI x15)) (I := (fun _ => True)) (M' := (fun _ => Mem w0 (Fz F W :: cs))) ⟨by kernel_rfl⟩ (fun w_ hM hS => (event_Counts_1_ok w0 w_ (cs) F W x4.System x4.N target hM  x15 hv16).mono (by rintro e w' ⟨-, rfl, h'⟩; have h' : Mem w0 (Fz F W :: cs) w' := h'; exact ⟨(), trivial, rfl, h', trivial⟩)) ?_
    rintro _ -
    refine oQ [oF 12, oF 13, oF 14, oF 15] [(7, .bool (x15 == 0)), (6, vI i1)] (by kernel_rfl) ?_
    refine ops_nil ?_
    exact fin_join HJ2 (x15 == 0) hp (look_has ⟨rfl, rfl, trivial⟩) (fun w_ hM => hM)
   ·
    have hp := cnd_f hc3 hp
    refine oQ [oF 5, oF 6, oF 7, oF 8, oF 9, oF 10, oF 11, oF 12, oF 13, oF 14, oF 15] [(7, .bool false), (6, vI i1)] (by kernel_rfl) ?_
    refine ops_nil ?_
    exact fin_join HJ2 false hp (look_has ⟨rfl, rfl, trivial⟩) (fun w_ hM => hM)
 ·
  intro HJ1
  refine st_seq (st_block ?_)
  obtain ⟨r3, hl3, hk3⟩ := obind hp
  refine st_loopP (σ := Int × Int) (ρ := Int) (γ := Unit) hl3 () (fun s_ g_ => match s_, g_ with | (i17, i18), _ => [(0, sl A_x x c_x), (1, vI target), (2, .func (.func 78) #[] #[]), (8, vI (x.length : Int)), (9, vI i17), (10, vI i18)]) (fun s_ g_ => match s_, g_ with | (i17, i18), _ => Mem w0 (Fz F W :: cs)) (fun s_ g_ => match s_, g_ with | (i17, i18), _ => True) trivial (look_has ⟨rfl, rfl, rfl, rfl, rfl, rfl, trivial⟩) (fun w_ hM => hM) ?_
  rintro ⟨i17, i18⟩ _ o3 - hs_ hd3
  have hp : (slices_BinarySearchFunc_event_Count_event_Count_int_l3 x target) i17 i18 = some o3 := hs_
  clear hs_
  unfold slices_BinarySearchFunc_event_Count_event_Count_int_l3 at hp
  refine st_seq (st_seq (st_region [oF 0, oF 1, oF 2] (by rfl) ?_))
  refine oQ [oF 0, oF 1, oF 2] [(17, .bool (decide (i17 < i18))), (0, sl A_x x c_x), (1, vI target), (2, .func (.func 78) #[] #[]), (8, vI (x.length : Int)), (9, vI i17), (10, vI i18)] (by kernel_rfl) ?_
  refine ops_nil (fin_then ?_)
  refine st_if (b := decide (i17 < i18)) rfl (fun hc19 => ?_) (fun hc19 => ?_)
  ·
   have hp := cnd_t hc19 hp
   refine st_skip (fin_then (st_block (st_seq (st_region [oF 0, oF 1, oF 2, oF 3, oF 4, oF 5, oF 6] (by rfl) ?_))))
   refine oQ [oF 0, oF 1, oF 2, oF 3, oF 4, oF 5, oF 6] [(11, vI (IntKind.i64.wrap (Int.fdiv (IntKind.u64.wrap (IntKind.i64.wrap (i17 + i18))) 2))), (0, sl A_x x c_x), (1, vI target), (2, .func (.func 78) #[] #[]), (8, vI (x.length : Int)), (9, vI i17), (10, vI i18)] (by kernel_rfl) ?_
   obtain ⟨x20, hv21, hp⟩ := obind hp
   refine ops_conv (l' := [(11, vI x20), (0, sl A_x x c_x), (1, vI target), (2, .func (.func 78) #[] #[]), (8, vI (x.length : Int)), (9, vI i17), (10, vI i18)]) (by rw [← Option.some.inj hv21]) (fun _ h => h) ?_
   refine ops_nil (fin_then (st_seq (st_region [oF 0, oF 1, oF 2, oF 3, oF 4, oF 5, oF 6, oF 7] (by rfl) ?_)))
   refine oQ [oF 0, oF 1, oF 2] [(26, vI x20), (25, sl A_x x c_x), (24, .func (.func 78) #[] #[]), (11, vI x20), (0, sl A_x x c_x), (1, vI target), (2, .func (.func 78) #[] #[]), (8, vI (x.length : Int)), (9, vI i17), (10, vI i18)] (by kernel_rfl) ?_
   obtain ⟨x22, hv23, hp⟩ := obind hp
   obtain ⟨m24, hm25, hx26⟩ := idx_some hv23
   have hl29 := (List.getElem?_eq_some_iff.1 hx26).1
   obtain ⟨ad30, vs27, hA31, hr28, hq32⟩ := RdS.el h_x hx26
   obtain rfl := dec_event_Count hr28
   refine ops_val (op := (.indexAddr 91 (.tmp 25) (.tmp 26))) (d := some 27) (v := .pointer (some (ad30.add (m24 * 2)))) ⟨by kernel_rfl⟩ (run_indexA hA31 Try.underlying91 (z := 2) (by kernel_rfl) rfl rfl hm25 hl29) ?_
   refine ops_mem (d := some 28) (an := [.v (vI x22.System), .v (vI x22.N)]) (evs := [.load (ad30.add (m24 * 2)) (vI x22.System), .load ((ad30.add (m24 * 2)).add 1) (vI x22.N)]) (v := .agg #[vI x22.System, vI x22.N]) ⟨by kernel_rfl⟩ (fun w_ hM hS => ⟨w_, ⟨hM.elcell 0 rfl hq32 0 rfl, hM.elcell 0 rfl hq32 1 rfl, rfl⟩, hM, trivial⟩) ?_
   refine oQ [oF 5] [(29, vI target), (28, .agg #[vI x22.System, vI x22.N]), (24, .func (.func 78) #[] #[]), (11, vI x20), (0, sl A_x x c_x), (1, vI target), (2, .func (.func 78) #[] #[]), (8, vI (x.length : Int)), (9, vI i17), (10, vI i18)] (by kernel_rfl) ?_
   obtain ⟨x33, hv34, hp⟩ := obind hp
   refine ops_callI (σ := Unit) (d := some 30) (f := 78) (args := #[.agg #[vI x22.System, vI x22.N], vI target]) (v := (fun _ => vI x33)) (I := (fun _ => True)) (M' := (fun _ => Mem w0 (Fz F W :: cs))) ⟨by kernel_rfl⟩ (fun w_ hM hS => (event_Counts_1_ok w0 w_ (cs) F W x22.System x22.N target hM  x33 hv34).mono (by rintro e w' ⟨-, rfl, h'⟩; have h' : Mem w0 (Fz F W :: cs) w' := h'; exact ⟨(), trivial, rfl, h', trivial⟩)) ?_
   rintro _ -
   refine oQ [oF 7] [(31, .bool (decide (x33 < 0))), (11, vI x20), (0, sl A_x x c_x), (1, vI target), (2, .func (.func 78) #[] #[]), (8, vI (x.length : Int)), (9, vI i17), (10, vI i18)] (by kernel_rfl) ?_
   refine ops_nil (fin_then ?_)
   refine st_if (b := decide (x33 < 0)) rfl (fun hc35 => ?_) (fun hc35 => ?_)
   ·
    have hp := cnd_t hc35 hp
    refine st_region [oF 0, oF 1, oF 2] (by rfl) ?_
    refine oQ [oF 0, oF 1, oF 2] [(9, vI (IntKind.i64.wrap (x20 + 1))), (0, sl A_x x c_x), (1, vI target), (2, .func (.func 78) #[] #[]), (8, vI (x.length : Int)), (10, vI i18)] (by kernel_rfl) ?_
    refine ops_nil (fin_block ?_)
    exact fin_again (IntKind.i64.wrap (x20 + 1), i18) () (Option.some.inj hp).symm trivial (look_has ⟨rfl, rfl, rfl, rfl, rfl, rfl, trivial⟩) (fun w_ hM => hM)
   ·
    have hp := cnd_f hc35 hp
    refine st_region [oF 0, oF 1] (by rfl) ?_
    refine oQ [oF 0, oF 1] [(10, vI x20), (0, sl A_x x c_x), (1, vI target), (2, .func (.func 78) #[] #[]), (8, vI (x.length : Int)), (9, vI i17)] (by kernel_rfl) ?_
    refine ops_nil (fin_block ?_)
    exact fin_again (i17, x20) () (Option.some.inj hp).symm trivial (look_has ⟨rfl, rfl, rfl, rfl, rfl, rfl, trivial⟩) (fun w_ hM => hM)
  ·
   have hp := cnd_f hc19 hp
   refine st_exit (fin_exit_then (fin_exit_then (fin_exit ?_)))
   obtain hq_ := Option.some.inj hp
   subst hq_
   obtain hq_ := hd3 _ rfl
   subst hq_
   have hp : (slices_BinarySearchFunc_event_Count_event_Count_int_j1 x target) i17 = some (i9001, t9002) := hk3
   exact fin_join HJ1 i17 hp (look_has ⟨rfl, rfl, rfl, rfl, rfl, trivial⟩) (fun w_ hM => hM)
theorem event_Counts_ok (w0 w : World) (cs : List Chunk) (F : Nat → Prop) (W : World) (A_l : Option Addr) (c_l : Nat) (l : List api_Event) (hM0 : Mem w0 (Fz F W :: cs) w) (h_l : RdS R_api_Event F W A_l c_l l) (l9003 : List event_Count) (hp : event_Counts l = some l9003) : Calls Try.prog 50 #[sl A_l l c_l] w fun e w' => ∃ (A9001 : Option Addr), ∃ (c9002 : Nat), ∃ (y9004 : List Value), ((RepL R_event_Count F W l9003 y9004)) ∧ e = .returned (sl A9001 l9003 c9002) ∧ Mem w0 (ow A9001 l9003 c9002 103 2 y9004 :: Fz F W :: cs) w' := by
 unfold event_Counts at hp
 refine sx_calls Try.func50 rfl (n := 40) (by kernel_rfl) (l := [(0, sl A_l l c_l)]) rfl (by rfl) hM0 ?_
 refine st_seq (st_region [oF 0] (by rfl) ?_)
 refine oQ [oF 0] [(0, sl A_l l c_l)] (by kernel_rfl) ?_
 refine ops_nil (fin_then (st_seq (st_region [oF 0] (by rfl) ?_)))
 refine oQ [oF 0] [(3, .slice none 0 0), (0, sl A_l l c_l)] (by kernel_rfl) ?_
 refine ops_nil (fin_then ?_)
 refine st_join1 (σ := (Option Addr) × Nat × (List event_Count) × (List Value)) (L := fun x_ => match x_ with | (A1, c2, l3, y4) => [(3, sl A1 l3 c2)]) (N := fun x_ => match x_ with | (A1, c2, l3, y4) => Mem w0 (ow A1 l3 c2 103 2 y4 :: Fz F W :: cs)) (I := fun x_ => match x_ with | (A1, c2, l3, y4) => (event_Counts_j1 l3 = some l9003) ∧ (RepL R_event_Count F W l3 y4)) ?_ ?_
 ·
  rintro ⟨A1, c2, l3, y4⟩ ⟨hp, h5⟩
  unfold event_Counts_j1 at hp
  refine st_seq (st_region [oF 0, oF 1] (by rfl) ?_)
  refine oQ [oF 0, oF 1] [(2, sl A1 l3 c2)] (by kernel_rfl) ?_
  refine ops_nil (fin_then (st_ret ?_))
  have hq_ := Option.some.inj hp
  have hr0_ := hq_
  subst hr0_
  refine fin_ret [.tmp 2] [sl A1 l3 c2] rfl rfl (fun w_ hM => (.tmp rfl .nil)) (fun w_ hM => ?_)
  exact ⟨A1, c2, y4, h5, rfl, hM⟩
 ·
  intro HJ1
  refine st_seq (st_seq (st_region [oF 0, oF 1, oF 2] (by rfl) ?_))
  refine oQ [oF 0, oF 1, oF 2] [(10, vI 0), (9, vI (l.length : Int)), (8, sl A_l l c_l), (3, .slice none 0 0)] (by kernel_rfl) ?_
  refine ops_nil (fin_then (st_block ?_))
  refine st_conv (l' := [(10, vI 0), (9, vI (l.length : Int)), (8, sl A_l l c_l), (3, .slice none 0 0)]) (M' := Mem w0 (ow none ([] : List event_Count) 0 103 2 [] :: Fz F W :: cs)) rfl (fun w_ h => h.onil none 103 2) ?_
  obtain ⟨r2, hl2, hk2⟩ := obind hp
  refine st_loopP (σ := (List event_Count) × Int) (ρ := (List event_Count)) (γ := (Option Addr) × Nat × (List Value)) hl2 (none, 0, []) (fun s_ g_ => match s_, g_ with | (l8, i11), (A6, c7, y9) => [(3, sl A6 l8 c7), (8, sl A_l l c_l), (9, vI (l.length : Int)), (10, vI i11)]) (fun s_ g_ => match s_, g_ with | (l8, i11), (A6, c7, y9) => Mem w0 (ow A6 l8 c7 103 2 y9 :: Fz F W :: cs)) (fun s_ g_ => match s_, g_ with | (l8, i11), (A6, c7, y9) => (RepL R_event_Count F W l8 y9)) (RepL.nil (R := R_event_Count)) (look_has ⟨rfl, rfl, rfl, rfl, trivial⟩) (fun w_ hM => hM) ?_
  rintro ⟨l8, i11⟩ ⟨A6, c7, y9⟩ o2 h10 hs_ hd2
  have hp : (event_Counts_l2 l) l8 i11 = some o2 := hs_
  clear hs_
  unfold event_Counts_l2 at hp
  refine st_seq (st_region [oF 0] (by rfl) ?_)
  refine oQ [oF 0] [(11, .bool (decide (i11 < (l.length : Int)))), (3, sl A6 l8 c7), (8, sl A_l l c_l), (9, vI (l.length : Int)), (10, vI i11)] (by kernel_rfl) ?_
  refine ops_nil (fin_then (st_seq ?_))
  refine st_if (b := decide (i11 < (l.length : Int))) rfl (fun hc12 => ?_) (fun hc12 => ?_)
  ·
   have hp := cnd_t hc12 hp
   refine st_skip (fin_then (st_seq (st_block (st_seq (st_region [oF 0, oF 1, oF 2, oF 3] (by rfl) ?_)))))
   obtain ⟨x13, hv14, hp⟩ := obind hp
   obtain ⟨m15, hm16, hx17⟩ := idx_some hv14
   have hl20 := (List.getElem?_eq_some_iff.1 hx17).1
   obtain ⟨ad21, vs18, hA22, hr19, hq23⟩ := RdS.el h_l hx17
   obtain rfl := dec_api_Event hr19
   refine ops_val (op := (.indexAddr 88 (.tmp 8) (.tmp 10))) (d := some 12) (v := .pointer (some (ad21.add (m15 * 4)))) ⟨by kernel_rfl⟩ (run_indexA hA22 Try.underlying88 (z := 4) (by kernel_rfl) rfl rfl hm16 hl20) ?_
   refine ops_mem (d := some 13) (an := [.v (vI x13.System), .v (vI x13.Ent.N), .v (vI x13.Ent.Gen), .v (vI x13.Value)]) (evs := [.load (ad21.add (m15 * 4)) (vI x13.System), .load ((ad21.add (m15 * 4)).add 1) (vI x13.Ent.N), .load ((ad21.add (m15 * 4)).add 2) (vI x13.Ent.Gen), .load ((ad21.add (m15 * 4)).add 3) (vI x13.Value)]) (v := .agg #[vI x13.System, vI x13.Ent.N, vI x13.Ent.Gen, vI x13.Value]) ⟨by kernel_rfl⟩ (fun w_ hM hS => ⟨w_, ⟨hM.elcell 1 rfl hq23 0 rfl, hM.elcell 1 rfl hq23 1 rfl, hM.elcell 1 rfl hq23 2 rfl, hM.elcell 1 rfl hq23 3 rfl, rfl⟩, hM, trivial⟩) ?_
   refine ops_newB (d := some 5) [vI 0, vI 0, vI 0, vI 0] 94 (fun b24 => ⟨by kernel_rfl⟩) (fun w_ hM hS => trivial) (fun b24 => ?_)
   refine ops_store (an := []) (evs := [sr b24 0 (vI x13.System), sr b24 1 (vI x13.Ent.N), sr b24 2 (vI x13.Ent.Gen), sr b24 3 (vI x13.Value)]) ⟨by kernel_rfl⟩ (fun w_ hM hS => let ⟨w', he, h'⟩ := hM.evs_stores [vI x13.System, vI x13.Ent.N, vI x13.Ent.Gen, vI x13.Value] 0 rfl 0 (Nat.le_of_ble_eq_true rfl); ⟨w', he, h', trivial⟩) ?_
   refine ops_nil (fin_then (st_seq (st_region [oF 0, oF 1, oF 2, oF 3, oF 4, oF 5, oF 6, oF 7, oF 8] (by rfl) ?_)))
   refine oQ [oF 0, oF 1] [(16, vP b24 0), (15, sl A6 l8 c7), (5, vP b24 0), (3, sl A6 l8 c7), (8, sl A_l l c_l), (9, vI (l.length : Int)), (10, vI i11)] (by kernel_rfl) ?_
   refine ops_mem (d := some 17) (an := [.v (vI x13.System)]) (evs := [ld b24 0 (vI x13.System)]) (v := vI x13.System) ⟨by kernel_rfl⟩ (fun w_ hM hS => ⟨w_, ⟨hM.cell 0 rfl rfl, rfl⟩, hM, trivial⟩) ?_
   obtain ⟨x25, x26, hv27, hp⟩ := obind2 hp
   refine ops_callI (σ := Unit) (d := some 18) (f := 77) (args := #[sl A6 l8 c7, vI x13.System, .func (.func 78) #[] #[]]) (v := (fun _ => .tuple #[vI x25, .bool x26])) (I := (fun _ => True)) (M' := (fun _ => Mem w0 (.blk b24 [vI x13.System, vI x13.Ent.N, vI x13.Ent.Gen, vI x13.Value] 94 :: ow A6 l8 c7 103 2 y9 :: Fz F W :: cs))) ⟨by kernel_rfl⟩ (fun w_ hM hS => (slices_BinarySearchFunc_event_Count_event_Count_int_ok w_ w_ [] (fun b => b < w_.heap.size) w_ A6 c7 l8 x13.System (Mem.fz0 w_) (hM.ordS 1 2 rfl rfl h10 rfl rfl) x25 x26 hv27).mono (by rintro e w' ⟨-, rfl, h'⟩; have h' : Mem w_ [] w' := h'.pick 1 [] (by kernel_rfl) (by decide) rfl; exact ⟨(), trivial, rfl, hM.join h' rfl, trivial⟩)) ?_
   rintro _ -
   refine oQ [oF 4, oF 5, oF 6, oF 7, oF 8] [(7, .bool x26), (6, vI x25), (5, vP b24 0), (3, sl A6 l8 c7), (8, sl A_l l c_l), (9, vI (l.length : Int)), (10, vI i11)] (by kernel_rfl) ?_
   refine ops_nil (fin_then ?_)
   refine st_join1 (σ := (Option Addr) × Nat × (List event_Count) × (List Value)) (L := fun x_ => match x_ with | (A28, c29, l30, y31) => [(3, sl A28 l30 c29), (6, vI x25), (8, sl A_l l c_l), (9, vI (l.length : Int)), (10, vI i11)]) (N := fun x_ => match x_ with | (A28, c29, l30, y31) => Mem w0 (ow A28 l30 c29 103 2 y31 :: Fz F W :: cs)) (I := fun x_ => match x_ with | (A28, c29, l30, y31) => ((event_Counts_j3 x25 i11) l30 = some o2) ∧ (RepL R_event_Count F W l30 y31)) ?_ ?_
   ·
    rintro ⟨A28, c29, l30, y31⟩ ⟨hp, h32⟩
    unfold event_Counts_j3 at hp
    refine st_region [oF 0, oF 1, oF 2, oF 3, oF 4, oF 5, oF 6, oF 7, oF 8] (by rfl) ?_
    refine oQ [oF 0, oF 1] [(31, vI x25), (30, sl A28 l30 c29), (3, sl A28 l30 c29), (8, sl A_l l c_l), (9, vI (l.length : Int)), (10, vI i11)] (by kernel_rfl) ?_
    obtain ⟨x33, hv34, hp⟩ := obind hp
    obtain ⟨m35, hm36, hx37⟩ := idx_some hv34
    have hl40 := (List.getElem?_eq_some_iff.1 hx37).1
    refine ops_fact (fun w_ hM => hM.orowSome 0 rfl (Nat.lt_of_le_of_lt (Nat.zero_le _) hl40)) ?_
    rintro ⟨g41, rfl, -⟩
    obtain ⟨vs38, hr39, hq42⟩ := h32.at_ m35 x33 hx37
    obtain rfl := dec_event_Count hr39
    refine ops_val (op := (.indexAddr 91 (.tmp 30) (.tmp 31))) (d := some 32) (v := vP g41 (m35 * 2)) ⟨by kernel_rfl⟩ (run_indexRow Try.underlying91 (z := 2) (by kernel_rfl) rfl rfl hm36 hl40 rfl) ?_
    refine oQ [oF 3] [(33, vP g41 (m35 * 2 + 1)), (31, vI x25), (30, sl (sa g41) l30 c29), (3, sl (sa g41) l30 c29), (8, sl A_l l c_l), (9, vI (l.length : Int)), (10, vI i11)] (by kernel_rfl) ?_
    refine ops_mem (d := some 34) (an := [.v (vI x33.N)]) (evs := [.load ⟨g41, m35 * 2 + 1, none⟩ (vI x33.N)]) (v := vI x33.N) ⟨by kernel_rfl⟩ (fun w_ hM hS => ⟨w_, ⟨hM.ocell 0 rfl (hq42 1 _ rfl), rfl⟩, hM, trivial⟩) ?_
    refine oQ [oF 5] [(35, vI (IntKind.i64.wrap (x33.N + 1))), (31, vI x25), (30, sl (sa g41) l30 c29), (3, sl (sa g41) l30 c29), (8, sl A_l l c_l), (9, vI (l.length : Int)), (10, vI i11)] (by kernel_rfl) ?_
    obtain ⟨x43, hv44, hp⟩ := obind hp
    obtain ⟨m45, hm46, hx47⟩ := idx_some hv44
    have hl50 := (List.getElem?_eq_some_iff.1 hx47).1
    obtain ⟨vs48, hr49, hq51⟩ := h32.at_ m45 x43 hx47
    obtain rfl := dec_event_Count hr49
    refine ops_val (op := (.indexAddr 91 (.tmp 30) (.tmp 31))) (d := some 36) (v := vP g41 (m45 * 2)) ⟨by kernel_rfl⟩ (run_indexRow Try.underlying91 (z := 2) (by kernel_rfl) rfl rfl hm46 hl50 rfl) ?_
    refine oQ [oF 7] [(37, vP g41 (m45 * 2 + 1)), (35, vI (IntKind.i64.wrap (x33.N + 1))), (3, sl (sa g41) l30 c29), (8, sl A_l l c_l), (9, vI (l.length : Int)), (10, vI i11)] (by kernel_rfl) ?_
    obtain ⟨l52, hv53, hp⟩ := obind hp
    obtain ⟨m54, hm55, hl56, he57⟩ := upd_some hv53
    obtain rfl : m45 = m54 := by have := hm46; omega
    have hl58 : l30.length = l52.length := by rw [he57, List.length_set]
    obtain ⟨y59, hy60⟩ : ∃ y_, setAll y31 (m45 * 2 + 1) [vI (IntKind.i64.wrap (x33.N + 1))] = y_ := ⟨_, rfl⟩
    have h61 : RepL R_event_Count F W l52 y59 := by rw [he57, ← hy60]; exact RepL.set h32 hx47 (fun vs_ hr_ _ => by obtain rfl := dec_event_Count hr_; exact ⟨(enc_event_Count), Nat.le_of_ble_eq_true rfl⟩)
    refine ops_store (an := []) (evs := [.store ⟨g41, m45 * 2 + 1, none⟩ (vI (IntKind.i64.wrap (x33.N + 1)))]) ⟨by kernel_rfl⟩ (fun w_ hM hS => let ⟨w', he, h'⟩ := hM.ostore' 0 rfl (m45 * 2 + 1) [vI (IntKind.i64.wrap (x33.N + 1))] (by have z_ : y31.length = l30.length * 2 := h32.len; have y_ : (m45 + 1) * 2 ≤ l30.length * 2 := Nat.mul_le_mul_right _ hl56; rw [Nat.add_mul] at y_; simp only [List.length_cons, List.length_nil]; omega) hl58 hy60; ⟨w', he, h', trivial⟩) ?_
    refine ops_conv (l' := [(37, vP g41 (m45 * 2 + 1)), (35, vI (IntKind.i64.wrap (x33.N + 1))), (3, sl (sa g41) l52 c29), (8, sl A_l l c_l), (9, vI (l.length : Int)), (10, vI i11)]) (M' := Mem w0 (ow (sa g41) l52 c29 103 2 y59 :: Fz F W :: cs)) (by first | rfl | ((try dsimp only [sl, ow]); rw [hl58])) (fun w_ hM => by first | exact hM | ((try dsimp only [sl, ow] at hM ⊢); rw [hl58] at hM; exact hM)) ?_
    refine ops_nil (fin_block (fin_then (st_region [oF 0, oF 1] (by rfl) ?_)))
    refine oQ [oF 0, oF 1] [(10, vI (IntKind.i64.wrap (i11 + 1))), (3, sl (sa g41) l52 c29), (8, sl A_l l c_l), (9, vI (l.length : Int))] (by kernel_rfl) ?_
    refine ops_nil ?_
    exact fin_again (l52, IntKind.i64.wrap (i11 + 1)) ((sa g41), c29, y59) (Option.some.inj hp).symm h61 (look_has ⟨rfl, rfl, rfl, rfl, trivial⟩) (fun w_ hM => hM)
   ·
    intro HJ3
    refine st_seq (st_seq (st_region [oF 0, oF 1] (by rfl) ?_))
    refine oQ [oF 0, oF 1] [(22, .bool (!x26)), (6, vI x25), (5, vP b24 0), (3, sl A6 l8 c7), (8, sl A_l l c_l), (9, vI (l.length : Int)), (10, vI i11)] (by kernel_rfl) ?_
    refine ops_nil (fin_then ?_)
    refine st_if (b := !x26) rfl (fun hc63 => ?_) (fun hc63 => ?_)
    ·
     have hp := cnd_t hc63 hp
     refine st_region [oF 0, oF 1, oF 2, oF 3, oF 4, oF 5, oF 6, oF 7] (by rfl) ?_
     refine oQ [oF 0, oF 1, oF 2] [(25, vP b24 0), (24, vI x25), (23, sl A6 l8 c7), (6, vI x25), (3, sl A6 l8 c7), (8, sl A_l l c_l), (9, vI (l.length : Int)), (10, vI i11)] (by kernel_rfl) ?_
     refine ops_mem (d := some 26) (an := [.v (vI x13.System)]) (evs := [ld b24 0 (vI x13.System)]) (v := vI x13.System) ⟨by kernel_rfl⟩ (fun w_ hM hS => ⟨w_, ⟨hM.cell 0 rfl rfl, rfl⟩, hM, trivial⟩) ?_
     refine oQ [oF 4] [(27, .agg #[vI x13.System, vI 0]), (24, vI x25), (23, sl A6 l8 c7), (6, vI x25), (3, sl A6 l8 c7), (8, sl A_l l c_l), (9, vI (l.length : Int)), (10, vI i11)] (by kernel_rfl) ?_
     have h64 : RepL R_event_Count F W ([(event_Count.mk x13.System 0)] : List event_Count) ([vI x13.System, vI 0]) := (RepL.cons (R := R_event_Count) (F := F) (w := W) (vs := [vI x13.System, vI 0]) (ys := []) (enc_event_Count) RepL.nil)
     refine ops_new (d := some 28) (o := .cells ([vI x13.System, vI 0] : List Value).toArray 103) (v := fun g65 => .slice (sa g65) ([(event_Count.mk x13.System 0)] : List event_Count).length 1) (M' := fun g65 => Mem w0 (orow (sa g65) ([(event_Count.mk x13.System 0)] : List event_Count).length 1 103 2 ([vI x13.System, vI 0]) :: .blk b24 [vI x13.System, vI x13.Ent.N, vI x13.Ent.Gen, vI x13.Value] 94 :: ow A6 l8 c7 103 2 y9 :: Fz F W :: cs)) (fun g65 => ⟨by kernel_rfl⟩) (fun w_ hM hS => ⟨hM.onew [vI x13.System, vI 0] 103 1 2 rfl (by decide), trivial⟩) (fun g65 => ?_)
     obtain ⟨x66, hv67, hp⟩ := obind hp
     refine ops_callI (σ := (Option Addr) × Nat × (List Value)) (d := some 29) (f := 80) (args := #[sl A6 l8 c7, vI x25, .slice (sa g65) ([(event_Count.mk x13.System 0)] : List event_Count).length 1]) (v := (fun x_ => match x_ with | (A68, c69, y70) => sl A68 x66 c69)) (I := (fun x_ => match x_ with | (A68, c69, y70) => (RepL R_event_Count F W x66 y70))) (M' := (fun x_ => match x_ with | (A68, c69, y70) => Mem w0 (ow A68 x66 c69 103 2 y70 :: .blk b24 [vI x13.System, vI x13.Ent.N, vI x13.Ent.Gen, vI x13.Value] 94 :: Fz F W :: cs))) ⟨by kernel_rfl⟩ (fun w_ hM hS => (slices_Insert_event_Count_event_Count_ok w0 w_ (.blk b24 [vI x13.System, vI x13.Ent.N, vI x13.Ent.Gen, vI x13.Value] 94 :: cs) F W A6 c7 l8 y9 x25 (sa g65) 1 ([(event_Count.mk x13.System 0)] : List event_Count) ([vI x13.System, vI 0]) (hM.pick 4 [2, 0, 3, 1] (by kernel_rfl) (by decide) rfl) h10 h64 x66 hv67).mono (by rintro e w' ⟨A68, c69, y70, h71, rfl, h'⟩; have h' : Mem w0 (ow A68 x66 c69 103 2 y70 :: .blk b24 [vI x13.System, vI x13.Ent.N, vI x13.Ent.Gen, vI x13.Value] 94 :: Fz F W :: cs) w' := (h'.pick 3 [0, 2, 1] (by kernel_rfl) (by decide) rfl); exact ⟨(A68, c69, y70), h71, rfl, h', trivial⟩)) ?_
     rintro ⟨A68, c69, y70⟩ h71
     refine oQ [oF 7] [(3, sl A68 x66 c69), (6, vI x25), (8, sl A_l l c_l), (9, vI (l.length : Int)), (10, vI i11)] (by kernel_rfl) ?_
     refine ops_nil ?_
     exact fin_join HJ3 (A68, c69, x66, y70) ⟨hp, h71⟩ (look_has ⟨rfl, rfl, rfl, rfl, rfl, trivial⟩) (fun w_ hM => hM.pick 3 [0, 2] (by kernel_rfl) (by decide) rfl)
    ·
     have hp := cnd_f hc63 hp
     refine st_skip ?_
     exact fin_join HJ3 (A6, c7, l8, y9) ⟨hp, h10⟩ (look_has ⟨rfl, rfl, rfl, rfl, rfl, trivial⟩) (fun w_ hM => hM.pick 3 [1, 2] (by kernel_rfl) (by decide) rfl)
  ·
   have hp := cnd_f hc12 hp
   refine st_exit (fin_exit_then (fin_exit_then (fin_exit ?_)))
   obtain hq_ := Option.some.inj hp
   subst hq_
   obtain hq_ := hd2 _ rfl
   subst hq_
   have hp : event_Counts_j1 l8 = some l9003 := hk2
   exact fin_join HJ1 (A6, c7, l8, y9) ⟨hp, h10⟩ (look_has ⟨rfl, trivial⟩) (fun w_ hM => hM)
theorem event_Split_1_ok (w0 w : World) (cs : List Chunk) (F : Nat → Prop) (W : World) (it_0 : Int) (it_1 : Int) (A_it_2 : Option Addr) (c_it_2 : Nat) (it_2 : List api_Comp) (b_p1 : Nat) (p1_0 : Int) (p1_1 : Int) (p1_2 : Int) (p1_3 : Int) (hM0 : Mem w0 (.blk b_p1 [vI p1_0, vI p1_1, vI p1_2, vI p1_3] 94 :: Fz F W :: cs) w) (h_it_2 : RdS R_api_Comp F W A_it_2 c_it_2 it_2) (t9001 : Bool) (hp : event_Split_1 it_0 it_1 it_2 p1_0 p1_1 p1_2 p1_3 = some t9001) : Calls Try.prog 82 #[.agg #[vI it_0, vI it_1, sl A_it_2 it_2 c_it_2], vP b_p1 0] w fun e w' => (True) ∧ e = .returned (.bool t9001) ∧ Mem w0 (.blk b_p1 [vI p1_0, vI p1_1, vI p1_2, vI p1_3] 94 :: Fz F W :: cs) w' := by
 unfold event_Split_1 at hp
 refine sx_calls Try.func82 rfl (n := 9) (by kernel_rfl) (l := [(0, .agg #[vI it_0, vI it_1, sl A_it_2 it_2 c_it_2]), (1, vP b_p1 0)]) rfl (by rfl) hM0 ?_
 refine st_seq (st_region [oF 0, oF 1] (by rfl) ?_)
 refine ops_newB (d := some 2) [vI it_0, vI it_1, sl A_it_2 it_2 c_it_2] 38 (fun b1 => ⟨by kernel_rfl⟩) (fun w_ hM hS => trivial) (fun b1 => ?_)
 refine oQ [oF 1] [(2, vP b1 0), (1, vP b_p1 0)] (by kernel_rfl) ?_
 refine ops_nil (fin_then (st_seq (st_region [oF 0, oF 1, oF 2, oF 3, oF 4, oF 5] (by rfl) ?_)))
 refine oQ [oF 0] [(4, vP b1 0), (1, vP b_p1 0)] (by kernel_rfl) ?_
 refine ops_mem (d := some 5) (an := [.v (vI it_0), .v (vI it_1)]) (evs := [ld b1 0 (vI it_0), ld b1 1 (vI it_1)]) (v := .agg #[vI it_0, vI it_1]) ⟨by kernel_rfl⟩ (fun w_ hM hS => ⟨w_, ⟨hM.cell 0 rfl rfl, hM.cell 0 rfl rfl, rfl⟩, hM, trivial⟩) ?_
 refine oQ [oF 2] [(6, vP b_p1 1), (5, .agg #[vI it_0, vI it_1])] (by kernel_rfl) ?_
 refine ops_mem (d := some 7) (an := [.v (vI p1_1), .v (vI p1_2)]) (evs := [ld b_p1 1 (vI p1_1), ld b_p1 2 (vI p1_2)]) (v := .agg #[vI p1_1, vI p1_2]) ⟨by kernel_rfl⟩ (fun w_ hM hS => ⟨w_, ⟨hM.cell 1 rfl rfl, hM.cell 1 rfl rfl, rfl⟩, hM, trivial⟩) ?_
 refine ops_val (op := (.binOp Go.BinOp.eql 35 (.tmp 5) (.tmp 7) 35)) (d := some 8) (v := .bool (it_0 == p1_1 && (it_1 == p1_2))) ⟨by kernel_rfl⟩ (run_eql_agg (r := it_0 == p1_1 && (it_1 == p1_2)) rfl rfl (by kernel_rfl) (fun w => eqA35 9998 w it_0 p1_1 it_1 p1_2)) ?_
 refine oQ [oF 5] [(3, .bool (it_0 == p1_1 && (it_1 == p1_2)))] (by kernel_rfl) ?_
 refine ops_nil (fin_then (st_ret ?_))
 have hq_ := Option.some.inj hp
 have hr0_ := hq_
 subst hr0_
 refine fin_ret [.tmp 3] [.bool (it_0 == p1_1 && (it_1 == p1_2))] rfl rfl (fun w_ hM => (.tmp rfl .nil)) (fun w_ hM => ?_)
 exact ⟨trivial, rfl, hM.pick 3 [1, 2] (by kernel_rfl) (by decide) rfl⟩
theorem slices_IndexFunc_api_Item_api_Item_ok (w0 w : World) (cs : List Chunk) (F : Nat → Prop) (W : World) (A_s : Option Addr) (c_s : Nat) (s : List api_Item) (b_f_c0 : Nat) (f_c0_0 : Int) (f_c0_1 : Int) (f_c0_2 : Int) (f_c0_3 : Int) (hM0 : Mem w0 (.blk b_f_c0 [vI f_c0_0, vI f_c0_1, vI f_c0_2, vI f_c0_3] 94 :: Fz F W :: cs) w) (h_s : RdS R_api_Item F W A_s c_s s) (i9001 : Int) (hp : slices_IndexFunc_api_Item_api_Item s f_c0_0 f_c0_1 f_c0_2 f_c0_3 = some i9001) : Calls Try.prog 92 #[sl A_s s c_s, .func (.func 82) #[] #[vP b_f_c0 0]] w fun e w' => (True) ∧ e = .returned (vI i9001) ∧ Mem w0 (.blk b_f_c0 [vI f_c0_0, vI f_c0_1, vI f_c0_2, vI f_c0_3] 94 :: Fz F W :: cs) w' := by
 unfold slices_IndexFunc_api_Item_api_Item at hp
 refine sx_calls Try.func92 rfl (n := 19) (by kernel_rfl) (l := [(0, sl A_s s c_s), (1, .func (.func 82) #[] #[vP b_f_c0 0])]) rfl (by rfl) hM0 ?_
 refine st_seq (st_region [oF 0] (by rfl) ?_)
 refine oQ [oF 0] [(0, sl A_s s c_s), (1, .func (.func 82) #[] #[vP b_f_c0 0])] (by kernel_rfl) ?_
 refine ops_nil (fin_then ?_)
 refine st_join1 (σ := Unit) (L := fun _ => []) (N := fun _ => Mem w0 (.blk b_f_c0 [vI f_c0_0, vI f_c0_1, vI f_c0_2, vI f_c0_3] 94 :: Fz F W :: cs)) (I := fun _ => (slices_IndexFunc_api_Item_api_Item_j1 = some i9001)) ?_ ?_
 ·
  rintro _ hp
  unfold slices_IndexFunc_api_Item_api_Item_j1 at hp
  refine st_seq (st_region [oF 0] (by rfl) ?_)
  refine oQ [oF 0] [(4, vI (-1))] (by kernel_rfl) ?_
  refine ops_nil (fin_then (st_ret ?_))
  have hq_ := Option.some.inj hp
  have hr0_ := hq_
  subst hr0_
  refine fin_ret [.tmp 4] [vI (-1)] rfl rfl (fun w_ hM => (.tmp rfl .nil)) (fun w_ hM => ?_)
  exact ⟨trivial, rfl, hM⟩
 ·
  intro HJ1
  refine st_seq (st_seq (st_region [oF 0, oF 1, oF 2] (by rfl) ?_))
  refine oQ [oF 0, oF 1, oF 2] [(8, vI 0), (7, vI (s.length : Int)), (0, sl A_s s c_s), (1, .func (.func 82) #[] #[vP b_f_c0 0])] (by kernel_rfl) ?_
  refine ops_nil (fin_then (st_block ?_))
  obtain ⟨r2, hl2, hk2⟩ := obind hp
  refine st_loopP (σ := Int) (ρ := (Int ⊕ Unit)) (γ := Unit) hl2 () (fun s_ g_ => match s_, g_ with | i1, _ => [(0, sl A_s s c_s), (1, .func (.func 82) #[] #[vP b_f_c0 0]), (7, vI (s.length : Int)), (8, vI i1)]) (fun s_ g_ => match s_, g_ with | i1, _ => Mem w0 (.blk b_f_c0 [vI f_c0_0, vI f_c0_1, vI f_c0_2, vI f_c0_3] 94 :: Fz F W :: cs)) (fun s_ g_ => match s_, g_ with | i1, _ => True) trivial (look_has ⟨rfl, rfl, rfl, rfl, trivial⟩) (fun w_ hM => hM) ?_
  rintro i1 _ o2 - hs_ hd2
  have hp : (slices_IndexFunc_api_Item_api_Item_l2 s f_c0_0 f_c0_1 f_c0_2 f_c0_3) i1 = some o2 := hs_
  clear hs_
  unfold slices_IndexFunc_api_Item_api_Item_l2 at hp
  refine st_seq (st_region [oF 0] (by rfl) ?_)
  refine oQ [oF 0] [(9, .bool (decide (i1 < (s.length : Int)))), (0, sl A_s s c_s), (1, .func (.func 82) #[] #[vP b_f_c0 0]), (7, vI (s.length : Int)), (8, vI i1)] (by kernel_rfl) ?_
  refine ops_nil (fin_then (st_seq ?_))
  refine st_if (b := decide (i1 < (s.length : Int))) rfl (fun hc2 => ?_) (fun hc2 => ?_)
  ·
   have hp := cnd_t hc2 hp
   refine st_skip (fin_then (st_seq (st_block (st_seq (st_region [oF 0, oF 1] (by rfl) ?_)))))
   refine oQ [oF 0, oF 1] [(5, vI i1), (0, sl A_s s c_s), (1, .func (.func 82) #[] #[vP b_f_c0 0]), (7, vI (s.length : Int)), (8, vI i1)] (by kernel_rfl) ?_
   refine ops_nil (fin_then (st_seq (st_region [oF 0, oF 1, oF 2, oF 3, oF 4, oF 5] (by rfl) ?_)))
   refine oQ [oF 0, oF 1, oF 2] [(13, vI i1), (12, sl A_s s c_s), (11, .func (.func 82) #[] #[vP b_f_c0 0]), (5, vI i1), (0, sl A_s s c_s), (1, .func (.func 82) #[] #[vP b_f_c0 0]), (7, vI (s.length : Int)), (8, vI i1)] (by kernel_rfl) ?_
   obtain ⟨x3, hv4, hp⟩ := obind hp
   obtain ⟨m5, hm6, hx7⟩ := idx_some hv4
   have hl10 := (List.getElem?_eq_some_iff.1 hx7).1
   obtain ⟨ad11, vs8, hA12, hr9, hq13⟩ := RdS.el h_s hx7
   obtain ⟨A14, c15, rfl, h16⟩ := dec_api_Item hr9
   refine ops_val (op := (.indexAddr 24 (.tmp 12) (.tmp 13))) (d := some 14) (v := .pointer (some (ad11.add (m5 * 3)))) ⟨by kernel_rfl⟩ (run_indexA hA12 Try.underlying24 (z := 3) (by kernel_rfl) rfl rfl hm6 hl10) ?_
   refine ops_mem (d := some 15) (an := [.v (vI x3.Ent.N), .v (vI x3.Ent.Gen), .v (sl A14 x3.Comps c15)]) (evs := [.load (ad11.add (m5 * 3)) (vI x3.Ent.N), .load ((ad11.add (m5 * 3)).add 1) (vI x3.Ent.Gen), .load ((ad11.add (m5 * 3)).add 2) (sl A14 x3.Comps c15)]) (v := .agg #[vI x3.Ent.N, vI x3.Ent.Gen, sl A14 x3.Comps c15]) ⟨by kernel_rfl⟩ (fun w_ hM hS => ⟨w_, ⟨hM.elcell 1 rfl hq13 0 rfl, hM.elcell 1 rfl hq13 1 rfl, hM.elcell 1 rfl hq13 2 rfl, rfl⟩, hM, trivial⟩) ?_
   obtain ⟨x17, hv18, hp⟩ := obind hp
   refine ops_callI (σ := Unit) (d := some 16) (f := 82) (args := #[.agg #[vI x3.Ent.N, vI x3.Ent.Gen, sl A14 x3.Comps c15], vP b_f_c0 0]) (v := (fun _ => .bool x17)) (I := (fun _ => True)) (M' := (fun _ => Mem w0 (.blk b_f_c0 [vI f_c0_0, vI f_c0_1, vI f_c0_2, vI f_c0_3] 94 :: Fz F W :: cs))) ⟨by kernel_rfl⟩ (fun w_ hM hS => (event_Split_1_ok w0 w_ (cs) F W x3.Ent.N x3.Ent.Gen A14 c15 x3.Comps b_f_c0 f_c0_0 f_c0_1 f_c0_2 f_c0_3 hM h16 x17 hv18).mono (by rintro e w' ⟨-, rfl, h'⟩; have h' : Mem w0 (.blk b_f_c0 [vI f_c0_0, vI f_c0_1, vI f_c0_2, vI f_c0_3] 94 :: Fz F W :: cs) w' := h'; exact ⟨(), trivial, rfl, h', trivial⟩)) ?_
   rintro _ -
   refine ops_nil (fin_then ?_)
   refine st_if (b := x17) rfl (fun hc19 => ?_) (fun hc19 => ?_)
   ·
    have hp := cnd_t hc19 hp
    refine st_seq (st_region [oF 0, oF 1] (by rfl) ?_)
    refine oQ [oF 0, oF 1] [(4, vI i1)] (by kernel_rfl) ?_
    refine ops_nil (fin_then (st_ret (fin_ret_block (fin_ret_then (fin_ret_then (fin_ret_block (fin_ret_then ?_)))))))
    obtain hq_ := Option.some.inj hp
    subst hq_
    obtain hq_ := hd2 _ rfl
    subst hq_
    have hp : some i1 = some i9001 := hk2
    have hq_ := Option.some.inj hp
    have hr0_ := hq_
    subst hr0_
    refine fin_ret [.tmp 4] [vI i1] rfl rfl (fun w_ hM => (.tmp rfl .nil)) (fun w_ hM => ?_)
    exact ⟨trivial, rfl, hM⟩
   ·
    have hp := cnd_f hc19 hp
    refine st_skip (fin_block (fin_then (st_region [oF 0, oF 1] (by rfl) ?_)))
    refine oQ [oF 0, oF 1] [(8, vI (IntKind.i64.wrap (i1 + 1))), (0, sl A_s s c_s), (1, .func (.func 82) #[] #[vP b_f_c0 0]), (7, vI (s.length : Int))] (by kernel_rfl) ?_
    refine ops_nil ?_
    exact fin_again (IntKind.i64.wrap (i1 + 1)) () (Option.some.inj hp).symm trivial (look_has ⟨rfl, rfl, rfl, rfl, trivial⟩) (fun w_ hM => hM)
  ·
   have hp := cnd_f hc2 hp
   refine st_exit (fin_exit_then (fin_exit_then (fin_exit ?_)))
   obtain hq_ := Option.some.inj hp
   subst hq_
   obtain hq_ := hd2 _ rfl
   subst hq_
   have hp : slices_IndexFunc_api_Item_api_Item_j1 = some i9001 := hk2
   exact fin_join HJ1 () hp (look_has trivial) (fun w_ hM => hM)
theorem slices_ContainsFunc_api_Item_api_Item_ok (w0 w : World) (cs : List Chunk) (F : Nat → Prop) (W : World) (A_s : Option Addr) (c_s : Nat) (s : List api_Item) (b_f_c0 : Nat) (f_c0_0 : Int) (f_c0_1 : Int) (f_c0_2 : Int) (f_c0_3 : Int) (hM0 : Mem w0 (.blk b_f_c0 [vI f_c0_0, vI f_c0_1, vI f_c0_2, vI f_c0_3] 94 :: Fz F W :: cs) w) (h_s : RdS R_api_Item F W A_s c_s s) (t9001 : Bool) (hp : slices_ContainsFunc_api_Item_api_Item s f_c0_0 f_c0_1 f_c0_2 f_c0_3 = some t9001) : Calls Try.prog 81 #[sl A_s s c_s, .func (.func 82) #[] #[vP b_f_c0 0]] w fun e w' => (True) ∧ e = .returned (.bool t9001) ∧ Mem w0 (.blk b_f_c0 [vI f_c0_0, vI f_c0_1, vI f_c0_2, vI f_c0_3] 94 :: Fz F W :: cs) w' := by
 unfold slices_ContainsFunc_api_Item_api_Item at hp
 refine sx_calls Try.func81 rfl (n := 9) (by kernel_rfl) (l := [(0, sl A_s s c_s), (1, .func (.func 82) #[] #[vP b_f_c0 0])]) rfl (by rfl) hM0 ?_
 refine st_seq (st_region [oF 0] (by rfl) ?_)
 refine oQ [oF 0] [(0, sl A_s s c_s), (1, .func (.func 82) #[] #[vP b_f_c0 0])] (by kernel_rfl) ?_
 refine ops_nil (fin_then (st_seq (st_region [oF 0, oF 1, oF 2, oF 3, oF 4] (by rfl) ?_)))
 refine oQ [oF 0, oF 1] [(6, .func (.func 82) #[] #[vP b_f_c0 0]), (5, sl A_s s c_s)] (by kernel_rfl) ?_
 obtain ⟨x1, hv2, hp⟩ := obind hp
 refine ops_callI (σ := Unit) (d := some 7) (f := 92) (args := #[sl A_s s c_s, .func (.func 82) #[] #[vP b_f_c0 0]]) (v := (fun _ => vI x1)) (I := (fun _ => True)) (M' := (fun _ => Mem w0 (.blk b_f_c0 [vI f_c0_0, vI f_c0_1, vI f_c0_2, vI f_c0_3] 94 :: Fz F W :: cs))) ⟨by kernel_rfl⟩ (fun w_ hM hS => (slices_IndexFunc_api_Item_api_Item_ok w0 w_ (cs) F W A_s c_s s b_f_c0 f_c0_0 f_c0_1 f_c0_2 f_c0_3 hM h_s x1 hv2).mono (by rintro e w' ⟨-, rfl, h'⟩; have h' : Mem w0 (.blk b_f_c0 [vI f_c0_0, vI f_c0_1, vI f_c0_2, vI f_c0_3] 94 :: Fz F W :: cs) w' := h'; exact ⟨(), trivial, rfl, h', trivial⟩)) ?_
 rintro _ -
 refine oQ [oF 3, oF 4] [(4, .bool (decide (0 ≤ x1)))] (by kernel_rfl) ?_
 refine ops_nil (fin_then (st_ret ?_))
 have hq_ := Option.some.inj hp
 have hr0_ := hq_
 subst hr0_
 refine fin_ret [.tmp 4] [.bool (decide (0 ≤ x1))] rfl rfl (fun w_ hM => (.tmp rfl .nil)) (fun w_ hM => ?_)
 exact ⟨trivial, rfl, hM⟩
theorem event_Split_ok (w0 w : World) (cs : List Chunk) (F : Nat → Prop) (W : World) (A_w_0 : Option Addr) (c_w_0 : Nat) (w_0 : List api_Kind) (A_w_1 : Option Addr) (c_w_1 : Nat) (w_1 : List Int) (A_w_2 : Option Addr) (c_w_2 : Nat) (w_2 : List api_Item) (A_l : Option Addr) (c_l : Nat) (l : List api_Event) (hM0 : Mem w0 (Fz F W :: cs) w) (h_w_0 : RdS R_api_Kind F W A_w_0 c_w_0 w_0) (h_w_1 : RdS (Rep.int .i64) F W A_w_1 c_w_1 w_1) (h_w_2 : RdS R_api_Item F W A_w_2 c_w_2 w_2) (h_l : RdS R_api_Event F W A_l c_l l) (l9003 : List api_Event) (l9008 : List api_Event) (hp : event_Split w_0 w_1 w_2 l = some (l9003, l9008)) : Calls Try.prog 51 #[.agg #[sl A_w_0 w_0 c_w_0, sl A_w_1 w_1 c_w_1, sl A_w_2 w_2 c_w_2], sl A_l l c_l] w fun e w' => ∃ (A9001 : Option Addr), ∃ (c9002 : Nat), ∃ (y9004 : List Value), ∃ (A9006 : Option Addr), ∃ (c9007 : Nat), ∃ (y9009 : List Value), ((RepL R_api_Event F W l9003 y9004) ∧ (RepL R_api_Event F W l9008 y9009)) ∧ e = .returned (.tuple #[sl A9001 l9003 c9002, sl A9006 l9008 c9007]) ∧ Mem w0 (ow A9001 l9003 c9002 94 4 y9004 :: ow A9006 l9008 c9007 94 4 y9009 :: Fz F W :: cs) w' := by
 unfold event_Split at hp
 refine sx_calls Try.func51 rfl (n := 31) (by kernel_rfl) (l := [(0, .agg #[sl A_w_0 w_0 c_w_0, sl A_w_1 w_1 c_w_1, sl A_w_2 w_2 c_w_2]), (1, sl A_l l c_l)]) rfl (by rfl) hM0 ?_
 refine st_seq (st_region [oF 0, oF 1, oF 2] (by rfl) ?_)
 refine ops_newB (d := some 2) [sl A_w_0 w_0 c_w_0, sl A_w_1 w_1 c_w_1, sl A_w_2 w_2 c_w_2] 26 (fun b1 => ⟨by kernel_rfl⟩) (fun w_ hM hS => trivial) (fun b1 => ?_)
 refine oQ [oF 1, oF 2] [(2, vP b1 0), (1, sl A_l l c_l)] (by kernel_rfl) ?_
 refine ops_nil (fin_then (st_seq (st_region [oF 0, oF 1] (by rfl) ?_)))
 refine oQ [oF 0, oF 1] [(7, .slice none 0 0), (6, .slice none 0 0), (2, vP b1 0), (1, sl A_l l c_l)] (by kernel_rfl) ?_
 refine ops_nil (fin_then ?_)
 refine st_join1 (σ := (Option Addr) × Nat × (List api_Event) × (List Value) × (Option Addr) × Nat × (List api_Event) × (List Value)) (L := fun x_ => match x_ with | (A2, c3, l4, y5, A7, c8, l9, y10) => [(6, sl A2 l4 c3), (7, sl A7 l9 c8)]) (N := fun x_ => match x_ with | (A2, c3, l4, y5, A7, c8, l9, y10) => Mem w0 (ow A2 l4 c3 94 4 y5 :: ow A7 l9 c8 94 4 y10 :: Fz F W :: cs)) (I := fun x_ => match x_ with | (A2, c3, l4, y5, A7, c8, l9, y10) => (event_Split_j1 l4 l9 = some (l9003, l9008)) ∧ (RepL R_api_Event F W l4 y5) ∧ (RepL R_api_Event F W l9 y10)) ?_ ?_
 ·
  rintro ⟨A2, c3, l4, y5, A7, c8, l9, y10⟩ ⟨hp, h6, h11⟩
  unfold event_Split_j1 at hp
  refine st_seq (st_region [oF 0, oF 1, oF 2, oF 3] (by rfl) ?_)
  refine oQ [oF 0, oF 1, oF 2, oF 3] [(5, sl A7 l9 c8), (4, sl A2 l4 c3)] (by kernel_rfl) ?_
  refine ops_nil (fin_then (st_ret ?_))
  have hq_ := Option.some.inj hp
  obtain ⟨hr0_, hq_⟩ := Prod.mk.inj hq_
  have hr1_ := hq_
  subst hr0_
  subst hr1_
  refine fin_ret [.tmp 4, .tmp 5] [sl A2 l4 c3, sl A7 l9 c8] rfl rfl (fun w_ hM => (.tmp rfl (.tmp rfl .nil))) (fun w_ hM => ?_)
  exact ⟨A2, c3, y5, A7, c8, y10, ⟨h6, h11⟩, rfl, hM⟩
 ·
  intro HJ1
  refine st_seq (st_seq (st_region [oF 0, oF 1, oF 2] (by rfl) ?_))
  refine oQ [oF 0, oF 1, oF 2] [(12, vI 0), (11, vI (l.length : Int)), (10, sl A_l l c_l), (7, .slice none 0 0), (6, .slice none 0 0), (2, vP b1 0)] (by kernel_rfl) ?_
  refine ops_nil (fin_then (st_block ?_))
  refine st_conv (l' := [(12, vI 0), (11, vI (l.length : Int)), (10, sl A_l l c_l), (7, .slice none 0 0), (6, .slice none 0 0), (2, vP b1 0)]) (M' := Mem w0 (ow none ([] : List api_Event) 0 94 4 [] :: .blk b1 [sl A_w_0 w_0 c_w_0, sl A_w_1 w_1 c_w_1, sl A_w_2 w_2 c_w_2] 26 :: Fz F W :: cs)) rfl (fun w_ h => h.onil none 94 4) ?_
  refine st_conv (l' := [(12, vI 0), (11, vI (l.length : Int)), (10, sl A_l l c_l), (7, .slice none 0 0), (6, .slice none 0 0), (2, vP b1 0)]) (M' := Mem w0 (ow none ([] : List api_Event) 0 94 4 [] :: ow none ([] : List api_Event) 0 94 4 [] :: .blk b1 [sl A_w_0 w_0 c_w_0, sl A_w_1 w_1 c_w_1, sl A_w_2 w_2 c_w_2] 26 :: Fz F W :: cs)) rfl (fun w_ h => h.onil none 94 4) ?_
  obtain ⟨r2, hl2, hk2⟩ := obind hp
  refine st_loopP (σ := (List api_Event) × (List api_Event) × Int) (ρ := (List api_Event) × (List api_Event)) (γ := (Option Addr) × Nat × (List Value) × (Option Addr) × Nat × (List Value)) hl2 (none, 0, [], none, 0, []) (fun s_ g_ => match s_, g_ with | (l14, l19, i22), (A12, c13, y15, A17, c18, y20) => [(2, vP b1 0), (6, sl A12 l14 c13), (7, sl A17 l19 c18), (10, sl A_l l c_l), (11, vI (l.length : Int)), (12, vI i22)]) (fun s_ g_ => match s_, g_ with | (l14, l19, i22), (A12, c13, y15, A17, c18, y20) => Mem w0 (.blk b1 [sl A_w_0 w_0 c_w_0, sl A_w_1 w_1 c_w_1, sl A_w_2 w_2 c_w_2] 26 :: ow A12 l14 c13 94 4 y15 :: ow A17 l19 c18 94 4 y20 :: Fz F W :: cs)) (fun s_ g_ => match s_, g_ with | (l14, l19, i22), (A12, c13, y15, A17, c18, y20) => (RepL R_api_Event F W l14 y15) ∧ (RepL R_api_Event F W l19 y20)) ⟨(RepL.nil (R := R_api_Event)), (RepL.nil (R := R_api_Event))⟩ (look_has ⟨rfl, rfl, rfl, rfl, rfl, rfl, trivial⟩) (fun w_ hM => hM.pick 4 [2, 1, 0, 3] (by kernel_rfl) (by decide) rfl) ?_
  rintro ⟨l14, l19, i22⟩ ⟨A12, c13, y15, A17, c18, y20⟩ o2 ⟨h16, h21⟩ hs_ hd2
  have hp : (event_Split_l2 l w_2) l14 l19 i22 = some o2 := hs_
  clear hs_
  unfold event_Split_l2 at hp
  refine st_seq (st_region [oF 0] (by rfl) ?_)
  refine oQ [oF 0] [(13, .bool (decide (i22 < (l.length : Int)))), (2, vP b1 0), (6, sl A12 l14 c13), (7, sl A17 l19 c18), (10, sl A_l l c_l), (11, vI (l.length : Int)), (12, vI i22)] (by kernel_rfl) ?_
  refine ops_nil (fin_then (st_seq ?_))
  refine st_if (b := decide (i22 < (l.length : Int))) rfl (fun hc23 => ?_) (fun hc23 => ?_)
  ·
   have hp := cnd_t hc23 hp
   refine st_skip (fin_then ?_)
   refine st_join1 (σ := (Option Addr) × Nat × (List api_Event) × (List Value) × (Option Addr) × Nat × (List api_Event) × (List Value)) (L := fun x_ => match x_ with | (A24, c25, l26, y27, A29, c30, l31, y32) => [(2, vP b1 0), (6, sl A24 l26 c25), (7, sl A29 l31 c30), (10, sl A_l l c_l), (11, vI (l.length : Int)), (12, vI i22)]) (N := fun x_ => match x_ with | (A24, c25, l26, y27, A29, c30, l31, y32) => Mem w0 (.blk b1 [sl A_w_0 w_0 c_w_0, sl A_w_1 w_1 c_w_1, sl A_w_2 w_2 c_w_2] 26 :: ow A24 l26 c25 94 4 y27 :: ow A29 l31 c30 94 4 y32 :: Fz F W :: cs)) (I := fun x_ => match x_ with | (A24, c25, l26, y27, A29, c30, l31, y32) => ((event_Split_j3 i22) l26 l31 = some o2) ∧ (RepL R_api_Event F W l26 y27) ∧ (RepL R_api_Event F W l31 y32)) ?_ ?_
   ·
    rintro ⟨A24, c25, l26, y27, A29, c30, l31, y32⟩ ⟨hp, h28, h33⟩
    unfold event_Split_j3 at hp
    refine st_region [oF 0, oF 1] (by rfl) ?_
    refine oQ [oF 0, oF 1] [(12, vI (IntKind.i64.wrap (i22 + 1))), (2, vP b1 0), (6, sl A24 l26 c25), (7, sl A29 l31 c30), (10, sl A_l l c_l), (11, vI (l.length : Int))] (by kernel_rfl) ?_
    refine ops_nil ?_
    exact fin_again (l26, l31, IntKind.i64.wrap (i22 + 1)) (A24, c25, y27, A29, c30, y32) (Option.some.inj hp).symm ⟨h28, h33⟩ (look_has ⟨rfl, rfl, rfl, rfl, rfl, rfl, trivial⟩) (fun w_ hM => hM)
   ·
    intro HJ3
    refine st_seq (st_block (st_seq (st_region [oF 0, oF 1, oF 2, oF 3] (by rfl) ?_)))
    obtain ⟨x34, hv35, hp⟩ := obind hp
    obtain ⟨m36, hm37, hx38⟩ := idx_some hv35
    have hl41 := (List.getElem?_eq_some_iff.1 hx38).1
    obtain ⟨ad42, vs39, hA43, hr40, hq44⟩ := RdS.el h_l hx38
    obtain rfl := dec_api_Event hr40
    refine ops_val (op := (.indexAddr 88 (.tmp 10) (.tmp 12))) (d := some 14) (v := .pointer (some (ad42.add (m36 * 4)))) ⟨by kernel_rfl⟩ (run_indexA hA43 Try.underlying88 (z := 4) (by kernel_rfl) rfl rfl hm37 hl41) ?_
    refine ops_mem (d := some 15) (an := [.v (vI x34.System), .v (vI x34.Ent.N), .v (vI x34.Ent.Gen), .v (vI x34.Value)]) (evs := [.load (ad42.add (m36 * 4)) (vI x34.System), .load ((ad42.add (m36 * 4)).add 1) (vI x34.Ent.N), .load ((ad42.add (m36 * 4)).add 2) (vI x34.Ent.Gen), .load ((ad42.add (m36 * 4)).add 3) (vI x34.Value)]) (v := .agg #[vI x34.System, vI x34.Ent.N, vI x34.Ent.Gen, vI x34.Value]) ⟨by kernel_rfl⟩ (fun w_ hM hS => ⟨w_, ⟨hM.elcell 3 rfl hq44 0 rfl, hM.elcell 3 rfl hq44 1 rfl, hM.elcell 3 rfl hq44 2 rfl, hM.elcell 3 rfl hq44 3 rfl, rfl⟩, hM, trivial⟩) ?_
    refine ops_newB (d := some 9) [vI 0, vI 0, vI 0, vI 0] 94 (fun b45 => ⟨by kernel_rfl⟩) (fun w_ hM hS => trivial) (fun b45 => ?_)
    refine ops_store (an := []) (evs := [sr b45 0 (vI x34.System), sr b45 1 (vI x34.Ent.N), sr b45 2 (vI x34.Ent.Gen), sr b45 3 (vI x34.Value)]) ⟨by kernel_rfl⟩ (fun w_ hM hS => let ⟨w', he, h'⟩ := hM.evs_stores [vI x34.System, vI x34.Ent.N, vI x34.Ent.Gen, vI x34.Value] 0 rfl 0 (Nat.le_of_ble_eq_true rfl); ⟨w', he, h', trivial⟩) ?_
    refine ops_nil (fin_then (st_seq (st_region [oF 0, oF 1, oF 2, oF 3] (by rfl) ?_)))
    refine oQ [oF 0] [(16, vP b1 2), (9, vP b45 0), (2, vP b1 0), (6, sl A12 l14 c13), (7, sl A17 l19 c18), (10, sl A_l l c_l), (11, vI (l.length : Int)), (12, vI i22)] (by kernel_rfl) ?_
    refine ops_mem (d := some 17) (an := [.v (sl A_w_2 w_2 c_w_2)]) (evs := [ld b1 2 (sl A_w_2 w_2 c_w_2)]) (v := sl A_w_2 w_2 c_w_2) ⟨by kernel_rfl⟩ (fun w_ hM hS => ⟨w_, ⟨hM.cell 1 rfl rfl, rfl⟩, hM, trivial⟩) ?_
    refine oQ [oF 2] [(18, .func (.func 82) #[] #[vP b45 0]), (17, sl A_w_2 w_2 c_w_2), (9, vP b45 0), (2, vP b1 0), (6, sl A12 l14 c13), (7, sl A17 l19 c18), (10, sl A_l l c_l), (11, vI (l.length : Int)), (12, vI i22)] (by kernel_rfl) ?_
    obtain ⟨x46, hv47, hp⟩ := obind hp
    refine ops_callI (σ := Unit) (d := some 19) (f := 81) (args := #[sl A_w_2 w_2 c_w_2, .func (.func 82) #[] #[vP b45 0]]) (v := (fun _ => .bool x46)) (I := (fun _ => True)) (M' := (fun _ => Mem w0 (.blk b45 [vI x34.System, vI x34.Ent.N, vI x34.Ent.Gen, vI x34.Value] 94 :: .blk b1 [sl A_w_0 w_0 c_w_0, sl A_w_1 w_1 c_w_1, sl A_w_2 w_2 c_w_2] 26 :: ow A12 l14 c13 94 4 y15 :: ow A17 l19 c18 94 4 y20 :: Fz F W :: cs))) ⟨by kernel_rfl⟩ (fun w_ hM hS => (slices_ContainsFunc_api_Item_api_Item_ok w0 w_ (.blk b1 [sl A_w_0 w_0 c_w_0, sl A_w_1 w_1 c_w_1, sl A_w_2 w_2 c_w_2] 26 :: ow A12 l14 c13 94 4 y15 :: ow A17 l19 c18 94 4 y20 :: cs) F W A_w_2 c_w_2 w_2 b45 x34.System x34.Ent.N x34.Ent.Gen x34.Value (hM.pick 5 [0, 4, 1, 2, 3] (by kernel_rfl) (by decide) rfl) h_w_2 x46 hv47).mono (by rintro e w' ⟨-, rfl, h'⟩; have h' : Mem w0 (.blk b45 [vI x34.System, vI x34.Ent.N, vI x34.Ent.Gen, vI x34.Value] 94 :: .blk b1 [sl A_w_0 w_0 c_w_0, sl A_w_1 w_1 c_w_1, sl A_w_2 w_2 c_w_2] 26 :: ow A12 l14 c13 94 4 y15 :: ow A17 l19 c18 94 4 y20 :: Fz F W :: cs) w' := (h'.pick 5 [0, 2, 3, 4, 1] (by kernel_rfl) (by decide) rfl); exact ⟨(), trivial, rfl, h', trivial⟩)) ?_
    rintro _ -
    refine ops_nil (fin_then ?_)
    refine st_if (b := x46) rfl (fun hc48 => ?_) (fun hc48 => ?_)
    ·
     have hp := cnd_t hc48 hp
     refine st_region [oF 0, oF 1, oF 2, oF 3, oF 4] (by rfl) ?_
     refine oQ [oF 0] [(20, sl A12 l14 c13), (9, vP b45 0), (2, vP b1 0), (6, sl A12 l14 c13), (7, sl A17 l19 c18), (10, sl A_l l c_l), (11, vI (l.length : Int)), (12, vI i22)] (by kernel_rfl) ?_
     refine ops_mem (d := some 21) (an := [.v (vI x34.System), .v (vI x34.Ent.N), .v (vI x34.Ent.Gen), .v (vI x34.Value)]) (evs := [ld b45 0 (vI x34.System), ld b45 1 (vI x34.Ent.N), ld b45 2 (vI x34.Ent.Gen), ld b45 3 (vI x34.Value)]) (v := .agg #[vI x34.System, vI x34.Ent.N, vI x34.Ent.Gen, vI x34.Value]) ⟨by kernel_rfl⟩ (fun w_ hM hS => ⟨w_, ⟨hM.cell 0 rfl rfl, hM.cell 0 rfl rfl, hM.cell 0 rfl rfl, hM.cell 0 rfl rfl, rfl⟩, hM, trivial⟩) ?_
     have h49 : RepL R_api_Event F W ([(api_Event.mk x34.System (api_Ent.mk x34.Ent.N x34.Ent.Gen) x34.Value)] : List api_Event) ([vI x34.System, vI x34.Ent.N, vI x34.Ent.Gen, vI x34.Value]) := (RepL.cons (R := R_api_Event) (F := F) (w := W) (vs := [vI x34.System, vI x34.Ent.N, vI x34.Ent.Gen, vI x34.Value]) (ys := []) (enc_api_Event) RepL.nil)
     refine ops_new (d := some 22) (o := .cells ([vI x34.System, vI x34.Ent.N, vI x34.Ent.Gen, vI x34.Value] : List Value).toArray 94) (v := fun g50 => .slice (sa g50) ([(api_Event.mk x34.System (api_Ent.mk x34.Ent.N x34.Ent.Gen) x34.Value)] : List api_Event).length 1) (M' := fun g50 => Mem w0 (orow (sa g50) ([(api_Event.mk x34.System (api_Ent.mk x34.Ent.N x34.Ent.Gen) x34.Value)] : List api_Event).length 1 94 4 ([vI x34.System, vI x34.Ent.N, vI x34.Ent.Gen, vI x34.Value]) :: .blk b45 [vI x34.System, vI x34.Ent.N, vI x34.Ent.Gen, vI x34.Value] 94 :: .blk b1 [sl A_w_0 w_0 c_w_0, sl A_w_1 w_1 c_w_1, sl A_w_2 w_2 c_w_2] 26 :: ow A12 l14 c13 94 4 y15 :: ow A17 l19 c18 94 4 y20 :: Fz F W :: cs)) (fun g50 => ⟨by kernel_rfl⟩) (fun w_ hM hS => ⟨hM.onew [vI x34.System, vI x34.Ent.N, vI x34.Ent.Gen, vI x34.Value] 94 1 4 rfl (by decide), trivial⟩) (fun g50 => ?_)
     obtain ⟨l51, hv52, hp⟩ := obind hp
     obtain ⟨he53, hb54⟩ := app_some hv52
     obtain ⟨y55, hy56⟩ : ∃ y_, y15 ++ ([vI x34.System, vI x34.Ent.N, vI x34.Ent.Gen, vI x34.Value]) = y_ := ⟨_, rfl⟩
     have h57 : RepL R_api_Event F W l51 y55 := by rw [he53, ← hy56]; exact RepL.app h16 h49
     refine ops_appendO (x := (Go.Operand.tmp 20)) (y := (Go.Operand.tmp 22)) (t := 88) (e := 94) (d := some 23) (n' := l51.length) (z := 4) (m := ([(api_Event.mk x34.System (api_Ent.mk x34.Ent.N x34.Ent.Gen) x34.Value)] : List api_Event).length) (bytes := 32) (xs' := y55) (news := ([vI x34.System, vI x34.Ent.N, vI x34.Ent.Gen, vI x34.Value])) (zv := .agg #[vI 0, vI 0, vI 0, vI 0]) 3 ⟨by kernel_rfl⟩ rfl rfl Try.underlying88 (by kernel_rfl) (by rfl) rfl (fun w_ hM => hM.srcO 0 rfl) h49.len h49.one hb54 (by have z_ := congrArg List.length he53; rw [List.length_append] at z_; exact z_.symm) hy56 (fun _ _ _ _ hS h' => trivial) ?_
     rintro ⟨A58, c59⟩
     refine oQ [oF 4] [(6, sl A58 l51 c59), (2, vP b1 0), (7, sl A17 l19 c18), (10, sl A_l l c_l), (11, vI (l.length : Int)), (12, vI i22)] (by kernel_rfl) ?_
     refine ops_nil (fin_block ?_)
     exact fin_join HJ3 (A58, c59, l51, y55, A17, c18, l19, y20) ⟨hp, h57, h21⟩ (look_has ⟨rfl, rfl, rfl, rfl, rfl, rfl, trivial⟩) (fun w_ hM => hM.pick 6 [2, 3, 4, 5] (by kernel_rfl) (by decide) rfl)
    ·
     have hp := cnd_f hc48 hp
     refine st_region [oF 0, oF 1, oF 2, oF 3, oF 4] (by rfl) ?_
     refine oQ [oF 0] [(24, sl A17 l19 c18), (9, vP b45 0), (2, vP b1 0), (6, sl A12 l14 c13), (7, sl A17 l19 c18), (10, sl A_l l c_l), (11, vI (l.length : Int)), (12, vI i22)] (by kernel_rfl) ?_
     refine ops_mem (d := some 25) (an := [.v (vI x34.System), .v (vI x34.Ent.N), .v (vI x34.Ent.Gen), .v (vI x34.Value)]) (evs := [ld b45 0 (vI x34.System), ld b45 1 (vI x34.Ent.N), ld b45 2 (vI x34.Ent.Gen), ld b45 3 (vI x34.Value)]) (v := .agg #[vI x34.System, vI x34.Ent.N, vI x34.Ent.Gen, vI x34.Value]) ⟨by kernel_rfl⟩ (fun w_ hM hS => ⟨w_, ⟨hM.cell 0 rfl rfl, hM.cell 0 rfl rfl, hM.cell 0 rfl rfl, hM.cell 0 rfl rfl, rfl⟩, hM, trivial⟩) ?_
     have h60 : RepL R_api_Event F W ([(api_Event.mk x34.System (api_Ent.mk x34.Ent.N x34.Ent.Gen) x34.Value)] : List api_Event) ([vI x34.System, vI x34.Ent.N, vI x34.Ent.Gen, vI x34.Value]) := (RepL.cons (R := R_api_Event) (F := F) (w := W) (vs := [vI x34.System, vI x34.Ent.N, vI x34.Ent.Gen, vI x34.Value]) (ys := []) (enc_api_Event) RepL.nil)
     refine ops_new (d := some 26) (o := .cells ([vI x34.System, vI x34.Ent.N, vI x34.Ent.Gen, vI x34.Value] : List Value).toArray 94) (v := fun g61 => .slice (sa g61) ([(api_Event.mk x34.System (api_Ent.mk x34.Ent.N x34.Ent.Gen) x34.Value)] : List api_Event).length 1) (M' := fun g61 => Mem w0 (orow (sa g61) ([(api_Event.mk x34.System (api_Ent.mk x34.Ent.N x34.Ent.Gen) x34.Value)] : List api_Event).length 1 94 4 ([vI x34.System, vI x34.Ent.N, vI x34.Ent.Gen, vI x34.Value]) :: .blk b45 [vI x34.System, vI x34.Ent.N, vI x34.Ent.Gen, vI x34.Value] 94 :: .blk b1 [sl A_w_0 w_0 c_w_0, sl A_w_1 w_1 c_w_1, sl A_w_2 w_2 c_w_2] 26 :: ow A12 l14 c13 94 4 y15 :: ow A17 l19 c18 94 4 y20 :: Fz F W :: cs)) (fun g61 => ⟨by kernel_rfl⟩) (fun w_ hM hS => ⟨hM.onew [vI x34.System, vI x34.Ent.N, vI x34.Ent.Gen, vI x34.Value] 94 1 4 rfl (by decide), trivial⟩) (fun g61 => ?_)
     obtain ⟨l62, hv63, hp⟩ := obind hp
     obtain ⟨he64, hb65⟩ := app_some hv63
     obtain ⟨y66, hy67⟩ : ∃ y_, y20 ++ ([vI x34.System, vI x34.Ent.N, vI x34.Ent.Gen, vI x34.Value]) = y_ := ⟨_, rfl⟩
     have h68 : RepL R_api_Event F W l62 y66 := by rw [he64, ← hy67]; exact RepL.app h21 h60
     refine ops_appendO (x := (Go.Operand.tmp 24)) (y := (Go.Operand.tmp 26)) (t := 88) (e := 94) (d := some 27) (n' := l62.length) (z := 4) (m := ([(api_Event.mk x34.System (api_Ent.mk x34.Ent.N x34.Ent.Gen) x34.Value)] : List api_Event).length) (bytes := 32) (xs' := y66) (news := ([vI x34.System, vI x34.Ent.N, vI x34.Ent.Gen, vI x34.Value])) (zv := .agg #[vI 0, vI 0, vI 0, vI 0]) 4 ⟨by kernel_rfl⟩ rfl rfl Try.underlying88 (by kernel_rfl) (by rfl) rfl (fun w_ hM => hM.srcO 0 rfl) h60.len h60.one hb65 (by have z_ := congrArg List.length he64; rw [List.length_append] at z_; exact z_.symm) hy67 (fun _ _ _ _ hS h' => trivial) ?_
     rintro ⟨A69, c70⟩
     refine oQ [oF 4] [(7, sl A69 l62 c70), (2, vP b1 0), (6, sl A12 l14 c13), (10, sl A_l l c_l), (11, vI (l.length : Int)), (12, vI i22)] (by kernel_rfl) ?_
     refine ops_nil (fin_block ?_)
     exact fin_join HJ3 (A12, c13, l14, y15, A69, c70, l62, y66) ⟨hp, h16, h68⟩ (look_has ⟨rfl, rfl, rfl, rfl, rfl, rfl, trivial⟩) (fun w_ hM => hM.pick 6 [2, 3, 4, 5] (by kernel_rfl) (by decide) rfl)
  ·
   have hp := cnd_f hc23 hp
   refine st_exit (fin_exit_then (fin_exit_then (fin_exit ?_)))
   obtain hq_ := Option.some.inj hp
   subst hq_
   obtain hq_ := hd2 _ rfl
   subst hq_
   have hp : event_Split_j1 l14 l19 = some (l9003, l9008) := hk2
   exact fin_join HJ1 (A12, c13, l14, y15, A17, c18, l19, y20) ⟨hp, h16, h21⟩ (look_has ⟨rfl, rfl, trivial⟩) (fun w_ hM => hM.pick 4 [1, 2, 3] (by kernel_rfl) (by decide) rfl)
theorem event_Of_ok (w0 w : World) (cs : List Chunk) (F : Nat → Prop) (W : World) (A_l : Option Addr) (c_l : Nat) (l : List api_Event) (system : Int) (vals_0 : Int) (vals_1 : Int) (hM0 : Mem w0 (Fz F W :: cs) w) (h_l : RdS R_api_Event F W A_l c_l l) (l9003 : List api_Event) (hp : event_Of l system vals_0 vals_1 = some l9003) : Calls Try.prog 53 #[sl A_l l c_l, vI system, .agg #[vI vals_0, vI vals_1]] w fun e w' => ∃ (A9001 : Option Addr), ∃ (c9002 : Nat), ∃ (y9004 : List Value), ((RepL R_api_Event F W l9003 y9004)) ∧ e = .returned (sl A9001 l9003 c9002) ∧ Mem w0 (ow A9001 l9003 c9002 94 4 y9004 :: Fz F W :: cs) w' := by
 unfold event_Of at hp
 refine sx_calls Try.func53 rfl (n := 44) (by kernel_rfl) (l := [(0, sl A_l l c_l), (1, vI system), (2, .agg #[vI vals_0, vI vals_1])]) rfl (by rfl) hM0 ?_
 refine st_seq (st_region [oF 0, oF 1] (by rfl) ?_)
 refine ops_newB (d := some 5) [vI vals_0, vI vals_1] 90 (fun b1 => ⟨by kernel_rfl⟩) (fun w_ hM hS => trivial) (fun b1 => ?_)
 refine oQ [oF 1] [(5, vP b1 0), (0, sl A_l l c_l), (1, vI system)] (by kernel_rfl) ?_
 refine ops_nil (fin_then (st_seq (st_region [oF 0] (by rfl) ?_)))
 refine oQ [oF 0] [(7, .slice none 0 0), (5, vP b1 0), (0, sl A_l l c_l), (1, vI system)] (by kernel_rfl) ?_
 refine ops_nil (fin_then ?_)
 refine st_join1 (σ := (Option Addr) × Nat × (List api_Event) × (List Value)) (L := fun x_ => match x_ with | (A2, c3, l4, y5) => [(7, sl A2 l4 c3)]) (N := fun x_ => match x_ with | (A2, c3, l4, y5) => Mem w0 (ow A2 l4 c3 94 4 y5 :: Fz F W :: cs)) (I := fun x_ => match x_ with | (A2, c3, l4, y5) => (event_Of_j1 l4 = some l9003) ∧ (RepL R_api_Event F W l4 y5)) ?_ ?_
 ·
  rintro ⟨A2, c3, l4, y5⟩ ⟨hp, h6⟩
  unfold event_Of_j1 at hp
  refine st_seq (st_region [oF 0, oF 1] (by rfl) ?_)
  refine oQ [oF 0, oF 1] [(6, sl A2 l4 c3)] (by kernel_rfl) ?_
  refine ops_nil (fin_then (st_ret ?_))
  have hq_ := Option.some.inj hp
  have hr0_ := hq_
  subst hr0_
  refine fin_ret [.tmp 6] [sl A2 l4 c3] rfl rfl (fun w_ hM => (.tmp rfl .nil)) (fun w_ hM => ?_)
  exact ⟨A2, c3, y5, h6, rfl, hM⟩
 ·
  intro HJ1
  refine st_seq (st_seq (st_region [oF 0, oF 1, oF 2] (by rfl) ?_))
  refine oQ [oF 0, oF 1, oF 2] [(12, vI 0), (11, vI (l.length : Int)), (10, sl A_l l c_l), (7, .slice none 0 0), (5, vP b1 0), (1, vI system)] (by kernel_rfl) ?_
  refine ops_nil (fin_then (st_block ?_))
  refine st_conv (l' := [(12, vI 0), (11, vI (l.length : Int)), (10, sl A_l l c_l), (7, .slice none 0 0), (5, vP b1 0), (1, vI system)]) (M' := Mem w0 (ow none ([] : List api_Event) 0 94 4 [] :: .blk b1 [vI vals_0, vI vals_1] 90 :: Fz F W :: cs)) rfl (fun w_ h => h.onil none 94 4) ?_
  obtain ⟨r2, hl2, hk2⟩ := obind hp
  refine st_loopP (σ := (List api_Event) × Int) (ρ := (List api_Event)) (γ := (Option Addr) × Nat × (List Value)) hl2 (none, 0, []) (fun s_ g_ => match s_, g_ with | (l9, i12), (A7, c8, y10) => [(1, vI system), (5, vP b1 0), (7, sl A7 l9 c8), (10, sl A_l l c_l), (11, vI (l.length : Int)), (12, vI i12)]) (fun s_ g_ => match s_, g_ with | (l9, i12), (A7, c8, y10) => Mem w0 (.blk b1 [vI vals_0, vI vals_1] 90 :: ow A7 l9 c8 94 4 y10 :: Fz F W :: cs)) (fun s_ g_ => match s_, g_ with | (l9, i12), (A7, c8, y10) => (RepL R_api_Event F W l9 y10)) (RepL.nil (R := R_api_Event)) (look_has ⟨rfl, rfl, rfl, rfl, rfl, rfl, trivial⟩) (fun w_ hM => hM.pick 3 [1, 0, 2] (by kernel_rfl) (by decide) rfl) ?_
  rintro ⟨l9, i12⟩ ⟨A7, c8, y10⟩ o2 h11 hs_ hd2
  have hp : (event_Of_l2 l system vals_0 vals_1) l9 i12 = some o2 := hs_
  clear hs_
  unfold event_Of_l2 at hp
  refine st_seq (st_region [oF 0] (by rfl) ?_)
  refine oQ [oF 0] [(13, .bool (decide (i12 < (l.length : Int)))), (1, vI system), (5, vP b1 0), (7, sl A7 l9 c8), (10, sl A_l l c_l), (11, vI (l.length : Int)), (12, vI i12)] (by kernel_rfl) ?_
  refine ops_nil (fin_then (st_seq ?_))
  refine st_if (b := decide (i12 < (l.length : Int))) rfl (fun hc13 => ?_) (fun hc13 => ?_)
  ·
   have hp := cnd_t hc13 hp
   refine st_skip (fin_then ?_)
   refine st_join1 (σ := (Option Addr) × Nat × (List api_Event) × (List Value)) (L := fun x_ => match x_ with | (A14, c15, l16, y17) => [(1, vI system), (5, vP b1 0), (7, sl A14 l16 c15), (10, sl A_l l c_l), (11, vI (l.length : Int)), (12, vI i12)]) (N := fun x_ => match x_ with | (A14, c15, l16, y17) => Mem w0 (.blk b1 [vI vals_0, vI vals_1] 90 :: ow A14 l16 c15 94 4 y17 :: Fz F W :: cs)) (I := fun x_ => match x_ with | (A14, c15, l16, y17) => ((event_Of_j3 i12) l16 = some o2) ∧ (RepL R_api_Event F W l16 y17)) ?_ ?_
   ·
    rintro ⟨A14, c15, l16, y17⟩ ⟨hp, h18⟩
    unfold event_Of_j3 at hp
    refine st_region [oF 0, oF 1] (by rfl) ?_
    refine oQ [oF 0, oF 1] [(12, vI (IntKind.i64.wrap (i12 + 1))), (1, vI system), (5, vP b1 0), (7, sl A14 l16 c15), (10, sl A_l l c_l), (11, vI (l.length : Int))] (by kernel_rfl) ?_
    refine ops_nil ?_
    exact fin_again (l16, IntKind.i64.wrap (i12 + 1)) (A14, c15, y17) (Option.some.inj hp).symm h18 (look_has ⟨rfl, rfl, rfl, rfl, rfl, rfl, trivial⟩) (fun w_ hM => hM)
   ·
    intro HJ3
    refine st_seq (st_block (st_seq (st_region [oF 0, oF 1, oF 2, oF 3] (by rfl) ?_)))
    obtain ⟨x19, hv20, hp⟩ := obind hp
    obtain ⟨m21, hm22, hx23⟩ := idx_some hv20
    have hl26 := (List.getElem?_eq_some_iff.1 hx23).1
    obtain ⟨ad27, vs24, hA28, hr25, hq29⟩ := RdS.el h_l hx23
    obtain rfl := dec_api_Event hr25
    refine ops_val (op := (.indexAddr 88 (.tmp 10) (.tmp 12))) (d := some 14) (v := .pointer (some (ad27.add (m21 * 4)))) ⟨by kernel_rfl⟩ (run_indexA hA28 Try.underlying88 (z := 4) (by kernel_rfl) rfl rfl hm22 hl26) ?_
    refine ops_mem (d := some 15) (an := [.v (vI x19.System), .v (vI x19.Ent.N), .v (vI x19.Ent.Gen), .v (vI x19.Value)]) (evs := [.load (ad27.add (m21 * 4)) (vI x19.System), .load ((ad27.add (m21 * 4)).add 1) (vI x19.Ent.N), .load ((ad27.add (m21 * 4)).add 2) (vI x19.Ent.Gen), .load ((ad27.add (m21 * 4)).add 3) (vI x19.Value)]) (v := .agg #[vI x19.System, vI x19.Ent.N, vI x19.Ent.Gen, vI x19.Value]) ⟨by kernel_rfl⟩ (fun w_ hM hS => ⟨w_, ⟨hM.elcell 2 rfl hq29 0 rfl, hM.elcell 2 rfl hq29 1 rfl, hM.elcell 2 rfl hq29 2 rfl, hM.elcell 2 rfl hq29 3 rfl, rfl⟩, hM, trivial⟩) ?_
    refine ops_newB (d := some 9) [vI 0, vI 0, vI 0, vI 0] 94 (fun b30 => ⟨by kernel_rfl⟩) (fun w_ hM hS => trivial) (fun b30 => ?_)
    refine ops_store (an := []) (evs := [sr b30 0 (vI x19.System), sr b30 1 (vI x19.Ent.N), sr b30 2 (vI x19.Ent.Gen), sr b30 3 (vI x19.Value)]) ⟨by kernel_rfl⟩ (fun w_ hM hS => let ⟨w', he, h'⟩ := hM.evs_stores [vI x19.System, vI x19.Ent.N, vI x19.Ent.Gen, vI x19.Value] 0 rfl 0 (Nat.le_of_ble_eq_true rfl); ⟨w', he, h', trivial⟩) ?_
    refine ops_nil (fin_then (st_seq (st_region [oF 0, oF 1, oF 2, oF 3, oF 4, oF 5, oF 6, oF 7, oF 8, oF 9, oF 10, oF 11, oF 12, oF 13, oF 14, oF 15, oF 16, oF 17, oF 18, oF 19, oF 20, oF 21] (by rfl) ?_)))
    refine oQ [oF 0, oF 1, oF 2] [(18, .bool (system == (-1))), (9, vP b30 0), (1, vI system), (5, vP b1 0), (7, sl A7 l9 c8), (10, sl A_l l c_l), (11, vI (l.length : Int)), (12, vI i12)] (by kernel_rfl) ?_
    refine ops_bool (t := (system == (-1))) (l1 := [(18, .bool true), (9, vP b30 0), (1, vI system), (5, vP b1 0), (7, sl A7 l9 c8), (10, sl A_l l c_l), (11, vI (l.length : Int)), (12, vI i12)]) (l2 := [(18, .bool false), (9, vP b30 0), (1, vI system), (5, vP b1 0), (7, sl A7 l9 c8), (10, sl A_l l c_l), (11, vI (l.length : Int)), (12, vI i12)]) (fun h => by rw [h]) (fun h => by rw [h]) (fun hc31 => ?_) (fun hc31 => ?_)
    ·
     have hp := cnd_t hc31 hp
     refine oQ [oF 3, oF 4, oF 5, oF 6, oF 7, oF 8, oF 9] [(25, vP b30 3), (24, .bool true), (9, vP b30 0), (1, vI system), (5, vP b1 0), (7, sl A7 l9 c8), (10, sl A_l l c_l), (11, vI (l.length : Int)), (12, vI i12)] (by kernel_rfl) ?_
     refine ops_mem (d := some 26) (an := [.v (vI x19.Value)]) (evs := [ld b30 3 (vI x19.Value)]) (v := vI x19.Value) ⟨by kernel_rfl⟩ (fun w_ hM hS => ⟨w_, ⟨hM.cell 0 rfl rfl, rfl⟩, hM, trivial⟩) ?_
     refine oQ [oF 11] [(27, vP b1 0), (26, vI x19.Value), (24, .bool true), (9, vP b30 0), (1, vI system), (5, vP b1 0), (7, sl A7 l9 c8), (10, sl A_l l c_l), (11, vI (l.length : Int)), (12, vI i12)] (by kernel_rfl) ?_
     refine ops_mem (d := some 28) (an := [.v (vI vals_0)]) (evs := [ld b1 0 (vI vals_0)]) (v := vI vals_0) ⟨by kernel_rfl⟩ (fun w_ hM hS => ⟨w_, ⟨hM.cell 1 rfl rfl, rfl⟩, hM, trivial⟩) ?_
     refine oQ [oF 13, oF 14, oF 15] [(31, .bool (decide (vals_0 ≤ x19.Value))), (9, vP b30 0), (1, vI system), (5, vP b1 0), (7, sl A7 l9 c8), (10, sl A_l l c_l), (11, vI (l.length : Int)), (12, vI i12)] (by kernel_rfl) ?_
     refine ops_bool (t := decide (vals_0 ≤ x19.Value)) (l1 := [(31, .bool true), (9, vP b30 0), (1, vI system), (5, vP b1 0), (7, sl A7 l9 c8), (10, sl A_l l c_l), (11, vI (l.length : Int)), (12, vI i12)]) (l2 := [(31, .bool false), (9, vP b30 0), (1, vI system), (5, vP b1 0), (7, sl A7 l9 c8), (10, sl A_l l c_l), (11, vI (l.length : Int)), (12, vI i12)]) (fun h => by rw [h]) (fun h => by rw [h]) (fun hc32 => ?_) (fun hc32 => ?_)
     ·
      have hp := cnd_t hc32 hp
      refine oQ [oF 16] [(32, vP b30 3), (31, .bool true), (9, vP b30 0), (1, vI system), (5, vP b1 0), (7, sl A7 l9 c8), (10, sl A_l l c_l), (11, vI (l.length : Int)), (12, vI i12)] (by kernel_rfl) ?_
      refine ops_mem (d := some 33) (an := [.v (vI x19.Value)]) (evs := [ld b30 3 (vI x19.Value)]) (v := vI x19.Value) ⟨by kernel_rfl⟩ (fun w_ hM hS => ⟨w_, ⟨hM.cell 0 rfl rfl, rfl⟩, hM, trivial⟩) ?_
      refine oQ [oF 18] [(34, vP b1 1), (33, vI x19.Value), (31, .bool true), (9, vP b30 0), (1, vI system), (5, vP b1 0), (7, sl A7 l9 c8), (10, sl A_l l c_l), (11, vI (l.length : Int)), (12, vI i12)] (by kernel_rfl) ?_
      refine ops_mem (d := some 35) (an := [.v (vI vals_1)]) (evs := [ld b1 1 (vI vals_1)]) (v := vI vals_1) ⟨by kernel_rfl⟩ (fun w_ hM hS => ⟨w_, ⟨hM.cell 1 rfl rfl, rfl⟩, hM, trivial⟩) ?_
      refine oQ [oF 20, oF 21] [(37, .bool (decide (x19.Value ≤ vals_1))), (9, vP b30 0), (1, vI system), (5, vP b1 0), (7, sl A7 l9 c8), (10, sl A_l l c_l), (11, vI (l.length : Int)), (12, vI i12)] (by kernel_rfl) ?_
      refine ops_nil (fin_then ?_)
      refine st_if (b := decide (x19.Value ≤ vals_1)) rfl (fun hc33 => ?_) (fun hc33 => ?_)
      ·
       have hp := cnd_t hc33 hp
       refine st_region [oF 0, oF 1, oF 2, oF 3, oF 4] (by rfl) ?_
       refine oQ [oF 0] [(38, sl A7 l9 c8), (9, vP b30 0), (1, vI system), (5, vP b1 0), (7, sl A7 l9 c8), (10, sl A_l l c_l), (11, vI (l.length : Int)), (12, vI i12)] (by kernel_rfl) ?_
       refine ops_mem (d := some 39) (an := [.v (vI x19.System), .v (vI x19.Ent.N), .v (vI x19.Ent.Gen), .v (vI x19.Value)]) (evs := [ld b30 0 (vI x19.System), ld b30 1 (vI x19.Ent.N), ld b30 2 (vI x19.Ent.Gen), ld b30 3 (vI x19.Value)]) (v := .agg #[vI x19.System, vI x19.Ent.N, vI x19.Ent.Gen, vI x19.Value]) ⟨by kernel_rfl⟩ (fun w_ hM hS => ⟨w_, ⟨hM.cell 0 rfl rfl, hM.cell 0 rfl rfl, hM.cell 0 rfl rfl, hM.cell 0 rfl rfl, rfl⟩, hM, trivial⟩) ?_
       have h34 : RepL R_api_Event F W ([(api_Event.mk x19.System (api_Ent.mk x19.Ent.N x19.Ent.Gen) x19.Value)] : List api_Event) ([vI x19.System, vI x19.Ent.N, vI x19.Ent.Gen, vI x19.Value]) := (RepL.cons (R := R_api_Event) (F := F) (w := W) (vs := [vI x19.System, vI x19.Ent.N, vI x19.Ent.Gen, vI x19.Value]) (ys := []) (enc_api_Event) RepL.nil)
       refine ops_new (d := some 40) (o := .cells ([vI x19.System, vI x19.Ent.N, vI x19.Ent.Gen, vI x19.Value] : List Value).toArray 94) (v := fun g35 => .slice (sa g35) ([(api_Event.mk x19.System (api_Ent.mk x19.Ent.N x19.Ent.Gen) x19.Value)] : List api_Event).length 1) (M' := fun g35 => Mem w0 (orow (sa g35) ([(api_Event.mk x19.System (api_Ent.mk x19.Ent.N x19.Ent.Gen) x19.Value)] : List api_Event).length 1 94 4 ([vI x19.System, vI x19.Ent.N, vI x19.Ent.Gen, vI x19.Value]) :: .blk b30 [vI x19.System, vI x19.Ent.N, vI x19.Ent.Gen, vI x19.Value] 94 :: .blk b1 [vI vals_0, vI vals_1] 90 :: ow A7 l9 c8 94 4 y10 :: Fz F W :: cs)) (fun g35 => ⟨by kernel_rfl⟩) (fun w_ hM hS => ⟨hM.onew [vI x19.System, vI x19.Ent.N, vI x19.Ent.Gen, vI x19.Value] 94 1 4 rfl (by decide), trivial⟩) (fun g35 => ?_)
       obtain ⟨l36, hv37, hp⟩ := obind hp
       obtain ⟨he38, hb39⟩ := app_some hv37
       obtain ⟨y40, hy41⟩ : ∃ y_, y10 ++ ([vI x19.System, vI x19.Ent.N, vI x19.Ent.Gen, vI x19.Value]) = y_ := ⟨_, rfl⟩
       have h42 : RepL R_api_Event F W l36 y40 := by rw [he38, ← hy41]; exact RepL.app h11 h34
       refine ops_appendO (x := (Go.Operand.tmp 38)) (y := (Go.Operand.tmp 40)) (t := 88) (e := 94) (d := some 41) (n' := l36.length) (z := 4) (m := ([(api_Event.mk x19.System (api_Ent.mk x19.Ent.N x19.Ent.Gen) x19.Value)] : List api_Event).length) (bytes := 32) (xs' := y40) (news := ([vI x19.System, vI x19.Ent.N, vI x19.Ent.Gen, vI x19.Value])) (zv := .agg #[vI 0, vI 0, vI 0, vI 0]) 3 ⟨by kernel_rfl⟩ rfl rfl Try.underlying88 (by kernel_rfl) (by rfl) rfl (fun w_ hM => hM.srcO 0 rfl) h34.len h34.one hb39 (by have z_ := congrArg List.length he38; rw [List.length_append] at z_; exact z_.symm) hy41 (fun _ _ _ _ hS h' => trivial) ?_
       rintro ⟨A43, c44⟩
       refine oQ [oF 4] [(7, sl A43 l36 c44), (1, vI system), (5, vP b1 0), (10, sl A_l l c_l), (11, vI (l.length : Int)), (12, vI i12)] (by kernel_rfl) ?_
       refine ops_nil (fin_block ?_)
       exact fin_join HJ3 (A43, c44, l36, y40) ⟨hp, h42⟩ (look_has ⟨rfl, rfl, rfl, rfl, rfl, rfl, trivial⟩) (fun w_ hM => hM.pick 5 [2, 3, 4] (by kernel_rfl) (by decide) rfl)
      ·
       have hp := cnd_f hc33 hp
       refine st_skip (fin_block ?_)
       exact fin_join HJ3 (A7, c8, l9, y10) ⟨hp, h11⟩ (look_has ⟨rfl, rfl, rfl, rfl, rfl, rfl, trivial⟩) (fun w_ hM => hM.pick 4 [1, 2, 3] (by kernel_rfl) (by decide) rfl)
     ·
      have hp := cnd_f hc32 hp
      refine oQ [oF 16, oF 17, oF 18, oF 19, oF 20, oF 21] [(37, .bool false), (9, vP b30 0), (1, vI system), (5, vP b1 0), (7, sl A7 l9 c8), (10, sl A_l l c_l), (11, vI (l.length : Int)), (12, vI i12)] (by kernel_rfl) ?_
      refine ops_nil (fin_then (st_false rfl (st_skip (fin_block ?_))))
      exact fin_join HJ3 (A7, c8, l9, y10) ⟨hp, h11⟩ (look_has ⟨rfl, rfl, rfl, rfl, rfl, rfl, trivial⟩) (fun w_ hM => hM.pick 4 [1, 2, 3] (by kernel_rfl) (by decide) rfl)
    ·
     have hp := cnd_f hc31 hp
     refine oQ [oF 3] [(19, vP b30 0), (18, .bool false), (9, vP b30 0), (1, vI system), (5, vP b1 0), (7, sl A7 l9 c8), (10, sl A_l l c_l), (11, vI (l.length : Int)), (12, vI i12)] (by kernel_rfl) ?_
     refine ops_mem (d := some 20) (an := [.v (vI x19.System)]) (evs := [ld b30 0 (vI x19.System)]) (v := vI x19.System) ⟨by kernel_rfl⟩ (fun w_ hM hS => ⟨w_, ⟨hM.cell 0 rfl rfl, rfl⟩, hM, trivial⟩) ?_
     refine oQ [oF 5, oF 6, oF 7, oF 8] [(24, .bool (x19.System == system)), (9, vP b30 0), (1, vI system), (5, vP b1 0), (7, sl A7 l9 c8), (10, sl A_l l c_l), (11, vI (l.length : Int)), (12, vI i12)] (by kernel_rfl) ?_
     refine ops_bool (t := (x19.System == system)) (l1 := [(24, .bool true), (9, vP b30 0), (1, vI system), (5, vP b1 0), (7, sl A7 l9 c8), (10, sl A_l l c_l), (11, vI (l.length : Int)), (12, vI i12)]) (l2 := [(24, .bool false), (9, vP b30 0), (1, vI system), (5, vP b1 0), (7, sl A7 l9 c8), (10, sl A_l l c_l), (11, vI (l.length : Int)), (12, vI i12)]) (fun h => by rw [h]) (fun h => by rw [h]) (fun hc45 => ?_) (fun hc45 => ?_)
     ·
      have hp := cnd_t hc45 hp
      refine oQ [oF 9] [(25, vP b30 3), (24, .bool true), (9, vP b30 0), (1, vI system), (5, vP b1 0), (7, sl A7 l9 c8), (10, sl A_l l c_l), (11, vI (l.length : Int)), (12, vI i12)] (by kernel_rfl) ?_
      refine ops_mem (d := some 26) (an := [.v (vI x19.Value)]) (evs := [ld b30 3 (vI x19.Value)]) (v := vI x19.Value) ⟨by kernel_rfl⟩ (fun w_ hM hS => ⟨w_, ⟨hM.cell 0 rfl rfl, rfl⟩, hM, trivial⟩) ?_
      refine oQ [oF 11] [(27, vP b1 0), (26, vI x19.Value), (24, .bool true), (9, vP b30 0), (1, vI system), (5, vP b1 0), (7, sl A7 l9 c8), (10, sl A_l l c_l), (11, vI (l.length : Int)), (12, vI i12)] (by kernel_rfl) ?_
      refine ops_mem (d := some 28) (an := [.v (vI vals_0)]) (evs := [ld b1 0 (vI vals_0)]) (v := vI vals_0) ⟨by kernel_rfl⟩ (fun w_ hM hS => ⟨w_, ⟨hM.cell 1 rfl rfl, rfl⟩, hM, trivial⟩) ?_
      refine oQ [oF 13, oF 14, oF 15] [(31, .bool (decide (vals_0 ≤ x19.Value))), (9, vP b30 0), (1, vI system), (5, vP b1 0), (7, sl A7 l9 c8), (10, sl A_l l c_l), (11, vI (l.length : Int)), (12, vI i12)] (by kernel_rfl) ?_
      refine ops_bool (t := decide (vals_0 ≤ x19.Value)) (l1 := [(31, .bool true), (9, vP b30 0), (1, vI system), (5, vP b1 0), (7, sl A7 l9 c8), (10, sl A_l l c_l), (11, vI (l.length : Int)), (12, vI i12)]) (l2 := [(31, .bool false), (9, vP b30 0), (1, vI system), (5, vP b1 0), (7, sl A7 l9 c8), (10, sl A_l l c_l), (11, vI (l.length : Int)), (12, vI i12)]) (fun h => by rw [h]) (fun h => by rw [h]) (fun hc46 => ?_) (fun hc46 => ?_)
      ·
       have hp := cnd_t hc46 hp
       refine oQ [oF 16] [(32, vP b30 3), (31, .bool true), (9, vP b30 0), (1, vI system), (5, vP b1 0), (7, sl A7 l9 c8), (10, sl A_l l c_l), (11, vI (l.length : Int)), (12, vI i12)] (by kernel_rfl) ?_
       refine ops_mem (d := some 33) (an := [.v (vI x19.Value)]) (evs := [ld b30 3 (vI x19.Value)]) (v := vI x19.Value) ⟨by kernel_rfl⟩ (fun w_ hM hS => ⟨w_, ⟨hM.cell 0 rfl rfl, rfl⟩, hM, trivial⟩) ?_
       refine oQ [oF 18] [(34, vP b1 1), (33, vI x19.Value), (31, .bool true), (9, vP b30 0), (1, vI system), (5, vP b1 0), (7, sl A7 l9 c8), (10, sl A_l l c_l), (11, vI (l.length : Int)), (12, vI i12)] (by kernel_rfl) ?_
       refine ops_mem (d := some 35) (an := [.v (vI vals_1)]) (evs := [ld b1 1 (vI vals_1)]) (v := vI vals_1) ⟨by kernel_rfl⟩ (fun w_ hM hS => ⟨w_, ⟨hM.cell 1 rfl rfl, rfl⟩, hM, trivial⟩) ?_
       refine oQ [oF 20, oF 21] [(37, .bool (decide (x19.Value ≤ vals_1))), (9, vP b30 0), (1, vI system), (5, vP b1 0), (7, sl A7 l9 c8), (10, sl A_l l c_l), (11, vI (l.length : Int)), (12, vI i12)] (by kernel_rfl) ?_
       refine ops_nil (fin_then ?_)
       refine st_if (b := decide (x19.Value ≤ vals_1)) rfl (fun hc47 => ?_) (fun hc47 => ?_)
       ·
        have hp := cnd_t hc47 hp
        refine st_region [oF 0, oF 1, oF 2, oF 3, oF 4] (by rfl) ?_
        refine oQ [oF 0] [(38, sl A7 l9 c8), (9, vP b30 0), (1, vI system), (5, vP b1 0), (7, sl A7 l9 c8), (10, sl A_l l c_l), (11, vI (l.length : Int)), (12, vI i12)] (by kernel_rfl) ?_
        refine ops_mem (d := some 39) (an := [.v (vI x19.System), .v (vI x19.Ent.N), .v (vI x19.Ent.Gen), .v (vI x19.Value)]) (evs := [ld b30 0 (vI x19.System), ld b30 1 (vI x19.Ent.N), ld b30 2 (vI x19.Ent.Gen), ld b30 3 (vI x19.Value)]) (v := .agg #[vI x19.System, vI x19.Ent.N, vI x19.Ent.Gen, vI x19.Value]) ⟨by kernel_rfl⟩ (fun w_ hM hS => ⟨w_, ⟨hM.cell 0 rfl rfl, hM.cell 0 rfl rfl, hM.cell 0 rfl rfl, hM.cell 0 rfl rfl, rfl⟩, hM, trivial⟩) ?_
        have h48 : RepL R_api_Event F W ([(api_Event.mk x19.System (api_Ent.mk x19.Ent.N x19.Ent.Gen) x19.Value)] : List api_Event) ([vI x19.System, vI x19.Ent.N, vI x19.Ent.Gen, vI x19.Value]) := (RepL.cons (R := R_api_Event) (F := F) (w := W) (vs := [vI x19.System, vI x19.Ent.N, vI x19.Ent.Gen, vI x19.Value]) (ys := []) (enc_api_Event) RepL.nil)
        refine ops_new (d := some 40) (o := .cells ([vI x19.System, vI x19.Ent.N, vI x19.Ent.Gen, vI x19.Value] : List Value).toArray 94) (v := fun g49 => .slice (sa g49) ([(api_Event.mk x19.System (api_Ent.mk x19.Ent.N x19.Ent.Gen) x19.Value)] : List api_Event).length 1) (M' := fun g49 => Mem w0 (orow (sa g49) ([(api_Event.mk x19.System (api_Ent.mk x19.Ent.N x19.Ent.Gen) x19.Value)] : List api_Event).length 1 94 4 ([vI x19.System, vI x19.Ent.N, vI x19.Ent.Gen, vI x19.Value]) :: .blk b30 [vI x19.System, vI x19.Ent.N, vI x19.Ent.Gen, vI x19.Value] 94 :: .blk b1 [vI vals_0, vI vals_1] 90 :: ow A7 l9 c8 94 4 y10 :: Fz F W :: cs)) (fun g49 => ⟨by kernel_rfl⟩) (fun w_ hM hS => ⟨hM.onew [vI x19.System, vI x19.Ent.N, vI x19.Ent.Gen, vI x19.Value] 94 1 4 rfl (by decide), trivial⟩) (fun g49 => ?_)
        obtain ⟨l50, hv51, hp⟩ := obind hp
        obtain ⟨he52, hb53⟩ := app_some hv51
        obtain ⟨y54, hy55⟩ : ∃ y_, y10 ++ ([vI x19.System, vI x19.Ent.N, vI x19.Ent.Gen, vI x19.Value]) = y_ := ⟨_, rfl⟩
        have h56 : RepL R_api_Event F W l50 y54 := by rw [he52, ← hy55]; exact RepL.app h11 h48
        refine ops_appendO (x := (Go.Operand.tmp 38)) (y := (Go.Operand.tmp 40)) (t := 88) (e := 94) (d := some 41) (n' := l50.length) (z := 4) (m := ([(api_Event.mk x19.System (api_Ent.mk x19.Ent.N x19.Ent.Gen) x19.Value)] : List api_Event).length) (bytes := 32) (xs' := y54) (news := ([vI x19.System, vI x19.Ent.N, vI x19.Ent.Gen, vI x19.Value])) (zv := .agg #[vI 0, vI 0, vI 0, vI 0]) 3 ⟨by kernel_rfl⟩ rfl rfl Try.underlying88 (by kernel_rfl) (by rfl) rfl (fun w_ hM => hM.srcO 0 rfl) h48.len h48.one hb53 (by have z_ := congrArg List.length he52; rw [List.length_append] at z_; exact z_.symm) hy55 (fun _ _ _ _ hS h' => trivial) ?_
        rintro ⟨A57, c58⟩
        refine oQ [oF 4] [(7, sl A57 l50 c58), (1, vI system), (5, vP b1 0), (10, sl A_l l c_l), (11, vI (l.length : Int)), (12, vI i12)] (by kernel_rfl) ?_
        refine ops_nil (fin_block ?_)
        exact fin_join HJ3 (A57, c58, l50, y54) ⟨hp, h56⟩ (look_has ⟨rfl, rfl, rfl, rfl, rfl, rfl, trivial⟩) (fun w_ hM => hM.pick 5 [2, 3, 4] (by kernel_rfl) (by decide) rfl)
       ·
        have hp := cnd_f hc47 hp
        refine st_skip (fin_block ?_)
        exact fin_join HJ3 (A7, c8, l9, y10) ⟨hp, h11⟩ (look_has ⟨rfl, rfl, rfl, rfl, rfl, rfl, trivial⟩) (fun w_ hM => hM.pick 4 [1, 2, 3] (by kernel_rfl) (by decide) rfl)
      ·
       have hp := cnd_f hc46 hp
       refine oQ [oF 16, oF 17, oF 18, oF 19, oF 20, oF 21] [(37, .bool false), (9, vP b30 0), (1, vI system), (5, vP b1 0), (7, sl A7 l9 c8), (10, sl A_l l c_l), (11, vI (l.length : Int)), (12, vI i12)] (by kernel_rfl) ?_
       refine ops_nil (fin_then (st_false rfl (st_skip (fin_block ?_))))
       exact fin_join HJ3 (A7, c8, l9, y10) ⟨hp, h11⟩ (look_has ⟨rfl, rfl, rfl, rfl, rfl, rfl, trivial⟩) (fun w_ hM => hM.pick 4 [1, 2, 3] (by kernel_rfl) (by decide) rfl)
     ·
      have hp := cnd_f hc45 hp
      refine oQ [oF 9, oF 10, oF 11, oF 12, oF 13, oF 14, oF 15, oF 16, oF 17, oF 18, oF 19, oF 20, oF 21] [(37, .bool false), (9, vP b30 0), (1, vI system), (5, vP b1 0), (7, sl A7 l9 c8), (10, sl A_l l c_l), (11, vI (l.length : Int)), (12, vI i12)] (by kernel_rfl) ?_
      refine ops_nil (fin_then (st_false rfl (st_skip (fin_block ?_))))
      exact fin_join HJ3 (A7, c8, l9, y10) ⟨hp, h11⟩ (look_has ⟨rfl, rfl, rfl, rfl, rfl, rfl, trivial⟩) (fun w_ hM => hM.pick 4 [1, 2, 3] (by kernel_rfl) (by decide) rfl)
  ·
   have hp := cnd_f hc13 hp
   refine st_exit (fin_exit_then (fin_exit_then (fin_exit ?_)))
   obtain hq_ := Option.some.inj hp
   subst hq_
   obtain hq_ := hd2 _ rfl
   subst hq_
   have hp : event_Of_j1 l9 = some l9003 := hk2
   exact fin_join HJ1 (A7, c8, l9, y10) ⟨hp, h11⟩ (look_has ⟨rfl, trivial⟩) (fun w_ hM => hM.pick 3 [1, 2] (by kernel_rfl) (by decide) rfl)
end Go.Proofs.Ythcniadbdjoecaa.E
