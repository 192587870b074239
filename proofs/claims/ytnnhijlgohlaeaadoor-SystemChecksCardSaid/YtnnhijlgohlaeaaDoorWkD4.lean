/- The Go functions come to what the plain functions tell. No condition. -/
import Derived.Test.YtnnhijlgohlaeaaDoorProg
import Derived.Test.YtnnhijlgohlaeaaDoorFnD
import Derived.Test.YtnnhijlgohlaeaaDoorWkD0
import Derived.Test.YtnnhijlgohlaeaaDoorWkD3
namespace Go.Proofs.YtnnhijlgohlaeaaDoor.D
open Go Go.RowKit Go.Proofs.YtnnhijlgohlaeaaDoor.Sx
set_option linter.unusedVariables false
set_option maxHeartbeats 4000000
set_option maxRecDepth 100000
theorem slices_Index_int_int_ok (w0 w : World) (cs : List Chunk) (F : Nat → Prop) (W : World) (A_s : Option Addr) (c_s : Nat) (s : List Int) (v : Int) (hM0 : Mem w0 (Fz F W :: cs) w) (h_s : RdS (Rep.int .i64) F W A_s c_s s) (i9001 : Int) (hp : slices_Index_int_int s v = some i9001) : Calls Tryd.prog 127 #[sl A_s s c_s, vI v] w fun e w' => (True) ∧ e = .returned (vI i9001) ∧ Mem w0 (Fz F W :: cs) w' := by
 unfold slices_Index_int_int at hp
 refine sx_calls Tryd.func127 rfl (n := 19) (by kernel_rfl) (l := [(0, sl A_s s c_s), (1, vI v)]) rfl (by rfl) hM0 ?_
 refine st_seq (st_region [oF 0] (by rfl) ?_)
 refine oQ [oF 0] [(0, sl A_s s c_s), (1, vI v)] (by kernel_rfl) ?_
 refine ops_nil (fin_then ?_)
 refine st_join1 (σ := Unit) (L := fun _ => []) (N := fun _ => Mem w0 (Fz F W :: cs)) (I := fun _ => (slices_Index_int_int_j1 = some i9001)) ?_ ?_
 ·
  rintro _ hp
  unfold slices_Index_int_int_j1 at hp
  refine st_seq (st_region [oF 0] (by rfl) ?_)
  refine oQ [oF 0] [(4, vI (-1))] (by kernel_rfl) ?_
  refine ops_nil (fin_then (st_ret ?_))
  have hq_ := Option.some.inj hp
  have hr0_ := hq_
  subst hr0_
  refine fin_ret [.tmp 4] [vI (-1)] rfl rfl (fun w_ hM => (.tmp rfl .nil)) (fun w_ hM => ?_)
  exact ⟨trivial, rfl, hM⟩
 ·
  intro HJ1
  refine st_seq (st_seq (st_region [oF 0, oF 1, oF 2] (by rfl) ?_))
  refine oQ [oF 0, oF 1, oF 2] [(8, vI 0), (7, vI (s.length : Int)), (0, sl A_s s c_s), (1, vI v)] (by kernel_rfl) ?_
  refine ops_nil (fin_then (st_block ?_))
  obtain ⟨r2, hl2, hk2⟩ := obind hp
  refine st_loopP (σ := Int) (ρ := (Int ⊕ Unit)) (γ := Unit) hl2 () (fun s_ g_ => match s_, g_ with | i1, _ => [(0, sl A_s s c_s), (1, vI v), (7, vI (s.length : Int)), (8, vI i1)]) (fun s_ g_ => match s_, g_ with | i1, _ => Mem w0 (Fz F W :: cs)) (fun s_ g_ => match s_, g_ with | i1, _ => True) trivial (look_has ⟨rfl, rfl, rfl, rfl, trivial⟩) (fun w_ hM => hM) ?_
  rintro i1 _ o2 - hs_ hd2
  have hp : (slices_Index_int_int_l2 s v) i1 = some o2 := hs_
  clear hs_
  unfold slices_Index_int_int_l2 at hp
  refine st_seq (st_region [oF 0] (by rfl) ?_)
  refine oQ [oF 0] [(9, .bool (decide (i1 < (s.length : Int)))), (0, sl A_s s c_s), (1, vI v), (7, vI (s.length : Int)), (8, vI i1)] (by kernel_rfl) ?_
  refine ops_nil (fin_then (st_seq ?_))
  refine st_if (b := decide (i1 < (s.length : Int))) rfl (fun hc2 => ?_) (fun hc2 => ?_)
  ·
   have hp := cnd_t hc2 hp
   refine st_skip (fin_then (st_seq (st_block (st_seq (st_region [oF 0, oF 1] (by rfl) ?_)))))
   refine oQ [oF 0, oF 1] [(5, vI i1), (0, sl A_s s c_s), (1, vI v), (7, vI (s.length : Int)), (8, vI i1)] (by kernel_rfl) ?_
   refine ops_nil (fin_then (st_seq (st_region [oF 0, oF 1, oF 2, oF 3, oF 4, oF 5] (by rfl) ?_)))
   refine oQ [oF 0, oF 1, oF 2] [(13, vI i1), (12, sl A_s s c_s), (11, vI v), (5, vI i1), (0, sl A_s s c_s), (1, vI v), (7, vI (s.length : Int)), (8, vI i1)] (by kernel_rfl) ?_
   obtain ⟨x3, hv4, hp⟩ := obind hp
   obtain ⟨m5, hm6, hx7⟩ := idx_some hv4
   have hl10 := (List.getElem?_eq_some_iff.1 hx7).1
   obtain ⟨ad11, vs8, hA12, hr9, hq13⟩ := RdS.el h_s hx7
   obtain rfl := hr9
   refine ops_val (op := (.indexAddr 44 (.tmp 12) (.tmp 13))) (d := some 14) (v := .pointer (some (ad11.add (m5 * 1)))) ⟨by kernel_rfl⟩ (run_indexA hA12 Tryd.underlying44 (z := 1) (by kernel_rfl) rfl rfl hm6 hl10) ?_
   refine ops_mem (d := some 15) (an := [.v (vI x3)]) (evs := [.load (ad11.add (m5 * 1)) (vI x3)]) (v := vI x3) ⟨by kernel_rfl⟩ (fun w_ hM hS => ⟨w_, ⟨hM.elcell 0 rfl hq13 0 rfl, rfl⟩, hM, trivial⟩) ?_
   refine oQ [oF 5] [(16, .bool (v == x3)), (5, vI i1), (0, sl A_s s c_s), (1, vI v), (7, vI (s.length : Int)), (8, vI i1)] (by kernel_rfl) ?_
   refine ops_nil (fin_then ?_)
   refine st_if (b := (v == x3)) rfl (fun hc14 => ?_) (fun hc14 => ?_)
   ·
    have hp := cnd_t hc14 hp
    refine st_seq (st_region [oF 0, oF 1] (by rfl) ?_)
    refine oQ [oF 0, oF 1] [(4, vI i1)] (by kernel_rfl) ?_
    refine ops_nil (fin_then (st_ret (fin_ret_block (fin_ret_then (fin_ret_then (fin_ret_block (fin_ret_then ?_)))))))
    obtain hq_ := Option.some.inj hp
    subst hq_
    obtain hq_ := hd2 _ rfl
    subst hq_
    have hp : some i1 = some i9001 := hk2
    have hq_ := Option.some.inj hp
    have hr0_ := hq_
    subst hr0_
    refine fin_ret [.tmp 4] [vI i1] rfl rfl (fun w_ hM => (.tmp rfl .nil)) (fun w_ hM => ?_)
    exact ⟨trivial, rfl, hM⟩
   ·
    have hp := cnd_f hc14 hp
    refine st_skip (fin_block (fin_then (st_region [oF 0, oF 1] (by rfl) ?_)))
    refine oQ [oF 0, oF 1] [(8, vI (IntKind.i64.wrap (i1 + 1))), (0, sl A_s s c_s), (1, vI v), (7, vI (s.length : Int))] (by kernel_rfl) ?_
    refine ops_nil ?_
    exact fin_again (IntKind.i64.wrap (i1 + 1)) () (Option.some.inj hp).symm trivial (look_has ⟨rfl, rfl, rfl, rfl, trivial⟩) (fun w_ hM => hM)
  ·
   have hp := cnd_f hc2 hp
   refine st_exit (fin_exit_then (fin_exit_then (fin_exit ?_)))
   obtain hq_ := Option.some.inj hp
   subst hq_
   obtain hq_ := hd2 _ rfl
   subst hq_
   have hp : slices_Index_int_int_j1 = some i9001 := hk2
   exact fin_join HJ1 () hp (look_has trivial) (fun w_ hM => hM)
theorem slices_Contains_int_int_ok (w0 w : World) (cs : List Chunk) (F : Nat → Prop) (W : World) (A_s : Option Addr) (c_s : Nat) (s : List Int) (v : Int) (hM0 : Mem w0 (Fz F W :: cs) w) (h_s : RdS (Rep.int .i64) F W A_s c_s s) (t9001 : Bool) (hp : slices_Contains_int_int s v = some t9001) : Calls Tryd.prog 90 #[sl A_s s c_s, vI v] w fun e w' => (True) ∧ e = .returned (.bool t9001) ∧ Mem w0 (Fz F W :: cs) w' := by
 unfold slices_Contains_int_int at hp
 refine sx_calls Tryd.func90 rfl (n := 9) (by kernel_rfl) (l := [(0, sl A_s s c_s), (1, vI v)]) rfl (by rfl) hM0 ?_
 refine st_seq (st_region [oF 0] (by rfl) ?_)
 refine oQ [oF 0] [(0, sl A_s s c_s), (1, vI v)] (by kernel_rfl) ?_
 refine ops_nil (fin_then (st_seq (st_region [oF 0, oF 1, oF 2, oF 3, oF 4] (by rfl) ?_)))
 refine oQ [oF 0, oF 1] [(6, vI v), (5, sl A_s s c_s)] (by kernel_rfl) ?_
 obtain ⟨x1, hv2, hp⟩ := obind hp
 refine ops_callI (σ := Unit) (d := some 7) (f := 127) (args := #[sl A_s s c_s, vI v]) (v := (fun _ => vI x1)) (I := (fun _ => True)) (M' := (fun _ => Mem w0 (Fz F W :: cs))) ⟨by kernel_rfl⟩ (fun w_ hM hS => (slices_Index_int_int_ok w0 w_ (cs) F W A_s c_s s v hM h_s x1 hv2).mono (by rintro e w' ⟨-, rfl, h'⟩; have h' : Mem w0 (Fz F W :: cs) w' := h'; exact ⟨(), trivial, rfl, h', trivial⟩)) ?_
 rintro _ -
 refine oQ [oF 3, oF 4] [(4, .bool (decide (0 ≤ x1)))] (by kernel_rfl) ?_
 refine ops_nil (fin_then (st_ret ?_))
 have hq_ := Option.some.inj hp
 have hr0_ := hq_
 subst hr0_
 refine fin_ret [.tmp 4] [.bool (decide (0 ≤ x1))] rfl rfl (fun w_ hM => (.tmp rfl .nil)) (fun w_ hM => ?_)
 exact ⟨trivial, rfl, hM⟩
theorem system_Check_1_ok (w0 w : World) (cs : List Chunk) (F : Nat → Prop) (W : World) (x : Int) (b_p1 : Nat) (p1_0 : ByteArray) (A_p1_1 : Option Addr) (c_p1_1 : Nat) (p1_1 : List Int) (A_p1_2 : Option Addr) (c_p1_2 : Nat) (p1_2 : List Int) (A_p1_3 : Option Addr) (c_p1_3 : Nat) (p1_3 : List Int) (A_p1_4 : Option Addr) (c_p1_4 : Nat) (p1_4 : List Int) (A_p1_5 : Option Addr) (c_p1_5 : Nat) (p1_5 : List api_Op) (A_p1_6 : Option Addr) (c_p1_6 : Nat) (p1_6 : List api_Comp) (hM0 : Mem w0 (.blk b_p1 [.string p1_0, sl A_p1_1 p1_1 c_p1_1, sl A_p1_2 p1_2 c_p1_2, sl A_p1_3 p1_3 c_p1_3, sl A_p1_4 p1_4 c_p1_4, sl A_p1_5 p1_5 c_p1_5, sl A_p1_6 p1_6 c_p1_6] 96 :: Fz F W :: cs) w) (h_p1_1 : RdS (Rep.int .i64) F W A_p1_1 c_p1_1 p1_1) (h_p1_2 : RdS (Rep.int .i64) F W A_p1_2 c_p1_2 p1_2) (h_p1_3 : RdS (Rep.int .i64) F W A_p1_3 c_p1_3 p1_3) (h_p1_4 : RdS (Rep.int .i64) F W A_p1_4 c_p1_4 p1_4) (h_p1_5 : RdS R_api_Op F W A_p1_5 c_p1_5 p1_5) (h_p1_6 : RdS R_api_Comp F W A_p1_6 c_p1_6 p1_6) (t9001 : Bool) (hp : system_Check_1 x p1_0 p1_1 p1_2 p1_3 p1_4 p1_5 p1_6 = some t9001) : Calls Tryd.prog 89 #[vI x, vP b_p1 0] w fun e w' => ((RdS (Rep.int .i64) F W A_p1_1 c_p1_1 p1_1) ∧ (RdS (Rep.int .i64) F W A_p1_2 c_p1_2 p1_2) ∧ (RdS (Rep.int .i64) F W A_p1_3 c_p1_3 p1_3) ∧ (RdS (Rep.int .i64) F W A_p1_4 c_p1_4 p1_4) ∧ (RdS R_api_Op F W A_p1_5 c_p1_5 p1_5) ∧ (RdS R_api_Comp F W A_p1_6 c_p1_6 p1_6)) ∧ e = .returned (.bool t9001) ∧ Mem w0 (.blk b_p1 [.string p1_0, sl A_p1_1 p1_1 c_p1_1, sl A_p1_2 p1_2 c_p1_2, sl A_p1_3 p1_3 c_p1_3, sl A_p1_4 p1_4 c_p1_4, sl A_p1_5 p1_5 c_p1_5, sl A_p1_6 p1_6 c_p1_6] 96 :: Fz F W :: cs) w' := by
 unfold system_Check_1 at hp
 refine sx_calls Tryd.func89 rfl (n := 8) (by kernel_rfl) (l := [(0, vI x), (1, vP b_p1 0)]) rfl (by rfl) hM0 ?_
 refine st_seq (st_region [oF 0] (by rfl) ?_)
 refine oQ [oF 0] [(0, vI x), (1, vP b_p1 0)] (by kernel_rfl) ?_
 refine ops_nil (fin_then (st_seq (st_region [oF 0, oF 1, oF 2, oF 3, oF 4] (by rfl) ?_)))
 refine oQ [oF 0] [(4, vP b_p1 2), (0, vI x)] (by kernel_rfl) ?_
 refine ops_mem (d := some 5) (an := [.v (sl A_p1_2 p1_2 c_p1_2)]) (evs := [ld b_p1 2 (sl A_p1_2 p1_2 c_p1_2)]) (v := sl A_p1_2 p1_2 c_p1_2) ⟨by kernel_rfl⟩ (fun w_ hM hS => ⟨w_, ⟨hM.cell 0 rfl rfl, rfl⟩, hM, trivial⟩) ?_
 refine oQ [oF 2] [(6, vI x), (5, sl A_p1_2 p1_2 c_p1_2)] (by kernel_rfl) ?_
 obtain ⟨x1, hv2, hp⟩ := obind hp
 refine ops_callI (σ := Unit) (d := some 7) (f := 90) (args := #[sl A_p1_2 p1_2 c_p1_2, vI x]) (v := (fun _ => .bool x1)) (I := (fun _ => True)) (M' := (fun _ => Mem w0 (.blk b_p1 [.string p1_0, sl A_p1_1 p1_1 c_p1_1, sl A_p1_2 p1_2 c_p1_2, sl A_p1_3 p1_3 c_p1_3, sl A_p1_4 p1_4 c_p1_4, sl A_p1_5 p1_5 c_p1_5, sl A_p1_6 p1_6 c_p1_6] 96 :: Fz F W :: cs))) ⟨by kernel_rfl⟩ (fun w_ hM hS => (slices_Contains_int_int_ok w0 w_ (.blk b_p1 [.string p1_0, sl A_p1_1 p1_1 c_p1_1, sl A_p1_2 p1_2 c_p1_2, sl A_p1_3 p1_3 c_p1_3, sl A_p1_4 p1_4 c_p1_4, sl A_p1_5 p1_5 c_p1_5, sl A_p1_6 p1_6 c_p1_6] 96 :: cs) F W A_p1_2 c_p1_2 p1_2 x (hM.pick 2 [1, 0] (by kernel_rfl) (by decide) rfl) h_p1_2 x1 hv2).mono (by rintro e w' ⟨-, rfl, h'⟩; have h' : Mem w0 (.blk b_p1 [.string p1_0, sl A_p1_1 p1_1 c_p1_1, sl A_p1_2 p1_2 c_p1_2, sl A_p1_3 p1_3 c_p1_3, sl A_p1_4 p1_4 c_p1_4, sl A_p1_5 p1_5 c_p1_5, sl A_p1_6 p1_6 c_p1_6] 96 :: Fz F W :: cs) w' := (h'.pick 2 [1, 0] (by kernel_rfl) (by decide) rfl); exact ⟨(), trivial, rfl, h', trivial⟩)) ?_
 rintro _ -
 refine oQ [oF 4] [(3, .bool x1)] (by kernel_rfl) ?_
 refine ops_nil (fin_then (st_ret ?_))
 have hq_ := Option.some.inj hp
 have hr0_ := hq_
 subst hr0_
 refine fin_ret [.tmp 3] [.bool x1] rfl rfl (fun w_ hM => (.tmp rfl .nil)) (fun w_ hM => ?_)
 exact ⟨⟨h_p1_1, h_p1_2, h_p1_3, h_p1_4, h_p1_5, h_p1_6⟩, rfl, hM⟩
theorem slices_IndexFunc_int_int_ok (w0 w : World) (cs : List Chunk) (F : Nat → Prop) (W : World) (A_s : Option Addr) (c_s : Nat) (s : List Int) (b_f_c0 : Nat) (f_c0_0 : ByteArray) (A_f_c0_1 : Option Addr) (c_f_c0_1 : Nat) (f_c0_1 : List Int) (A_f_c0_2 : Option Addr) (c_f_c0_2 : Nat) (f_c0_2 : List Int) (A_f_c0_3 : Option Addr) (c_f_c0_3 : Nat) (f_c0_3 : List Int) (A_f_c0_4 : Option Addr) (c_f_c0_4 : Nat) (f_c0_4 : List Int) (A_f_c0_5 : Option Addr) (c_f_c0_5 : Nat) (f_c0_5 : List api_Op) (A_f_c0_6 : Option Addr) (c_f_c0_6 : Nat) (f_c0_6 : List api_Comp) (hM0 : Mem w0 (.blk b_f_c0 [.string f_c0_0, sl A_f_c0_1 f_c0_1 c_f_c0_1, sl A_f_c0_2 f_c0_2 c_f_c0_2, sl A_f_c0_3 f_c0_3 c_f_c0_3, sl A_f_c0_4 f_c0_4 c_f_c0_4, sl A_f_c0_5 f_c0_5 c_f_c0_5, sl A_f_c0_6 f_c0_6 c_f_c0_6] 96 :: Fz F W :: cs) w) (h_s : RdS (Rep.int .i64) F W A_s c_s s) (h_f_c0_1 : RdS (Rep.int .i64) F W A_f_c0_1 c_f_c0_1 f_c0_1) (h_f_c0_2 : RdS (Rep.int .i64) F W A_f_c0_2 c_f_c0_2 f_c0_2) (h_f_c0_3 : RdS (Rep.int .i64) F W A_f_c0_3 c_f_c0_3 f_c0_3) (h_f_c0_4 : RdS (Rep.int .i64) F W A_f_c0_4 c_f_c0_4 f_c0_4) (h_f_c0_5 : RdS R_api_Op F W A_f_c0_5 c_f_c0_5 f_c0_5) (h_f_c0_6 : RdS R_api_Comp F W A_f_c0_6 c_f_c0_6 f_c0_6) (i9001 : Int) (hp : slices_IndexFunc_int_int s f_c0_0 f_c0_1 f_c0_2 f_c0_3 f_c0_4 f_c0_5 f_c0_6 = some i9001) : Calls Tryd.prog 126 #[sl A_s s c_s, .func (.func 89) #[] #[vP b_f_c0 0]] w fun e w' => ((RdS (Rep.int .i64) F W A_f_c0_1 c_f_c0_1 f_c0_1) ∧ (RdS (Rep.int .i64) F W A_f_c0_2 c_f_c0_2 f_c0_2) ∧ (RdS (Rep.int .i64) F W A_f_c0_3 c_f_c0_3 f_c0_3) ∧ (RdS (Rep.int .i64) F W A_f_c0_4 c_f_c0_4 f_c0_4) ∧ (RdS R_api_Op F W A_f_c0_5 c_f_c0_5 f_c0_5) ∧ (RdS R_api_Comp F W A_f_c0_6 c_f_c0_6 f_c0_6)) ∧ e = .returned (vI i9001) ∧ Mem w0 (.blk b_f_c0 [.string f_c0_0, sl A_f_c0_1 f_c0_1 c_f_c0_1, sl A_f_c0_2 f_c0_2 c_f_c0_2, sl A_f_c0_3 f_c0_3 c_f_c0_3, sl A_f_c0_4 f_c0_4 c_f_c0_4, sl A_f_c0_5 f_c0_5 c_f_c0_5, sl A_f_c0_6 f_c0_6 c_f_c0_6] 96 :: Fz F W :: cs) w' := by
 unfold slices_IndexFunc_int_int at hp
 refine sx_calls Tryd.func126 rfl (n := 19) (by kernel_rfl) (l := [(0, sl A_s s c_s), (1, .func (.func 89) #[] #[vP b_f_c0 0])]) rfl (by rfl) hM0 ?_
 refine st_seq (st_region [oF 0] (by rfl) ?_)
 refine oQ [oF 0] [(0, sl A_s s c_s), (1, .func (.func 89) #[] #[vP b_f_c0 0])] (by kernel_rfl) ?_
 refine ops_nil (fin_then ?_)
 refine st_join1 (σ := Unit) (L := fun _ => []) (N := fun _ => Mem w0 (.blk b_f_c0 [.string f_c0_0, sl A_f_c0_1 f_c0_1 c_f_c0_1, sl A_f_c0_2 f_c0_2 c_f_c0_2, sl A_f_c0_3 f_c0_3 c_f_c0_3, sl A_f_c0_4 f_c0_4 c_f_c0_4, sl A_f_c0_5 f_c0_5 c_f_c0_5, sl A_f_c0_6 f_c0_6 c_f_c0_6] 96 :: Fz F W :: cs)) (I := fun _ => (slices_IndexFunc_int_int_j1 = some i9001) ∧ (RdS (Rep.int .i64) F W A_f_c0_1 c_f_c0_1 f_c0_1) ∧ (RdS (Rep.int .i64) F W A_f_c0_2 c_f_c0_2 f_c0_2) ∧ (RdS (Rep.int .i64) F W A_f_c0_3 c_f_c0_3 f_c0_3) ∧ (RdS (Rep.int .i64) F W A_f_c0_4 c_f_c0_4 f_c0_4) ∧ (RdS R_api_Op F W A_f_c0_5 c_f_c0_5 f_c0_5) ∧ (RdS R_api_Comp F W A_f_c0_6 c_f_c0_6 f_c0_6)) ?_ ?_
 ·
  rintro _ ⟨hp, h1, h2, h3, h4, h5, h6⟩
  unfold slices_IndexFunc_int_int_j1 at hp
  refine st_seq (st_region [oF 0] (by rfl) ?_)
  refine oQ [oF 0] [(4, vI (-1))] (by kernel_rfl) ?_
  refine ops_nil (fin_then (st_ret ?_))
  have hq_ := Option.some.inj hp
  have hr0_ := hq_
  subst hr0_
  refine fin_ret [.tmp 4] [vI (-1)] rfl rfl (fun w_ hM => (.tmp rfl .nil)) (fun w_ hM => ?_)
  exact ⟨⟨h1, h2, h3, h4, h5, h6⟩, rfl, hM⟩
 ·
  intro HJ1
  refine st_seq (st_seq (st_region [oF 0, oF 1, oF 2] (by rfl) ?_))
  refine oQ [oF 0, oF 1, oF 2] [(8, vI 0), (7, vI (s.length : Int)), (0, sl A_s s c_s), (1, .func (.func 89) #[] #[vP b_f_c0 0])] (by kernel_rfl) ?_
  refine ops_nil (fin_then (st_block ?_))
  obtain ⟨r2, hl2, hk2⟩ := obind hp
  refine st_loopP (σ := Int) (ρ := (Int ⊕ Unit)) (γ := Unit) hl2 () (fun s_ g_ => match s_, g_ with | i13, _ => [(0, sl A_s s c_s), (1, .func (.func 89) #[] #[vP b_f_c0 0]), (7, vI (s.length : Int)), (8, vI i13)]) (fun s_ g_ => match s_, g_ with | i13, _ => Mem w0 (.blk b_f_c0 [.string f_c0_0, sl A_f_c0_1 f_c0_1 c_f_c0_1, sl A_f_c0_2 f_c0_2 c_f_c0_2, sl A_f_c0_3 f_c0_3 c_f_c0_3, sl A_f_c0_4 f_c0_4 c_f_c0_4, sl A_f_c0_5 f_c0_5 c_f_c0_5, sl A_f_c0_6 f_c0_6 c_f_c0_6] 96 :: Fz F W :: cs)) (fun s_ g_ => match s_, g_ with | i13, _ => (RdS (Rep.int .i64) F W A_f_c0_1 c_f_c0_1 f_c0_1) ∧ (RdS (Rep.int .i64) F W A_f_c0_2 c_f_c0_2 f_c0_2) ∧ (RdS (Rep.int .i64) F W A_f_c0_3 c_f_c0_3 f_c0_3) ∧ (RdS (Rep.int .i64) F W A_f_c0_4 c_f_c0_4 f_c0_4) ∧ (RdS R_api_Op F W A_f_c0_5 c_f_c0_5 f_c0_5) ∧ (RdS R_api_Comp F W A_f_c0_6 c_f_c0_6 f_c0_6)) ⟨h_f_c0_1, h_f_c0_2, h_f_c0_3, h_f_c0_4, h_f_c0_5, h_f_c0_6⟩ (look_has ⟨rfl, rfl, rfl, rfl, trivial⟩) (fun w_ hM => hM) ?_
  rintro i13 _ o2 ⟨h7, h8, h9, h10, h11, h12⟩ hs_ hd2
  have hp : (slices_IndexFunc_int_int_l2 s f_c0_0 f_c0_1 f_c0_2 f_c0_3 f_c0_4 f_c0_5 f_c0_6) i13 = some o2 := hs_
  clear hs_
  unfold slices_IndexFunc_int_int_l2 at hp
  refine st_seq (st_region [oF 0] (by rfl) ?_)
  refine oQ [oF 0] [(9, .bool (decide (i13 < (s.length : Int)))), (0, sl A_s s c_s), (1, .func (.func 89) #[] #[vP b_f_c0 0]), (7, vI (s.length : Int)), (8, vI i13)] (by kernel_rfl) ?_
  refine ops_nil (fin_then (st_seq ?_))
  refine st_if (b := decide (i13 < (s.length : Int))) rfl (fun hc14 => ?_) (fun hc14 => ?_)
  ·
   have hp := cnd_t hc14 hp
   refine st_skip (fin_then (st_seq (st_block (st_seq (st_region [oF 0, oF 1] (by rfl) ?_)))))
   refine oQ [oF 0, oF 1] [(5, vI i13), (0, sl A_s s c_s), (1, .func (.func 89) #[] #[vP b_f_c0 0]), (7, vI (s.length : Int)), (8, vI i13)] (by kernel_rfl) ?_
   refine ops_nil (fin_then (st_seq (st_region [oF 0, oF 1, oF 2, oF 3, oF 4, oF 5] (by rfl) ?_)))
   refine oQ [oF 0, oF 1, oF 2] [(13, vI i13), (12, sl A_s s c_s), (11, .func (.func 89) #[] #[vP b_f_c0 0]), (5, vI i13), (0, sl A_s s c_s), (1, .func (.func 89) #[] #[vP b_f_c0 0]), (7, vI (s.length : Int)), (8, vI i13)] (by kernel_rfl) ?_
   obtain ⟨x15, hv16, hp⟩ := obind hp
   obtain ⟨m17, hm18, hx19⟩ := idx_some hv16
   have hl22 := (List.getElem?_eq_some_iff.1 hx19).1
   obtain ⟨ad23, vs20, hA24, hr21, hq25⟩ := RdS.el h_s hx19
   obtain rfl := hr21
   refine ops_val (op := (.indexAddr 44 (.tmp 12) (.tmp 13))) (d := some 14) (v := .pointer (some (ad23.add (m17 * 1)))) ⟨by kernel_rfl⟩ (run_indexA hA24 Tryd.underlying44 (z := 1) (by kernel_rfl) rfl rfl hm18 hl22) ?_
   refine ops_mem (d := some 15) (an := [.v (vI x15)]) (evs := [.load (ad23.add (m17 * 1)) (vI x15)]) (v := vI x15) ⟨by kernel_rfl⟩ (fun w_ hM hS => ⟨w_, ⟨hM.elcell 1 rfl hq25 0 rfl, rfl⟩, hM, trivial⟩) ?_
   obtain ⟨x26, hv27, hp⟩ := obind hp
   refine ops_callI (σ := Unit) (d := some 16) (f := 89) (args := #[vI x15, vP b_f_c0 0]) (v := (fun _ => .bool x26)) (I := (fun _ => (RdS (Rep.int .i64) F W A_f_c0_1 c_f_c0_1 f_c0_1) ∧ (RdS (Rep.int .i64) F W A_f_c0_2 c_f_c0_2 f_c0_2) ∧ (RdS (Rep.int .i64) F W A_f_c0_3 c_f_c0_3 f_c0_3) ∧ (RdS (Rep.int .i64) F W A_f_c0_4 c_f_c0_4 f_c0_4) ∧ (RdS R_api_Op F W A_f_c0_5 c_f_c0_5 f_c0_5) ∧ (RdS R_api_Comp F W A_f_c0_6 c_f_c0_6 f_c0_6))) (M' := (fun _ => Mem w0 (.blk b_f_c0 [.string f_c0_0, sl A_f_c0_1 f_c0_1 c_f_c0_1, sl A_f_c0_2 f_c0_2 c_f_c0_2, sl A_f_c0_3 f_c0_3 c_f_c0_3, sl A_f_c0_4 f_c0_4 c_f_c0_4, sl A_f_c0_5 f_c0_5 c_f_c0_5, sl A_f_c0_6 f_c0_6 c_f_c0_6] 96 :: Fz F W :: cs))) ⟨by kernel_rfl⟩ (fun w_ hM hS => (system_Check_1_ok w0 w_ (cs) F W x15 b_f_c0 f_c0_0 A_f_c0_1 c_f_c0_1 f_c0_1 A_f_c0_2 c_f_c0_2 f_c0_2 A_f_c0_3 c_f_c0_3 f_c0_3 A_f_c0_4 c_f_c0_4 f_c0_4 A_f_c0_5 c_f_c0_5 f_c0_5 A_f_c0_6 c_f_c0_6 f_c0_6 hM h7 h8 h9 h10 h11 h12 x26 hv27).mono (by rintro e w' ⟨⟨h28, h29, h30, h31, h32, h33⟩, rfl, h'⟩; have h' : Mem w0 (.blk b_f_c0 [.string f_c0_0, sl A_f_c0_1 f_c0_1 c_f_c0_1, sl A_f_c0_2 f_c0_2 c_f_c0_2, sl A_f_c0_3 f_c0_3 c_f_c0_3, sl A_f_c0_4 f_c0_4 c_f_c0_4, sl A_f_c0_5 f_c0_5 c_f_c0_5, sl A_f_c0_6 f_c0_6 c_f_c0_6] 96 :: Fz F W :: cs) w' := h'; exact ⟨(), ⟨h28, h29, h30, h31, h32, h33⟩, rfl, h', trivial⟩)) ?_
   rintro _ ⟨h28, h29, h30, h31, h32, h33⟩
   refine ops_nil (fin_then ?_)
   refine st_if (b := x26) rfl (fun hc34 => ?_) (fun hc34 => ?_)
   ·
    have hp := cnd_t hc34 hp
    refine st_seq (st_region [oF 0, oF 1] (by rfl) ?_)
    refine oQ [oF 0, oF 1] [(4, vI i13)] (by kernel_rfl) ?_
    refine ops_nil (fin_then (st_ret (fin_ret_block (fin_ret_then (fin_ret_then (fin_ret_block (fin_ret_then ?_)))))))
    obtain hq_ := Option.some.inj hp
    subst hq_
    obtain hq_ := hd2 _ rfl
    subst hq_
    have hp : some i13 = some i9001 := hk2
    have hq_ := Option.some.inj hp
    have hr0_ := hq_
    subst hr0_
    refine fin_ret [.tmp 4] [vI i13] rfl rfl (fun w_ hM => (.tmp rfl .nil)) (fun w_ hM => ?_)
    exact ⟨⟨h28, h29, h30, h31, h32, h33⟩, rfl, hM⟩
   ·
    have hp := cnd_f hc34 hp
    refine st_skip (fin_block (fin_then (st_region [oF 0, oF 1] (by rfl) ?_)))
    refine oQ [oF 0, oF 1] [(8, vI (IntKind.i64.wrap (i13 + 1))), (0, sl A_s s c_s), (1, .func (.func 89) #[] #[vP b_f_c0 0]), (7, vI (s.length : Int))] (by kernel_rfl) ?_
    refine ops_nil ?_
    exact fin_again (IntKind.i64.wrap (i13 + 1)) () (Option.some.inj hp).symm ⟨h28, h29, h30, h31, h32, h33⟩ (look_has ⟨rfl, rfl, rfl, rfl, trivial⟩) (fun w_ hM => hM)
  ·
   have hp := cnd_f hc14 hp
   refine st_exit (fin_exit_then (fin_exit_then (fin_exit ?_)))
   obtain hq_ := Option.some.inj hp
   subst hq_
   obtain hq_ := hd2 _ rfl
   subst hq_
   have hp : slices_IndexFunc_int_int_j1 = some i9001 := hk2
   exact fin_join HJ1 () ⟨hp, h7, h8, h9, h10, h11, h12⟩ (look_has trivial) (fun w_ hM => hM)
theorem slices_ContainsFunc_int_int_ok (w0 w : World) (cs : List Chunk) (F : Nat → Prop) (W : World) (A_s : Option Addr) (c_s : Nat) (s : List Int) (b_f_c0 : Nat) (f_c0_0 : ByteArray) (A_f_c0_1 : Option Addr) (c_f_c0_1 : Nat) (f_c0_1 : List Int) (A_f_c0_2 : Option Addr) (c_f_c0_2 : Nat) (f_c0_2 : List Int) (A_f_c0_3 : Option Addr) (c_f_c0_3 : Nat) (f_c0_3 : List Int) (A_f_c0_4 : Option Addr) (c_f_c0_4 : Nat) (f_c0_4 : List Int) (A_f_c0_5 : Option Addr) (c_f_c0_5 : Nat) (f_c0_5 : List api_Op) (A_f_c0_6 : Option Addr) (c_f_c0_6 : Nat) (f_c0_6 : List api_Comp) (hM0 : Mem w0 (.blk b_f_c0 [.string f_c0_0, sl A_f_c0_1 f_c0_1 c_f_c0_1, sl A_f_c0_2 f_c0_2 c_f_c0_2, sl A_f_c0_3 f_c0_3 c_f_c0_3, sl A_f_c0_4 f_c0_4 c_f_c0_4, sl A_f_c0_5 f_c0_5 c_f_c0_5, sl A_f_c0_6 f_c0_6 c_f_c0_6] 96 :: Fz F W :: cs) w) (h_s : RdS (Rep.int .i64) F W A_s c_s s) (h_f_c0_1 : RdS (Rep.int .i64) F W A_f_c0_1 c_f_c0_1 f_c0_1) (h_f_c0_2 : RdS (Rep.int .i64) F W A_f_c0_2 c_f_c0_2 f_c0_2) (h_f_c0_3 : RdS (Rep.int .i64) F W A_f_c0_3 c_f_c0_3 f_c0_3) (h_f_c0_4 : RdS (Rep.int .i64) F W A_f_c0_4 c_f_c0_4 f_c0_4) (h_f_c0_5 : RdS R_api_Op F W A_f_c0_5 c_f_c0_5 f_c0_5) (h_f_c0_6 : RdS R_api_Comp F W A_f_c0_6 c_f_c0_6 f_c0_6) (t9001 : Bool) (hp : slices_ContainsFunc_int_int s f_c0_0 f_c0_1 f_c0_2 f_c0_3 f_c0_4 f_c0_5 f_c0_6 = some t9001) : Calls Tryd.prog 88 #[sl A_s s c_s, .func (.func 89) #[] #[vP b_f_c0 0]] w fun e w' => ((RdS (Rep.int .i64) F W A_f_c0_1 c_f_c0_1 f_c0_1) ∧ (RdS (Rep.int .i64) F W A_f_c0_2 c_f_c0_2 f_c0_2) ∧ (RdS (Rep.int .i64) F W A_f_c0_3 c_f_c0_3 f_c0_3) ∧ (RdS (Rep.int .i64) F W A_f_c0_4 c_f_c0_4 f_c0_4) ∧ (RdS R_api_Op F W A_f_c0_5 c_f_c0_5 f_c0_5) ∧ (RdS R_api_Comp F W A_f_c0_6 c_f_c0_6 f_c0_6)) ∧ e = .returned (.bool t9001) ∧ Mem w0 (.blk b_f_c0 [.string f_c0_0, sl A_f_c0_1 f_c0_1 c_f_c0_1, sl A_f_c0_2 f_c0_2 c_f_c0_2, sl A_f_c0_3 f_c0_3 c_f_c0_3, sl A_f_c0_4 f_c0_4 c_f_c0_4, sl A_f_c0_5 f_c0_5 c_f_c0_5, sl A_f_c0_6 f_c0_6 c_f_c0_6] 96 :: Fz F W :: cs) w' := by
 unfold slices_ContainsFunc_int_int at hp
 refine sx_calls Tryd.func88 rfl (n := 9) (by kernel_rfl) (l := [(0, sl A_s s c_s), (1, .func (.func 89) #[] #[vP b_f_c0 0])]) rfl (by rfl) hM0 ?_
 refine st_seq (st_region [oF 0] (by rfl) ?_)
 refine oQ [oF 0] [(0, sl A_s s c_s), (1, .func (.func 89) #[] #[vP b_f_c0 0])] (by kernel_rfl) ?_
 refine ops_nil (fin_then (st_seq (st_region [oF 0, oF 1, oF 2, oF 3, oF 4] (by rfl) ?_)))
 refine oQ [oF 0, oF 1] [(6, .func (.func 89) #[] #[vP b_f_c0 0]), (5, sl A_s s c_s)] (by kernel_rfl) ?_
 obtain ⟨x1, hv2, hp⟩ := obind hp
 refine ops_callI (σ := Unit) (d := some 7) (f := 126) (args := #[sl A_s s c_s, .func (.func 89) #[] #[vP b_f_c0 0]]) (v := (fun _ => vI x1)) (I := (fun _ => (RdS (Rep.int .i64) F W A_f_c0_1 c_f_c0_1 f_c0_1) ∧ (RdS (Rep.int .i64) F W A_f_c0_2 c_f_c0_2 f_c0_2) ∧ (RdS (Rep.int .i64) F W A_f_c0_3 c_f_c0_3 f_c0_3) ∧ (RdS (Rep.int .i64) F W A_f_c0_4 c_f_c0_4 f_c0_4) ∧ (RdS R_api_Op F W A_f_c0_5 c_f_c0_5 f_c0_5) ∧ (RdS R_api_Comp F W A_f_c0_6 c_f_c0_6 f_c0_6))) (M' := (fun _ => Mem w0 (.blk b_f_c0 [.string f_c0_0, sl A_f_c0_1 f_c0_1 c_f_c0_1, sl A_f_c0_2 f_c0_2 c_f_c0_2, sl A_f_c0_3 f_c0_3 c_f_c0_3, sl A_f_c0_4 f_c0_4 c_f_c0_4, sl A_f_c0_5 f_c0_5 c_f_c0_5, sl A_f_c0_6 f_c0_6 c_f_c0_6] 96 :: Fz F W :: cs))) ⟨by kernel_rfl⟩ (fun w_ hM hS => (slices_IndexFunc_int_int_ok w0 w_ (cs) F W A_s c_s s b_f_c0 f_c0_0 A_f_c0_1 c_f_c0_1 f_c0_1 A_f_c0_2 c_f_c0_2 f_c0_2 A_f_c0_3 c_f_c0_3 f_c0_3 A_f_c0_4 c_f_c0_4 f_c0_4 A_f_c0_5 c_f_c0_5 f_c0_5 A_f_c0_6 c_f_c0_6 f_c0_6 hM h_s h_f_c0_1 h_f_c0_2 h_f_c0_3 h_f_c0_4 h_f_c0_5 h_f_c0_6 x1 hv2).mono (by rintro e w' ⟨⟨h3, h4, h5, h6, h7, h8⟩, rfl, h'⟩; have h' : Mem w0 (.blk b_f_c0 [.string f_c0_0, sl A_f_c0_1 f_c0_1 c_f_c0_1, sl A_f_c0_2 f_c0_2 c_f_c0_2, sl A_f_c0_3 f_c0_3 c_f_c0_3, sl A_f_c0_4 f_c0_4 c_f_c0_4, sl A_f_c0_5 f_c0_5 c_f_c0_5, sl A_f_c0_6 f_c0_6 c_f_c0_6] 96 :: Fz F W :: cs) w' := h'; exact ⟨(), ⟨h3, h4, h5, h6, h7, h8⟩, rfl, h', trivial⟩)) ?_
 rintro _ ⟨h3, h4, h5, h6, h7, h8⟩
 refine oQ [oF 3, oF 4] [(4, .bool (decide (0 ≤ x1)))] (by kernel_rfl) ?_
 refine ops_nil (fin_then (st_ret ?_))
 have hq_ := Option.some.inj hp
 have hr0_ := hq_
 subst hr0_
 refine fin_ret [.tmp 4] [.bool (decide (0 ≤ x1))] rfl rfl (fun w_ hM => (.tmp rfl .nil)) (fun w_ hM => ?_)
 exact ⟨⟨h3, h4, h5, h6, h7, h8⟩, rfl, hM⟩
theorem slices_Concat_int_int_ok (w0 w : World) (cs : List Chunk) (F : Nat → Prop) (W : World) (A_slices : Option Addr) (c_slices : Nat) (slices : List (List Int)) (hM0 : Mem w0 (Fz F W :: cs) w) (h_slices : RdS (Rep.sl (Rep.int .i64)) F W A_slices c_slices slices) (l9003 : List Int) (hp : slices_Concat_int_int slices = some l9003) : Calls Tryd.prog 91 #[sl A_slices slices c_slices] w fun e w' => ∃ (A9001 : Option Addr), ∃ (c9002 : Nat), ∃ (y9004 : List Value), ((RepL (Rep.int .i64) F W l9003 y9004)) ∧ e = .returned (sl A9001 l9003 c9002) ∧ Mem w0 (ow A9001 l9003 c9002 3 1 y9004 :: Fz F W :: cs) w' := by
 unfold slices_Concat_int_int at hp
 refine sx_calls Tryd.func91 rfl (n := 36) (by kernel_rfl) (l := [(0, sl A_slices slices c_slices)]) rfl (by rfl) hM0 ?_
 refine st_seq (st_region [oF 0] (by rfl) ?_)
 refine oQ [oF 0] [(0, sl A_slices slices c_slices)] (by kernel_rfl) ?_
 refine ops_nil (fin_then (st_seq (st_region [oF 0] (by rfl) ?_)))
 refine oQ [oF 0] [(3, vI 0), (0, sl A_slices slices c_slices)] (by kernel_rfl) ?_
 refine ops_nil (fin_then ?_)
 refine st_join1 (σ := Int) (L := fun x_ => match x_ with | i1 => [(0, sl A_slices slices c_slices), (3, vI i1)]) (N := fun x_ => match x_ with | i1 => Mem w0 (Fz F W :: cs)) (I := fun x_ => match x_ with | i1 => ((slices_Concat_int_int_j1 slices) i1 = some l9003)) ?_ ?_
 ·
  rintro i1 hp
  unfold slices_Concat_int_int_j1 at hp
  refine st_seq (st_region [oF 0, oF 1, oF 2] (by rfl) ?_)
  refine oQ [oF 0] [(23, vI i1), (0, sl A_slices slices c_slices)] (by kernel_rfl) ?_
  obtain ⟨x2, hv3, hp⟩ := obind hp
  refine ops_callI (σ := (Option Addr) × Nat × (List Value)) (d := some 24) (f := 128) (args := #[.slice none 0 0, vI i1]) (v := (fun x_ => match x_ with | (A4, c5, y6) => sl A4 x2 c5)) (I := (fun x_ => match x_ with | (A4, c5, y6) => (RepL (Rep.int .i64) F W x2 y6))) (M' := (fun x_ => match x_ with | (A4, c5, y6) => Mem w0 (ow A4 x2 c5 3 1 y6 :: Fz F W :: cs))) ⟨by kernel_rfl⟩ (fun w_ hM hS => (slices_Grow_int_int_ok w0 w_ (cs) F W i1 hM  x2 hv3).mono (by rintro e w' ⟨A4, c5, y6, h7, rfl, h'⟩; have h' : Mem w0 (ow A4 x2 c5 3 1 y6 :: Fz F W :: cs) w' := h'; exact ⟨(A4, c5, y6), h7, rfl, h', trivial⟩)) ?_
  rintro ⟨A4, c5, y6⟩ h7
  refine oQ [oF 2] [(6, sl A4 x2 c5), (0, sl A_slices slices c_slices)] (by kernel_rfl) ?_
  refine ops_nil (fin_then ?_)
  refine st_join1 (σ := (Option Addr) × Nat × (List Int) × (List Value)) (L := fun x_ => match x_ with | (A8, c9, l10, y11) => [(6, sl A8 l10 c9)]) (N := fun x_ => match x_ with | (A8, c9, l10, y11) => Mem w0 (ow A8 l10 c9 3 1 y11 :: Fz F W :: cs)) (I := fun x_ => match x_ with | (A8, c9, l10, y11) => (slices_Concat_int_int_j2 l10 = some l9003) ∧ (RepL (Rep.int .i64) F W l10 y11)) ?_ ?_
  ·
   rintro ⟨A8, c9, l10, y11⟩ ⟨hp, h12⟩
   unfold slices_Concat_int_int_j2 at hp
   refine st_seq (st_region [oF 0, oF 1] (by rfl) ?_)
   refine oQ [oF 0, oF 1] [(2, sl A8 l10 c9)] (by kernel_rfl) ?_
   refine ops_nil (fin_then (st_ret ?_))
   have hq_ := Option.some.inj hp
   have hr0_ := hq_
   subst hr0_
   refine fin_ret [.tmp 2] [sl A8 l10 c9] rfl rfl (fun w_ hM => (.tmp rfl .nil)) (fun w_ hM => ?_)
   exact ⟨A8, c9, y11, h12, rfl, hM⟩
  ·
   intro HJ2
   refine st_seq (st_seq (st_region [oF 0, oF 1, oF 2] (by rfl) ?_))
   refine oQ [oF 0, oF 1, oF 2] [(27, vI 0), (26, vI (slices.length : Int)), (25, sl A_slices slices c_slices), (6, sl A4 x2 c5)] (by kernel_rfl) ?_
   refine ops_nil (fin_then (st_block ?_))
   obtain ⟨r3, hl3, hk3⟩ := obind hp
   refine st_loopP (σ := (List Int) × Int) (ρ := (List Int)) (γ := (Option Addr) × Nat × (List Value)) hl3 (A4, c5, y6) (fun s_ g_ => match s_, g_ with | (l15, i18), (A13, c14, y16) => [(6, sl A13 l15 c14), (25, sl A_slices slices c_slices), (26, vI (slices.length : Int)), (27, vI i18)]) (fun s_ g_ => match s_, g_ with | (l15, i18), (A13, c14, y16) => Mem w0 (ow A13 l15 c14 3 1 y16 :: Fz F W :: cs)) (fun s_ g_ => match s_, g_ with | (l15, i18), (A13, c14, y16) => (RepL (Rep.int .i64) F W l15 y16)) h7 (look_has ⟨rfl, rfl, rfl, rfl, trivial⟩) (fun w_ hM => hM) ?_
   rintro ⟨l15, i18⟩ ⟨A13, c14, y16⟩ o3 h17 hs_ hd3
   have hp : (slices_Concat_int_int_l3 slices) l15 i18 = some o3 := hs_
   clear hs_
   unfold slices_Concat_int_int_l3 at hp
   refine st_seq (st_region [oF 0] (by rfl) ?_)
   refine oQ [oF 0] [(28, .bool (decide (i18 < (slices.length : Int)))), (6, sl A13 l15 c14), (25, sl A_slices slices c_slices), (26, vI (slices.length : Int)), (27, vI i18)] (by kernel_rfl) ?_
   refine ops_nil (fin_then (st_seq ?_))
   refine st_if (b := decide (i18 < (slices.length : Int))) rfl (fun hc19 => ?_) (fun hc19 => ?_)
   ·
    have hp := cnd_t hc19 hp
    refine st_skip (fin_then (st_seq (st_block (st_seq (st_region [oF 0, oF 1, oF 2] (by rfl) ?_)))))
    obtain ⟨x20, hv21, hp⟩ := obind hp
    obtain ⟨m22, hm23, hx24⟩ := idx_some hv21
    have hl27 := (List.getElem?_eq_some_iff.1 hx24).1
    obtain ⟨ad28, vs25, hA29, hr26, hq30⟩ := RdS.el h_slices hx24
    obtain ⟨A31, c32, rfl, h33⟩ := hr26
    refine ops_val (op := (.indexAddr 172 (.tmp 25) (.tmp 27))) (d := some 29) (v := .pointer (some (ad28.add (m22 * 1)))) ⟨by kernel_rfl⟩ (run_indexA hA29 Tryd.underlying172 (z := 1) (by kernel_rfl) rfl rfl hm23 hl27) ?_
    refine ops_mem (d := some 30) (an := [.v (sl A31 x20 c32)]) (evs := [.load (ad28.add (m22 * 1)) (sl A31 x20 c32)]) (v := sl A31 x20 c32) ⟨by kernel_rfl⟩ (fun w_ hM hS => ⟨w_, ⟨hM.elcell 1 rfl hq30 0 rfl, rfl⟩, hM, trivial⟩) ?_
    refine oQ [oF 2] [(8, sl A31 x20 c32), (6, sl A13 l15 c14), (25, sl A_slices slices c_slices), (26, vI (slices.length : Int)), (27, vI i18)] (by kernel_rfl) ?_
    refine ops_nil (fin_then (st_region [oF 0, oF 1, oF 2, oF 3] (by rfl) ?_))
    refine oQ [oF 0, oF 1] [(32, sl A31 x20 c32), (31, sl A13 l15 c14), (6, sl A13 l15 c14), (25, sl A_slices slices c_slices), (26, vI (slices.length : Int)), (27, vI i18)] (by kernel_rfl) ?_
    obtain ⟨l34, hv35, hp⟩ := obind hp
    obtain ⟨he36, hb37⟩ := app_some hv35
    obtain ⟨y41, h42, hs43⟩ := RdS.src h33
    obtain ⟨y38, hy39⟩ : ∃ y_, y16 ++ y41 = y_ := ⟨_, rfl⟩
    have h40 : RepL (Rep.int .i64) F W l34 y38 := by rw [he36, ← hy39]; exact RepL.app h17 h42
    refine ops_appendO (x := (Go.Operand.tmp 31)) (y := (Go.Operand.tmp 32)) (t := 44) (e := 3) (d := some 33) (n' := l34.length) (z := 1) (m := x20.length) (bytes := 8) (xs' := y38) (news := y41) (zv := vI 0) 0 ⟨by kernel_rfl⟩ rfl rfl Tryd.underlying44 (by kernel_rfl) (by rfl) rfl (fun w_ hM => hM.srcS 1 rfl h42 hs43) h42.len h42.one hb37 (by have z_ := congrArg List.length he36; rw [List.length_append] at z_; exact z_.symm) hy39 (fun _ _ _ _ hS h' => trivial) ?_
    rintro ⟨A44, c45⟩
    refine oQ [oF 3] [(6, sl A44 l34 c45), (25, sl A_slices slices c_slices), (26, vI (slices.length : Int)), (27, vI i18)] (by kernel_rfl) ?_
    refine ops_nil (fin_block (fin_then (st_region [oF 0, oF 1] (by rfl) ?_)))
    refine oQ [oF 0, oF 1] [(27, vI (IntKind.i64.wrap (i18 + 1))), (6, sl A44 l34 c45), (25, sl A_slices slices c_slices), (26, vI (slices.length : Int))] (by kernel_rfl) ?_
    refine ops_nil ?_
    exact fin_again (l34, IntKind.i64.wrap (i18 + 1)) (A44, c45, y38) (Option.some.inj hp).symm h40 (look_has ⟨rfl, rfl, rfl, rfl, trivial⟩) (fun w_ hM => hM)
   ·
    have hp := cnd_f hc19 hp
    refine st_exit (fin_exit_then (fin_exit_then (fin_exit ?_)))
    obtain hq_ := Option.some.inj hp
    subst hq_
    obtain hq_ := hd3 _ rfl
    subst hq_
    have hp : slices_Concat_int_int_j2 l15 = some l9003 := hk3
    exact fin_join HJ2 (A13, c14, l15, y16) ⟨hp, h17⟩ (look_has ⟨rfl, trivial⟩) (fun w_ hM => hM)
 ·
  intro HJ1
  refine st_seq (st_seq (st_region [oF 0, oF 1, oF 2] (by rfl) ?_))
  refine oQ [oF 0, oF 1, oF 2] [(11, vI 0), (10, vI (slices.length : Int)), (9, sl A_slices slices c_slices), (3, vI 0), (0, sl A_slices slices c_slices)] (by kernel_rfl) ?_
  refine ops_nil (fin_then (st_block ?_))
  obtain ⟨r4, hl4, hk4⟩ := obind hp
  refine st_loopP (σ := Int × Int) (ρ := Int) (γ := Unit) hl4 () (fun s_ g_ => match s_, g_ with | (i46, i47), _ => [(0, sl A_slices slices c_slices), (3, vI i46), (9, sl A_slices slices c_slices), (10, vI (slices.length : Int)), (11, vI i47)]) (fun s_ g_ => match s_, g_ with | (i46, i47), _ => Mem w0 (Fz F W :: cs)) (fun s_ g_ => match s_, g_ with | (i46, i47), _ => True) trivial (look_has ⟨rfl, rfl, rfl, rfl, rfl, trivial⟩) (fun w_ hM => hM) ?_
  rintro ⟨i46, i47⟩ _ o4 - hs_ hd4
  have hp : (slices_Concat_int_int_l4 slices) i46 i47 = some o4 := hs_
  clear hs_
  unfold slices_Concat_int_int_l4 at hp
  refine st_seq (st_region [oF 0] (by rfl) ?_)
  refine oQ [oF 0] [(12, .bool (decide (i47 < (slices.length : Int)))), (0, sl A_slices slices c_slices), (3, vI i46), (9, sl A_slices slices c_slices), (10, vI (slices.length : Int)), (11, vI i47)] (by kernel_rfl) ?_
  refine ops_nil (fin_then (st_seq ?_))
  refine st_if (b := decide (i47 < (slices.length : Int))) rfl (fun hc48 => ?_) (fun hc48 => ?_)
  ·
   have hp := cnd_t hc48 hp
   refine st_skip (fin_then (st_seq (st_block (st_seq (st_region [oF 0, oF 1, oF 2] (by rfl) ?_)))))
   obtain ⟨x49, hv50, hp⟩ := obind hp
   obtain ⟨m51, hm52, hx53⟩ := idx_some hv50
   have hl56 := (List.getElem?_eq_some_iff.1 hx53).1
   obtain ⟨ad57, vs54, hA58, hr55, hq59⟩ := RdS.el h_slices hx53
   obtain ⟨A60, c61, rfl, h62⟩ := hr55
   refine ops_val (op := (.indexAddr 172 (.tmp 9) (.tmp 11))) (d := some 13) (v := .pointer (some (ad57.add (m51 * 1)))) ⟨by kernel_rfl⟩ (run_indexA hA58 Tryd.underlying172 (z := 1) (by kernel_rfl) rfl rfl hm52 hl56) ?_
   refine ops_mem (d := some 14) (an := [.v (sl A60 x49 c61)]) (evs := [.load (ad57.add (m51 * 1)) (sl A60 x49 c61)]) (v := sl A60 x49 c61) ⟨by kernel_rfl⟩ (fun w_ hM hS => ⟨w_, ⟨hM.elcell 0 rfl hq59 0 rfl, rfl⟩, hM, trivial⟩) ?_
   refine oQ [oF 2] [(5, sl A60 x49 c61), (0, sl A_slices slices c_slices), (3, vI i46), (9, sl A_slices slices c_slices), (10, vI (slices.length : Int)), (11, vI i47)] (by kernel_rfl) ?_
   refine ops_nil (fin_then (st_seq (st_region [oF 0, oF 1, oF 2, oF 3, oF 4] (by rfl) ?_)))
   refine oQ [oF 0, oF 1, oF 2, oF 3, oF 4] [(3, vI (IntKind.i64.wrap (i46 + (x49.length : Int)))), (0, sl A_slices slices c_slices), (9, sl A_slices slices c_slices), (10, vI (slices.length : Int)), (11, vI i47)] (by kernel_rfl) ?_
   refine ops_nil (fin_then (st_seq (st_region [oF 0, oF 1] (by rfl) ?_)))
   refine oQ [oF 0, oF 1] [(20, .bool (decide (IntKind.i64.wrap (i46 + (x49.length : Int)) < 0))), (3, vI (IntKind.i64.wrap (i46 + (x49.length : Int)))), (0, sl A_slices slices c_slices), (9, sl A_slices slices c_slices), (10, vI (slices.length : Int)), (11, vI i47)] (by kernel_rfl) ?_
   refine ops_nil (fin_then ?_)
   refine st_if (b := decide (IntKind.i64.wrap (i46 + (x49.length : Int)) < 0)) rfl (fun hc63 => ?_) (fun hc63 => ?_)
   ·
    have hp := cnd_t hc63 hp
    cases hp
   ·
    have hp := cnd_f hc63 hp
    refine st_skip (fin_block (fin_then (st_region [oF 0, oF 1] (by rfl) ?_)))
    refine oQ [oF 0, oF 1] [(11, vI (IntKind.i64.wrap (i47 + 1))), (3, vI (IntKind.i64.wrap (i46 + (x49.length : Int)))), (0, sl A_slices slices c_slices), (9, sl A_slices slices c_slices), (10, vI (slices.length : Int))] (by kernel_rfl) ?_
    refine ops_nil ?_
    exact fin_again (IntKind.i64.wrap (i46 + (x49.length : Int)), IntKind.i64.wrap (i47 + 1)) () (Option.some.inj hp).symm trivial (look_has ⟨rfl, rfl, rfl, rfl, rfl, trivial⟩) (fun w_ hM => hM)
  ·
   have hp := cnd_f hc48 hp
   refine st_exit (fin_exit_then (fin_exit_then (fin_exit ?_)))
   obtain hq_ := Option.some.inj hp
   subst hq_
   obtain hq_ := hd4 _ rfl
   subst hq_
   have hp : (slices_Concat_int_int_j1 slices) i46 = some l9003 := hk4
   exact fin_join HJ1 i46 hp (look_has ⟨rfl, rfl, trivial⟩) (fun w_ hM => hM)
theorem system_Check_2_ok (w0 w : World) (cs : List Chunk) (F : Nat → Prop) (W : World) (x : Int) (b_p1 : Nat) (p1_0 : ByteArray) (A_p1_1 : Option Addr) (c_p1_1 : Nat) (p1_1 : List Int) (A_p1_2 : Option Addr) (c_p1_2 : Nat) (p1_2 : List Int) (A_p1_3 : Option Addr) (c_p1_3 : Nat) (p1_3 : List Int) (A_p1_4 : Option Addr) (c_p1_4 : Nat) (p1_4 : List Int) (A_p1_5 : Option Addr) (c_p1_5 : Nat) (p1_5 : List api_Op) (A_p1_6 : Option Addr) (c_p1_6 : Nat) (p1_6 : List api_Comp) (hM0 : Mem w0 (.blk b_p1 [.string p1_0, sl A_p1_1 p1_1 c_p1_1, sl A_p1_2 p1_2 c_p1_2, sl A_p1_3 p1_3 c_p1_3, sl A_p1_4 p1_4 c_p1_4, sl A_p1_5 p1_5 c_p1_5, sl A_p1_6 p1_6 c_p1_6] 96 :: Fz F W :: cs) w) (h_p1_1 : RdS (Rep.int .i64) F W A_p1_1 c_p1_1 p1_1) (h_p1_2 : RdS (Rep.int .i64) F W A_p1_2 c_p1_2 p1_2) (h_p1_3 : RdS (Rep.int .i64) F W A_p1_3 c_p1_3 p1_3) (h_p1_4 : RdS (Rep.int .i64) F W A_p1_4 c_p1_4 p1_4) (h_p1_5 : RdS R_api_Op F W A_p1_5 c_p1_5 p1_5) (h_p1_6 : RdS R_api_Comp F W A_p1_6 c_p1_6 p1_6) (t9001 : Bool) (hp : system_Check_2 x p1_0 p1_1 p1_2 p1_3 p1_4 p1_5 p1_6 = some t9001) : Calls Tryd.prog 92 #[vI x, vP b_p1 0] w fun e w' => ((RdS (Rep.int .i64) F W A_p1_1 c_p1_1 p1_1) ∧ (RdS (Rep.int .i64) F W A_p1_2 c_p1_2 p1_2) ∧ (RdS (Rep.int .i64) F W A_p1_3 c_p1_3 p1_3) ∧ (RdS (Rep.int .i64) F W A_p1_4 c_p1_4 p1_4) ∧ (RdS R_api_Op F W A_p1_5 c_p1_5 p1_5) ∧ (RdS R_api_Comp F W A_p1_6 c_p1_6 p1_6)) ∧ e = .returned (.bool t9001) ∧ Mem w0 (.blk b_p1 [.string p1_0, sl A_p1_1 p1_1 c_p1_1, sl A_p1_2 p1_2 c_p1_2, sl A_p1_3 p1_3 c_p1_3, sl A_p1_4 p1_4 c_p1_4, sl A_p1_5 p1_5 c_p1_5, sl A_p1_6 p1_6 c_p1_6] 96 :: Fz F W :: cs) w' := by
 unfold system_Check_2 at hp
 refine sx_calls Tryd.func92 rfl (n := 9) (by kernel_rfl) (l := [(0, vI x), (1, vP b_p1 0)]) rfl (by rfl) hM0 ?_
 refine st_seq (st_region [oF 0] (by rfl) ?_)
 refine oQ [oF 0] [(0, vI x), (1, vP b_p1 0)] (by kernel_rfl) ?_
 refine ops_nil (fin_then (st_seq (st_region [oF 0, oF 1, oF 2, oF 3, oF 4, oF 5] (by rfl) ?_)))
 refine oQ [oF 0] [(4, vP b_p1 1), (0, vI x)] (by kernel_rfl) ?_
 refine ops_mem (d := some 5) (an := [.v (sl A_p1_1 p1_1 c_p1_1)]) (evs := [ld b_p1 1 (sl A_p1_1 p1_1 c_p1_1)]) (v := sl A_p1_1 p1_1 c_p1_1) ⟨by kernel_rfl⟩ (fun w_ hM hS => ⟨w_, ⟨hM.cell 0 rfl rfl, rfl⟩, hM, trivial⟩) ?_
 refine oQ [oF 2] [(6, vI x), (5, sl A_p1_1 p1_1 c_p1_1)] (by kernel_rfl) ?_
 obtain ⟨x1, hv2, hp⟩ := obind hp
 refine ops_callI (σ := Unit) (d := some 7) (f := 90) (args := #[sl A_p1_1 p1_1 c_p1_1, vI x]) (v := (fun _ => .bool x1)) (I := (fun _ => True)) (M' := (fun _ => Mem w0 (.blk b_p1 [.string p1_0, sl A_p1_1 p1_1 c_p1_1, sl A_p1_2 p1_2 c_p1_2, sl A_p1_3 p1_3 c_p1_3, sl A_p1_4 p1_4 c_p1_4, sl A_p1_5 p1_5 c_p1_5, sl A_p1_6 p1_6 c_p1_6] 96 :: Fz F W :: cs))) ⟨by kernel_rfl⟩ (fun w_ hM hS => (slices_Contains_int_int_ok w0 w_ (.blk b_p1 [.string p1_0, sl A_p1_1 p1_1 c_p1_1, sl A_p1_2 p1_2 c_p1_2, sl A_p1_3 p1_3 c_p1_3, sl A_p1_4 p1_4 c_p1_4, sl A_p1_5 p1_5 c_p1_5, sl A_p1_6 p1_6 c_p1_6] 96 :: cs) F W A_p1_1 c_p1_1 p1_1 x (hM.pick 2 [1, 0] (by kernel_rfl) (by decide) rfl) h_p1_1 x1 hv2).mono (by rintro e w' ⟨-, rfl, h'⟩; have h' : Mem w0 (.blk b_p1 [.string p1_0, sl A_p1_1 p1_1 c_p1_1, sl A_p1_2 p1_2 c_p1_2, sl A_p1_3 p1_3 c_p1_3, sl A_p1_4 p1_4 c_p1_4, sl A_p1_5 p1_5 c_p1_5, sl A_p1_6 p1_6 c_p1_6] 96 :: Fz F W :: cs) w' := (h'.pick 2 [1, 0] (by kernel_rfl) (by decide) rfl); exact ⟨(), trivial, rfl, h', trivial⟩)) ?_
 rintro _ -
 refine oQ [oF 4, oF 5] [(3, .bool (!x1))] (by kernel_rfl) ?_
 refine ops_nil (fin_then (st_ret ?_))
 have hq_ := Option.some.inj hp
 have hr0_ := hq_
 subst hr0_
 refine fin_ret [.tmp 3] [.bool (!x1)] rfl rfl (fun w_ hM => (.tmp rfl .nil)) (fun w_ hM => ?_)
 exact ⟨⟨h_p1_1, h_p1_2, h_p1_3, h_p1_4, h_p1_5, h_p1_6⟩, rfl, hM⟩
theorem slices_IndexFunc_int_int_v2_ok (w0 w : World) (cs : List Chunk) (F : Nat → Prop) (W : World) (A_s : Option Addr) (c_s : Nat) (s : List Int) (b_f_c0 : Nat) (f_c0_0 : ByteArray) (A_f_c0_1 : Option Addr) (c_f_c0_1 : Nat) (f_c0_1 : List Int) (A_f_c0_2 : Option Addr) (c_f_c0_2 : Nat) (f_c0_2 : List Int) (A_f_c0_3 : Option Addr) (c_f_c0_3 : Nat) (f_c0_3 : List Int) (A_f_c0_4 : Option Addr) (c_f_c0_4 : Nat) (f_c0_4 : List Int) (A_f_c0_5 : Option Addr) (c_f_c0_5 : Nat) (f_c0_5 : List api_Op) (A_f_c0_6 : Option Addr) (c_f_c0_6 : Nat) (f_c0_6 : List api_Comp) (hM0 : Mem w0 (.blk b_f_c0 [.string f_c0_0, sl A_f_c0_1 f_c0_1 c_f_c0_1, sl A_f_c0_2 f_c0_2 c_f_c0_2, sl A_f_c0_3 f_c0_3 c_f_c0_3, sl A_f_c0_4 f_c0_4 c_f_c0_4, sl A_f_c0_5 f_c0_5 c_f_c0_5, sl A_f_c0_6 f_c0_6 c_f_c0_6] 96 :: Fz F W :: cs) w) (h_s : RdS (Rep.int .i64) F W A_s c_s s) (h_f_c0_1 : RdS (Rep.int .i64) F W A_f_c0_1 c_f_c0_1 f_c0_1) (h_f_c0_2 : RdS (Rep.int .i64) F W A_f_c0_2 c_f_c0_2 f_c0_2) (h_f_c0_3 : RdS (Rep.int .i64) F W A_f_c0_3 c_f_c0_3 f_c0_3) (h_f_c0_4 : RdS (Rep.int .i64) F W A_f_c0_4 c_f_c0_4 f_c0_4) (h_f_c0_5 : RdS R_api_Op F W A_f_c0_5 c_f_c0_5 f_c0_5) (h_f_c0_6 : RdS R_api_Comp F W A_f_c0_6 c_f_c0_6 f_c0_6) (i9001 : Int) (hp : slices_IndexFunc_int_int_v2 s f_c0_0 f_c0_1 f_c0_2 f_c0_3 f_c0_4 f_c0_5 f_c0_6 = some i9001) : Calls Tryd.prog 126 #[sl A_s s c_s, .func (.func 92) #[] #[vP b_f_c0 0]] w fun e w' => ((RdS (Rep.int .i64) F W A_f_c0_1 c_f_c0_1 f_c0_1) ∧ (RdS (Rep.int .i64) F W A_f_c0_2 c_f_c0_2 f_c0_2) ∧ (RdS (Rep.int .i64) F W A_f_c0_3 c_f_c0_3 f_c0_3) ∧ (RdS (Rep.int .i64) F W A_f_c0_4 c_f_c0_4 f_c0_4) ∧ (RdS R_api_Op F W A_f_c0_5 c_f_c0_5 f_c0_5) ∧ (RdS R_api_Comp F W A_f_c0_6 c_f_c0_6 f_c0_6)) ∧ e = .returned (vI i9001) ∧ Mem w0 (.blk b_f_c0 [.string f_c0_0, sl A_f_c0_1 f_c0_1 c_f_c0_1, sl A_f_c0_2 f_c0_2 c_f_c0_2, sl A_f_c0_3 f_c0_3 c_f_c0_3, sl A_f_c0_4 f_c0_4 c_f_c0_4, sl A_f_c0_5 f_c0_5 c_f_c0_5, sl A_f_c0_6 f_c0_6 c_f_c0_6] 96 :: Fz F W :: cs) w' := by
 unfold slices_IndexFunc_int_int_v2 at hp
 refine sx_calls Tryd.func126 rfl (n := 19) (by kernel_rfl) (l := [(0, sl A_s s c_s), (1, .func (.func 92) #[] #[vP b_f_c0 0])]) rfl (by rfl) hM0 ?_
 refine st_seq (st_region [oF 0] (by rfl) ?_)
 refine oQ [oF 0] [(0, sl A_s s c_s), (1, .func (.func 92) #[] #[vP b_f_c0 0])] (by kernel_rfl) ?_
 refine ops_nil (fin_then ?_)
 refine st_join1 (σ := Unit) (L := fun _ => []) (N := fun _ => Mem w0 (.blk b_f_c0 [.string f_c0_0, sl A_f_c0_1 f_c0_1 c_f_c0_1, sl A_f_c0_2 f_c0_2 c_f_c0_2, sl A_f_c0_3 f_c0_3 c_f_c0_3, sl A_f_c0_4 f_c0_4 c_f_c0_4, sl A_f_c0_5 f_c0_5 c_f_c0_5, sl A_f_c0_6 f_c0_6 c_f_c0_6] 96 :: Fz F W :: cs)) (I := fun _ => (slices_IndexFunc_int_int_v2_j1 = some i9001) ∧ (RdS (Rep.int .i64) F W A_f_c0_1 c_f_c0_1 f_c0_1) ∧ (RdS (Rep.int .i64) F W A_f_c0_2 c_f_c0_2 f_c0_2) ∧ (RdS (Rep.int .i64) F W A_f_c0_3 c_f_c0_3 f_c0_3) ∧ (RdS (Rep.int .i64) F W A_f_c0_4 c_f_c0_4 f_c0_4) ∧ (RdS R_api_Op F W A_f_c0_5 c_f_c0_5 f_c0_5) ∧ (RdS R_api_Comp F W A_f_c0_6 c_f_c0_6 f_c0_6)) ?_ ?_
 ·
  rintro _ ⟨hp, h1, h2, h3, h4, h5, h6⟩
  unfold slices_IndexFunc_int_int_v2_j1 at hp
  refine st_seq (st_region [oF 0] (by rfl) ?_)
  refine oQ [oF 0] [(4, vI (-1))] (by kernel_rfl) ?_
  refine ops_nil (fin_then (st_ret ?_))
  have hq_ := Option.some.inj hp
  have hr0_ := hq_
  subst hr0_
  refine fin_ret [.tmp 4] [vI (-1)] rfl rfl (fun w_ hM => (.tmp rfl .nil)) (fun w_ hM => ?_)
  exact ⟨⟨h1, h2, h3, h4, h5, h6⟩, rfl, hM⟩
 ·
  intro HJ1
  refine st_seq (st_seq (st_region [oF 0, oF 1, oF 2] (by rfl) ?_))
  refine oQ [oF 0, oF 1, oF 2] [(8, vI 0), (7, vI (s.length : Int)), (0, sl A_s s c_s), (1, .func (.func 92) #[] #[vP b_f_c0 0])] (by kernel_rfl) ?_
  refine ops_nil (fin_then (st_block ?_))
  obtain ⟨r2, hl2, hk2⟩ := obind hp
  refine st_loopP (σ := Int) (ρ := (Int ⊕ Unit)) (γ := Unit) hl2 () (fun s_ g_ => match s_, g_ with | i13, _ => [(0, sl A_s s c_s), (1, .func (.func 92) #[] #[vP b_f_c0 0]), (7, vI (s.length : Int)), (8, vI i13)]) (fun s_ g_ => match s_, g_ with | i13, _ => Mem w0 (.blk b_f_c0 [.string f_c0_0, sl A_f_c0_1 f_c0_1 c_f_c0_1, sl A_f_c0_2 f_c0_2 c_f_c0_2, sl A_f_c0_3 f_c0_3 c_f_c0_3, sl A_f_c0_4 f_c0_4 c_f_c0_4, sl A_f_c0_5 f_c0_5 c_f_c0_5, sl A_f_c0_6 f_c0_6 c_f_c0_6] 96 :: Fz F W :: cs)) (fun s_ g_ => match s_, g_ with | i13, _ => (RdS (Rep.int .i64) F W A_f_c0_1 c_f_c0_1 f_c0_1) ∧ (RdS (Rep.int .i64) F W A_f_c0_2 c_f_c0_2 f_c0_2) ∧ (RdS (Rep.int .i64) F W A_f_c0_3 c_f_c0_3 f_c0_3) ∧ (RdS (Rep.int .i64) F W A_f_c0_4 c_f_c0_4 f_c0_4) ∧ (RdS R_api_Op F W A_f_c0_5 c_f_c0_5 f_c0_5) ∧ (RdS R_api_Comp F W A_f_c0_6 c_f_c0_6 f_c0_6)) ⟨h_f_c0_1, h_f_c0_2, h_f_c0_3, h_f_c0_4, h_f_c0_5, h_f_c0_6⟩ (look_has ⟨rfl, rfl, rfl, rfl, trivial⟩) (fun w_ hM => hM) ?_
  rintro i13 _ o2 ⟨h7, h8, h9, h10, h11, h12⟩ hs_ hd2
  have hp : (slices_IndexFunc_int_int_v2_l2 s f_c0_0 f_c0_1 f_c0_2 f_c0_3 f_c0_4 f_c0_5 f_c0_6) i13 = some o2 := hs_
  clear hs_
  unfold slices_IndexFunc_int_int_v2_l2 at hp
  refine st_seq (st_region [oF 0] (by rfl) ?_)
  refine oQ [oF 0] [(9, .bool (decide (i13 < (s.length : Int)))), (0, sl A_s s c_s), (1, .func (.func 92) #[] #[vP b_f_c0 0]), (7, vI (s.length : Int)), (8, vI i13)] (by kernel_rfl) ?_
  refine ops_nil (fin_then (st_seq ?_))
  refine st_if (b := decide (i13 < (s.length : Int))) rfl (fun hc14 => ?_) (fun hc14 => ?_)
  ·
   have hp := cnd_t hc14 hp
   refine st_skip (fin_then (st_seq (st_block (st_seq (st_region [oF 0, oF 1] (by rfl) ?_)))))
   refine oQ [oF 0, oF 1] [(5, vI i13), (0, sl A_s s c_s), (1, .func (.func 92) #[] #[vP b_f_c0 0]), (7, vI (s.length : Int)), (8, vI i13)] (by kernel_rfl) ?_
   refine ops_nil (fin_then (st_seq (st_region [oF 0, oF 1, oF 2, oF 3, oF 4, oF 5] (by rfl) ?_)))
   refine oQ [oF 0, oF 1, oF 2] [(13, vI i13), (12, sl A_s s c_s), (11, .func (.func 92) #[] #[vP b_f_c0 0]), (5, vI i13), (0, sl A_s s c_s), (1, .func (.func 92) #[] #[vP b_f_c0 0]), (7, vI (s.length : Int)), (8, vI i13)] (by kernel_rfl) ?_
   obtain ⟨x15, hv16, hp⟩ := obind hp
   obtain ⟨m17, hm18, hx19⟩ := idx_some hv16
   have hl22 := (List.getElem?_eq_some_iff.1 hx19).1
   obtain ⟨ad23, vs20, hA24, hr21, hq25⟩ := RdS.el h_s hx19
   obtain rfl := hr21
   refine ops_val (op := (.indexAddr 44 (.tmp 12) (.tmp 13))) (d := some 14) (v := .pointer (some (ad23.add (m17 * 1)))) ⟨by kernel_rfl⟩ (run_indexA hA24 Tryd.underlying44 (z := 1) (by kernel_rfl) rfl rfl hm18 hl22) ?_
   refine ops_mem (d := some 15) (an := [.v (vI x15)]) (evs := [.load (ad23.add (m17 * 1)) (vI x15)]) (v := vI x15) ⟨by kernel_rfl⟩ (fun w_ hM hS => ⟨w_, ⟨hM.elcell 1 rfl hq25 0 rfl, rfl⟩, hM, trivial⟩) ?_
   obtain ⟨x26, hv27, hp⟩ := obind hp
   refine ops_callI (σ := Unit) (d := some 16) (f := 92) (args := #[vI x15, vP b_f_c0 0]) (v := (fun _ => .bool x26)) (I := (fun _ => (RdS (Rep.int .i64) F W A_f_c0_1 c_f_c0_1 f_c0_1) ∧ (RdS (Rep.int .i64) F W A_f_c0_2 c_f_c0_2 f_c0_2) ∧ (RdS (Rep.int .i64) F W A_f_c0_3 c_f_c0_3 f_c0_3) ∧ (RdS (Rep.int .i64) F W A_f_c0_4 c_f_c0_4 f_c0_4) ∧ (RdS R_api_Op F W A_f_c0_5 c_f_c0_5 f_c0_5) ∧ (RdS R_api_Comp F W A_f_c0_6 c_f_c0_6 f_c0_6))) (M' := (fun _ => Mem w0 (.blk b_f_c0 [.string f_c0_0, sl A_f_c0_1 f_c0_1 c_f_c0_1, sl A_f_c0_2 f_c0_2 c_f_c0_2, sl A_f_c0_3 f_c0_3 c_f_c0_3, sl A_f_c0_4 f_c0_4 c_f_c0_4, sl A_f_c0_5 f_c0_5 c_f_c0_5, sl A_f_c0_6 f_c0_6 c_f_c0_6] 96 :: Fz F W :: cs))) ⟨by kernel_rfl⟩ (fun w_ hM hS => (system_Check_2_ok w0 w_ (cs) F W x15 b_f_c0 f_c0_0 A_f_c0_1 c_f_c0_1 f_c0_1 A_f_c0_2 c_f_c0_2 f_c0_2 A_f_c0_3 c_f_c0_3 f_c0_3 A_f_c0_4 c_f_c0_4 f_c0_4 A_f_c0_5 c_f_c0_5 f_c0_5 A_f_c0_6 c_f_c0_6 f_c0_6 hM h7 h8 h9 h10 h11 h12 x26 hv27).mono (by rintro e w' ⟨⟨h28, h29, h30, h31, h32, h33⟩, rfl, h'⟩; have h' : Mem w0 (.blk b_f_c0 [.string f_c0_0, sl A_f_c0_1 f_c0_1 c_f_c0_1, sl A_f_c0_2 f_c0_2 c_f_c0_2, sl A_f_c0_3 f_c0_3 c_f_c0_3, sl A_f_c0_4 f_c0_4 c_f_c0_4, sl A_f_c0_5 f_c0_5 c_f_c0_5, sl A_f_c0_6 f_c0_6 c_f_c0_6] 96 :: Fz F W :: cs) w' := h'; exact ⟨(), ⟨h28, h29, h30, h31, h32, h33⟩, rfl, h', trivial⟩)) ?_
   rintro _ ⟨h28, h29, h30, h31, h32, h33⟩
   refine ops_nil (fin_then ?_)
   refine st_if (b := x26) rfl (fun hc34 => ?_) (fun hc34 => ?_)
   ·
    have hp := cnd_t hc34 hp
    refine st_seq (st_region [oF 0, oF 1] (by rfl) ?_)
    refine oQ [oF 0, oF 1] [(4, vI i13)] (by kernel_rfl) ?_
    refine ops_nil (fin_then (st_ret (fin_ret_block (fin_ret_then (fin_ret_then (fin_ret_block (fin_ret_then ?_)))))))
    obtain hq_ := Option.some.inj hp
    subst hq_
    obtain hq_ := hd2 _ rfl
    subst hq_
    have hp : some i13 = some i9001 := hk2
    have hq_ := Option.some.inj hp
    have hr0_ := hq_
    subst hr0_
    refine fin_ret [.tmp 4] [vI i13] rfl rfl (fun w_ hM => (.tmp rfl .nil)) (fun w_ hM => ?_)
    exact ⟨⟨h28, h29, h30, h31, h32, h33⟩, rfl, hM⟩
   ·
    have hp := cnd_f hc34 hp
    refine st_skip (fin_block (fin_then (st_region [oF 0, oF 1] (by rfl) ?_)))
    refine oQ [oF 0, oF 1] [(8, vI (IntKind.i64.wrap (i13 + 1))), (0, sl A_s s c_s), (1, .func (.func 92) #[] #[vP b_f_c0 0]), (7, vI (s.length : Int))] (by kernel_rfl) ?_
    refine ops_nil ?_
    exact fin_again (IntKind.i64.wrap (i13 + 1)) () (Option.some.inj hp).symm ⟨h28, h29, h30, h31, h32, h33⟩ (look_has ⟨rfl, rfl, rfl, rfl, trivial⟩) (fun w_ hM => hM)
  ·
   have hp := cnd_f hc14 hp
   refine st_exit (fin_exit_then (fin_exit_then (fin_exit ?_)))
   obtain hq_ := Option.some.inj hp
   subst hq_
   obtain hq_ := hd2 _ rfl
   subst hq_
   have hp : slices_IndexFunc_int_int_v2_j1 = some i9001 := hk2
   exact fin_join HJ1 () ⟨hp, h7, h8, h9, h10, h11, h12⟩ (look_has trivial) (fun w_ hM => hM)
theorem slices_ContainsFunc_int_int_v2_ok (w0 w : World) (cs : List Chunk) (F : Nat → Prop) (W : World) (A_s : Option Addr) (c_s : Nat) (s : List Int) (b_f_c0 : Nat) (f_c0_0 : ByteArray) (A_f_c0_1 : Option Addr) (c_f_c0_1 : Nat) (f_c0_1 : List Int) (A_f_c0_2 : Option Addr) (c_f_c0_2 : Nat) (f_c0_2 : List Int) (A_f_c0_3 : Option Addr) (c_f_c0_3 : Nat) (f_c0_3 : List Int) (A_f_c0_4 : Option Addr) (c_f_c0_4 : Nat) (f_c0_4 : List Int) (A_f_c0_5 : Option Addr) (c_f_c0_5 : Nat) (f_c0_5 : List api_Op) (A_f_c0_6 : Option Addr) (c_f_c0_6 : Nat) (f_c0_6 : List api_Comp) (hM0 : Mem w0 (.blk b_f_c0 [.string f_c0_0, sl A_f_c0_1 f_c0_1 c_f_c0_1, sl A_f_c0_2 f_c0_2 c_f_c0_2, sl A_f_c0_3 f_c0_3 c_f_c0_3, sl A_f_c0_4 f_c0_4 c_f_c0_4, sl A_f_c0_5 f_c0_5 c_f_c0_5, sl A_f_c0_6 f_c0_6 c_f_c0_6] 96 :: Fz F W :: cs) w) (h_s : RdS (Rep.int .i64) F W A_s c_s s) (h_f_c0_1 : RdS (Rep.int .i64) F W A_f_c0_1 c_f_c0_1 f_c0_1) (h_f_c0_2 : RdS (Rep.int .i64) F W A_f_c0_2 c_f_c0_2 f_c0_2) (h_f_c0_3 : RdS (Rep.int .i64) F W A_f_c0_3 c_f_c0_3 f_c0_3) (h_f_c0_4 : RdS (Rep.int .i64) F W A_f_c0_4 c_f_c0_4 f_c0_4) (h_f_c0_5 : RdS R_api_Op F W A_f_c0_5 c_f_c0_5 f_c0_5) (h_f_c0_6 : RdS R_api_Comp F W A_f_c0_6 c_f_c0_6 f_c0_6) (t9001 : Bool) (hp : slices_ContainsFunc_int_int_v2 s f_c0_0 f_c0_1 f_c0_2 f_c0_3 f_c0_4 f_c0_5 f_c0_6 = some t9001) : Calls Tryd.prog 88 #[sl A_s s c_s, .func (.func 92) #[] #[vP b_f_c0 0]] w fun e w' => ((RdS (Rep.int .i64) F W A_f_c0_1 c_f_c0_1 f_c0_1) ∧ (RdS (Rep.int .i64) F W A_f_c0_2 c_f_c0_2 f_c0_2) ∧ (RdS (Rep.int .i64) F W A_f_c0_3 c_f_c0_3 f_c0_3) ∧ (RdS (Rep.int .i64) F W A_f_c0_4 c_f_c0_4 f_c0_4) ∧ (RdS R_api_Op F W A_f_c0_5 c_f_c0_5 f_c0_5) ∧ (RdS R_api_Comp F W A_f_c0_6 c_f_c0_6 f_c0_6)) ∧ e = .returned (.bool t9001) ∧ Mem w0 (.blk b_f_c0 [.string f_c0_0, sl A_f_c0_1 f_c0_1 c_f_c0_1, sl A_f_c0_2 f_c0_2 c_f_c0_2, sl A_f_c0_3 f_c0_3 c_f_c0_3, sl A_f_c0_4 f_c0_4 c_f_c0_4, sl A_f_c0_5 f_c0_5 c_f_c0_5, sl A_f_c0_6 f_c0_6 c_f_c0_6] 96 :: Fz F W :: cs) w' := by
 unfold slices_ContainsFunc_int_int_v2 at hp
 refine sx_calls Tryd.func88 rfl (n := 9) (by kernel_rfl) (l := [(0, sl A_s s c_s), (1, .func (.func 92) #[] #[vP b_f_c0 0])]) rfl (by rfl) hM0 ?_
 refine st_seq (st_region [oF 0] (by rfl) ?_)
 refine oQ [oF 0] [(0, sl A_s s c_s), (1, .func (.func 92) #[] #[vP b_f_c0 0])] (by kernel_rfl) ?_
 refine ops_nil (fin_then (st_seq (st_region [oF 0, oF 1, oF 2, oF 3, oF 4] (by rfl) ?_)))
 refine oQ [oF 0, oF 1] [(6, .func (.func 92) #[] #[vP b_f_c0 0]), (5, sl A_s s c_s)] (by kernel_rfl) ?_
 obtain ⟨x1, hv2, hp⟩ := obind hp
 refine ops_callI (σ := Unit) (d := some 7) (f := 126) (args := #[sl A_s s c_s, .func (.func 92) #[] #[vP b_f_c0 0]]) (v := (fun _ => vI x1)) (I := (fun _ => (RdS (Rep.int .i64) F W A_f_c0_1 c_f_c0_1 f_c0_1) ∧ (RdS (Rep.int .i64) F W A_f_c0_2 c_f_c0_2 f_c0_2) ∧ (RdS (Rep.int .i64) F W A_f_c0_3 c_f_c0_3 f_c0_3) ∧ (RdS (Rep.int .i64) F W A_f_c0_4 c_f_c0_4 f_c0_4) ∧ (RdS R_api_Op F W A_f_c0_5 c_f_c0_5 f_c0_5) ∧ (RdS R_api_Comp F W A_f_c0_6 c_f_c0_6 f_c0_6))) (M' := (fun _ => Mem w0 (.blk b_f_c0 [.string f_c0_0, sl A_f_c0_1 f_c0_1 c_f_c0_1, sl A_f_c0_2 f_c0_2 c_f_c0_2, sl A_f_c0_3 f_c0_3 c_f_c0_3, sl A_f_c0_4 f_c0_4 c_f_c0_4, sl A_f_c0_5 f_c0_5 c_f_c0_5, sl A_f_c0_6 f_c0_6 c_f_c0_6] 96 :: Fz F W :: cs))) ⟨by kernel_rfl⟩ (fun w_ hM hS => (slices_IndexFunc_int_int_v2_ok w0 w_ (cs) F W A_s c_s s b_f_c0 f_c0_0 A_f_c0_1 c_f_c0_1 f_c0_1 A_f_c0_2 c_f_c0_2 f_c0_2 A_f_c0_3 c_f_c0_3 f_c0_3 A_f_c0_4 c_f_c0_4 f_c0_4 A_f_c0_5 c_f_c0_5 f_c0_5 A_f_c0_6 c_f_c0_6 f_c0_6 hM h_s h_f_c0_1 h_f_c0_2 h_f_c0_3 h_f_c0_4 h_f_c0_5 h_f_c0_6 x1 hv2).mono (by rintro e w' ⟨⟨h3, h4, h5, h6, h7, h8⟩, rfl, h'⟩; have h' : Mem w0 (.blk b_f_c0 [.string f_c0_0, sl A_f_c0_1 f_c0_1 c_f_c0_1, sl A_f_c0_2 f_c0_2 c_f_c0_2, sl A_f_c0_3 f_c0_3 c_f_c0_3, sl A_f_c0_4 f_c0_4 c_f_c0_4, sl A_f_c0_5 f_c0_5 c_f_c0_5, sl A_f_c0_6 f_c0_6 c_f_c0_6] 96 :: Fz F W :: cs) w' := h'; exact ⟨(), ⟨h3, h4, h5, h6, h7, h8⟩, rfl, h', trivial⟩)) ?_
 rintro _ ⟨h3, h4, h5, h6, h7, h8⟩
 refine oQ [oF 3, oF 4] [(4, .bool (decide (0 ≤ x1)))] (by kernel_rfl) ?_
 refine ops_nil (fin_then (st_ret ?_))
 have hq_ := Option.some.inj hp
 have hr0_ := hq_
 subst hr0_
 refine fin_ret [.tmp 4] [.bool (decide (0 ≤ x1))] rfl rfl (fun w_ hM => (.tmp rfl .nil)) (fun w_ hM => ?_)
 exact ⟨⟨h3, h4, h5, h6, h7, h8⟩, rfl, hM⟩
theorem world_Fit_1_ok (w0 w : World) (cs : List Chunk) (F : Nat → Prop) (W : World) (o_0 : Int) (A_o_1 : Option Addr) (c_o_1 : Nat) (o_1 : List Int) (b_p1 : Nat) (p1_0 : Int) (A_p1_1 : Option Addr) (c_p1_1 : Nat) (p1_1 : List Int) (hM0 : Mem w0 (.blk b_p1 [vI p1_0, sl A_p1_1 p1_1 c_p1_1] 135 :: Fz F W :: cs) w) (h_o_1 : RdS (Rep.int .i64) F W A_o_1 c_o_1 o_1) (h_p1_1 : RdS (Rep.int .i64) F W A_p1_1 c_p1_1 p1_1) (t9001 : Bool) (hp : world_Fit_1 o_0 o_1 p1_0 p1_1 = some t9001) : Calls Tryd.prog 130 #[.agg #[vI o_0, sl A_o_1 o_1 c_o_1], vP b_p1 0] w fun e w' => ((RdS (Rep.int .i64) F W A_p1_1 c_p1_1 p1_1)) ∧ e = .returned (.bool t9001) ∧ Mem w0 (.blk b_p1 [vI p1_0, sl A_p1_1 p1_1 c_p1_1] 135 :: Fz F W :: cs) w' := by
 unfold world_Fit_1 at hp
 refine sx_calls Tryd.func130 rfl (n := 9) (by kernel_rfl) (l := [(0, .agg #[vI o_0, sl A_o_1 o_1 c_o_1]), (1, vP b_p1 0)]) rfl (by rfl) hM0 ?_
 refine st_seq (st_region [oF 0, oF 1] (by rfl) ?_)
 refine ops_newB (d := some 2) [vI o_0, sl A_o_1 o_1 c_o_1] 135 (fun b1 => ⟨by kernel_rfl⟩) (fun w_ hM hS => trivial) (fun b1 => ?_)
 refine oQ [oF 1] [(2, vP b1 0), (1, vP b_p1 0)] (by kernel_rfl) ?_
 refine ops_nil (fin_then (st_seq (st_region [oF 0, oF 1, oF 2, oF 3, oF 4, oF 5] (by rfl) ?_)))
 refine oQ [oF 0] [(4, vP b1 0), (1, vP b_p1 0)] (by kernel_rfl) ?_
 refine ops_mem (d := some 5) (an := [.v (vI o_0)]) (evs := [ld b1 0 (vI o_0)]) (v := vI o_0) ⟨by kernel_rfl⟩ (fun w_ hM hS => ⟨w_, ⟨hM.cell 0 rfl rfl, rfl⟩, hM, trivial⟩) ?_
 refine oQ [oF 2] [(6, vP b_p1 0), (5, vI o_0)] (by kernel_rfl) ?_
 refine ops_mem (d := some 7) (an := [.v (vI p1_0)]) (evs := [ld b_p1 0 (vI p1_0)]) (v := vI p1_0) ⟨by kernel_rfl⟩ (fun w_ hM hS => ⟨w_, ⟨hM.cell 1 rfl rfl, rfl⟩, hM, trivial⟩) ?_
 refine oQ [oF 4, oF 5] [(3, .bool (o_0 == p1_0))] (by kernel_rfl) ?_
 refine ops_nil (fin_then (st_ret ?_))
 have hq_ := Option.some.inj hp
 have hr0_ := hq_
 subst hr0_
 refine fin_ret [.tmp 3] [.bool (o_0 == p1_0)] rfl rfl (fun w_ hM => (.tmp rfl .nil)) (fun w_ hM => ?_)
 exact ⟨h_p1_1, rfl, hM.pick 3 [1, 2] (by kernel_rfl) (by decide) rfl⟩
theorem slices_IndexFunc_api_Comp_api_Comp_ok (w0 w : World) (cs : List Chunk) (F : Nat → Prop) (W : World) (A_s : Option Addr) (c_s : Nat) (s : List api_Comp) (b_f_c0 : Nat) (f_c0_0 : Int) (A_f_c0_1 : Option Addr) (c_f_c0_1 : Nat) (f_c0_1 : List Int) (hM0 : Mem w0 (.blk b_f_c0 [vI f_c0_0, sl A_f_c0_1 f_c0_1 c_f_c0_1] 135 :: Fz F W :: cs) w) (h_s : RdS R_api_Comp F W A_s c_s s) (h_f_c0_1 : RdS (Rep.int .i64) F W A_f_c0_1 c_f_c0_1 f_c0_1) (i9001 : Int) (hp : slices_IndexFunc_api_Comp_api_Comp s f_c0_0 f_c0_1 = some i9001) : Calls Tryd.prog 154 #[sl A_s s c_s, .func (.func 130) #[] #[vP b_f_c0 0]] w fun e w' => ((RdS (Rep.int .i64) F W A_f_c0_1 c_f_c0_1 f_c0_1)) ∧ e = .returned (vI i9001) ∧ Mem w0 (.blk b_f_c0 [vI f_c0_0, sl A_f_c0_1 f_c0_1 c_f_c0_1] 135 :: Fz F W :: cs) w' := by
 unfold slices_IndexFunc_api_Comp_api_Comp at hp
 refine sx_calls Tryd.func154 rfl (n := 19) (by kernel_rfl) (l := [(0, sl A_s s c_s), (1, .func (.func 130) #[] #[vP b_f_c0 0])]) rfl (by rfl) hM0 ?_
 refine st_seq (st_region [oF 0] (by rfl) ?_)
 refine oQ [oF 0] [(0, sl A_s s c_s), (1, .func (.func 130) #[] #[vP b_f_c0 0])] (by kernel_rfl) ?_
 refine ops_nil (fin_then ?_)
 refine st_join1 (σ := Unit) (L := fun _ => []) (N := fun _ => Mem w0 (.blk b_f_c0 [vI f_c0_0, sl A_f_c0_1 f_c0_1 c_f_c0_1] 135 :: Fz F W :: cs)) (I := fun _ => (slices_IndexFunc_api_Comp_api_Comp_j1 = some i9001) ∧ (RdS (Rep.int .i64) F W A_f_c0_1 c_f_c0_1 f_c0_1)) ?_ ?_
 ·
  rintro _ ⟨hp, h1⟩
  unfold slices_IndexFunc_api_Comp_api_Comp_j1 at hp
  refine st_seq (st_region [oF 0] (by rfl) ?_)
  refine oQ [oF 0] [(4, vI (-1))] (by kernel_rfl) ?_
  refine ops_nil (fin_then (st_ret ?_))
  have hq_ := Option.some.inj hp
  have hr0_ := hq_
  subst hr0_
  refine fin_ret [.tmp 4] [vI (-1)] rfl rfl (fun w_ hM => (.tmp rfl .nil)) (fun w_ hM => ?_)
  exact ⟨h1, rfl, hM⟩
 ·
  intro HJ1
  refine st_seq (st_seq (st_region [oF 0, oF 1, oF 2] (by rfl) ?_))
  refine oQ [oF 0, oF 1, oF 2] [(8, vI 0), (7, vI (s.length : Int)), (0, sl A_s s c_s), (1, .func (.func 130) #[] #[vP b_f_c0 0])] (by kernel_rfl) ?_
  refine ops_nil (fin_then (st_block ?_))
  obtain ⟨r2, hl2, hk2⟩ := obind hp
  refine st_loopP (σ := Int) (ρ := (Int ⊕ Unit)) (γ := Unit) hl2 () (fun s_ g_ => match s_, g_ with | i3, _ => [(0, sl A_s s c_s), (1, .func (.func 130) #[] #[vP b_f_c0 0]), (7, vI (s.length : Int)), (8, vI i3)]) (fun s_ g_ => match s_, g_ with | i3, _ => Mem w0 (.blk b_f_c0 [vI f_c0_0, sl A_f_c0_1 f_c0_1 c_f_c0_1] 135 :: Fz F W :: cs)) (fun s_ g_ => match s_, g_ with | i3, _ => (RdS (Rep.int .i64) F W A_f_c0_1 c_f_c0_1 f_c0_1)) h_f_c0_1 (look_has ⟨rfl, rfl, rfl, rfl, trivial⟩) (fun w_ hM => hM) ?_
  rintro i3 _ o2 h2 hs_ hd2
  have hp : (slices_IndexFunc_api_Comp_api_Comp_l2 s f_c0_0 f_c0_1) i3 = some o2 := hs_
  clear hs_
  unfold slices_IndexFunc_api_Comp_api_Comp_l2 at hp
  refine st_seq (st_region [oF 0] (by rfl) ?_)
  refine oQ [oF 0] [(9, .bool (decide (i3 < (s.length : Int)))), (0, sl A_s s c_s), (1, .func (.func 130) #[] #[vP b_f_c0 0]), (7, vI (s.length : Int)), (8, vI i3)] (by kernel_rfl) ?_
  refine ops_nil (fin_then (st_seq ?_))
  refine st_if (b := decide (i3 < (s.length : Int))) rfl (fun hc4 => ?_) (fun hc4 => ?_)
  ·
   have hp := cnd_t hc4 hp
   refine st_skip (fin_then (st_seq (st_block (st_seq (st_region [oF 0, oF 1] (by rfl) ?_)))))
   refine oQ [oF 0, oF 1] [(5, vI i3), (0, sl A_s s c_s), (1, .func (.func 130) #[] #[vP b_f_c0 0]), (7, vI (s.length : Int)), (8, vI i3)] (by kernel_rfl) ?_
   refine ops_nil (fin_then (st_seq (st_region [oF 0, oF 1, oF 2, oF 3, oF 4, oF 5] (by rfl) ?_)))
   refine oQ [oF 0, oF 1, oF 2] [(13, vI i3), (12, sl A_s s c_s), (11, .func (.func 130) #[] #[vP b_f_c0 0]), (5, vI i3), (0, sl A_s s c_s), (1, .func (.func 130) #[] #[vP b_f_c0 0]), (7, vI (s.length : Int)), (8, vI i3)] (by kernel_rfl) ?_
   obtain ⟨x5, hv6, hp⟩ := obind hp
   obtain ⟨m7, hm8, hx9⟩ := idx_some hv6
   have hl12 := (List.getElem?_eq_some_iff.1 hx9).1
   obtain ⟨ad13, vs10, hA14, hr11, hq15⟩ := RdS.el h_s hx9
   obtain ⟨A16, c17, rfl, h18⟩ := dec_api_Comp hr11
   refine ops_val (op := (.indexAddr 94 (.tmp 12) (.tmp 13))) (d := some 14) (v := .pointer (some (ad13.add (m7 * 2)))) ⟨by kernel_rfl⟩ (run_indexA hA14 Tryd.underlying94 (z := 2) (by kernel_rfl) rfl rfl hm8 hl12) ?_
   refine ops_mem (d := some 15) (an := [.v (vI x5.Kind), .v (sl A16 x5.Vals c17)]) (evs := [.load (ad13.add (m7 * 2)) (vI x5.Kind), .load ((ad13.add (m7 * 2)).add 1) (sl A16 x5.Vals c17)]) (v := .agg #[vI x5.Kind, sl A16 x5.Vals c17]) ⟨by kernel_rfl⟩ (fun w_ hM hS => ⟨w_, ⟨hM.elcell 1 rfl hq15 0 rfl, hM.elcell 1 rfl hq15 1 rfl, rfl⟩, hM, trivial⟩) ?_
   obtain ⟨x19, hv20, hp⟩ := obind hp
   refine ops_callI (σ := Unit) (d := some 16) (f := 130) (args := #[.agg #[vI x5.Kind, sl A16 x5.Vals c17], vP b_f_c0 0]) (v := (fun _ => .bool x19)) (I := (fun _ => (RdS (Rep.int .i64) F W A_f_c0_1 c_f_c0_1 f_c0_1))) (M' := (fun _ => Mem w0 (.blk b_f_c0 [vI f_c0_0, sl A_f_c0_1 f_c0_1 c_f_c0_1] 135 :: Fz F W :: cs))) ⟨by kernel_rfl⟩ (fun w_ hM hS => (world_Fit_1_ok w0 w_ (cs) F W x5.Kind A16 c17 x5.Vals b_f_c0 f_c0_0 A_f_c0_1 c_f_c0_1 f_c0_1 hM h18 h2 x19 hv20).mono (by rintro e w' ⟨h21, rfl, h'⟩; have h' : Mem w0 (.blk b_f_c0 [vI f_c0_0, sl A_f_c0_1 f_c0_1 c_f_c0_1] 135 :: Fz F W :: cs) w' := h'; exact ⟨(), h21, rfl, h', trivial⟩)) ?_
   rintro _ h21
   refine ops_nil (fin_then ?_)
   refine st_if (b := x19) rfl (fun hc22 => ?_) (fun hc22 => ?_)
   ·
    have hp := cnd_t hc22 hp
    refine st_seq (st_region [oF 0, oF 1] (by rfl) ?_)
    refine oQ [oF 0, oF 1] [(4, vI i3)] (by kernel_rfl) ?_
    refine ops_nil (fin_then (st_ret (fin_ret_block (fin_ret_then (fin_ret_then (fin_ret_block (fin_ret_then ?_)))))))
    obtain hq_ := Option.some.inj hp
    subst hq_
    obtain hq_ := hd2 _ rfl
    subst hq_
    have hp : some i3 = some i9001 := hk2
    have hq_ := Option.some.inj hp
    have hr0_ := hq_
    subst hr0_
    refine fin_ret [.tmp 4] [vI i3] rfl rfl (fun w_ hM => (.tmp rfl .nil)) (fun w_ hM => ?_)
    exact ⟨h21, rfl, hM⟩
   ·
    have hp := cnd_f hc22 hp
    refine st_skip (fin_block (fin_then (st_region [oF 0, oF 1] (by rfl) ?_)))
    refine oQ [oF 0, oF 1] [(8, vI (IntKind.i64.wrap (i3 + 1))), (0, sl A_s s c_s), (1, .func (.func 130) #[] #[vP b_f_c0 0]), (7, vI (s.length : Int))] (by kernel_rfl) ?_
    refine ops_nil ?_
    exact fin_again (IntKind.i64.wrap (i3 + 1)) () (Option.some.inj hp).symm h21 (look_has ⟨rfl, rfl, rfl, rfl, trivial⟩) (fun w_ hM => hM)
  ·
   have hp := cnd_f hc4 hp
   refine st_exit (fin_exit_then (fin_exit_then (fin_exit ?_)))
   obtain hq_ := Option.some.inj hp
   subst hq_
   obtain hq_ := hd2 _ rfl
   subst hq_
   have hp : slices_IndexFunc_api_Comp_api_Comp_j1 = some i9001 := hk2
   exact fin_join HJ1 () ⟨hp, h2⟩ (look_has trivial) (fun w_ hM => hM)
theorem slices_ContainsFunc_api_Comp_api_Comp_ok (w0 w : World) (cs : List Chunk) (F : Nat → Prop) (W : World) (A_s : Option Addr) (c_s : Nat) (s : List api_Comp) (b_f_c0 : Nat) (f_c0_0 : Int) (A_f_c0_1 : Option Addr) (c_f_c0_1 : Nat) (f_c0_1 : List Int) (hM0 : Mem w0 (.blk b_f_c0 [vI f_c0_0, sl A_f_c0_1 f_c0_1 c_f_c0_1] 135 :: Fz F W :: cs) w) (h_s : RdS R_api_Comp F W A_s c_s s) (h_f_c0_1 : RdS (Rep.int .i64) F W A_f_c0_1 c_f_c0_1 f_c0_1) (t9001 : Bool) (hp : slices_ContainsFunc_api_Comp_api_Comp s f_c0_0 f_c0_1 = some t9001) : Calls Tryd.prog 129 #[sl A_s s c_s, .func (.func 130) #[] #[vP b_f_c0 0]] w fun e w' => ((RdS (Rep.int .i64) F W A_f_c0_1 c_f_c0_1 f_c0_1)) ∧ e = .returned (.bool t9001) ∧ Mem w0 (.blk b_f_c0 [vI f_c0_0, sl A_f_c0_1 f_c0_1 c_f_c0_1] 135 :: Fz F W :: cs) w' := by
 unfold slices_ContainsFunc_api_Comp_api_Comp at hp
 refine sx_calls Tryd.func129 rfl (n := 9) (by kernel_rfl) (l := [(0, sl A_s s c_s), (1, .func (.func 130) #[] #[vP b_f_c0 0])]) rfl (by rfl) hM0 ?_
 refine st_seq (st_region [oF 0] (by rfl) ?_)
 refine oQ [oF 0] [(0, sl A_s s c_s), (1, .func (.func 130) #[] #[vP b_f_c0 0])] (by kernel_rfl) ?_
 refine ops_nil (fin_then (st_seq (st_region [oF 0, oF 1, oF 2, oF 3, oF 4] (by rfl) ?_)))
 refine oQ [oF 0, oF 1] [(6, .func (.func 130) #[] #[vP b_f_c0 0]), (5, sl A_s s c_s)] (by kernel_rfl) ?_
 obtain ⟨x1, hv2, hp⟩ := obind hp
 refine ops_callI (σ := Unit) (d := some 7) (f := 154) (args := #[sl A_s s c_s, .func (.func 130) #[] #[vP b_f_c0 0]]) (v := (fun _ => vI x1)) (I := (fun _ => (RdS (Rep.int .i64) F W A_f_c0_1 c_f_c0_1 f_c0_1))) (M' := (fun _ => Mem w0 (.blk b_f_c0 [vI f_c0_0, sl A_f_c0_1 f_c0_1 c_f_c0_1] 135 :: Fz F W :: cs))) ⟨by kernel_rfl⟩ (fun w_ hM hS => (slices_IndexFunc_api_Comp_api_Comp_ok w0 w_ (cs) F W A_s c_s s b_f_c0 f_c0_0 A_f_c0_1 c_f_c0_1 f_c0_1 hM h_s h_f_c0_1 x1 hv2).mono (by rintro e w' ⟨h3, rfl, h'⟩; have h' : Mem w0 (.blk b_f_c0 [vI f_c0_0, sl A_f_c0_1 f_c0_1 c_f_c0_1] 135 :: Fz F W :: cs) w' := h'; exact ⟨(), h3, rfl, h', trivial⟩)) ?_
 rintro _ h3
 refine oQ [oF 3, oF 4] [(4, .bool (decide (0 ≤ x1)))] (by kernel_rfl) ?_
 refine ops_nil (fin_then (st_ret ?_))
 have hq_ := Option.some.inj hp
 have hr0_ := hq_
 subst hr0_
 refine fin_ret [.tmp 4] [.bool (decide (0 ≤ x1))] rfl rfl (fun w_ hM => (.tmp rfl .nil)) (fun w_ hM => ?_)
 exact ⟨h3, rfl, hM⟩
theorem kind_High_ok (w0 w : World) (cs : List Chunk) (F : Nat → Prop) (W : World) (f_0 : ByteArray) (f_1 : Int) (f_2 : Int) (hM0 : Mem w0 (Fz F W :: cs) w) (i9001 : Int) (hp : kind_High f_0 f_1 f_2 = some i9001) : Calls Tryd.prog 97 #[.agg #[.string f_0, vI f_1, vI f_2]] w fun e w' => (True) ∧ e = .returned (vI i9001) ∧ Mem w0 (Fz F W :: cs) w' := by
 unfold kind_High at hp
 refine sx_calls Tryd.func97 rfl (n := 13) (by kernel_rfl) (l := [(0, .agg #[.string f_0, vI f_1, vI f_2])]) rfl (by rfl) hM0 ?_
 refine st_seq (st_region [oF 0, oF 1] (by rfl) ?_)
 refine ops_newB (d := some 1) [.string f_0, vI f_1, vI f_2] 32 (fun b1 => ⟨by kernel_rfl⟩) (fun w_ hM hS => trivial) (fun b1 => ?_)
 refine oQ [oF 1] [(1, vP b1 0)] (by kernel_rfl) ?_
 refine ops_nil (fin_then (st_seq (st_seq (st_region [oF 0, oF 1, oF 2] (by rfl) ?_))))
 refine ops_mem (d := some 3) (an := [.v (.string f_0), .v (vI f_1), .v (vI f_2)]) (evs := [ld b1 0 (.string f_0), ld b1 1 (vI f_1), ld b1 2 (vI f_2)]) (v := .agg #[.string f_0, vI f_1, vI f_2]) ⟨by kernel_rfl⟩ (fun w_ hM hS => ⟨w_, ⟨hM.cell 0 rfl rfl, hM.cell 0 rfl rfl, hM.cell 0 rfl rfl, rfl⟩, hM, trivial⟩) ?_
 obtain ⟨x2, hv3, hp⟩ := obind hp
 refine ops_callI (σ := Unit) (d := some 4) (f := 140) (args := #[.agg #[.string f_0, vI f_1, vI f_2]]) (v := (fun _ => vI x2)) (I := (fun _ => True)) (M' := (fun _ => Mem w0 (.blk b1 [.string f_0, vI f_1, vI f_2] 32 :: Fz F W :: cs))) ⟨by kernel_rfl⟩ (fun w_ hM hS => (kind_field_ok w0 w_ (.blk b1 [.string f_0, vI f_1, vI f_2] 32 :: cs) F W f_0 f_1 f_2 (hM.pick 2 [1, 0] (by kernel_rfl) (by decide) rfl)  x2 hv3).mono (by rintro e w' ⟨-, rfl, h'⟩; have h' : Mem w0 (.blk b1 [.string f_0, vI f_1, vI f_2] 32 :: Fz F W :: cs) w' := (h'.pick 2 [1, 0] (by kernel_rfl) (by decide) rfl); exact ⟨(), trivial, rfl, h', trivial⟩)) ?_
 rintro _ -
 refine oQ [oF 2] [(5, .bool (!(x2 == 0))), (1, vP b1 0)] (by kernel_rfl) ?_
 refine ops_nil (fin_then ?_)
 refine st_if (b := !(x2 == 0)) rfl (fun hc4 => ?_) (fun hc4 => ?_)
 ·
  have hp := cnd_t hc4 hp
  refine st_seq (st_region [oF 0] (by rfl) ?_)
  refine oQ [oF 0] [(2, vI 0)] (by kernel_rfl) ?_
  refine ops_nil (fin_then (st_ret (fin_ret_then ?_)))
  have hq_ := Option.some.inj hp
  have hr0_ := hq_
  subst hr0_
  refine fin_ret [.tmp 2] [vI 0] rfl rfl (fun w_ hM => (.tmp rfl .nil)) (fun w_ hM => ?_)
  exact ⟨trivial, rfl, hM.pick 2 [1] (by kernel_rfl) (by decide) rfl⟩
 ·
  have hp := cnd_f hc4 hp
  refine st_skip (fin_then (st_seq ?_))
  refine st_region_draw [oT 0, oT 1, oT 2, oT 3, oT 4, oT 5, oT 6, oT 7] (Mem w0 (.blk b1 [.string f_0, vI f_1, vI f_2] 32 :: Fz F W :: cs)) (by kernel_rfl) (by kernel_rfl) (by kernel_rfl) (fun _ d _ _ _ h => by cases d <;> exact h) (M' := Mem w0 (.blk b1 [.string f_0, vI f_1, vI f_2] 32 :: Fz F W :: cs)) (fun w_ hM => ⟨hM.drew, hM.drew.sub (.cons_cons _ (.cons_cons _ (.refl _)))⟩) ?_
  refine oQ [oT 0] [(6, vP b1 2), (1, vP b1 0)] (by kernel_rfl) ?_
  refine ops_load (d := some 7) (an := [.v (vI f_2)]) (evs := [ld b1 2 (vI f_2)]) (v := vI f_2) ⟨by kernel_rfl⟩ (fun w_ hM => ⟨hM.cell 0 rfl rfl, rfl⟩) ?_
  refine oQ [oT 2] [(8, vP b1 1), (7, vI f_2)] (by kernel_rfl) ?_
  refine ops_load (d := some 9) (an := [.v (vI f_1)]) (evs := [ld b1 1 (vI f_1)]) (v := vI f_1) ⟨by kernel_rfl⟩ (fun w_ hM => ⟨hM.cell 0 rfl rfl, rfl⟩) ?_
  obtain ⟨x5, hv6, hp⟩ := obind hp
  obtain ⟨hb7, he8⟩ := shl_some hv6
  refine ops_val (op := (.binOp Go.BinOp.shl 3 (.const (Go.Value.int Go.IntKind.i64 1)) (.tmp 9) 3)) (d := some 10) (v := vI x5) ⟨by kernel_rfl⟩ (by rw [he8]; exact run_shl rfl rfl hb7) ?_
  refine oQ [oT 5, oT 6, oT 7] [(2, vI (IntKind.i64.wrap (f_2 + IntKind.i64.wrap (x5 - 1))))] (by kernel_rfl) ?_
  refine ops_nil (fin_then (st_ret ?_))
  have hq_ := Option.some.inj hp
  have hr0_ := hq_
  subst hr0_
  refine fin_ret [.tmp 2] [vI (IntKind.i64.wrap (f_2 + IntKind.i64.wrap (x5 - 1)))] rfl rfl (fun w_ hM => (.tmp rfl .nil)) (fun w_ hM => ?_)
  exact ⟨trivial, rfl, hM.pick 2 [1] (by kernel_rfl) (by decide) rfl⟩
theorem kind_Near_ok (w0 w : World) (cs : List Chunk) (F : Nat → Prop) (W : World) (f_0 : ByteArray) (f_1 : Int) (f_2 : Int) (v : Int) (hM0 : Mem w0 (Fz F W :: cs) w) (i9001 : Int) (hp : kind_Near f_0 f_1 f_2 v = some i9001) : Calls Tryd.prog 107 #[.agg #[.string f_0, vI f_1, vI f_2], vI v] w fun e w' => (True) ∧ e = .returned (vI i9001) ∧ Mem w0 (Fz F W :: cs) w' := by
 unfold kind_Near at hp
 refine sx_calls Tryd.func107 rfl (n := 15) (by kernel_rfl) (l := [(0, .agg #[.string f_0, vI f_1, vI f_2]), (1, vI v)]) rfl (by rfl) hM0 ?_
 refine st_seq (st_region [oF 0, oF 1] (by rfl) ?_)
 refine ops_newB (d := some 2) [.string f_0, vI f_1, vI f_2] 32 (fun b1 => ⟨by kernel_rfl⟩) (fun w_ hM hS => trivial) (fun b1 => ?_)
 refine oQ [oF 1] [(2, vP b1 0), (1, vI v)] (by kernel_rfl) ?_
 refine ops_nil (fin_then (st_seq (st_seq (st_region [oF 0, oF 1, oF 2] (by rfl) ?_))))
 refine ops_mem (d := some 5) (an := [.v (.string f_0), .v (vI f_1), .v (vI f_2)]) (evs := [ld b1 0 (.string f_0), ld b1 1 (vI f_1), ld b1 2 (vI f_2)]) (v := .agg #[.string f_0, vI f_1, vI f_2]) ⟨by kernel_rfl⟩ (fun w_ hM hS => ⟨w_, ⟨hM.cell 0 rfl rfl, hM.cell 0 rfl rfl, hM.cell 0 rfl rfl, rfl⟩, hM, trivial⟩) ?_
 obtain ⟨x2, hv3, hp⟩ := obind hp
 refine ops_callI (σ := Unit) (d := some 6) (f := 140) (args := #[.agg #[.string f_0, vI f_1, vI f_2]]) (v := (fun _ => vI x2)) (I := (fun _ => True)) (M' := (fun _ => Mem w0 (.blk b1 [.string f_0, vI f_1, vI f_2] 32 :: Fz F W :: cs))) ⟨by kernel_rfl⟩ (fun w_ hM hS => (kind_field_ok w0 w_ (.blk b1 [.string f_0, vI f_1, vI f_2] 32 :: cs) F W f_0 f_1 f_2 (hM.pick 2 [1, 0] (by kernel_rfl) (by decide) rfl)  x2 hv3).mono (by rintro e w' ⟨-, rfl, h'⟩; have h' : Mem w0 (.blk b1 [.string f_0, vI f_1, vI f_2] 32 :: Fz F W :: cs) w' := (h'.pick 2 [1, 0] (by kernel_rfl) (by decide) rfl); exact ⟨(), trivial, rfl, h', trivial⟩)) ?_
 rintro _ -
 refine oQ [oF 2] [(7, .bool (!(x2 == 0))), (2, vP b1 0), (1, vI v)] (by kernel_rfl) ?_
 refine ops_nil (fin_then ?_)
 refine st_if (b := !(x2 == 0)) rfl (fun hc4 => ?_) (fun hc4 => ?_)
 ·
  have hp := cnd_t hc4 hp
  refine st_seq (st_region [oF 0] (by rfl) ?_)
  refine oQ [oF 0] [(4, vI 0)] (by kernel_rfl) ?_
  refine ops_nil (fin_then (st_ret (fin_ret_then ?_)))
  have hq_ := Option.some.inj hp
  have hr0_ := hq_
  subst hr0_
  refine fin_ret [.tmp 4] [vI 0] rfl rfl (fun w_ hM => (.tmp rfl .nil)) (fun w_ hM => ?_)
  exact ⟨trivial, rfl, hM.pick 2 [1] (by kernel_rfl) (by decide) rfl⟩
 ·
  have hp := cnd_f hc4 hp
  refine st_skip (fin_then (st_seq ?_))
  refine st_region_draw [oT 0, oT 1, oT 2, oT 3, oF 4, oT 5, oT 6, oT 7] (Mem w0 (.blk b1 [.string f_0, vI f_1, vI f_2] 32 :: Fz F W :: cs)) (by kernel_rfl) (by kernel_rfl) (by kernel_rfl) (fun _ d _ _ _ h => by cases d <;> exact h) (M' := Mem w0 (.blk b1 [.string f_0, vI f_1, vI f_2] 32 :: Fz F W :: cs)) (fun w_ hM => ⟨hM.drew, hM.drew.sub (.cons_cons _ (.cons_cons _ (.refl _)))⟩) ?_
  refine oQ [oT 0] [(8, vP b1 2), (2, vP b1 0), (1, vI v)] (by kernel_rfl) ?_
  refine ops_load (d := some 9) (an := [.v (vI f_2)]) (evs := [ld b1 2 (vI f_2)]) (v := vI f_2) ⟨by kernel_rfl⟩ (fun w_ hM => ⟨hM.cell 0 rfl rfl, rfl⟩) ?_
  refine oQ [oT 2] [(10, vI v), (9, vI f_2), (2, vP b1 0)] (by kernel_rfl) ?_
  refine ops_load (d := some 11) (an := [.v (.string f_0), .v (vI f_1), .v (vI f_2)]) (evs := [ld b1 0 (.string f_0), ld b1 1 (vI f_1), ld b1 2 (vI f_2)]) (v := .agg #[.string f_0, vI f_1, vI f_2]) ⟨by kernel_rfl⟩ (fun w_ hM => ⟨hM.cell 0 rfl rfl, hM.cell 0 rfl rfl, hM.cell 0 rfl rfl, rfl⟩) ?_
  obtain ⟨x5, hv6, hp⟩ := obind hp
  refine ops_callI (σ := Unit) (d := some 12) (f := 97) (args := #[.agg #[.string f_0, vI f_1, vI f_2]]) (v := (fun _ => vI x5)) (I := (fun _ => True)) (M' := (fun _ => Mem w0 (.blk b1 [.string f_0, vI f_1, vI f_2] 32 :: Fz F W :: cs))) ⟨by kernel_rfl⟩ (fun w_ hM hS => (kind_High_ok w0 w_ (.blk b1 [.string f_0, vI f_1, vI f_2] 32 :: cs) F W f_0 f_1 f_2 (hM.pick 2 [1, 0] (by kernel_rfl) (by decide) rfl)  x5 hv6).mono (by rintro e w' ⟨-, rfl, h'⟩; have h' : Mem w0 (.blk b1 [.string f_0, vI f_1, vI f_2] 32 :: Fz F W :: cs) w' := (h'.pick 2 [1, 0] (by kernel_rfl) (by decide) rfl); exact ⟨(), trivial, rfl, h', (by exact h'.sub (.cons_cons _ (.cons_cons _ (.refl _))))⟩)) ?_
  rintro _ -
  refine ops_val (op := (.call { callee := (Go.Callee.builtin Go.Builtin.min), args := #[(.tmp 10), (.tmp 12)], argTypes := #[3, 3] })) (d := some 13) (v := vI (min v x5)) ⟨by kernel_rfl⟩ (run_min rfl rfl) ?_
  refine ops_val (op := (.call { callee := (Go.Callee.builtin Go.Builtin.max), args := #[(.tmp 9), (.tmp 13)], argTypes := #[3, 3] })) (d := some 14) (v := vI (max f_2 (min v x5))) ⟨by kernel_rfl⟩ (run_max rfl rfl) ?_
  refine oQ [oT 7] [(4, vI (max f_2 (min v x5)))] (by kernel_rfl) ?_
  refine ops_nil (fin_then (st_ret ?_))
  have hq_ := Option.some.inj hp
  have hr0_ := hq_
  subst hr0_
  refine fin_ret [.tmp 4] [vI (max f_2 (min v x5))] rfl rfl (fun w_ hM => (.tmp rfl .nil)) (fun w_ hM => ?_)
  exact ⟨trivial, rfl, hM.pick 2 [1] (by kernel_rfl) (by decide) rfl⟩
end Go.Proofs.YtnnhijlgohlaeaaDoor.D
