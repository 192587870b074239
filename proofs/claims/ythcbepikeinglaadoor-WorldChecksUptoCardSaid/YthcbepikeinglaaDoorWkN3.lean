/- The Go functions come to what the plain functions tell. No condition. -/
import Derived.Test.YthcbepikeinglaaDoorProg
import Derived.Test.YthcbepikeinglaaDoorFnN
import Derived.Test.YthcbepikeinglaaDoorWkN0
namespace Go.Proofs.YthcbepikeinglaaDoor.N
open Go Go.RowKit Go.Proofs.YthcbepikeinglaaDoor.Sx
set_option linter.unusedVariables false
set_option maxHeartbeats 4000000
set_option maxRecDepth 100000
theorem world_Ints_1_ok (w0 w : World) (cs : List Chunk) (F : Nat → Prop) (W : World) (s : ByteArray) (b_p1 : Nat) (A_p1_0 : Option Addr) (c_p1_0 : Nat) (p1_0 : List Int) (y_p1_0 : List Value) (hM0 : Mem w0 (.blk b_p1 [sl A_p1_0 p1_0 c_p1_0] 33 :: ow A_p1_0 p1_0 c_p1_0 3 1 y_p1_0 :: Fz F W :: cs) w) (h_p1_0 : RepL (Rep.int .i64) F W p1_0 y_p1_0) (l9003 : List Int) (hp : world_Ints_1 s p1_0 = some l9003) : Calls Tryd.prog 73 #[.string s, vP b_p1 0] w fun e w' => ∃ (A9001 : Option Addr), ∃ (c9002 : Nat), ∃ (y9004 : List Value), ((RepL (Rep.int .i64) F W l9003 y9004)) ∧ e = .returned (.tuple #[]) ∧ Mem w0 (.blk b_p1 [sl A9001 l9003 c9002] 33 :: ow A9001 l9003 c9002 3 1 y9004 :: Fz F W :: cs) w' := by
 unfold world_Ints_1 at hp
 refine sx_calls Tryd.func73 rfl (n := 22) (by kernel_rfl) (l := [(0, .string s), (1, vP b_p1 0)]) rfl (by rfl) hM0 ?_
 refine st_seq (st_region [oF 0, oF 1, oF 2, oF 3, oF 4, oF 5] (by rfl) ?_)
 refine ops_mem (d := some 4) (an := [.v (sl A_p1_0 p1_0 c_p1_0)]) (evs := [ld b_p1 0 (sl A_p1_0 p1_0 c_p1_0)]) (v := sl A_p1_0 p1_0 c_p1_0) ⟨by kernel_rfl⟩ (fun w_ hM hS => ⟨w_, ⟨hM.cell 0 rfl rfl, rfl⟩, hM, trivial⟩) ?_
 refine oQ [oF 1, oF 2] [(6, vI (s.size : Int)), (4, sl A_p1_0 p1_0 c_p1_0), (0, .string s), (1, vP b_p1 0)] (by kernel_rfl) ?_
 have h1 : RepL (Rep.int .i64) F W ([(s.size : Int)] : List Int) ([vI (s.size : Int)]) := (RepL.cons (R := (Rep.int .i64)) (F := F) (w := W) (vs := [vI (s.size : Int)]) (ys := []) rfl RepL.nil)
 refine ops_new (d := some 7) (o := .cells ([vI (s.size : Int)]).toArray 3) (v := fun g2 => .slice (sa g2) ([(s.size : Int)] : List Int).length 1) (M' := fun g2 => Mem w0 (orow (sa g2) ([(s.size : Int)] : List Int).length 1 3 1 ([vI (s.size : Int)]) :: .blk b_p1 [sl A_p1_0 p1_0 c_p1_0] 33 :: ow A_p1_0 p1_0 c_p1_0 3 1 y_p1_0 :: Fz F W :: cs)) (fun g2 => ⟨by kernel_rfl⟩) (fun w_ hM hS => ⟨hM.onew [vI (s.size : Int)] 3 1 1 rfl (by decide), trivial⟩) (fun g2 => ?_)
 obtain ⟨l3, hv4, hp⟩ := obind hp
 obtain ⟨he5, hb6⟩ := app_some hv4
 obtain ⟨y7, hy8⟩ : ∃ y_, y_p1_0 ++ ([vI (s.size : Int)]) = y_ := ⟨_, rfl⟩
 have h9 : RepL (Rep.int .i64) F W l3 y7 := by rw [he5, ← hy8]; exact RepL.app h_p1_0 h1
 refine ops_appendO (x := (Go.Operand.tmp 4)) (y := (Go.Operand.tmp 7)) (t := 33) (e := 3) (d := some 8) (n' := l3.length) (z := 1) (m := ([(s.size : Int)] : List Int).length) (bytes := 8) (xs' := y7) (news := ([vI (s.size : Int)])) (zv := vI 0) 2 ⟨by kernel_rfl⟩ rfl rfl Tryd.underlying33 (by kernel_rfl) (by rfl) rfl (fun w_ hM => hM.srcO 0 rfl) h1.len h1.one hb6 (by have z_ := congrArg List.length he5; rw [List.length_append] at z_; exact z_.symm) hy8 (fun _ _ _ _ hS h' => trivial) ?_
 rintro ⟨A10, c11⟩
 refine ops_store (an := []) (evs := [sr b_p1 0 (sl A10 l3 c11)]) ⟨by kernel_rfl⟩ (fun w_ hM hS => let ⟨w', he, h'⟩ := hM.evs_stores [sl A10 l3 c11] 1 rfl 0 (Nat.le_of_ble_eq_true rfl); ⟨w', he, h', trivial⟩) ?_
 refine ops_nil (fin_then (st_seq (st_region [oF 0, oF 1, oF 2] (by rfl) ?_)))
 refine oQ [oF 0, oF 1, oF 2] [(11, vI 0), (10, vI (s.size : Int)), (0, .string s), (1, vP b_p1 0)] (by kernel_rfl) ?_
 refine ops_nil (fin_then (st_block ?_))
 obtain ⟨r1, hl1, hk1⟩ := obind hp
 refine st_loopP (σ := (List Int) × Int) (ρ := (List Int)) (γ := (Option Addr) × Nat × (List Value)) hl1 (A10, c11, y7) (fun s_ g_ => match s_, g_ with | (l14, i17), (A12, c13, y15) => [(0, .string s), (1, vP b_p1 0), (10, vI (s.size : Int)), (11, vI i17)]) (fun s_ g_ => match s_, g_ with | (l14, i17), (A12, c13, y15) => Mem w0 (.blk b_p1 [sl A12 l14 c13] 33 :: ow A12 l14 c13 3 1 y15 :: Fz F W :: cs)) (fun s_ g_ => match s_, g_ with | (l14, i17), (A12, c13, y15) => (RepL (Rep.int .i64) F W l14 y15)) h9 (look_has ⟨rfl, rfl, rfl, rfl, trivial⟩) (fun w_ hM => hM.pick 4 [1, 2, 3] (by kernel_rfl) (by decide) rfl) ?_
 rintro ⟨l14, i17⟩ ⟨A12, c13, y15⟩ o1 h16 hs_ hd1
 have hp : (world_Ints_1_l1 s) l14 i17 = some o1 := hs_
 clear hs_
 unfold world_Ints_1_l1 at hp
 refine st_seq (st_region [oF 0] (by rfl) ?_)
 refine oQ [oF 0] [(12, .bool (decide (i17 < (s.size : Int)))), (0, .string s), (1, vP b_p1 0), (10, vI (s.size : Int)), (11, vI i17)] (by kernel_rfl) ?_
 refine ops_nil (fin_then (st_seq ?_))
 refine st_if (b := decide (i17 < (s.size : Int))) rfl (fun hc18 => ?_) (fun hc18 => ?_)
 ·
  have hp := cnd_t hc18 hp
  refine st_skip (fin_then ?_)
  refine st_join1 (σ := (Option Addr) × Nat × (List Int) × (List Value)) (L := fun x_ => match x_ with | (A19, c20, l21, y22) => [(0, .string s), (1, vP b_p1 0), (10, vI (s.size : Int)), (11, vI i17)]) (N := fun x_ => match x_ with | (A19, c20, l21, y22) => Mem w0 (.blk b_p1 [sl A19 l21 c20] 33 :: ow A19 l21 c20 3 1 y22 :: Fz F W :: cs)) (I := fun x_ => match x_ with | (A19, c20, l21, y22) => ((world_Ints_1_j2 i17) l21 = some o1) ∧ (RepL (Rep.int .i64) F W l21 y22)) ?_ ?_
  ·
   rintro ⟨A19, c20, l21, y22⟩ ⟨hp, h23⟩
   unfold world_Ints_1_j2 at hp
   refine st_region [oF 0, oF 1] (by rfl) ?_
   refine oQ [oF 0, oF 1] [(11, vI (IntKind.i64.wrap (i17 + 1))), (0, .string s), (1, vP b_p1 0), (10, vI (s.size : Int))] (by kernel_rfl) ?_
   refine ops_nil ?_
   exact fin_again (l21, IntKind.i64.wrap (i17 + 1)) (A19, c20, y22) (Option.some.inj hp).symm h23 (look_has ⟨rfl, rfl, rfl, rfl, trivial⟩) (fun w_ hM => hM)
  ·
   intro HJ2
   refine st_seq (st_block (st_seq (st_region [oF 0, oF 1] (by rfl) ?_)))
   refine oQ [oF 0, oF 1] [(3, vI i17), (0, .string s), (1, vP b_p1 0), (10, vI (s.size : Int)), (11, vI i17)] (by kernel_rfl) ?_
   refine ops_nil (fin_then ?_)
   obtain ⟨x24, hv25, hp⟩ := obind hp
   obtain ⟨l28, hv29, hp⟩ := obind hp
   refine st_region_tree (.node [oT 1, oT 2, oT 3, oT 4] (.leaf [oF 0, oF 5, oF 6, oF 7]) (.leaf [oF 5, oF 0, oF 6, oF 7])) (Mem w0 (Fz F W :: cs)) (by kernel_rfl) (by kernel_rfl) (by kernel_rfl) (fun _ d _ _ _ h => by cases d <;> exact h) (M' := Mem w0 (.blk b_p1 [sl A12 l14 c13] 33 :: ow A12 l14 c13 3 1 y15 :: Fz F W :: cs)) (fun w_ hM => ⟨hM.drew, hM.drew.sub (.cons _ (.cons _ (.cons_cons _ (.refl _))))⟩) ?_
   refine tree_node ?_
   refine oQ [oT 1, oT 2] [(16, vI i17), (15, .string s), (0, .string s), (1, vP b_p1 0), (10, vI (s.size : Int)), (11, vI i17)] (by kernel_rfl) ?_
   refine ops_val (op := (.index 9 (.tmp 15) (.tmp 16))) (d := some 17) (v := .int .u8 x24) ⟨by kernel_rfl⟩ (run_strIdx Tryd.underlying9 rfl rfl hv25) ?_
   refine oQ [oT 4] [(18, vI (IntKind.i64.wrap x24)), (0, .string s), (1, vP b_p1 0), (10, vI (s.size : Int)), (11, vI i17)] (by kernel_rfl) ?_
   refine ops_nil ?_
   refine tree_both ?_ ?_
   ·
    refine tree_leaf ?_
    refine ops_mem (d := some 14) (an := [.v (sl A12 l14 c13)]) (evs := [ld b_p1 0 (sl A12 l14 c13)]) (v := sl A12 l14 c13) ⟨by kernel_rfl⟩ (fun w_ hM hS => ⟨w_, ⟨hM.cell 0 rfl rfl, rfl⟩, hM, hS⟩) ?_
    have h30 : RepL (Rep.int .i64) F W ([IntKind.i64.wrap x24] : List Int) ([vI (IntKind.i64.wrap x24)]) := (RepL.cons (R := (Rep.int .i64)) (F := F) (w := W) (vs := [vI (IntKind.i64.wrap x24)]) (ys := []) rfl RepL.nil)
    refine ops_new (d := some 19) (o := .cells ([vI (IntKind.i64.wrap x24)]).toArray 3) (v := fun g31 => .slice (sa g31) ([IntKind.i64.wrap x24] : List Int).length 1) (M' := fun g31 => Mem w0 (orow (sa g31) ([IntKind.i64.wrap x24] : List Int).length 1 3 1 ([vI (IntKind.i64.wrap x24)]) :: .blk b_p1 [sl A12 l14 c13] 33 :: ow A12 l14 c13 3 1 y15 :: Fz F W :: cs)) (fun g31 => ⟨by kernel_rfl⟩) (fun w_ hM hS => ⟨hM.onew [vI (IntKind.i64.wrap x24)] 3 1 1 rfl (by decide), hS.alloc _⟩) (fun g31 => ?_)
    obtain ⟨he32, hb33⟩ := app_some hv29
    obtain ⟨y34, hy35⟩ : ∃ y_, y15 ++ ([vI (IntKind.i64.wrap x24)]) = y_ := ⟨_, rfl⟩
    have h36 : RepL (Rep.int .i64) F W l28 y34 := by rw [he32, ← hy35]; exact RepL.app h16 h30
    refine ops_appendO (x := (Go.Operand.tmp 14)) (y := (Go.Operand.tmp 19)) (t := 33) (e := 3) (d := some 20) (n' := l28.length) (z := 1) (m := ([IntKind.i64.wrap x24] : List Int).length) (bytes := 8) (xs' := y34) (news := ([vI (IntKind.i64.wrap x24)])) (zv := vI 0) 2 ⟨by kernel_rfl⟩ rfl rfl Tryd.underlying33 (by kernel_rfl) (by rfl) rfl (fun w_ hM => hM.srcO 0 rfl) h30.len h30.one hb33 (by have z_ := congrArg List.length he32; rw [List.length_append] at z_; exact z_.symm) hy35 (fun _ _ _ _ hS h' => (by exact h'.sub (.cons _ (.cons _ (.cons _ (.cons_cons _ (.refl _))))))) ?_
    rintro ⟨A37, c38⟩
    refine ops_store (an := []) (evs := [sr b_p1 0 (sl A37 l28 c38)]) ⟨by kernel_rfl⟩ (fun w_ hM hS => let ⟨w', he, h'⟩ := hM.evs_stores [sl A37 l28 c38] 1 rfl 0 (Nat.le_of_ble_eq_true rfl); ⟨w', he, h', (by exact h'.sub (.cons _ (.cons _ (.cons _ (.cons_cons _ (.refl _))))))⟩) ?_
    refine ops_nil (fin_block ?_)
    exact fin_join HJ2 (A37, c38, l28, y34) ⟨hp, h36⟩ (look_has ⟨rfl, rfl, rfl, rfl, trivial⟩) (fun w_ hM => hM.pick 4 [1, 2, 3] (by kernel_rfl) (by decide) rfl)
   ·
    refine tree_leaf ?_
    have h39 : RepL (Rep.int .i64) F W ([IntKind.i64.wrap x24] : List Int) ([vI (IntKind.i64.wrap x24)]) := (RepL.cons (R := (Rep.int .i64)) (F := F) (w := W) (vs := [vI (IntKind.i64.wrap x24)]) (ys := []) rfl RepL.nil)
    refine ops_new (d := some 19) (o := .cells ([vI (IntKind.i64.wrap x24)]).toArray 3) (v := fun g40 => .slice (sa g40) ([IntKind.i64.wrap x24] : List Int).length 1) (M' := fun g40 => Mem w0 (orow (sa g40) ([IntKind.i64.wrap x24] : List Int).length 1 3 1 ([vI (IntKind.i64.wrap x24)]) :: .blk b_p1 [sl A12 l14 c13] 33 :: ow A12 l14 c13 3 1 y15 :: Fz F W :: cs)) (fun g40 => ⟨by kernel_rfl⟩) (fun w_ hM hS => ⟨hM.onew [vI (IntKind.i64.wrap x24)] 3 1 1 rfl (by decide), hS.alloc _⟩) (fun g40 => ?_)
    refine ops_mem (d := some 14) (an := [.v (sl A12 l14 c13)]) (evs := [ld b_p1 0 (sl A12 l14 c13)]) (v := sl A12 l14 c13) ⟨by kernel_rfl⟩ (fun w_ hM hS => ⟨w_, ⟨hM.cell 1 rfl rfl, rfl⟩, hM, hS⟩) ?_
    obtain ⟨he41, hb42⟩ := app_some hv29
    obtain ⟨y43, hy44⟩ : ∃ y_, y15 ++ ([vI (IntKind.i64.wrap x24)]) = y_ := ⟨_, rfl⟩
    have h45 : RepL (Rep.int .i64) F W l28 y43 := by rw [he41, ← hy44]; exact RepL.app h16 h39
    refine ops_appendO (x := (Go.Operand.tmp 14)) (y := (Go.Operand.tmp 19)) (t := 33) (e := 3) (d := some 20) (n' := l28.length) (z := 1) (m := ([IntKind.i64.wrap x24] : List Int).length) (bytes := 8) (xs' := y43) (news := ([vI (IntKind.i64.wrap x24)])) (zv := vI 0) 2 ⟨by kernel_rfl⟩ rfl rfl Tryd.underlying33 (by kernel_rfl) (by rfl) rfl (fun w_ hM => hM.srcO 0 rfl) h39.len h39.one hb42 (by have z_ := congrArg List.length he41; rw [List.length_append] at z_; exact z_.symm) hy44 (fun _ _ _ _ hS h' => (by exact h'.sub (.cons _ (.cons _ (.cons _ (.cons_cons _ (.refl _))))))) ?_
    rintro ⟨A46, c47⟩
    refine ops_store (an := []) (evs := [sr b_p1 0 (sl A46 l28 c47)]) ⟨by kernel_rfl⟩ (fun w_ hM hS => let ⟨w', he, h'⟩ := hM.evs_stores [sl A46 l28 c47] 1 rfl 0 (Nat.le_of_ble_eq_true rfl); ⟨w', he, h', (by exact h'.sub (.cons _ (.cons _ (.cons _ (.cons_cons _ (.refl _))))))⟩) ?_
    refine ops_nil (fin_block ?_)
    exact fin_join HJ2 (A46, c47, l28, y43) ⟨hp, h45⟩ (look_has ⟨rfl, rfl, rfl, rfl, trivial⟩) (fun w_ hM => hM.pick 4 [1, 2, 3] (by kernel_rfl) (by decide) rfl)
 ·
  have hp := cnd_f hc18 hp
  refine st_exit (fin_exit_then (fin_exit_then (fin_exit ?_)))
  obtain hq_ := Option.some.inj hp
  subst hq_
  obtain hq_ := hd1 _ rfl
  subst hq_
  have hp : some l14 = some l9003 := hk1
  have hq_ := Option.some.inj hp
  have hr0_ := hq_
  subst hr0_
  refine fin_ret [] [] rfl rfl (fun w_ hM => .nil) (fun w_ hM => ?_)
  exact ⟨A12, c13, y15, h16, rfl, hM⟩
theorem world_Ints_ok (w0 w : World) (cs : List Chunk) (F : Nat → Prop) (W : World) (A_w_0 : Option Addr) (c_w_0 : Nat) (w_0 : List api_Kind) (A_w_1 : Option Addr) (c_w_1 : Nat) (w_1 : List Int) (A_w_2 : Option Addr) (c_w_2 : Nat) (w_2 : List api_Item) (hM0 : Mem w0 (Fz F W :: cs) w) (h_w_0 : RdS R_api_Kind F W A_w_0 c_w_0 w_0) (h_w_1 : RdS (Rep.int .i64) F W A_w_1 c_w_1 w_1) (h_w_2 : RdS R_api_Item F W A_w_2 c_w_2 w_2) (l9003 : List Int) (hp : world_Ints w_0 w_1 w_2 = some l9003) : Calls Tryd.prog 45 #[.agg #[sl A_w_0 w_0 c_w_0, sl A_w_1 w_1 c_w_1, sl A_w_2 w_2 c_w_2]] w fun e w' => ∃ (A9001 : Option Addr), ∃ (c9002 : Nat), ∃ (y9004 : List Value), ((RepL (Rep.int .i64) F W l9003 y9004)) ∧ e = .returned (sl A9001 l9003 c9002) ∧ Mem w0 (ow A9001 l9003 c9002 3 1 y9004 :: Fz F W :: cs) w' := by
 unfold world_Ints at hp
 refine sx_calls Tryd.func45 rfl (n := 112) (by kernel_rfl) (l := [(0, .agg #[sl A_w_0 w_0 c_w_0, sl A_w_1 w_1 c_w_1, sl A_w_2 w_2 c_w_2])]) rfl (by rfl) hM0 ?_
 refine st_seq (st_region [oF 0, oF 1] (by rfl) ?_)
 refine ops_newB (d := some 1) [sl A_w_0 w_0 c_w_0, sl A_w_1 w_1 c_w_1, sl A_w_2 w_2 c_w_2] 71 (fun b1 => ⟨by kernel_rfl⟩) (fun w_ hM hS => trivial) (fun b1 => ?_)
 refine oQ [oF 1] [(1, vP b1 0)] (by kernel_rfl) ?_
 refine ops_nil (fin_then (st_seq (st_region [oF 0, oF 1, oF 2, oF 3, oF 4, oF 5] (by rfl) ?_)))
 refine oQ [oF 0] [(13, vP b1 0), (1, vP b1 0)] (by kernel_rfl) ?_
 refine ops_mem (d := some 14) (an := [.v (sl A_w_0 w_0 c_w_0)]) (evs := [ld b1 0 (sl A_w_0 w_0 c_w_0)]) (v := sl A_w_0 w_0 c_w_0) ⟨by kernel_rfl⟩ (fun w_ hM hS => ⟨w_, ⟨hM.cell 0 rfl rfl, rfl⟩, hM, trivial⟩) ?_
 refine oQ [oF 2] [(15, vI (w_0.length : Int)), (1, vP b1 0)] (by kernel_rfl) ?_
 have h2 : RepL (Rep.int .i64) F W ([(w_0.length : Int)] : List Int) ([vI (w_0.length : Int)]) := (RepL.cons (R := (Rep.int .i64)) (F := F) (w := W) (vs := [vI (w_0.length : Int)]) (ys := []) rfl RepL.nil)
 refine ops_new (d := some 16) (o := .cells ([vI (w_0.length : Int)]).toArray 3) (v := fun g3 => .slice (sa g3) ([(w_0.length : Int)] : List Int).length 1) (M' := fun g3 => Mem w0 (orow (sa g3) ([(w_0.length : Int)] : List Int).length 1 3 1 ([vI (w_0.length : Int)]) :: .blk b1 [sl A_w_0 w_0 c_w_0, sl A_w_1 w_1 c_w_1, sl A_w_2 w_2 c_w_2] 71 :: Fz F W :: cs)) (fun g3 => ⟨by kernel_rfl⟩) (fun w_ hM hS => ⟨hM.onew [vI (w_0.length : Int)] 3 1 1 rfl (by decide), trivial⟩) (fun g3 => ?_)
 refine ops_newB (d := some 3) [.slice none 0 0] 33 (fun b4 => ⟨by kernel_rfl⟩) (fun w_ hM hS => trivial) (fun b4 => ?_)
 refine ops_store (an := []) (evs := [sr b4 0 (.slice (sa g3) ([(w_0.length : Int)] : List Int).length 1)]) ⟨by kernel_rfl⟩ (fun w_ hM hS => let ⟨w', he, h'⟩ := hM.evs_stores [.slice (sa g3) ([(w_0.length : Int)] : List Int).length 1] 0 rfl 0 (Nat.le_of_ble_eq_true rfl); ⟨w', he, h', trivial⟩) ?_
 refine ops_nil (fin_then (st_seq (st_region [oF 0, oF 1] (by rfl) ?_)))
 refine oQ [oF 0, oF 1] [(4, .func (.func 73) #[] #[vP b4 0]), (3, vP b4 0), (1, vP b1 0)] (by kernel_rfl) ?_
 refine ops_nil (fin_then ?_)
 refine st_join1 (σ := (Option Addr) × Nat × (List Int) × (List Value)) (L := fun x_ => match x_ with | (A5, c6, l7, y8) => [(1, vP b1 0), (3, vP b4 0)]) (N := fun x_ => match x_ with | (A5, c6, l7, y8) => Mem w0 (.blk b1 [sl A_w_0 w_0 c_w_0, sl A_w_1 w_1 c_w_1, sl A_w_2 w_2 c_w_2] 71 :: .blk b4 [sl A5 l7 c6] 33 :: ow A5 l7 c6 3 1 y8 :: Fz F W :: cs)) (I := fun x_ => match x_ with | (A5, c6, l7, y8) => ((world_Ints_j1 w_1 w_2) l7 = some l9003) ∧ (RepL (Rep.int .i64) F W l7 y8)) ?_ ?_
 ·
  rintro ⟨A5, c6, l7, y8⟩ ⟨hp, h9⟩
  unfold world_Ints_j1 at hp
  refine st_seq (st_region [oF 0, oF 1, oF 2, oF 3, oF 4, oF 5, oF 6] (by rfl) ?_)
  refine ops_mem (d := some 55) (an := [.v (sl A5 l7 c6)]) (evs := [ld b4 0 (sl A5 l7 c6)]) (v := sl A5 l7 c6) ⟨by kernel_rfl⟩ (fun w_ hM hS => ⟨w_, ⟨hM.cell 1 rfl rfl, rfl⟩, hM, trivial⟩) ?_
  refine oQ [oF 1] [(56, vP b1 1), (55, sl A5 l7 c6), (1, vP b1 0), (3, vP b4 0)] (by kernel_rfl) ?_
  refine ops_mem (d := some 57) (an := [.v (sl A_w_1 w_1 c_w_1)]) (evs := [ld b1 1 (sl A_w_1 w_1 c_w_1)]) (v := sl A_w_1 w_1 c_w_1) ⟨by kernel_rfl⟩ (fun w_ hM hS => ⟨w_, ⟨hM.cell 0 rfl rfl, rfl⟩, hM, trivial⟩) ?_
  refine oQ [oF 3] [(58, vI (w_1.length : Int)), (55, sl A5 l7 c6), (1, vP b1 0), (3, vP b4 0)] (by kernel_rfl) ?_
  have h10 : RepL (Rep.int .i64) F W ([(w_1.length : Int)] : List Int) ([vI (w_1.length : Int)]) := (RepL.cons (R := (Rep.int .i64)) (F := F) (w := W) (vs := [vI (w_1.length : Int)]) (ys := []) rfl RepL.nil)
  refine ops_new (d := some 59) (o := .cells ([vI (w_1.length : Int)]).toArray 3) (v := fun g11 => .slice (sa g11) ([(w_1.length : Int)] : List Int).length 1) (M' := fun g11 => Mem w0 (orow (sa g11) ([(w_1.length : Int)] : List Int).length 1 3 1 ([vI (w_1.length : Int)]) :: .blk b1 [sl A_w_0 w_0 c_w_0, sl A_w_1 w_1 c_w_1, sl A_w_2 w_2 c_w_2] 71 :: .blk b4 [sl A5 l7 c6] 33 :: ow A5 l7 c6 3 1 y8 :: Fz F W :: cs)) (fun g11 => ⟨by kernel_rfl⟩) (fun w_ hM hS => ⟨hM.onew [vI (w_1.length : Int)] 3 1 1 rfl (by decide), trivial⟩) (fun g11 => ?_)
  obtain ⟨l12, hv13, hp⟩ := obind hp
  obtain ⟨he14, hb15⟩ := app_some hv13
  obtain ⟨y16, hy17⟩ : ∃ y_, y8 ++ ([vI (w_1.length : Int)]) = y_ := ⟨_, rfl⟩
  have h18 : RepL (Rep.int .i64) F W l12 y16 := by rw [he14, ← hy17]; exact RepL.app h9 h10
  refine ops_appendO (x := (Go.Operand.tmp 55)) (y := (Go.Operand.tmp 59)) (t := 33) (e := 3) (d := some 60) (n' := l12.length) (z := 1) (m := ([(w_1.length : Int)] : List Int).length) (bytes := 8) (xs' := y16) (news := ([vI (w_1.length : Int)])) (zv := vI 0) 3 ⟨by kernel_rfl⟩ rfl rfl Tryd.underlying33 (by kernel_rfl) (by rfl) rfl (fun w_ hM => hM.srcO 0 rfl) h10.len h10.one hb15 (by have z_ := congrArg List.length he14; rw [List.length_append] at z_; exact z_.symm) hy17 (fun _ _ _ _ hS h' => trivial) ?_
  rintro ⟨A19, c20⟩
  refine ops_store (an := []) (evs := [sr b4 0 (sl A19 l12 c20)]) ⟨by kernel_rfl⟩ (fun w_ hM hS => let ⟨w', he, h'⟩ := hM.evs_stores [sl A19 l12 c20] 2 rfl 0 (Nat.le_of_ble_eq_true rfl); ⟨w', he, h', trivial⟩) ?_
  refine ops_nil (fin_then (st_seq (st_region [oF 0, oF 1, oF 2, oF 3, oF 4] (by rfl) ?_)))
  refine ops_mem (d := some 61) (an := [.v (sl A19 l12 c20)]) (evs := [ld b4 0 (sl A19 l12 c20)]) (v := sl A19 l12 c20) ⟨by kernel_rfl⟩ (fun w_ hM hS => ⟨w_, ⟨hM.cell 2 rfl rfl, rfl⟩, hM, trivial⟩) ?_
  refine oQ [oF 1] [(62, vP b1 1), (61, sl A19 l12 c20), (1, vP b1 0), (3, vP b4 0)] (by kernel_rfl) ?_
  refine ops_mem (d := some 63) (an := [.v (sl A_w_1 w_1 c_w_1)]) (evs := [ld b1 1 (sl A_w_1 w_1 c_w_1)]) (v := sl A_w_1 w_1 c_w_1) ⟨by kernel_rfl⟩ (fun w_ hM hS => ⟨w_, ⟨hM.cell 1 rfl rfl, rfl⟩, hM, trivial⟩) ?_
  obtain ⟨l21, hv22, hp⟩ := obind hp
  obtain ⟨he23, hb24⟩ := app_some hv22
  obtain ⟨y28, h29, hs30⟩ := RdS.src h_w_1
  obtain ⟨y25, hy26⟩ : ∃ y_, y16 ++ y28 = y_ := ⟨_, rfl⟩
  have h27 : RepL (Rep.int .i64) F W l21 y25 := by rw [he23, ← hy26]; exact RepL.app h18 h29
  refine ops_appendO (x := (Go.Operand.tmp 61)) (y := (Go.Operand.tmp 63)) (t := 33) (e := 3) (d := some 64) (n' := l21.length) (z := 1) (m := w_1.length) (bytes := 8) (xs' := y25) (news := y28) (zv := vI 0) 3 ⟨by kernel_rfl⟩ rfl rfl Tryd.underlying33 (by kernel_rfl) (by rfl) rfl (fun w_ hM => hM.srcS 4 rfl h29 hs30) h29.len h29.one hb24 (by have z_ := congrArg List.length he23; rw [List.length_append] at z_; exact z_.symm) hy26 (fun _ _ _ _ hS h' => trivial) ?_
  rintro ⟨A31, c32⟩
  refine ops_store (an := []) (evs := [sr b4 0 (sl A31 l21 c32)]) ⟨by kernel_rfl⟩ (fun w_ hM hS => let ⟨w', he, h'⟩ := hM.evs_stores [sl A31 l21 c32] 2 rfl 0 (Nat.le_of_ble_eq_true rfl); ⟨w', he, h', trivial⟩) ?_
  refine ops_nil (fin_then (st_seq (st_region [oF 0, oF 1, oF 2, oF 3, oF 4, oF 5, oF 6] (by rfl) ?_)))
  refine ops_mem (d := some 65) (an := [.v (sl A31 l21 c32)]) (evs := [ld b4 0 (sl A31 l21 c32)]) (v := sl A31 l21 c32) ⟨by kernel_rfl⟩ (fun w_ hM hS => ⟨w_, ⟨hM.cell 2 rfl rfl, rfl⟩, hM, trivial⟩) ?_
  refine oQ [oF 1] [(66, vP b1 2), (65, sl A31 l21 c32), (1, vP b1 0), (3, vP b4 0)] (by kernel_rfl) ?_
  refine ops_mem (d := some 67) (an := [.v (sl A_w_2 w_2 c_w_2)]) (evs := [ld b1 2 (sl A_w_2 w_2 c_w_2)]) (v := sl A_w_2 w_2 c_w_2) ⟨by kernel_rfl⟩ (fun w_ hM hS => ⟨w_, ⟨hM.cell 1 rfl rfl, rfl⟩, hM, trivial⟩) ?_
  refine oQ [oF 3] [(68, vI (w_2.length : Int)), (65, sl A31 l21 c32), (1, vP b1 0), (3, vP b4 0)] (by kernel_rfl) ?_
  have h33 : RepL (Rep.int .i64) F W ([(w_2.length : Int)] : List Int) ([vI (w_2.length : Int)]) := (RepL.cons (R := (Rep.int .i64)) (F := F) (w := W) (vs := [vI (w_2.length : Int)]) (ys := []) rfl RepL.nil)
  refine ops_new (d := some 69) (o := .cells ([vI (w_2.length : Int)]).toArray 3) (v := fun g34 => .slice (sa g34) ([(w_2.length : Int)] : List Int).length 1) (M' := fun g34 => Mem w0 (orow (sa g34) ([(w_2.length : Int)] : List Int).length 1 3 1 ([vI (w_2.length : Int)]) :: orow (sa g11) ([(w_1.length : Int)] : List Int).length 1 3 1 ([vI (w_1.length : Int)]) :: .blk b1 [sl A_w_0 w_0 c_w_0, sl A_w_1 w_1 c_w_1, sl A_w_2 w_2 c_w_2] 71 :: .blk b4 [sl A31 l21 c32] 33 :: ow A31 l21 c32 3 1 y25 :: Fz F W :: cs)) (fun g34 => ⟨by kernel_rfl⟩) (fun w_ hM hS => ⟨hM.onew [vI (w_2.length : Int)] 3 1 1 rfl (by decide), trivial⟩) (fun g34 => ?_)
  obtain ⟨l35, hv36, hp⟩ := obind hp
  obtain ⟨he37, hb38⟩ := app_some hv36
  obtain ⟨y39, hy40⟩ : ∃ y_, y25 ++ ([vI (w_2.length : Int)]) = y_ := ⟨_, rfl⟩
  have h41 : RepL (Rep.int .i64) F W l35 y39 := by rw [he37, ← hy40]; exact RepL.app h27 h33
  refine ops_appendO (x := (Go.Operand.tmp 65)) (y := (Go.Operand.tmp 69)) (t := 33) (e := 3) (d := some 70) (n' := l35.length) (z := 1) (m := ([(w_2.length : Int)] : List Int).length) (bytes := 8) (xs' := y39) (news := ([vI (w_2.length : Int)])) (zv := vI 0) 4 ⟨by kernel_rfl⟩ rfl rfl Tryd.underlying33 (by kernel_rfl) (by rfl) rfl (fun w_ hM => hM.srcO 0 rfl) h33.len h33.one hb38 (by have z_ := congrArg List.length he37; rw [List.length_append] at z_; exact z_.symm) hy40 (fun _ _ _ _ hS h' => trivial) ?_
  rintro ⟨A42, c43⟩
  refine ops_store (an := []) (evs := [sr b4 0 (sl A42 l35 c43)]) ⟨by kernel_rfl⟩ (fun w_ hM hS => let ⟨w', he, h'⟩ := hM.evs_stores [sl A42 l35 c43] 3 rfl 0 (Nat.le_of_ble_eq_true rfl); ⟨w', he, h', trivial⟩) ?_
  refine ops_nil (fin_then ?_)
  refine st_join1 (σ := (Option Addr) × Nat × (List Int) × (List Value)) (L := fun x_ => match x_ with | (A44, c45, l46, y47) => [(3, vP b4 0)]) (N := fun x_ => match x_ with | (A44, c45, l46, y47) => Mem w0 (.blk b4 [sl A44 l46 c45] 33 :: ow A44 l46 c45 3 1 y47 :: Fz F W :: cs)) (I := fun x_ => match x_ with | (A44, c45, l46, y47) => (world_Ints_j2 l46 = some l9003) ∧ (RepL (Rep.int .i64) F W l46 y47)) ?_ ?_
  ·
   rintro ⟨A44, c45, l46, y47⟩ ⟨hp, h48⟩
   unfold world_Ints_j2 at hp
   refine st_seq (st_region [oF 0, oF 1] (by rfl) ?_)
   refine ops_mem (d := some 111) (an := [.v (sl A44 l46 c45)]) (evs := [ld b4 0 (sl A44 l46 c45)]) (v := sl A44 l46 c45) ⟨by kernel_rfl⟩ (fun w_ hM hS => ⟨w_, ⟨hM.cell 0 rfl rfl, rfl⟩, hM, trivial⟩) ?_
   refine oQ [oF 1] [(2, sl A44 l46 c45)] (by kernel_rfl) ?_
   refine ops_nil (fin_then (st_ret ?_))
   have hq_ := Option.some.inj hp
   have hr0_ := hq_
   subst hr0_
   refine fin_ret [.tmp 2] [sl A44 l46 c45] rfl rfl (fun w_ hM => (.tmp rfl .nil)) (fun w_ hM => ?_)
   exact ⟨A44, c45, y47, h48, rfl, hM.pick 3 [1, 2] (by kernel_rfl) (by decide) rfl⟩
  ·
   intro HJ2
   refine st_seq (st_seq (st_region [oF 0, oF 1, oF 2, oF 3] (by rfl) ?_))
   refine oQ [oF 0] [(71, vP b1 2), (3, vP b4 0)] (by kernel_rfl) ?_
   refine ops_mem (d := some 72) (an := [.v (sl A_w_2 w_2 c_w_2)]) (evs := [ld b1 2 (sl A_w_2 w_2 c_w_2)]) (v := sl A_w_2 w_2 c_w_2) ⟨by kernel_rfl⟩ (fun w_ hM hS => ⟨w_, ⟨hM.cell 2 rfl rfl, rfl⟩, hM, trivial⟩) ?_
   refine oQ [oF 2, oF 3] [(74, vI 0), (73, vI (w_2.length : Int)), (72, sl A_w_2 w_2 c_w_2), (3, vP b4 0)] (by kernel_rfl) ?_
   refine ops_nil (fin_then (st_block ?_))
   obtain ⟨r3, hl3, hk3⟩ := obind hp
   refine st_loopP (σ := (List Int) × Int) (ρ := (List Int)) (γ := (Option Addr) × Nat × (List Value)) hl3 (A42, c43, y39) (fun s_ g_ => match s_, g_ with | (l51, i54), (A49, c50, y52) => [(3, vP b4 0), (72, sl A_w_2 w_2 c_w_2), (73, vI (w_2.length : Int)), (74, vI i54)]) (fun s_ g_ => match s_, g_ with | (l51, i54), (A49, c50, y52) => Mem w0 (.blk b4 [sl A49 l51 c50] 33 :: ow A49 l51 c50 3 1 y52 :: Fz F W :: cs)) (fun s_ g_ => match s_, g_ with | (l51, i54), (A49, c50, y52) => (RepL (Rep.int .i64) F W l51 y52)) h41 (look_has ⟨rfl, rfl, rfl, rfl, trivial⟩) (fun w_ hM => hM.pick 6 [3, 4, 5] (by kernel_rfl) (by decide) rfl) ?_
   rintro ⟨l51, i54⟩ ⟨A49, c50, y52⟩ o3 h53 hs_ hd3
   have hp : (world_Ints_l3 w_2) l51 i54 = some o3 := hs_
   clear hs_
   unfold world_Ints_l3 at hp
   refine st_seq (st_region [oF 0] (by rfl) ?_)
   refine oQ [oF 0] [(75, .bool (decide (i54 < (w_2.length : Int)))), (3, vP b4 0), (72, sl A_w_2 w_2 c_w_2), (73, vI (w_2.length : Int)), (74, vI i54)] (by kernel_rfl) ?_
   refine ops_nil (fin_then (st_seq ?_))
   refine st_if (b := decide (i54 < (w_2.length : Int))) rfl (fun hc55 => ?_) (fun hc55 => ?_)
   ·
    have hp := cnd_t hc55 hp
    refine st_skip (fin_then ?_)
    refine st_join1 (σ := (Option Addr) × Nat × (List Int) × (List Value)) (L := fun x_ => match x_ with | (A56, c57, l58, y59) => [(3, vP b4 0), (72, sl A_w_2 w_2 c_w_2), (73, vI (w_2.length : Int)), (74, vI i54)]) (N := fun x_ => match x_ with | (A56, c57, l58, y59) => Mem w0 (.blk b4 [sl A56 l58 c57] 33 :: ow A56 l58 c57 3 1 y59 :: Fz F W :: cs)) (I := fun x_ => match x_ with | (A56, c57, l58, y59) => ((world_Ints_j4 i54) l58 = some o3) ∧ (RepL (Rep.int .i64) F W l58 y59)) ?_ ?_
    ·
     rintro ⟨A56, c57, l58, y59⟩ ⟨hp, h60⟩
     unfold world_Ints_j4 at hp
     refine st_region [oF 0, oF 1] (by rfl) ?_
     refine oQ [oF 0, oF 1] [(74, vI (IntKind.i64.wrap (i54 + 1))), (3, vP b4 0), (72, sl A_w_2 w_2 c_w_2), (73, vI (w_2.length : Int))] (by kernel_rfl) ?_
     refine ops_nil ?_
     exact fin_again (l58, IntKind.i64.wrap (i54 + 1)) (A56, c57, y59) (Option.some.inj hp).symm h60 (look_has ⟨rfl, rfl, rfl, rfl, trivial⟩) (fun w_ hM => hM)
    ·
     intro HJ4
     refine st_seq (st_block (st_seq (st_region [oF 0, oF 1, oF 2, oF 3] (by rfl) ?_)))
     obtain ⟨x61, hv62, hp⟩ := obind hp
     obtain ⟨m63, hm64, hx65⟩ := idx_some hv62
     have hl68 := (List.getElem?_eq_some_iff.1 hx65).1
     obtain ⟨ad69, vs66, hA70, hr67, hq71⟩ := RdS.el h_w_2 hx65
     obtain ⟨A72, c73, rfl, h74⟩ := dec_api_Item hr67
     refine ops_val (op := (.indexAddr 69 (.tmp 72) (.tmp 74))) (d := some 76) (v := .pointer (some (ad69.add (m63 * 3)))) ⟨by kernel_rfl⟩ (run_indexA hA70 Tryd.underlying69 (z := 3) (by kernel_rfl) rfl rfl hm64 hl68) ?_
     refine ops_mem (d := some 77) (an := [.v (vI x61.Ent.N), .v (vI x61.Ent.Gen), .v (sl A72 x61.Comps c73)]) (evs := [.load (ad69.add (m63 * 3)) (vI x61.Ent.N), .load ((ad69.add (m63 * 3)).add 1) (vI x61.Ent.Gen), .load ((ad69.add (m63 * 3)).add 2) (sl A72 x61.Comps c73)]) (v := .agg #[vI x61.Ent.N, vI x61.Ent.Gen, sl A72 x61.Comps c73]) ⟨by kernel_rfl⟩ (fun w_ hM hS => ⟨w_, ⟨hM.elcell 2 rfl hq71 0 rfl, hM.elcell 2 rfl hq71 1 rfl, hM.elcell 2 rfl hq71 2 rfl, rfl⟩, hM, trivial⟩) ?_
     refine ops_newB (d := some 10) [vI 0, vI 0, .slice none 0 0] 115 (fun b75 => ⟨by kernel_rfl⟩) (fun w_ hM hS => trivial) (fun b75 => ?_)
     refine ops_store (an := []) (evs := [sr b75 0 (vI x61.Ent.N), sr b75 1 (vI x61.Ent.Gen), sr b75 2 (sl A72 x61.Comps c73)]) ⟨by kernel_rfl⟩ (fun w_ hM hS => let ⟨w', he, h'⟩ := hM.evs_stores [vI x61.Ent.N, vI x61.Ent.Gen, sl A72 x61.Comps c73] 0 rfl 0 (Nat.le_of_ble_eq_true rfl); ⟨w', he, h', trivial⟩) ?_
     refine ops_nil (fin_then (st_seq (st_region [oF 0, oF 1, oF 2, oF 3, oF 4, oF 5, oF 6, oF 7, oF 8, oF 9, oF 10, oF 11, oF 12] (by rfl) ?_)))
     refine ops_mem (d := some 78) (an := [.v (sl A49 l51 c50)]) (evs := [ld b4 0 (sl A49 l51 c50)]) (v := sl A49 l51 c50) ⟨by kernel_rfl⟩ (fun w_ hM hS => ⟨w_, ⟨hM.cell 1 rfl rfl, rfl⟩, hM, trivial⟩) ?_
     refine oQ [oF 1, oF 2] [(80, vP b75 0), (78, sl A49 l51 c50), (10, vP b75 0), (3, vP b4 0), (72, sl A_w_2 w_2 c_w_2), (73, vI (w_2.length : Int)), (74, vI i54)] (by kernel_rfl) ?_
     refine ops_mem (d := some 81) (an := [.v (vI x61.Ent.N)]) (evs := [ld b75 0 (vI x61.Ent.N)]) (v := vI x61.Ent.N) ⟨by kernel_rfl⟩ (fun w_ hM hS => ⟨w_, ⟨hM.cell 0 rfl rfl, rfl⟩, hM, trivial⟩) ?_
     refine oQ [oF 4, oF 5] [(83, vP b75 1), (81, vI x61.Ent.N), (78, sl A49 l51 c50), (10, vP b75 0), (3, vP b4 0), (72, sl A_w_2 w_2 c_w_2), (73, vI (w_2.length : Int)), (74, vI i54)] (by kernel_rfl) ?_
     refine ops_mem (d := some 84) (an := [.v (vI x61.Ent.Gen)]) (evs := [ld b75 1 (vI x61.Ent.Gen)]) (v := vI x61.Ent.Gen) ⟨by kernel_rfl⟩ (fun w_ hM hS => ⟨w_, ⟨hM.cell 0 rfl rfl, rfl⟩, hM, trivial⟩) ?_
     refine oQ [oF 7] [(85, vP b75 2), (84, vI x61.Ent.Gen), (81, vI x61.Ent.N), (78, sl A49 l51 c50), (10, vP b75 0), (3, vP b4 0), (72, sl A_w_2 w_2 c_w_2), (73, vI (w_2.length : Int)), (74, vI i54)] (by kernel_rfl) ?_
     refine ops_mem (d := some 86) (an := [.v (sl A72 x61.Comps c73)]) (evs := [ld b75 2 (sl A72 x61.Comps c73)]) (v := sl A72 x61.Comps c73) ⟨by kernel_rfl⟩ (fun w_ hM hS => ⟨w_, ⟨hM.cell 0 rfl rfl, rfl⟩, hM, trivial⟩) ?_
     refine oQ [oF 9] [(87, vI (x61.Comps.length : Int)), (84, vI x61.Ent.Gen), (81, vI x61.Ent.N), (78, sl A49 l51 c50), (10, vP b75 0), (3, vP b4 0), (72, sl A_w_2 w_2 c_w_2), (73, vI (w_2.length : Int)), (74, vI i54)] (by kernel_rfl) ?_
     have h76 : RepL (Rep.int .i64) F W ([x61.Ent.N, x61.Ent.Gen, (x61.Comps.length : Int)] : List Int) ([vI x61.Ent.N, vI x61.Ent.Gen, vI (x61.Comps.length : Int)]) := (RepL.cons (R := (Rep.int .i64)) (F := F) (w := W) (vs := [vI x61.Ent.N]) (ys := [vI x61.Ent.Gen, vI (x61.Comps.length : Int)]) rfl (RepL.cons (R := (Rep.int .i64)) (F := F) (w := W) (vs := [vI x61.Ent.Gen]) (ys := [vI (x61.Comps.length : Int)]) rfl (RepL.cons (R := (Rep.int .i64)) (F := F) (w := W) (vs := [vI (x61.Comps.length : Int)]) (ys := []) rfl RepL.nil)))
     refine ops_new (d := some 88) (o := .cells ([vI x61.Ent.N, vI x61.Ent.Gen, vI (x61.Comps.length : Int)]).toArray 3) (v := fun g77 => .slice (sa g77) ([x61.Ent.N, x61.Ent.Gen, (x61.Comps.length : Int)] : List Int).length 3) (M' := fun g77 => Mem w0 (orow (sa g77) ([x61.Ent.N, x61.Ent.Gen, (x61.Comps.length : Int)] : List Int).length 3 3 1 ([vI x61.Ent.N, vI x61.Ent.Gen, vI (x61.Comps.length : Int)]) :: .blk b75 [vI x61.Ent.N, vI x61.Ent.Gen, sl A72 x61.Comps c73] 115 :: .blk b4 [sl A49 l51 c50] 33 :: ow A49 l51 c50 3 1 y52 :: Fz F W :: cs)) (fun g77 => ⟨by kernel_rfl⟩) (fun w_ hM hS => ⟨hM.onew [vI x61.Ent.N, vI x61.Ent.Gen, vI (x61.Comps.length : Int)] 3 3 1 rfl (by decide), trivial⟩) (fun g77 => ?_)
     obtain ⟨l78, hv79, hp⟩ := obind hp
     obtain ⟨he80, hb81⟩ := app_some hv79
     obtain ⟨y82, hy83⟩ : ∃ y_, y52 ++ ([vI x61.Ent.N, vI x61.Ent.Gen, vI (x61.Comps.length : Int)]) = y_ := ⟨_, rfl⟩
     have h84 : RepL (Rep.int .i64) F W l78 y82 := by rw [he80, ← hy83]; exact RepL.app h53 h76
     refine ops_appendO (x := (Go.Operand.tmp 78)) (y := (Go.Operand.tmp 88)) (t := 33) (e := 3) (d := some 89) (n' := l78.length) (z := 1) (m := ([x61.Ent.N, x61.Ent.Gen, (x61.Comps.length : Int)] : List Int).length) (bytes := 8) (xs' := y82) (news := ([vI x61.Ent.N, vI x61.Ent.Gen, vI (x61.Comps.length : Int)])) (zv := vI 0) 3 ⟨by kernel_rfl⟩ rfl rfl Tryd.underlying33 (by kernel_rfl) (by rfl) rfl (fun w_ hM => hM.srcO 0 rfl) h76.len h76.one hb81 (by have z_ := congrArg List.length he80; rw [List.length_append] at z_; exact z_.symm) hy83 (fun _ _ _ _ hS h' => trivial) ?_
     rintro ⟨A85, c86⟩
     refine ops_store (an := []) (evs := [sr b4 0 (sl A85 l78 c86)]) ⟨by kernel_rfl⟩ (fun w_ hM hS => let ⟨w', he, h'⟩ := hM.evs_stores [sl A85 l78 c86] 2 rfl 0 (Nat.le_of_ble_eq_true rfl); ⟨w', he, h', trivial⟩) ?_
     refine ops_nil (fin_then (st_seq (st_region [oF 0, oF 1, oF 2, oF 3] (by rfl) ?_)))
     refine oQ [oF 0] [(90, vP b75 2), (3, vP b4 0), (72, sl A_w_2 w_2 c_w_2), (73, vI (w_2.length : Int)), (74, vI i54)] (by kernel_rfl) ?_
     refine ops_mem (d := some 91) (an := [.v (sl A72 x61.Comps c73)]) (evs := [ld b75 2 (sl A72 x61.Comps c73)]) (v := sl A72 x61.Comps c73) ⟨by kernel_rfl⟩ (fun w_ hM hS => ⟨w_, ⟨hM.cell 1 rfl rfl, rfl⟩, hM, trivial⟩) ?_
     refine oQ [oF 2, oF 3] [(93, vI 0), (92, vI (x61.Comps.length : Int)), (91, sl A72 x61.Comps c73), (3, vP b4 0), (72, sl A_w_2 w_2 c_w_2), (73, vI (w_2.length : Int)), (74, vI i54)] (by kernel_rfl) ?_
     refine ops_nil (fin_then (st_block ?_))
     obtain ⟨r5, hl5, hk5⟩ := obind hp
     refine st_loopP (σ := (List Int) × Int) (ρ := (List Int)) (γ := (Option Addr) × Nat × (List Value)) hl5 (A85, c86, y82) (fun s_ g_ => match s_, g_ with | (l89, i92), (A87, c88, y90) => [(3, vP b4 0), (72, sl A_w_2 w_2 c_w_2), (73, vI (w_2.length : Int)), (74, vI i54), (91, sl A72 x61.Comps c73), (92, vI (x61.Comps.length : Int)), (93, vI i92)]) (fun s_ g_ => match s_, g_ with | (l89, i92), (A87, c88, y90) => Mem w0 (.blk b4 [sl A87 l89 c88] 33 :: ow A87 l89 c88 3 1 y90 :: Fz F W :: cs)) (fun s_ g_ => match s_, g_ with | (l89, i92), (A87, c88, y90) => (RepL (Rep.int .i64) F W l89 y90)) h84 (look_has ⟨rfl, rfl, rfl, rfl, rfl, rfl, rfl, trivial⟩) (fun w_ hM => hM.pick 5 [2, 3, 4] (by kernel_rfl) (by decide) rfl) ?_
     rintro ⟨l89, i92⟩ ⟨A87, c88, y90⟩ o5 h91 hs_ hd5
     have hp : (world_Ints_l5 x61) l89 i92 = some o5 := hs_
     clear hs_
     unfold world_Ints_l5 at hp
     refine st_seq (st_region [oF 0] (by rfl) ?_)
     refine oQ [oF 0] [(94, .bool (decide (i92 < (x61.Comps.length : Int)))), (3, vP b4 0), (72, sl A_w_2 w_2 c_w_2), (73, vI (w_2.length : Int)), (74, vI i54), (91, sl A72 x61.Comps c73), (92, vI (x61.Comps.length : Int)), (93, vI i92)] (by kernel_rfl) ?_
     refine ops_nil (fin_then (st_seq ?_))
     refine st_if (b := decide (i92 < (x61.Comps.length : Int))) rfl (fun hc93 => ?_) (fun hc93 => ?_)
     ·
      have hp := cnd_t hc93 hp
      refine st_skip (fin_then (st_seq (st_block (st_seq (st_region [oF 0, oF 1, oF 2, oF 3] (by rfl) ?_)))))
      obtain ⟨x94, hv95, hp⟩ := obind hp
      obtain ⟨m96, hm97, hx98⟩ := idx_some hv95
      have hl101 := (List.getElem?_eq_some_iff.1 hx98).1
      obtain ⟨ad102, vs99, hA103, hr100, hq104⟩ := RdS.el h74 hx98
      obtain ⟨A105, c106, rfl, h107⟩ := dec_api_Comp hr100
      refine ops_val (op := (.indexAddr 113 (.tmp 91) (.tmp 93))) (d := some 95) (v := .pointer (some (ad102.add (m96 * 2)))) ⟨by kernel_rfl⟩ (run_indexA hA103 Tryd.underlying113 (z := 2) (by kernel_rfl) rfl rfl hm97 hl101) ?_
      refine ops_mem (d := some 96) (an := [.v (vI x94.Kind), .v (sl A105 x94.Vals c106)]) (evs := [.load (ad102.add (m96 * 2)) (vI x94.Kind), .load ((ad102.add (m96 * 2)).add 1) (sl A105 x94.Vals c106)]) (v := .agg #[vI x94.Kind, sl A105 x94.Vals c106]) ⟨by kernel_rfl⟩ (fun w_ hM hS => ⟨w_, ⟨hM.elcell 2 rfl hq104 0 rfl, hM.elcell 2 rfl hq104 1 rfl, rfl⟩, hM, trivial⟩) ?_
      refine ops_newB (d := some 12) [vI 0, .slice none 0 0] 118 (fun b108 => ⟨by kernel_rfl⟩) (fun w_ hM hS => trivial) (fun b108 => ?_)
      refine ops_store (an := []) (evs := [sr b108 0 (vI x94.Kind), sr b108 1 (sl A105 x94.Vals c106)]) ⟨by kernel_rfl⟩ (fun w_ hM hS => let ⟨w', he, h'⟩ := hM.evs_stores [vI x94.Kind, sl A105 x94.Vals c106] 0 rfl 0 (Nat.le_of_ble_eq_true rfl); ⟨w', he, h', trivial⟩) ?_
      refine ops_nil (fin_then (st_seq (st_region [oF 0, oF 1, oF 2, oF 3, oF 4, oF 5, oF 6, oF 7, oF 8] (by rfl) ?_)))
      refine ops_mem (d := some 97) (an := [.v (sl A87 l89 c88)]) (evs := [ld b4 0 (sl A87 l89 c88)]) (v := sl A87 l89 c88) ⟨by kernel_rfl⟩ (fun w_ hM hS => ⟨w_, ⟨hM.cell 1 rfl rfl, rfl⟩, hM, trivial⟩) ?_
      refine oQ [oF 1] [(98, vP b108 0), (97, sl A87 l89 c88), (12, vP b108 0), (3, vP b4 0), (72, sl A_w_2 w_2 c_w_2), (73, vI (w_2.length : Int)), (74, vI i54), (91, sl A72 x61.Comps c73), (92, vI (x61.Comps.length : Int)), (93, vI i92)] (by kernel_rfl) ?_
      refine ops_mem (d := some 99) (an := [.v (vI x94.Kind)]) (evs := [ld b108 0 (vI x94.Kind)]) (v := vI x94.Kind) ⟨by kernel_rfl⟩ (fun w_ hM hS => ⟨w_, ⟨hM.cell 0 rfl rfl, rfl⟩, hM, trivial⟩) ?_
      refine oQ [oF 3] [(100, vP b108 1), (99, vI x94.Kind), (97, sl A87 l89 c88), (12, vP b108 0), (3, vP b4 0), (72, sl A_w_2 w_2 c_w_2), (73, vI (w_2.length : Int)), (74, vI i54), (91, sl A72 x61.Comps c73), (92, vI (x61.Comps.length : Int)), (93, vI i92)] (by kernel_rfl) ?_
      refine ops_mem (d := some 101) (an := [.v (sl A105 x94.Vals c106)]) (evs := [ld b108 1 (sl A105 x94.Vals c106)]) (v := sl A105 x94.Vals c106) ⟨by kernel_rfl⟩ (fun w_ hM hS => ⟨w_, ⟨hM.cell 0 rfl rfl, rfl⟩, hM, trivial⟩) ?_
      refine oQ [oF 5] [(102, vI (x94.Vals.length : Int)), (99, vI x94.Kind), (97, sl A87 l89 c88), (12, vP b108 0), (3, vP b4 0), (72, sl A_w_2 w_2 c_w_2), (73, vI (w_2.length : Int)), (74, vI i54), (91, sl A72 x61.Comps c73), (92, vI (x61.Comps.length : Int)), (93, vI i92)] (by kernel_rfl) ?_
      have h109 : RepL (Rep.int .i64) F W ([x94.Kind, (x94.Vals.length : Int)] : List Int) ([vI x94.Kind, vI (x94.Vals.length : Int)]) := (RepL.cons (R := (Rep.int .i64)) (F := F) (w := W) (vs := [vI x94.Kind]) (ys := [vI (x94.Vals.length : Int)]) rfl (RepL.cons (R := (Rep.int .i64)) (F := F) (w := W) (vs := [vI (x94.Vals.length : Int)]) (ys := []) rfl RepL.nil))
      refine ops_new (d := some 103) (o := .cells ([vI x94.Kind, vI (x94.Vals.length : Int)]).toArray 3) (v := fun g110 => .slice (sa g110) ([x94.Kind, (x94.Vals.length : Int)] : List Int).length 2) (M' := fun g110 => Mem w0 (orow (sa g110) ([x94.Kind, (x94.Vals.length : Int)] : List Int).length 2 3 1 ([vI x94.Kind, vI (x94.Vals.length : Int)]) :: .blk b108 [vI x94.Kind, sl A105 x94.Vals c106] 118 :: .blk b4 [sl A87 l89 c88] 33 :: ow A87 l89 c88 3 1 y90 :: Fz F W :: cs)) (fun g110 => ⟨by kernel_rfl⟩) (fun w_ hM hS => ⟨hM.onew [vI x94.Kind, vI (x94.Vals.length : Int)] 3 2 1 rfl (by decide), trivial⟩) (fun g110 => ?_)
      obtain ⟨l111, hv112, hp⟩ := obind hp
      obtain ⟨he113, hb114⟩ := app_some hv112
      obtain ⟨y115, hy116⟩ : ∃ y_, y90 ++ ([vI x94.Kind, vI (x94.Vals.length : Int)]) = y_ := ⟨_, rfl⟩
      have h117 : RepL (Rep.int .i64) F W l111 y115 := by rw [he113, ← hy116]; exact RepL.app h91 h109
      refine ops_appendO (x := (Go.Operand.tmp 97)) (y := (Go.Operand.tmp 103)) (t := 33) (e := 3) (d := some 104) (n' := l111.length) (z := 1) (m := ([x94.Kind, (x94.Vals.length : Int)] : List Int).length) (bytes := 8) (xs' := y115) (news := ([vI x94.Kind, vI (x94.Vals.length : Int)])) (zv := vI 0) 3 ⟨by kernel_rfl⟩ rfl rfl Tryd.underlying33 (by kernel_rfl) (by rfl) rfl (fun w_ hM => hM.srcO 0 rfl) h109.len h109.one hb114 (by have z_ := congrArg List.length he113; rw [List.length_append] at z_; exact z_.symm) hy116 (fun _ _ _ _ hS h' => trivial) ?_
      rintro ⟨A118, c119⟩
      refine ops_store (an := []) (evs := [sr b4 0 (sl A118 l111 c119)]) ⟨by kernel_rfl⟩ (fun w_ hM hS => let ⟨w', he, h'⟩ := hM.evs_stores [sl A118 l111 c119] 2 rfl 0 (Nat.le_of_ble_eq_true rfl); ⟨w', he, h', trivial⟩) ?_
      refine ops_nil (fin_then (st_region [oF 0, oF 1, oF 2, oF 3, oF 4] (by rfl) ?_))
      refine ops_mem (d := some 105) (an := [.v (sl A118 l111 c119)]) (evs := [ld b4 0 (sl A118 l111 c119)]) (v := sl A118 l111 c119) ⟨by kernel_rfl⟩ (fun w_ hM hS => ⟨w_, ⟨hM.cell 2 rfl rfl, rfl⟩, hM, trivial⟩) ?_
      refine oQ [oF 1] [(106, vP b108 1), (105, sl A118 l111 c119), (3, vP b4 0), (72, sl A_w_2 w_2 c_w_2), (73, vI (w_2.length : Int)), (74, vI i54), (91, sl A72 x61.Comps c73), (92, vI (x61.Comps.length : Int)), (93, vI i92)] (by kernel_rfl) ?_
      refine ops_mem (d := some 107) (an := [.v (sl A105 x94.Vals c106)]) (evs := [ld b108 1 (sl A105 x94.Vals c106)]) (v := sl A105 x94.Vals c106) ⟨by kernel_rfl⟩ (fun w_ hM hS => ⟨w_, ⟨hM.cell 1 rfl rfl, rfl⟩, hM, trivial⟩) ?_
      obtain ⟨l120, hv121, hp⟩ := obind hp
      obtain ⟨he122, hb123⟩ := app_some hv121
      obtain ⟨y127, h128, hs129⟩ := RdS.src h107
      obtain ⟨y124, hy125⟩ : ∃ y_, y115 ++ y127 = y_ := ⟨_, rfl⟩
      have h126 : RepL (Rep.int .i64) F W l120 y124 := by rw [he122, ← hy125]; exact RepL.app h117 h128
      refine ops_appendO (x := (Go.Operand.tmp 105)) (y := (Go.Operand.tmp 107)) (t := 33) (e := 3) (d := some 108) (n' := l120.length) (z := 1) (m := x94.Vals.length) (bytes := 8) (xs' := y124) (news := y127) (zv := vI 0) 3 ⟨by kernel_rfl⟩ rfl rfl Tryd.underlying33 (by kernel_rfl) (by rfl) rfl (fun w_ hM => hM.srcS 4 rfl h128 hs129) h128.len h128.one hb123 (by have z_ := congrArg List.length he122; rw [List.length_append] at z_; exact z_.symm) hy125 (fun _ _ _ _ hS h' => trivial) ?_
      rintro ⟨A130, c131⟩
      refine ops_store (an := []) (evs := [sr b4 0 (sl A130 l120 c131)]) ⟨by kernel_rfl⟩ (fun w_ hM hS => let ⟨w', he, h'⟩ := hM.evs_stores [sl A130 l120 c131] 2 rfl 0 (Nat.le_of_ble_eq_true rfl); ⟨w', he, h', trivial⟩) ?_
      refine ops_nil (fin_block (fin_then (st_region [oF 0, oF 1] (by rfl) ?_)))
      refine oQ [oF 0, oF 1] [(93, vI (IntKind.i64.wrap (i92 + 1))), (3, vP b4 0), (72, sl A_w_2 w_2 c_w_2), (73, vI (w_2.length : Int)), (74, vI i54), (91, sl A72 x61.Comps c73), (92, vI (x61.Comps.length : Int))] (by kernel_rfl) ?_
      refine ops_nil ?_
      exact fin_again (l120, IntKind.i64.wrap (i92 + 1)) (A130, c131, y124) (Option.some.inj hp).symm h126 (look_has ⟨rfl, rfl, rfl, rfl, rfl, rfl, rfl, trivial⟩) (fun w_ hM => hM.pick 5 [2, 3, 4] (by kernel_rfl) (by decide) rfl)
     ·
      have hp := cnd_f hc93 hp
      refine st_exit (fin_exit_then (fin_exit_then (fin_exit (fin_block ?_))))
      obtain hq_ := Option.some.inj hp
      subst hq_
      obtain hq_ := hd5 _ rfl
      subst hq_
      have hp : (world_Ints_j4 i54) l89 = some o3 := hk5
      exact fin_join HJ4 (A87, c88, l89, y90) ⟨hp, h91⟩ (look_has ⟨rfl, rfl, rfl, rfl, trivial⟩) (fun w_ hM => hM)
   ·
    have hp := cnd_f hc55 hp
    refine st_exit (fin_exit_then (fin_exit_then (fin_exit ?_)))
    obtain hq_ := Option.some.inj hp
    subst hq_
    obtain hq_ := hd3 _ rfl
    subst hq_
    have hp : world_Ints_j2 l51 = some l9003 := hk3
    exact fin_join HJ2 (A49, c50, l51, y52) ⟨hp, h53⟩ (look_has ⟨rfl, trivial⟩) (fun w_ hM => hM)
 ·
  intro HJ1
  refine st_seq (st_seq (st_region [oF 0, oF 1, oF 2, oF 3] (by rfl) ?_))
  refine oQ [oF 0] [(18, vP b1 0), (4, .func (.func 73) #[] #[vP b4 0]), (3, vP b4 0), (1, vP b1 0)] (by kernel_rfl) ?_
  refine ops_mem (d := some 19) (an := [.v (sl A_w_0 w_0 c_w_0)]) (evs := [ld b1 0 (sl A_w_0 w_0 c_w_0)]) (v := sl A_w_0 w_0 c_w_0) ⟨by kernel_rfl⟩ (fun w_ hM hS => ⟨w_, ⟨hM.cell 2 rfl rfl, rfl⟩, hM, trivial⟩) ?_
  refine oQ [oF 2, oF 3] [(21, vI 0), (20, vI (w_0.length : Int)), (19, sl A_w_0 w_0 c_w_0), (4, .func (.func 73) #[] #[vP b4 0]), (3, vP b4 0), (1, vP b1 0)] (by kernel_rfl) ?_
  refine ops_nil (fin_then (st_block ?_))
  obtain ⟨r6, hl6, hk6⟩ := obind hp
  refine st_loopP (σ := (List Int) × Int) (ρ := (List Int)) (γ := (Option Addr) × Nat × (List Value)) hl6 ((sa g3), 1, ([vI (w_0.length : Int)])) (fun s_ g_ => match s_, g_ with | (l134, i137), (A132, c133, y135) => [(1, vP b1 0), (3, vP b4 0), (4, .func (.func 73) #[] #[vP b4 0]), (19, sl A_w_0 w_0 c_w_0), (20, vI (w_0.length : Int)), (21, vI i137)]) (fun s_ g_ => match s_, g_ with | (l134, i137), (A132, c133, y135) => Mem w0 (.blk b1 [sl A_w_0 w_0 c_w_0, sl A_w_1 w_1 c_w_1, sl A_w_2 w_2 c_w_2] 71 :: .blk b4 [sl A132 l134 c133] 33 :: ow A132 l134 c133 3 1 y135 :: Fz F W :: cs)) (fun s_ g_ => match s_, g_ with | (l134, i137), (A132, c133, y135) => (RepL (Rep.int .i64) F W l134 y135)) h2 (look_has ⟨rfl, rfl, rfl, rfl, rfl, rfl, trivial⟩) (fun w_ hM => hM.pick 4 [2, 0, 1, 3] (by kernel_rfl) (by decide) rfl) ?_
  rintro ⟨l134, i137⟩ ⟨A132, c133, y135⟩ o6 h136 hs_ hd6
  have hp : (world_Ints_l6 w_0) l134 i137 = some o6 := hs_
  clear hs_
  unfold world_Ints_l6 at hp
  refine st_seq (st_region [oF 0] (by rfl) ?_)
  refine oQ [oF 0] [(22, .bool (decide (i137 < (w_0.length : Int)))), (1, vP b1 0), (3, vP b4 0), (4, .func (.func 73) #[] #[vP b4 0]), (19, sl A_w_0 w_0 c_w_0), (20, vI (w_0.length : Int)), (21, vI i137)] (by kernel_rfl) ?_
  refine ops_nil (fin_then (st_seq ?_))
  refine st_if (b := decide (i137 < (w_0.length : Int))) rfl (fun hc138 => ?_) (fun hc138 => ?_)
  ·
   have hp := cnd_t hc138 hp
   refine st_skip (fin_then ?_)
   refine st_join1 (σ := (Option Addr) × Nat × (List Int) × (List Value)) (L := fun x_ => match x_ with | (A139, c140, l141, y142) => [(1, vP b1 0), (3, vP b4 0), (4, .func (.func 73) #[] #[vP b4 0]), (19, sl A_w_0 w_0 c_w_0), (20, vI (w_0.length : Int)), (21, vI i137)]) (N := fun x_ => match x_ with | (A139, c140, l141, y142) => Mem w0 (.blk b1 [sl A_w_0 w_0 c_w_0, sl A_w_1 w_1 c_w_1, sl A_w_2 w_2 c_w_2] 71 :: .blk b4 [sl A139 l141 c140] 33 :: ow A139 l141 c140 3 1 y142 :: Fz F W :: cs)) (I := fun x_ => match x_ with | (A139, c140, l141, y142) => ((world_Ints_j7 i137) l141 = some o6) ∧ (RepL (Rep.int .i64) F W l141 y142)) ?_ ?_
   ·
    rintro ⟨A139, c140, l141, y142⟩ ⟨hp, h143⟩
    unfold world_Ints_j7 at hp
    refine st_region [oF 0, oF 1] (by rfl) ?_
    refine oQ [oF 0, oF 1] [(21, vI (IntKind.i64.wrap (i137 + 1))), (1, vP b1 0), (3, vP b4 0), (4, .func (.func 73) #[] #[vP b4 0]), (19, sl A_w_0 w_0 c_w_0), (20, vI (w_0.length : Int))] (by kernel_rfl) ?_
    refine ops_nil ?_
    exact fin_again (l141, IntKind.i64.wrap (i137 + 1)) (A139, c140, y142) (Option.some.inj hp).symm h143 (look_has ⟨rfl, rfl, rfl, rfl, rfl, rfl, trivial⟩) (fun w_ hM => hM)
   ·
    intro HJ7
    refine st_seq (st_block (st_seq (st_region [oF 0, oF 1, oF 2, oF 3] (by rfl) ?_)))
    obtain ⟨x144, hv145, hp⟩ := obind hp
    obtain ⟨m146, hm147, hx148⟩ := idx_some hv145
    have hl151 := (List.getElem?_eq_some_iff.1 hx148).1
    obtain ⟨ad152, vs149, hA153, hr150, hq154⟩ := RdS.el h_w_0 hx148
    obtain ⟨A155, c156, rfl, h157⟩ := dec_api_Kind hr150
    refine ops_val (op := (.indexAddr 28 (.tmp 19) (.tmp 21))) (d := some 23) (v := .pointer (some (ad152.add (m146 * 2)))) ⟨by kernel_rfl⟩ (run_indexA hA153 Tryd.underlying28 (z := 2) (by kernel_rfl) rfl rfl hm147 hl151) ?_
    refine ops_mem (d := some 24) (an := [.v (.string x144.Name), .v (sl A155 x144.Fields c156)]) (evs := [.load (ad152.add (m146 * 2)) (.string x144.Name), .load ((ad152.add (m146 * 2)).add 1) (sl A155 x144.Fields c156)]) (v := .agg #[.string x144.Name, sl A155 x144.Fields c156]) ⟨by kernel_rfl⟩ (fun w_ hM hS => ⟨w_, ⟨hM.elcell 3 rfl hq154 0 rfl, hM.elcell 3 rfl hq154 1 rfl, rfl⟩, hM, trivial⟩) ?_
    refine ops_newB (d := some 6) [.string ByteArray.empty, .slice none 0 0] 27 (fun b158 => ⟨by kernel_rfl⟩) (fun w_ hM hS => trivial) (fun b158 => ?_)
    refine ops_store (an := []) (evs := [sr b158 0 (.string x144.Name), sr b158 1 (sl A155 x144.Fields c156)]) ⟨by kernel_rfl⟩ (fun w_ hM hS => let ⟨w', he, h'⟩ := hM.evs_stores [.string x144.Name, sl A155 x144.Fields c156] 0 rfl 0 (Nat.le_of_ble_eq_true rfl); ⟨w', he, h', trivial⟩) ?_
    refine ops_nil (fin_then (st_seq (st_region [oF 0, oF 1, oF 2, oF 3] (by rfl) ?_)))
    refine oQ [oF 0, oF 1] [(26, vP b158 0), (25, .func (.func 73) #[] #[vP b4 0]), (6, vP b158 0), (1, vP b1 0), (3, vP b4 0), (4, .func (.func 73) #[] #[vP b4 0]), (19, sl A_w_0 w_0 c_w_0), (20, vI (w_0.length : Int)), (21, vI i137)] (by kernel_rfl) ?_
    refine ops_mem (d := some 27) (an := [.v (.string x144.Name)]) (evs := [ld b158 0 (.string x144.Name)]) (v := .string x144.Name) ⟨by kernel_rfl⟩ (fun w_ hM hS => ⟨w_, ⟨hM.cell 0 rfl rfl, rfl⟩, hM, trivial⟩) ?_
    obtain ⟨x159, hv160, hp⟩ := obind hp
    refine ops_callI (σ := (Option Addr) × Nat × (List Value)) (d := some 28) (f := 73) (args := #[.string x144.Name, vP b4 0]) (v := (fun x_ => match x_ with | (A161, c162, y163) => .tuple #[])) (I := (fun x_ => match x_ with | (A161, c162, y163) => (RepL (Rep.int .i64) F W x159 y163))) (M' := (fun x_ => match x_ with | (A161, c162, y163) => Mem w0 (ow A161 x159 c162 3 1 y163 :: .blk b158 [.string x144.Name, sl A155 x144.Fields c156] 27 :: .blk b1 [sl A_w_0 w_0 c_w_0, sl A_w_1 w_1 c_w_1, sl A_w_2 w_2 c_w_2] 71 :: .blk b4 [sl A161 x159 c162] 33 :: Fz F W :: cs))) ⟨by kernel_rfl⟩ (fun w_ hM hS => (world_Ints_1_ok w0 w_ (.blk b158 [.string x144.Name, sl A155 x144.Fields c156] 27 :: .blk b1 [sl A_w_0 w_0 c_w_0, sl A_w_1 w_1 c_w_1, sl A_w_2 w_2 c_w_2] 71 :: cs) F W x144.Name b4 A132 c133 l134 y135 (hM.pick 5 [2, 3, 4, 0, 1] (by kernel_rfl) (by decide) rfl) h136 x159 hv160).mono (by rintro e w' ⟨A161, c162, y163, h164, rfl, h'⟩; have h' : Mem w0 (ow A161 x159 c162 3 1 y163 :: .blk b158 [.string x144.Name, sl A155 x144.Fields c156] 27 :: .blk b1 [sl A_w_0 w_0 c_w_0, sl A_w_1 w_1 c_w_1, sl A_w_2 w_2 c_w_2] 71 :: .blk b4 [sl A161 x159 c162] 33 :: Fz F W :: cs) w' := (h'.pick 5 [1, 3, 4, 0, 2] (by kernel_rfl) (by decide) rfl); exact ⟨(A161, c162, y163), h164, rfl, h', trivial⟩)) ?_
    rintro ⟨A161, c162, y163⟩ h164
    refine ops_nil (fin_then (st_seq (st_region [oF 0, oF 1, oF 2, oF 3, oF 4, oF 5, oF 6] (by rfl) ?_)))
    refine ops_mem (d := some 29) (an := [.v (sl A161 x159 c162)]) (evs := [ld b4 0 (sl A161 x159 c162)]) (v := sl A161 x159 c162) ⟨by kernel_rfl⟩ (fun w_ hM hS => ⟨w_, ⟨hM.cell 3 rfl rfl, rfl⟩, hM, trivial⟩) ?_
    refine oQ [oF 1] [(30, vP b158 1), (29, sl A161 x159 c162), (6, vP b158 0), (1, vP b1 0), (3, vP b4 0), (4, .func (.func 73) #[] #[vP b4 0]), (19, sl A_w_0 w_0 c_w_0), (20, vI (w_0.length : Int)), (21, vI i137)] (by kernel_rfl) ?_
    refine ops_mem (d := some 31) (an := [.v (sl A155 x144.Fields c156)]) (evs := [ld b158 1 (sl A155 x144.Fields c156)]) (v := sl A155 x144.Fields c156) ⟨by kernel_rfl⟩ (fun w_ hM hS => ⟨w_, ⟨hM.cell 1 rfl rfl, rfl⟩, hM, trivial⟩) ?_
    refine oQ [oF 3] [(32, vI (x144.Fields.length : Int)), (29, sl A161 x159 c162), (6, vP b158 0), (1, vP b1 0), (3, vP b4 0), (4, .func (.func 73) #[] #[vP b4 0]), (19, sl A_w_0 w_0 c_w_0), (20, vI (w_0.length : Int)), (21, vI i137)] (by kernel_rfl) ?_
    have h165 : RepL (Rep.int .i64) F W ([(x144.Fields.length : Int)] : List Int) ([vI (x144.Fields.length : Int)]) := (RepL.cons (R := (Rep.int .i64)) (F := F) (w := W) (vs := [vI (x144.Fields.length : Int)]) (ys := []) rfl RepL.nil)
    refine ops_new (d := some 33) (o := .cells ([vI (x144.Fields.length : Int)]).toArray 3) (v := fun g166 => .slice (sa g166) ([(x144.Fields.length : Int)] : List Int).length 1) (M' := fun g166 => Mem w0 (orow (sa g166) ([(x144.Fields.length : Int)] : List Int).length 1 3 1 ([vI (x144.Fields.length : Int)]) :: ow A161 x159 c162 3 1 y163 :: .blk b158 [.string x144.Name, sl A155 x144.Fields c156] 27 :: .blk b1 [sl A_w_0 w_0 c_w_0, sl A_w_1 w_1 c_w_1, sl A_w_2 w_2 c_w_2] 71 :: .blk b4 [sl A161 x159 c162] 33 :: Fz F W :: cs)) (fun g166 => ⟨by kernel_rfl⟩) (fun w_ hM hS => ⟨hM.onew [vI (x144.Fields.length : Int)] 3 1 1 rfl (by decide), trivial⟩) (fun g166 => ?_)
    obtain ⟨l167, hv168, hp⟩ := obind hp
    obtain ⟨he169, hb170⟩ := app_some hv168
    obtain ⟨y171, hy172⟩ : ∃ y_, y163 ++ ([vI (x144.Fields.length : Int)]) = y_ := ⟨_, rfl⟩
    have h173 : RepL (Rep.int .i64) F W l167 y171 := by rw [he169, ← hy172]; exact RepL.app h164 h165
    refine ops_appendO (x := (Go.Operand.tmp 29)) (y := (Go.Operand.tmp 33)) (t := 33) (e := 3) (d := some 34) (n' := l167.length) (z := 1) (m := ([(x144.Fields.length : Int)] : List Int).length) (bytes := 8) (xs' := y171) (news := ([vI (x144.Fields.length : Int)])) (zv := vI 0) 1 ⟨by kernel_rfl⟩ rfl rfl Tryd.underlying33 (by kernel_rfl) (by rfl) rfl (fun w_ hM => hM.srcO 0 rfl) h165.len h165.one hb170 (by have z_ := congrArg List.length he169; rw [List.length_append] at z_; exact z_.symm) hy172 (fun _ _ _ _ hS h' => trivial) ?_
    rintro ⟨A174, c175⟩
    refine ops_store (an := []) (evs := [sr b4 0 (sl A174 l167 c175)]) ⟨by kernel_rfl⟩ (fun w_ hM hS => let ⟨w', he, h'⟩ := hM.evs_stores [sl A174 l167 c175] 4 rfl 0 (Nat.le_of_ble_eq_true rfl); ⟨w', he, h', trivial⟩) ?_
    refine ops_nil (fin_then (st_seq (st_region [oF 0, oF 1, oF 2, oF 3] (by rfl) ?_)))
    refine oQ [oF 0] [(35, vP b158 1), (1, vP b1 0), (3, vP b4 0), (4, .func (.func 73) #[] #[vP b4 0]), (19, sl A_w_0 w_0 c_w_0), (20, vI (w_0.length : Int)), (21, vI i137)] (by kernel_rfl) ?_
    refine ops_mem (d := some 36) (an := [.v (sl A155 x144.Fields c156)]) (evs := [ld b158 1 (sl A155 x144.Fields c156)]) (v := sl A155 x144.Fields c156) ⟨by kernel_rfl⟩ (fun w_ hM hS => ⟨w_, ⟨hM.cell 2 rfl rfl, rfl⟩, hM, trivial⟩) ?_
    refine oQ [oF 2, oF 3] [(38, vI 0), (37, vI (x144.Fields.length : Int)), (36, sl A155 x144.Fields c156), (1, vP b1 0), (3, vP b4 0), (4, .func (.func 73) #[] #[vP b4 0]), (19, sl A_w_0 w_0 c_w_0), (20, vI (w_0.length : Int)), (21, vI i137)] (by kernel_rfl) ?_
    refine ops_nil (fin_then (st_block ?_))
    obtain ⟨r8, hl8, hk8⟩ := obind hp
    refine st_loopP (σ := (List Int) × Int) (ρ := (List Int)) (γ := (Option Addr) × Nat × (List Value)) hl8 (A174, c175, y171) (fun s_ g_ => match s_, g_ with | (l178, i181), (A176, c177, y179) => [(1, vP b1 0), (3, vP b4 0), (4, .func (.func 73) #[] #[vP b4 0]), (19, sl A_w_0 w_0 c_w_0), (20, vI (w_0.length : Int)), (21, vI i137), (36, sl A155 x144.Fields c156), (37, vI (x144.Fields.length : Int)), (38, vI i181)]) (fun s_ g_ => match s_, g_ with | (l178, i181), (A176, c177, y179) => Mem w0 (.blk b1 [sl A_w_0 w_0 c_w_0, sl A_w_1 w_1 c_w_1, sl A_w_2 w_2 c_w_2] 71 :: .blk b4 [sl A176 l178 c177] 33 :: ow A176 l178 c177 3 1 y179 :: Fz F W :: cs)) (fun s_ g_ => match s_, g_ with | (l178, i181), (A176, c177, y179) => (RepL (Rep.int .i64) F W l178 y179)) h173 (look_has ⟨rfl, rfl, rfl, rfl, rfl, rfl, rfl, rfl, rfl, trivial⟩) (fun w_ hM => hM.pick 6 [3, 4, 1, 5] (by kernel_rfl) (by decide) rfl) ?_
    rintro ⟨l178, i181⟩ ⟨A176, c177, y179⟩ o8 h180 hs_ hd8
    have hp : (world_Ints_l8 x144) l178 i181 = some o8 := hs_
    clear hs_
    unfold world_Ints_l8 at hp
    refine st_seq (st_region [oF 0] (by rfl) ?_)
    refine oQ [oF 0] [(39, .bool (decide (i181 < (x144.Fields.length : Int)))), (1, vP b1 0), (3, vP b4 0), (4, .func (.func 73) #[] #[vP b4 0]), (19, sl A_w_0 w_0 c_w_0), (20, vI (w_0.length : Int)), (21, vI i137), (36, sl A155 x144.Fields c156), (37, vI (x144.Fields.length : Int)), (38, vI i181)] (by kernel_rfl) ?_
    refine ops_nil (fin_then (st_seq ?_))
    refine st_if (b := decide (i181 < (x144.Fields.length : Int))) rfl (fun hc182 => ?_) (fun hc182 => ?_)
    ·
     have hp := cnd_t hc182 hp
     refine st_skip (fin_then (st_seq (st_block (st_seq (st_region [oF 0, oF 1, oF 2, oF 3] (by rfl) ?_)))))
     obtain ⟨x183, hv184, hp⟩ := obind hp
     obtain ⟨m185, hm186, hx187⟩ := idx_some hv184
     have hl190 := (List.getElem?_eq_some_iff.1 hx187).1
     obtain ⟨ad191, vs188, hA192, hr189, hq193⟩ := RdS.el h157 hx187
     obtain rfl := dec_api_Field hr189
     refine ops_val (op := (.indexAddr 25 (.tmp 36) (.tmp 38))) (d := some 40) (v := .pointer (some (ad191.add (m185 * 3)))) ⟨by kernel_rfl⟩ (run_indexA hA192 Tryd.underlying25 (z := 3) (by kernel_rfl) rfl rfl hm186 hl190) ?_
     refine ops_mem (d := some 41) (an := [.v (.string x183.Name), .v (vI x183.Bits), .v (vI x183.Low)]) (evs := [.load (ad191.add (m185 * 3)) (.string x183.Name), .load ((ad191.add (m185 * 3)).add 1) (vI x183.Bits), .load ((ad191.add (m185 * 3)).add 2) (vI x183.Low)]) (v := .agg #[.string x183.Name, vI x183.Bits, vI x183.Low]) ⟨by kernel_rfl⟩ (fun w_ hM hS => ⟨w_, ⟨hM.elcell 3 rfl hq193 0 rfl, hM.elcell 3 rfl hq193 1 rfl, hM.elcell 3 rfl hq193 2 rfl, rfl⟩, hM, trivial⟩) ?_
     refine ops_newB (d := some 8) [.string ByteArray.empty, vI 0, vI 0] 23 (fun b194 => ⟨by kernel_rfl⟩) (fun w_ hM hS => trivial) (fun b194 => ?_)
     refine ops_store (an := []) (evs := [sr b194 0 (.string x183.Name), sr b194 1 (vI x183.Bits), sr b194 2 (vI x183.Low)]) ⟨by kernel_rfl⟩ (fun w_ hM hS => let ⟨w', he, h'⟩ := hM.evs_stores [.string x183.Name, vI x183.Bits, vI x183.Low] 0 rfl 0 (Nat.le_of_ble_eq_true rfl); ⟨w', he, h', trivial⟩) ?_
     refine ops_nil (fin_then (st_seq (st_region [oF 0, oF 1, oF 2, oF 3] (by rfl) ?_)))
     refine oQ [oF 0, oF 1] [(43, vP b194 0), (42, .func (.func 73) #[] #[vP b4 0]), (8, vP b194 0), (1, vP b1 0), (3, vP b4 0), (4, .func (.func 73) #[] #[vP b4 0]), (19, sl A_w_0 w_0 c_w_0), (20, vI (w_0.length : Int)), (21, vI i137), (36, sl A155 x144.Fields c156), (37, vI (x144.Fields.length : Int)), (38, vI i181)] (by kernel_rfl) ?_
     refine ops_mem (d := some 44) (an := [.v (.string x183.Name)]) (evs := [ld b194 0 (.string x183.Name)]) (v := .string x183.Name) ⟨by kernel_rfl⟩ (fun w_ hM hS => ⟨w_, ⟨hM.cell 0 rfl rfl, rfl⟩, hM, trivial⟩) ?_
     obtain ⟨x195, hv196, hp⟩ := obind hp
     refine ops_callI (σ := (Option Addr) × Nat × (List Value)) (d := some 45) (f := 73) (args := #[.string x183.Name, vP b4 0]) (v := (fun x_ => match x_ with | (A197, c198, y199) => .tuple #[])) (I := (fun x_ => match x_ with | (A197, c198, y199) => (RepL (Rep.int .i64) F W x195 y199))) (M' := (fun x_ => match x_ with | (A197, c198, y199) => Mem w0 (ow A197 x195 c198 3 1 y199 :: .blk b194 [.string x183.Name, vI x183.Bits, vI x183.Low] 23 :: .blk b1 [sl A_w_0 w_0 c_w_0, sl A_w_1 w_1 c_w_1, sl A_w_2 w_2 c_w_2] 71 :: .blk b4 [sl A197 x195 c198] 33 :: Fz F W :: cs))) ⟨by kernel_rfl⟩ (fun w_ hM hS => (world_Ints_1_ok w0 w_ (.blk b194 [.string x183.Name, vI x183.Bits, vI x183.Low] 23 :: .blk b1 [sl A_w_0 w_0 c_w_0, sl A_w_1 w_1 c_w_1, sl A_w_2 w_2 c_w_2] 71 :: cs) F W x183.Name b4 A176 c177 l178 y179 (hM.pick 5 [2, 3, 4, 0, 1] (by kernel_rfl) (by decide) rfl) h180 x195 hv196).mono (by rintro e w' ⟨A197, c198, y199, h200, rfl, h'⟩; have h' : Mem w0 (ow A197 x195 c198 3 1 y199 :: .blk b194 [.string x183.Name, vI x183.Bits, vI x183.Low] 23 :: .blk b1 [sl A_w_0 w_0 c_w_0, sl A_w_1 w_1 c_w_1, sl A_w_2 w_2 c_w_2] 71 :: .blk b4 [sl A197 x195 c198] 33 :: Fz F W :: cs) w' := (h'.pick 5 [1, 3, 4, 0, 2] (by kernel_rfl) (by decide) rfl); exact ⟨(A197, c198, y199), h200, rfl, h', trivial⟩)) ?_
     rintro ⟨A197, c198, y199⟩ h200
     refine ops_nil (fin_then (st_region [oF 0, oF 1, oF 2, oF 3, oF 4, oF 5, oF 6, oF 7] (by rfl) ?_))
     refine ops_mem (d := some 46) (an := [.v (sl A197 x195 c198)]) (evs := [ld b4 0 (sl A197 x195 c198)]) (v := sl A197 x195 c198) ⟨by kernel_rfl⟩ (fun w_ hM hS => ⟨w_, ⟨hM.cell 3 rfl rfl, rfl⟩, hM, trivial⟩) ?_
     refine oQ [oF 1] [(47, vP b194 1), (46, sl A197 x195 c198), (8, vP b194 0), (1, vP b1 0), (3, vP b4 0), (4, .func (.func 73) #[] #[vP b4 0]), (19, sl A_w_0 w_0 c_w_0), (20, vI (w_0.length : Int)), (21, vI i137), (36, sl A155 x144.Fields c156), (37, vI (x144.Fields.length : Int)), (38, vI i181)] (by kernel_rfl) ?_
     refine ops_mem (d := some 48) (an := [.v (vI x183.Bits)]) (evs := [ld b194 1 (vI x183.Bits)]) (v := vI x183.Bits) ⟨by kernel_rfl⟩ (fun w_ hM hS => ⟨w_, ⟨hM.cell 1 rfl rfl, rfl⟩, hM, trivial⟩) ?_
     refine oQ [oF 3] [(49, vP b194 2), (48, vI x183.Bits), (46, sl A197 x195 c198), (1, vP b1 0), (3, vP b4 0), (4, .func (.func 73) #[] #[vP b4 0]), (19, sl A_w_0 w_0 c_w_0), (20, vI (w_0.length : Int)), (21, vI i137), (36, sl A155 x144.Fields c156), (37, vI (x144.Fields.length : Int)), (38, vI i181)] (by kernel_rfl) ?_
     refine ops_mem (d := some 50) (an := [.v (vI x183.Low)]) (evs := [ld b194 2 (vI x183.Low)]) (v := vI x183.Low) ⟨by kernel_rfl⟩ (fun w_ hM hS => ⟨w_, ⟨hM.cell 1 rfl rfl, rfl⟩, hM, trivial⟩) ?_
     have h201 : RepL (Rep.int .i64) F W ([x183.Bits, x183.Low] : List Int) ([vI x183.Bits, vI x183.Low]) := (RepL.cons (R := (Rep.int .i64)) (F := F) (w := W) (vs := [vI x183.Bits]) (ys := [vI x183.Low]) rfl (RepL.cons (R := (Rep.int .i64)) (F := F) (w := W) (vs := [vI x183.Low]) (ys := []) rfl RepL.nil))
     refine ops_new (d := some 51) (o := .cells ([vI x183.Bits, vI x183.Low]).toArray 3) (v := fun g202 => .slice (sa g202) ([x183.Bits, x183.Low] : List Int).length 2) (M' := fun g202 => Mem w0 (orow (sa g202) ([x183.Bits, x183.Low] : List Int).length 2 3 1 ([vI x183.Bits, vI x183.Low]) :: ow A197 x195 c198 3 1 y199 :: .blk b194 [.string x183.Name, vI x183.Bits, vI x183.Low] 23 :: .blk b1 [sl A_w_0 w_0 c_w_0, sl A_w_1 w_1 c_w_1, sl A_w_2 w_2 c_w_2] 71 :: .blk b4 [sl A197 x195 c198] 33 :: Fz F W :: cs)) (fun g202 => ⟨by kernel_rfl⟩) (fun w_ hM hS => ⟨hM.onew [vI x183.Bits, vI x183.Low] 3 2 1 rfl (by decide), trivial⟩) (fun g202 => ?_)
     obtain ⟨l203, hv204, hp⟩ := obind hp
     obtain ⟨he205, hb206⟩ := app_some hv204
     obtain ⟨y207, hy208⟩ : ∃ y_, y199 ++ ([vI x183.Bits, vI x183.Low]) = y_ := ⟨_, rfl⟩
     have h209 : RepL (Rep.int .i64) F W l203 y207 := by rw [he205, ← hy208]; exact RepL.app h200 h201
     refine ops_appendO (x := (Go.Operand.tmp 46)) (y := (Go.Operand.tmp 51)) (t := 33) (e := 3) (d := some 52) (n' := l203.length) (z := 1) (m := ([x183.Bits, x183.Low] : List Int).length) (bytes := 8) (xs' := y207) (news := ([vI x183.Bits, vI x183.Low])) (zv := vI 0) 1 ⟨by kernel_rfl⟩ rfl rfl Tryd.underlying33 (by kernel_rfl) (by rfl) rfl (fun w_ hM => hM.srcO 0 rfl) h201.len h201.one hb206 (by have z_ := congrArg List.length he205; rw [List.length_append] at z_; exact z_.symm) hy208 (fun _ _ _ _ hS h' => trivial) ?_
     rintro ⟨A210, c211⟩
     refine ops_store (an := []) (evs := [sr b4 0 (sl A210 l203 c211)]) ⟨by kernel_rfl⟩ (fun w_ hM hS => let ⟨w', he, h'⟩ := hM.evs_stores [sl A210 l203 c211] 4 rfl 0 (Nat.le_of_ble_eq_true rfl); ⟨w', he, h', trivial⟩) ?_
     refine ops_nil (fin_block (fin_then (st_region [oF 0, oF 1] (by rfl) ?_)))
     refine oQ [oF 0, oF 1] [(38, vI (IntKind.i64.wrap (i181 + 1))), (1, vP b1 0), (3, vP b4 0), (4, .func (.func 73) #[] #[vP b4 0]), (19, sl A_w_0 w_0 c_w_0), (20, vI (w_0.length : Int)), (21, vI i137), (36, sl A155 x144.Fields c156), (37, vI (x144.Fields.length : Int))] (by kernel_rfl) ?_
     refine ops_nil ?_
     exact fin_again (l203, IntKind.i64.wrap (i181 + 1)) (A210, c211, y207) (Option.some.inj hp).symm h209 (look_has ⟨rfl, rfl, rfl, rfl, rfl, rfl, rfl, rfl, rfl, trivial⟩) (fun w_ hM => hM.pick 6 [3, 4, 1, 5] (by kernel_rfl) (by decide) rfl)
    ·
     have hp := cnd_f hc182 hp
     refine st_exit (fin_exit_then (fin_exit_then (fin_exit (fin_block ?_))))
     obtain hq_ := Option.some.inj hp
     subst hq_
     obtain hq_ := hd8 _ rfl
     subst hq_
     have hp : (world_Ints_j7 i137) l178 = some o6 := hk8
     exact fin_join HJ7 (A176, c177, l178, y179) ⟨hp, h180⟩ (look_has ⟨rfl, rfl, rfl, rfl, rfl, rfl, trivial⟩) (fun w_ hM => hM)
  ·
   have hp := cnd_f hc138 hp
   refine st_exit (fin_exit_then (fin_exit_then (fin_exit ?_)))
   obtain hq_ := Option.some.inj hp
   subst hq_
   obtain hq_ := hd6 _ rfl
   subst hq_
   have hp : (world_Ints_j1 w_1 w_2) l134 = some l9003 := hk6
   exact fin_join HJ1 (A132, c133, l134, y135) ⟨hp, h136⟩ (look_has ⟨rfl, rfl, trivial⟩) (fun w_ hM => hM)
theorem tourref3_IsName_ok (w0 w : World) (cs : List Chunk) (F : Nat → Prop) (W : World) (s : ByteArray) (hM0 : Mem w0 (Fz F W :: cs) w) (t9001 : Bool) (hp : tourref3_IsName s = some t9001) : Calls Tryd.prog 19 #[.string s] w fun e w' => (True) ∧ e = .returned (.bool t9001) ∧ Mem w0 (Fz F W :: cs) w' := by
 unfold tourref3_IsName at hp
 refine sx_calls Tryd.func19 rfl (n := 20) (by kernel_rfl) (l := [(0, .string s)]) rfl (by rfl) hM0 ?_
 refine st_seq (st_region [oF 0] (by rfl) ?_)
 refine oQ [oF 0] [(0, .string s)] (by kernel_rfl) ?_
 refine ops_nil (fin_then ?_)
 refine st_join1 (σ := Bool) (L := fun x_ => match x_ with | t1 => [(2, .bool t1)]) (N := fun x_ => match x_ with | t1 => Mem w0 (Fz F W :: cs)) (I := fun x_ => match x_ with | t1 => (tourref3_IsName_j1 t1 = some t9001)) ?_ ?_
 ·
  rintro t1 hp
  unfold tourref3_IsName_j1 at hp
  refine st_ret ?_
  have hq_ := Option.some.inj hp
  have hr0_ := hq_
  subst hr0_
  refine fin_ret [.tmp 2] [.bool t1] rfl rfl (fun w_ hM => (.tmp rfl .nil)) (fun w_ hM => ?_)
  exact ⟨trivial, rfl, hM⟩
 ·
  intro HJ1
  refine st_seq (st_region [oF 0, oF 1, oF 2, oF 3, oF 4, oF 5, oF 6, oF 7, oF 8, oF 9, oF 10, oF 11, oF 12, oF 13, oF 14, oF 15, oF 16, oF 17] (by rfl) ?_)
  refine oQ [oF 0, oF 1, oF 2] [(5, .bool (!(s.toList == (⟨#[]⟩ : ByteArray).toList))), (0, .string s)] (by kernel_rfl) ?_
  refine ops_bool (t := !(s.toList == (⟨#[]⟩ : ByteArray).toList)) (l1 := [(5, .bool true), (0, .string s)]) (l2 := [(5, .bool false), (0, .string s)]) (fun h => by rw [h]) (fun h => by rw [h]) (fun hc2 => ?_) (fun hc2 => ?_)
  ·
   have hp := cnd_t hc2 hp
   refine oQ [oF 3, oF 4, oF 5, oF 6, oF 7] [(10, .bool (decide ((s.size : Int) < 17))), (0, .string s)] (by kernel_rfl) ?_
   refine ops_bool (t := decide ((s.size : Int) < 17)) (l1 := [(10, .bool true), (0, .string s)]) (l2 := [(10, .bool false), (0, .string s)]) (fun h => by rw [h]) (fun h => by rw [h]) (fun hc3 => ?_) (fun hc3 => ?_)
   ·
    have hp := cnd_t hc3 hp
    refine oQ [oF 8] [(11, .string s), (10, .bool true), (0, .string s)] (by kernel_rfl) ?_
    obtain ⟨x4, hv5, hp⟩ := obind hp
    refine ops_callI (σ := Unit) (d := some 12) (f := 64) (args := #[.string s, .string (⟨#[97, 98, 99, 100, 101, 102, 103, 104, 105, 106, 107, 108, 109, 110, 111, 112, 113, 114, 115, 116, 117, 118, 119, 120, 121, 122, 48, 49, 50, 51, 52, 53, 54, 55, 56, 57]⟩)]) (v := (fun _ => .string x4)) (I := (fun _ => True)) (M' := (fun _ => Mem w0 (Fz F W :: cs))) ⟨by kernel_rfl⟩ (fun w_ hM hS => (strings_Trim_ok w0 w_ (cs) F W s hM  x4 hv5).mono (by rintro e w' ⟨-, rfl, h'⟩; have h' : Mem w0 (Fz F W :: cs) w' := h'; exact ⟨(), trivial, rfl, h', trivial⟩)) ?_
    rintro _ -
    refine oQ [oF 10, oF 11, oF 12] [(15, .bool (x4.toList == (⟨#[]⟩ : ByteArray).toList)), (0, .string s)] (by kernel_rfl) ?_
    refine ops_bool (t := (x4.toList == (⟨#[]⟩ : ByteArray).toList)) (l1 := [(15, .bool true), (0, .string s)]) (l2 := [(15, .bool false), (0, .string s)]) (fun h => by rw [h]) (fun h => by rw [h]) (fun hc6 => ?_) (fun hc6 => ?_)
    ·
     have hp := cnd_t hc6 hp
     refine oQ [oF 13] [(16, .string s), (15, .bool true)] (by kernel_rfl) ?_
     obtain ⟨x7, hv8, hp⟩ := obind hp
     refine ops_val (op := (.index 9 (.tmp 16) (.const (Go.Value.int Go.IntKind.i64 0)))) (d := some 17) (v := .int .u8 x7) ⟨by kernel_rfl⟩ (run_strIdx Tryd.underlying9 rfl rfl hv8) ?_
     refine oQ [oF 15, oF 16, oF 17] [(2, .bool (decide (57 < x7)))] (by kernel_rfl) ?_
     refine ops_nil ?_
     exact fin_join HJ1 (decide (57 < x7)) hp (look_has ⟨rfl, trivial⟩) (fun w_ hM => hM)
    ·
     have hp := cnd_f hc6 hp
     refine oQ [oF 13, oF 14, oF 15, oF 16, oF 17] [(2, .bool false)] (by kernel_rfl) ?_
     refine ops_nil ?_
     exact fin_join HJ1 false hp (look_has ⟨rfl, trivial⟩) (fun w_ hM => hM)
   ·
    have hp := cnd_f hc3 hp
    refine oQ [oF 8, oF 9, oF 10, oF 11, oF 12, oF 13, oF 14, oF 15, oF 16, oF 17] [(2, .bool false)] (by kernel_rfl) ?_
    refine ops_nil ?_
    exact fin_join HJ1 false hp (look_has ⟨rfl, trivial⟩) (fun w_ hM => hM)
  ·
   have hp := cnd_f hc2 hp
   refine oQ [oF 3, oF 4, oF 5, oF 6, oF 7, oF 8, oF 9, oF 10, oF 11, oF 12, oF 13, oF 14, oF 15, oF 16, oF 17] [(2, .bool false)] (by kernel_rfl) ?_
   refine ops_nil ?_
   exact fin_join HJ1 false hp (look_has ⟨rfl, trivial⟩) (fun w_ hM => hM)
theorem tourref3_FieldOK_ok (w0 w : World) (cs : List Chunk) (F : Nat → Prop) (W : World) (f_0 : ByteArray) (f_1 : Int) (f_2 : Int) (hM0 : Mem w0 (Fz F W :: cs) w) (t9001 : Bool) (hp : tourref3_FieldOK f_0 f_1 f_2 = some t9001) : Calls Tryd.prog 10 #[.agg #[.string f_0, vI f_1, vI f_2]] w fun e w' => (True) ∧ e = .returned (.bool t9001) ∧ Mem w0 (Fz F W :: cs) w' := by
 unfold tourref3_FieldOK at hp
 refine sx_calls Tryd.func10 rfl (n := 26) (by kernel_rfl) (l := [(0, .agg #[.string f_0, vI f_1, vI f_2])]) rfl (by rfl) hM0 ?_
 refine st_seq (st_region [oF 0, oF 1] (by rfl) ?_)
 refine ops_newB (d := some 1) [.string f_0, vI f_1, vI f_2] 23 (fun b1 => ⟨by kernel_rfl⟩) (fun w_ hM hS => trivial) (fun b1 => ?_)
 refine oQ [oF 1] [(1, vP b1 0)] (by kernel_rfl) ?_
 refine ops_nil (fin_then ?_)
 refine st_join1 (σ := Bool) (L := fun x_ => match x_ with | t2 => [(2, .bool t2)]) (N := fun x_ => match x_ with | t2 => Mem w0 (Fz F W :: cs)) (I := fun x_ => match x_ with | t2 => (tourref3_FieldOK_j1 t2 = some t9001)) ?_ ?_
 ·
  rintro t2 hp
  unfold tourref3_FieldOK_j1 at hp
  refine st_ret ?_
  have hq_ := Option.some.inj hp
  have hr0_ := hq_
  subst hr0_
  refine fin_ret [.tmp 2] [.bool t2] rfl rfl (fun w_ hM => (.tmp rfl .nil)) (fun w_ hM => ?_)
  exact ⟨trivial, rfl, hM⟩
 ·
  intro HJ1
  refine st_seq (st_region [oF 0, oF 1, oF 2, oF 3, oF 4, oF 5, oF 6, oF 7, oF 8, oF 9, oF 10, oF 11, oF 12, oF 13, oF 14, oF 15, oF 16, oF 17, oF 18, oF 19, oF 20, oF 21, oF 22, oF 23] (by rfl) ?_)
  refine oQ [oF 0] [(3, vP b1 0), (1, vP b1 0)] (by kernel_rfl) ?_
  refine ops_mem (d := some 4) (an := [.v (.string f_0)]) (evs := [ld b1 0 (.string f_0)]) (v := .string f_0) ⟨by kernel_rfl⟩ (fun w_ hM hS => ⟨w_, ⟨hM.cell 0 rfl rfl, rfl⟩, hM, trivial⟩) ?_
  obtain ⟨x3, hv4, hp⟩ := obind hp
  refine ops_callI (σ := Unit) (d := some 5) (f := 19) (args := #[.string f_0]) (v := (fun _ => .bool x3)) (I := (fun _ => True)) (M' := (fun _ => Mem w0 (.blk b1 [.string f_0, vI f_1, vI f_2] 23 :: Fz F W :: cs))) ⟨by kernel_rfl⟩ (fun w_ hM hS => (tourref3_IsName_ok w0 w_ (.blk b1 [.string f_0, vI f_1, vI f_2] 23 :: cs) F W f_0 (hM.pick 2 [1, 0] (by kernel_rfl) (by decide) rfl)  x3 hv4).mono (by rintro e w' ⟨-, rfl, h'⟩; have h' : Mem w0 (.blk b1 [.string f_0, vI f_1, vI f_2] 23 :: Fz F W :: cs) w' := (h'.pick 2 [1, 0] (by kernel_rfl) (by decide) rfl); exact ⟨(), trivial, rfl, h', trivial⟩)) ?_
  rintro _ -
  refine oQ [oF 3] [(6, .bool x3), (1, vP b1 0)] (by kernel_rfl) ?_
  refine ops_bool (t := x3) (l1 := [(6, .bool true), (1, vP b1 0)]) (l2 := [(6, .bool false), (1, vP b1 0)]) (fun h => by rw [h]) (fun h => by rw [h]) (fun hc5 => ?_) (fun hc5 => ?_)
  ·
   have hp := cnd_t hc5 hp
   refine oQ [oF 4] [(7, vP b1 1), (6, .bool true), (1, vP b1 0)] (by kernel_rfl) ?_
   refine ops_mem (d := some 8) (an := [.v (vI f_1)]) (evs := [ld b1 1 (vI f_1)]) (v := vI f_1) ⟨by kernel_rfl⟩ (fun w_ hM hS => ⟨w_, ⟨hM.cell 0 rfl rfl, rfl⟩, hM, trivial⟩) ?_
   refine oQ [oF 6, oF 7, oF 8] [(11, .bool (decide (0 < f_1))), (1, vP b1 0)] (by kernel_rfl) ?_
   refine ops_bool (t := decide (0 < f_1)) (l1 := [(11, .bool true), (1, vP b1 0)]) (l2 := [(11, .bool false), (1, vP b1 0)]) (fun h => by rw [h]) (fun h => by rw [h]) (fun hc6 => ?_) (fun hc6 => ?_)
   ·
    have hp := cnd_t hc6 hp
    refine oQ [oF 9] [(12, vP b1 1), (11, .bool true), (1, vP b1 0)] (by kernel_rfl) ?_
    refine ops_mem (d := some 13) (an := [.v (vI f_1)]) (evs := [ld b1 1 (vI f_1)]) (v := vI f_1) ⟨by kernel_rfl⟩ (fun w_ hM hS => ⟨w_, ⟨hM.cell 0 rfl rfl, rfl⟩, hM, trivial⟩) ?_
    refine oQ [oF 11, oF 12, oF 13] [(16, .bool (decide (f_1 < 33))), (1, vP b1 0)] (by kernel_rfl) ?_
    refine ops_bool (t := decide (f_1 < 33)) (l1 := [(16, .bool true), (1, vP b1 0)]) (l2 := [(16, .bool false), (1, vP b1 0)]) (fun h => by rw [h]) (fun h => by rw [h]) (fun hc7 => ?_) (fun hc7 => ?_)
    ·
     have hp := cnd_t hc7 hp
     refine oQ [oF 14] [(17, vP b1 2), (16, .bool true), (1, vP b1 0)] (by kernel_rfl) ?_
     refine ops_mem (d := some 18) (an := [.v (vI f_2)]) (evs := [ld b1 2 (vI f_2)]) (v := vI f_2) ⟨by kernel_rfl⟩ (fun w_ hM hS => ⟨w_, ⟨hM.cell 0 rfl rfl, rfl⟩, hM, trivial⟩) ?_
     refine oQ [oF 16, oF 17, oF 18] [(21, .bool (decide ((-4294967296) ≤ f_2))), (1, vP b1 0)] (by kernel_rfl) ?_
     refine ops_bool (t := decide ((-4294967296) ≤ f_2)) (l1 := [(21, .bool true), (1, vP b1 0)]) (l2 := [(21, .bool false), (1, vP b1 0)]) (fun h => by rw [h]) (fun h => by rw [h]) (fun hc8 => ?_) (fun hc8 => ?_)
     ·
      have hp := cnd_t hc8 hp
      refine oQ [oF 19] [(22, vP b1 2), (21, .bool true)] (by kernel_rfl) ?_
      refine ops_mem (d := some 23) (an := [.v (vI f_2)]) (evs := [ld b1 2 (vI f_2)]) (v := vI f_2) ⟨by kernel_rfl⟩ (fun w_ hM hS => ⟨w_, ⟨hM.cell 0 rfl rfl, rfl⟩, hM, trivial⟩) ?_
      refine oQ [oF 21, oF 22, oF 23] [(2, .bool (decide (f_2 ≤ 4294967296)))] (by kernel_rfl) ?_
      refine ops_nil ?_
      exact fin_join HJ1 (decide (f_2 ≤ 4294967296)) hp (look_has ⟨rfl, trivial⟩) (fun w_ hM => hM.pick 2 [1] (by kernel_rfl) (by decide) rfl)
     ·
      have hp := cnd_f hc8 hp
      refine oQ [oF 19, oF 20, oF 21, oF 22, oF 23] [(2, .bool false)] (by kernel_rfl) ?_
      refine ops_nil ?_
      exact fin_join HJ1 false hp (look_has ⟨rfl, trivial⟩) (fun w_ hM => hM.pick 2 [1] (by kernel_rfl) (by decide) rfl)
    ·
     have hp := cnd_f hc7 hp
     refine oQ [oF 14, oF 15, oF 16, oF 17, oF 18, oF 19, oF 20, oF 21, oF 22, oF 23] [(2, .bool false)] (by kernel_rfl) ?_
     refine ops_nil ?_
     exact fin_join HJ1 false hp (look_has ⟨rfl, trivial⟩) (fun w_ hM => hM.pick 2 [1] (by kernel_rfl) (by decide) rfl)
   ·
    have hp := cnd_f hc6 hp
    refine oQ [oF 9, oF 10, oF 11, oF 12, oF 13, oF 14, oF 15, oF 16, oF 17, oF 18, oF 19, oF 20, oF 21, oF 22, oF 23] [(2, .bool false)] (by kernel_rfl) ?_
    refine ops_nil ?_
    exact fin_join HJ1 false hp (look_has ⟨rfl, trivial⟩) (fun w_ hM => hM.pick 2 [1] (by kernel_rfl) (by decide) rfl)
  ·
   have hp := cnd_f hc5 hp
   refine oQ [oF 4, oF 5, oF 6, oF 7, oF 8, oF 9, oF 10, oF 11, oF 12, oF 13, oF 14, oF 15, oF 16, oF 17, oF 18, oF 19, oF 20, oF 21, oF 22, oF 23] [(2, .bool false)] (by kernel_rfl) ?_
   refine ops_nil ?_
   exact fin_join HJ1 false hp (look_has ⟨rfl, trivial⟩) (fun w_ hM => hM.pick 2 [1] (by kernel_rfl) (by decide) rfl)
theorem slices_Index_string_string_ok (w0 w : World) (cs : List Chunk) (F : Nat → Prop) (W : World) (A_s : Option Addr) (c_s : Nat) (s : List ByteArray) (v : ByteArray) (hM0 : Mem w0 (Fz F W :: cs) w) (h_s : RdS Rep.str F W A_s c_s s) (i9001 : Int) (hp : slices_Index_string_string s v = some i9001) : Calls Tryd.prog 117 #[sl A_s s c_s, .string v] w fun e w' => (True) ∧ e = .returned (vI i9001) ∧ Mem w0 (Fz F W :: cs) w' := by
 unfold slices_Index_string_string at hp
 refine sx_calls Tryd.func117 rfl (n := 19) (by kernel_rfl) (l := [(0, sl A_s s c_s), (1, .string v)]) rfl (by rfl) hM0 ?_
 refine st_seq (st_region [oF 0] (by rfl) ?_)
 refine oQ [oF 0] [(0, sl A_s s c_s), (1, .string v)] (by kernel_rfl) ?_
 refine ops_nil (fin_then ?_)
 refine st_join1 (σ := Unit) (L := fun _ => []) (N := fun _ => Mem w0 (Fz F W :: cs)) (I := fun _ => (slices_Index_string_string_j1 = some i9001)) ?_ ?_
 ·
  rintro _ hp
  unfold slices_Index_string_string_j1 at hp
  refine st_seq (st_region [oF 0] (by rfl) ?_)
  refine oQ [oF 0] [(4, vI (-1))] (by kernel_rfl) ?_
  refine ops_nil (fin_then (st_ret ?_))
  have hq_ := Option.some.inj hp
  have hr0_ := hq_
  subst hr0_
  refine fin_ret [.tmp 4] [vI (-1)] rfl rfl (fun w_ hM => (.tmp rfl .nil)) (fun w_ hM => ?_)
  exact ⟨trivial, rfl, hM⟩
 ·
  intro HJ1
  refine st_seq (st_seq (st_region [oF 0, oF 1, oF 2] (by rfl) ?_))
  refine oQ [oF 0, oF 1, oF 2] [(8, vI 0), (7, vI (s.length : Int)), (0, sl A_s s c_s), (1, .string v)] (by kernel_rfl) ?_
  refine ops_nil (fin_then (st_block ?_))
  obtain ⟨r2, hl2, hk2⟩ := obind hp
  refine st_loopP (σ := Int) (ρ := (Int ⊕ Unit)) (γ := Unit) hl2 () (fun s_ g_ => match s_, g_ with | i1, _ => [(0, sl A_s s c_s), (1, .string v), (7, vI (s.length : Int)), (8, vI i1)]) (fun s_ g_ => match s_, g_ with | i1, _ => Mem w0 (Fz F W :: cs)) (fun s_ g_ => match s_, g_ with | i1, _ => True) trivial (look_has ⟨rfl, rfl, rfl, rfl, trivial⟩) (fun w_ hM => hM) ?_
  rintro i1 _ o2 - hs_ hd2
  have hp : (slices_Index_string_string_l2 s v) i1 = some o2 := hs_
  clear hs_
  unfold slices_Index_string_string_l2 at hp
  refine st_seq (st_region [oF 0] (by rfl) ?_)
  refine oQ [oF 0] [(9, .bool (decide (i1 < (s.length : Int)))), (0, sl A_s s c_s), (1, .string v), (7, vI (s.length : Int)), (8, vI i1)] (by kernel_rfl) ?_
  refine ops_nil (fin_then (st_seq ?_))
  refine st_if (b := decide (i1 < (s.length : Int))) rfl (fun hc2 => ?_) (fun hc2 => ?_)
  ·
   have hp := cnd_t hc2 hp
   refine st_skip (fin_then (st_seq (st_block (st_seq (st_region [oF 0, oF 1] (by rfl) ?_)))))
   refine oQ [oF 0, oF 1] [(5, vI i1), (0, sl A_s s c_s), (1, .string v), (7, vI (s.length : Int)), (8, vI i1)] (by kernel_rfl) ?_
   refine ops_nil (fin_then (st_seq (st_region [oF 0, oF 1, oF 2, oF 3, oF 4, oF 5] (by rfl) ?_)))
   refine oQ [oF 0, oF 1, oF 2] [(13, vI i1), (12, sl A_s s c_s), (11, .string v), (5, vI i1), (0, sl A_s s c_s), (1, .string v), (7, vI (s.length : Int)), (8, vI i1)] (by kernel_rfl) ?_
   obtain ⟨x3, hv4, hp⟩ := obind hp
   obtain ⟨m5, hm6, hx7⟩ := idx_some hv4
   have hl10 := (List.getElem?_eq_some_iff.1 hx7).1
   obtain ⟨ad11, vs8, hA12, hr9, hq13⟩ := RdS.el h_s hx7
   obtain rfl := hr9
   refine ops_val (op := (.indexAddr 104 (.tmp 12) (.tmp 13))) (d := some 14) (v := .pointer (some (ad11.add (m5 * 1)))) ⟨by kernel_rfl⟩ (run_indexA hA12 Tryd.underlying104 (z := 1) (by kernel_rfl) rfl rfl hm6 hl10) ?_
   refine ops_mem (d := some 15) (an := [.v (.string x3)]) (evs := [.load (ad11.add (m5 * 1)) (.string x3)]) (v := .string x3) ⟨by kernel_rfl⟩ (fun w_ hM hS => ⟨w_, ⟨hM.elcell 0 rfl hq13 0 rfl, rfl⟩, hM, trivial⟩) ?_
   refine oQ [oF 5] [(16, .bool (v.toList == x3.toList)), (5, vI i1), (0, sl A_s s c_s), (1, .string v), (7, vI (s.length : Int)), (8, vI i1)] (by kernel_rfl) ?_
   refine ops_nil (fin_then ?_)
   refine st_if (b := (v.toList == x3.toList)) rfl (fun hc14 => ?_) (fun hc14 => ?_)
   ·
    have hp := cnd_t hc14 hp
    refine st_seq (st_region [oF 0, oF 1] (by rfl) ?_)
    refine oQ [oF 0, oF 1] [(4, vI i1)] (by kernel_rfl) ?_
    refine ops_nil (fin_then (st_ret (fin_ret_block (fin_ret_then (fin_ret_then (fin_ret_block (fin_ret_then ?_)))))))
    obtain hq_ := Option.some.inj hp
    subst hq_
    obtain hq_ := hd2 _ rfl
    subst hq_
    have hp : some i1 = some i9001 := hk2
    have hq_ := Option.some.inj hp
    have hr0_ := hq_
    subst hr0_
    refine fin_ret [.tmp 4] [vI i1] rfl rfl (fun w_ hM => (.tmp rfl .nil)) (fun w_ hM => ?_)
    exact ⟨trivial, rfl, hM⟩
   ·
    have hp := cnd_f hc14 hp
    refine st_skip (fin_block (fin_then (st_region [oF 0, oF 1] (by rfl) ?_)))
    refine oQ [oF 0, oF 1] [(8, vI (IntKind.i64.wrap (i1 + 1))), (0, sl A_s s c_s), (1, .string v), (7, vI (s.length : Int))] (by kernel_rfl) ?_
    refine ops_nil ?_
    exact fin_again (IntKind.i64.wrap (i1 + 1)) () (Option.some.inj hp).symm trivial (look_has ⟨rfl, rfl, rfl, rfl, trivial⟩) (fun w_ hM => hM)
  ·
   have hp := cnd_f hc2 hp
   refine st_exit (fin_exit_then (fin_exit_then (fin_exit ?_)))
   obtain hq_ := Option.some.inj hp
   subst hq_
   obtain hq_ := hd2 _ rfl
   subst hq_
   have hp : slices_Index_string_string_j1 = some i9001 := hk2
   exact fin_join HJ1 () hp (look_has trivial) (fun w_ hM => hM)
theorem slices_Contains_string_string_ok (w0 w : World) (cs : List Chunk) (F : Nat → Prop) (W : World) (A_s : Option Addr) (c_s : Nat) (s : List ByteArray) (v : ByteArray) (hM0 : Mem w0 (Fz F W :: cs) w) (h_s : RdS Rep.str F W A_s c_s s) (t9001 : Bool) (hp : slices_Contains_string_string s v = some t9001) : Calls Tryd.prog 99 #[sl A_s s c_s, .string v] w fun e w' => (True) ∧ e = .returned (.bool t9001) ∧ Mem w0 (Fz F W :: cs) w' := by
 unfold slices_Contains_string_string at hp
 refine sx_calls Tryd.func99 rfl (n := 9) (by kernel_rfl) (l := [(0, sl A_s s c_s), (1, .string v)]) rfl (by rfl) hM0 ?_
 refine st_seq (st_region [oF 0] (by rfl) ?_)
 refine oQ [oF 0] [(0, sl A_s s c_s), (1, .string v)] (by kernel_rfl) ?_
 refine ops_nil (fin_then (st_seq (st_region [oF 0, oF 1, oF 2, oF 3, oF 4] (by rfl) ?_)))
 refine oQ [oF 0, oF 1] [(6, .string v), (5, sl A_s s c_s)] (by kernel_rfl) ?_
 obtain ⟨x1, hv2, hp⟩ := obind hp
 refine ops_callI (σ := Unit) (d := some 7) (f := 117) (args := #[sl A_s s c_s, .string v]) (v := (fun _ => vI x1)) (I := (fun _ => True)) (M' := (fun _ => Mem w0 (Fz F W :: cs))) ⟨by kernel_rfl⟩ (fun w_ hM hS => (slices_Index_string_string_ok w0 w_ (cs) F W A_s c_s s v hM h_s x1 hv2).mono (by rintro e w' ⟨-, rfl, h'⟩; have h' : Mem w0 (Fz F W :: cs) w' := h'; exact ⟨(), trivial, rfl, h', trivial⟩)) ?_
 rintro _ -
 refine oQ [oF 3, oF 4] [(4, .bool (decide (0 ≤ x1)))] (by kernel_rfl) ?_
 refine ops_nil (fin_then (st_ret ?_))
 have hq_ := Option.some.inj hp
 have hr0_ := hq_
 subst hr0_
 refine fin_ret [.tmp 4] [.bool (decide (0 ≤ x1))] rfl rfl (fun w_ hM => (.tmp rfl .nil)) (fun w_ hM => ?_)
 exact ⟨trivial, rfl, hM⟩
theorem tourref3_twice_ok (w0 w : World) (cs : List Chunk) (F : Nat → Prop) (W : World) (A_l : Option Addr) (c_l : Nat) (l : List ByteArray) (s : ByteArray) (hM0 : Mem w0 (Fz F W :: cs) w) (h_l : RdS Rep.str F W A_l c_l l) (t9001 : Bool) (hp : tourref3_twice l s = some t9001) : Calls Tryd.prog 65 #[sl A_l l c_l, .string s] w fun e w' => (True) ∧ e = .returned (.bool t9001) ∧ Mem w0 (Fz F W :: cs) w' := by
 unfold tourref3_twice at hp
 refine sx_calls Tryd.func65 rfl (n := 8) (by kernel_rfl) (l := [(0, sl A_l l c_l), (1, .string s)]) rfl (by rfl) hM0 ?_
 refine st_seq (st_region [oF 0] (by rfl) ?_)
 refine oQ [oF 0] [(0, sl A_l l c_l), (1, .string s)] (by kernel_rfl) ?_
 refine ops_nil (fin_then (st_seq (st_region [oF 0, oF 1, oF 2, oF 3] (by rfl) ?_)))
 refine oQ [oF 0, oF 1] [(6, .string s), (5, sl A_l l c_l)] (by kernel_rfl) ?_
 obtain ⟨x1, hv2, hp⟩ := obind hp
 refine ops_callI (σ := Unit) (d := some 7) (f := 99) (args := #[sl A_l l c_l, .string s]) (v := (fun _ => .bool x1)) (I := (fun _ => True)) (M' := (fun _ => Mem w0 (Fz F W :: cs))) ⟨by kernel_rfl⟩ (fun w_ hM hS => (slices_Contains_string_string_ok w0 w_ (cs) F W A_l c_l l s hM h_l x1 hv2).mono (by rintro e w' ⟨-, rfl, h'⟩; have h' : Mem w0 (Fz F W :: cs) w' := h'; exact ⟨(), trivial, rfl, h', trivial⟩)) ?_
 rintro _ -
 refine oQ [oF 3] [(4, .bool x1)] (by kernel_rfl) ?_
 refine ops_nil (fin_then (st_ret ?_))
 have hq_ := Option.some.inj hp
 have hr0_ := hq_
 subst hr0_
 refine fin_ret [.tmp 4] [.bool x1] rfl rfl (fun w_ hM => (.tmp rfl .nil)) (fun w_ hM => ?_)
 exact ⟨trivial, rfl, hM⟩
end Go.Proofs.YthcbepikeinglaaDoor.N
