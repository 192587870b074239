/- The Go functions come to what the plain functions tell. No condition. -/
import Derived.Test.YthcniadbdjoecaaProg
import Derived.Test.YthcniadbdjoecaaFnR
import Derived.Test.YthcniadbdjoecaaExRf
import Derived.Test.YthcniadbdjoecaaWkR0
import Derived.Test.YthcniadbdjoecaaWkR2
namespace Go.Proofs.Ythcniadbdjoecaa.R
open Go Go.RowKit Go.Proofs.Ythcniadbdjoecaa.Sx
set_option linter.unusedVariables false
set_option maxHeartbeats 4000000
set_option maxRecDepth 100000
theorem slots_Slots_Free_ok (w0 w : World) (cs : List Chunk) (F : Nat → Prop) (W : World) (b_s : Nat) (A_s_0 : Option Addr) (c_s_0 : Nat) (s_0 : List Int) (y_s_0 : List Value) (A_s_1 : Option Addr) (c_s_1 : Nat) (s_1 : List Int) (y_s_1 : List Value) (A_s_2 : Option Addr) (c_s_2 : Nat) (s_2 : List Int) (y_s_2 : List Value) (e_0 : Int) (e_1 : Int) (hM0 : Mem w0 (.blk b_s [sl A_s_0 s_0 c_s_0, sl A_s_1 s_1 c_s_1, sl A_s_2 s_2 c_s_2] 127 :: ow A_s_0 s_0 c_s_0 3 1 y_s_0 :: ow A_s_1 s_1 c_s_1 52 1 y_s_1 :: ow A_s_2 s_2 c_s_2 52 1 y_s_2 :: Fz F W :: cs) w) (h_s_0 : RepL (Rep.int .i64) F W s_0 y_s_0) (h_s_1 : RepL (Rep.int .u64) F W s_1 y_s_1) (h_s_2 : RepL (Rep.int .u64) F W s_2 y_s_2) (i9001 : Int) (l9002 : List Int) (l9007 : List Int) (l9012 : List Int) (hp : slots_Slots_Free s_0 s_1 s_2 e_0 e_1 = some (i9001, l9002, l9007, l9012)) : Calls Try.prog 45 #[vP b_s 0, .agg #[vI e_0, vI e_1]] w fun e w' => ∃ (y9003 : List Value), ∃ (A9005 : Option Addr), ∃ (c9006 : Nat), ∃ (y9008 : List Value), ∃ (A9010 : Option Addr), ∃ (c9011 : Nat), ∃ (y9013 : List Value), ((RepL (Rep.int .i64) F W l9002 y9003) ∧ (RepL (Rep.int .u64) F W l9007 y9008) ∧ (RepL (Rep.int .u64) F W l9012 y9013)) ∧ e = .returned (vI i9001) ∧ Mem w0 (.blk b_s [sl A_s_0 l9002 c_s_0, sl A9005 l9007 c9006, sl A9010 l9012 c9011] 127 :: ow A_s_0 l9002 c_s_0 3 1 y9003 :: ow A9005 l9007 c9006 52 1 y9008 :: ow A9010 l9012 c9011 52 1 y9013 :: Fz F W :: cs) w' := by
 unfold slots_Slots_Free at hp
 refine sx_calls Try.func45 rfl (n := 48) (by kernel_rfl) (l := [(0, vP b_s 0), (1, .agg #[vI e_0, vI e_1])]) rfl (by rfl) hM0 ?_
 refine st_seq (st_region [oF 0, oF 1] (by rfl) ?_)
 refine ops_newB (d := some 3) [vI e_0, vI e_1] 35 (fun b1 => ⟨by kernel_rfl⟩) (fun w_ hM hS => trivial) (fun b1 => ?_)
 refine oQ [oF 1] [(3, vP b1 0), (0, vP b_s 0)] (by kernel_rfl) ?_
 refine ops_nil (fin_then (st_seq (st_seq (st_region [oF 0, oF 1, oF 2, oF 3] (by rfl) ?_))))
 refine oQ [oF 0] [(5, vP b_s 0), (3, vP b1 0), (0, vP b_s 0)] (by kernel_rfl) ?_
 refine ops_mem (d := some 6) (an := [.v (vI e_0), .v (vI e_1)]) (evs := [ld b1 0 (vI e_0), ld b1 1 (vI e_1)]) (v := .agg #[vI e_0, vI e_1]) ⟨by kernel_rfl⟩ (fun w_ hM hS => ⟨w_, ⟨hM.cell 0 rfl rfl, hM.cell 0 rfl rfl, rfl⟩, hM, trivial⟩) ?_
 obtain ⟨x2, hv3, hp⟩ := obind hp
 refine ops_callI (σ := (List Value) × (List Value) × (List Value)) (d := some 7) (f := 43) (args := #[vP b_s 0, .agg #[vI e_0, vI e_1]]) (v := (fun x_ => match x_ with | (y4, y5, y6) => .bool x2)) (I := (fun x_ => match x_ with | (y4, y5, y6) => (RepL (Rep.int .i64) F W s_0 y4) ∧ (RepL (Rep.int .u64) F W s_1 y5) ∧ (RepL (Rep.int .u64) F W s_2 y6))) (M' := (fun x_ => match x_ with | (y4, y5, y6) => Mem w0 (.blk b1 [vI e_0, vI e_1] 35 :: .blk b_s [sl A_s_0 s_0 c_s_0, sl A_s_1 s_1 c_s_1, sl A_s_2 s_2 c_s_2] 127 :: ow A_s_0 s_0 c_s_0 3 1 y4 :: ow A_s_1 s_1 c_s_1 52 1 y5 :: ow A_s_2 s_2 c_s_2 52 1 y6 :: Fz F W :: cs))) ⟨by kernel_rfl⟩ (fun w_ hM hS => (slots_Slots_Alive_ok w0 w_ (.blk b1 [vI e_0, vI e_1] 35 :: cs) F W b_s A_s_0 c_s_0 s_0 y_s_0 A_s_1 c_s_1 s_1 y_s_1 A_s_2 c_s_2 s_2 y_s_2 e_0 e_1 (hM.pick 6 [1, 2, 3, 4, 5, 0] (by kernel_rfl) (by decide) rfl) h_s_0 h_s_1 h_s_2 x2 hv3).mono (by rintro e w' ⟨y4, y5, y6, ⟨h7, h8, h9⟩, rfl, h'⟩; have h' : Mem w0 (.blk b1 [vI e_0, vI e_1] 35 :: .blk b_s [sl A_s_0 s_0 c_s_0, sl A_s_1 s_1 c_s_1, sl A_s_2 s_2 c_s_2] 127 :: ow A_s_0 s_0 c_s_0 3 1 y4 :: ow A_s_1 s_1 c_s_1 52 1 y5 :: ow A_s_2 s_2 c_s_2 52 1 y6 :: Fz F W :: cs) w' := (h'.pick 6 [5, 0, 1, 2, 3, 4] (by kernel_rfl) (by decide) rfl); exact ⟨(y4, y5, y6), ⟨h7, h8, h9⟩, rfl, h', trivial⟩)) ?_
 rintro ⟨y4, y5, y6⟩ ⟨h7, h8, h9⟩
 refine oQ [oF 3] [(8, .bool (!x2)), (3, vP b1 0), (0, vP b_s 0)] (by kernel_rfl) ?_
 refine ops_nil (fin_then ?_)
 refine st_if (b := !x2) rfl (fun hc10 => ?_) (fun hc10 => ?_)
 ·
  have hp := cnd_t hc10 hp
  refine st_seq (st_region [oF 0] (by rfl) ?_)
  refine oQ [oF 0] [(4, vI 4)] (by kernel_rfl) ?_
  refine ops_nil (fin_then (st_ret (fin_ret_then ?_)))
  have hq_ := Option.some.inj hp
  obtain ⟨hr0_, hq_⟩ := Prod.mk.inj hq_
  obtain ⟨hr1_, hq_⟩ := Prod.mk.inj hq_
  obtain ⟨hr2_, hq_⟩ := Prod.mk.inj hq_
  have hr3_ := hq_
  subst hr0_
  subst hr1_
  subst hr2_
  subst hr3_
  refine fin_ret [.tmp 4] [vI 4] rfl rfl (fun w_ hM => (.tmp rfl .nil)) (fun w_ hM => ?_)
  exact ⟨y4, A_s_1, c_s_1, y5, A_s_2, c_s_2, y6, ⟨h7, h8, h9⟩, rfl, hM.pick 6 [1, 2, 3, 4, 5] (by kernel_rfl) (by decide) rfl⟩
 ·
  have hp := cnd_f hc10 hp
  refine st_skip (fin_then (st_seq ?_))
  refine st_region_draw [oT 0, oT 1, oT 2, oT 3, oT 4, oT 5, oT 6, oF 7, oT 8, oT 9, oF 10] (Mem w0 (.blk b1 [vI e_0, vI e_1] 35 :: .blk b_s [sl A_s_0 s_0 c_s_0, sl A_s_1 s_1 c_s_1, sl A_s_2 s_2 c_s_2] 127 :: ow A_s_1 s_1 c_s_1 52 1 y5 :: ow A_s_2 s_2 c_s_2 52 1 y6 :: Fz F W :: cs)) (by kernel_rfl) (by kernel_rfl) (by kernel_rfl) (fun _ d _ _ _ h => by cases d <;> exact h) (M' := Mem w0 (.blk b1 [vI e_0, vI e_1] 35 :: .blk b_s [sl A_s_0 s_0 c_s_0, sl A_s_1 s_1 c_s_1, sl A_s_2 s_2 c_s_2] 127 :: ow A_s_0 s_0 c_s_0 3 1 y4 :: ow A_s_1 s_1 c_s_1 52 1 y5 :: ow A_s_2 s_2 c_s_2 52 1 y6 :: Fz F W :: cs)) (fun w_ hM => ⟨hM.drew, hM.drew.sub (.cons_cons _ (.cons_cons _ (.cons _ (.cons_cons _ (.cons_cons _ (.cons_cons _ (.refl _)))))))⟩) ?_
  refine oQ [oT 0, oT 1, oT 2] [(11, vP b_s 0), (3, vP b1 0), (0, vP b_s 0)] (by kernel_rfl) ?_
  refine ops_load (d := some 12) (an := [.v (sl A_s_0 s_0 c_s_0)]) (evs := [ld b_s 0 (sl A_s_0 s_0 c_s_0)]) (v := sl A_s_0 s_0 c_s_0) ⟨by kernel_rfl⟩ (fun w_ hM => ⟨hM.cell 1 rfl rfl, rfl⟩) ?_
  refine oQ [oT 4] [(13, vP b1 0), (12, sl A_s_0 s_0 c_s_0), (3, vP b1 0), (0, vP b_s 0)] (by kernel_rfl) ?_
  refine ops_load (d := some 14) (an := [.v (vI e_0)]) (evs := [ld b1 0 (vI e_0)]) (v := vI e_0) ⟨by kernel_rfl⟩ (fun w_ hM => ⟨hM.cell 0 rfl rfl, rfl⟩) ?_
  obtain ⟨x11, hv12, hp⟩ := obind hp
  obtain ⟨m13, hm14, hx15⟩ := idx_some hv12
  have hl18 := (List.getElem?_eq_some_iff.1 hx15).1
  refine ops_fact (fun w_ hM => hM.orowSome 2 rfl (Nat.lt_of_le_of_lt (Nat.zero_le _) hl18)) ?_
  rintro ⟨g19, rfl, -⟩
  obtain ⟨vs16, hr17, hq20⟩ := h7.at_ m13 x11 hx15
  obtain rfl := hr17
  refine ops_val (op := (.indexAddr 23 (.tmp 12) (.tmp 14))) (d := some 15) (v := vP g19 (m13 * 1)) ⟨by kernel_rfl⟩ (run_indexRow Try.underlying23 (z := 1) (by kernel_rfl) rfl rfl hm14 hl18 rfl) ?_
  refine ops_mem (d := some 16) (an := [.v (vI x11)]) (evs := [.load ⟨g19, m13 * 1, none⟩ (vI x11)]) (v := vI x11) ⟨by kernel_rfl⟩ (fun w_ hM hS => ⟨w_, ⟨hM.ocell 2 rfl (hq20 0 _ rfl), rfl⟩, hM, hS⟩) ?_
  refine oQ [oT 8] [(17, vI (IntKind.i64.wrap (x11 + 1))), (14, vI e_0), (12, sl (sa g19) s_0 c_s_0), (3, vP b1 0), (0, vP b_s 0)] (by kernel_rfl) ?_
  obtain ⟨x21, hv22, hp⟩ := obind hp
  obtain ⟨m23, hm24, hx25⟩ := idx_some hv22
  have hl28 := (List.getElem?_eq_some_iff.1 hx25).1
  obtain ⟨vs26, hr27, hq29⟩ := h7.at_ m23 x21 hx25
  obtain rfl := hr27
  refine ops_val (op := (.indexAddr 23 (.tmp 12) (.tmp 14))) (d := some 18) (v := vP g19 (m23 * 1)) ⟨by kernel_rfl⟩ (run_indexRow Try.underlying23 (z := 1) (by kernel_rfl) rfl rfl hm24 hl28 rfl) ?_
  refine oQ [] [(18, vP g19 (m23 * 1)), (17, vI (IntKind.i64.wrap (x11 + 1))), (3, vP b1 0), (0, vP b_s 0)] (by kernel_rfl) ?_
  obtain ⟨l30, hv31, hp⟩ := obind hp
  obtain ⟨m32, hm33, hl34, he35⟩ := upd_some hv31
  obtain rfl : m23 = m32 := by have := hm24; omega
  have hl36 : s_0.length = l30.length := by rw [he35, List.length_set]
  obtain ⟨y37, hy38⟩ : ∃ y_, setAll y4 (m23 * 1 + 0) [vI (IntKind.i64.wrap (x11 + 1))] = y_ := ⟨_, rfl⟩
  have h39 : RepL (Rep.int .i64) F W l30 y37 := by rw [he35, ← hy38]; exact RepL.set h7 (List.getElem?_eq_getElem hl34) (fun vs_ hr_ _ => by obtain rfl := hr_; exact ⟨rfl, Nat.le_of_ble_eq_true rfl⟩)
  refine ops_store (an := []) (evs := [.store ⟨g19, m23 * 1, none⟩ (vI (IntKind.i64.wrap (x11 + 1)))]) ⟨by kernel_rfl⟩ (fun w_ hM hS => let ⟨w', he, h'⟩ := hM.ostore' 2 rfl (m23 * 1 + 0) [vI (IntKind.i64.wrap (x11 + 1))] (by have z_ : y4.length = s_0.length * 1 := h7.len; have y_ : (m23 + 1) * 1 ≤ s_0.length * 1 := Nat.mul_le_mul_right _ hl34; rw [Nat.add_mul] at y_; simp only [List.length_cons, List.length_nil]; omega) hl36 hy38; ⟨w', he, h', (by exact h'.sub (.cons_cons _ (.cons_cons _ (.cons _ (.cons_cons _ (.cons_cons _ (.cons_cons _ (.refl _))))))))⟩) ?_
  refine ops_conv (l' := [(18, vP g19 (m23 * 1)), (17, vI (IntKind.i64.wrap (x11 + 1))), (3, vP b1 0), (0, vP b_s 0)]) (M' := Mem w0 (.blk b1 [vI e_0, vI e_1] 35 :: .blk b_s [sl (sa g19) l30 c_s_0, sl A_s_1 s_1 c_s_1, sl A_s_2 s_2 c_s_2] 127 :: ow (sa g19) l30 c_s_0 3 1 y37 :: ow A_s_1 s_1 c_s_1 52 1 y5 :: ow A_s_2 s_2 c_s_2 52 1 y6 :: Fz F W :: cs)) (by first | rfl | ((try dsimp only [sl, ow]); rw [hl36])) (fun w_ hM => by first | exact hM | ((try dsimp only [sl, ow] at hM ⊢); rw [hl36] at hM; exact hM)) ?_
  refine ops_nil (fin_then (st_seq ?_))
  refine st_region_draw [oT 0, oT 1, oT 2, oT 3, oT 5, oT 6, oF 4, oF 7, oT 8, oT 9, oF 10] (Mem w0 (.blk b1 [vI e_0, vI e_1] 35 :: ow (sa g19) l30 c_s_0 3 1 y37 :: ow A_s_1 s_1 c_s_1 52 1 y5 :: ow A_s_2 s_2 c_s_2 52 1 y6 :: Fz F W :: cs)) (by kernel_rfl) (by kernel_rfl) (by kernel_rfl) (fun _ d _ _ _ h => by cases d <;> exact h) (M' := Mem w0 (.blk b1 [vI e_0, vI e_1] 35 :: .blk b_s [sl (sa g19) l30 c_s_0, sl A_s_1 s_1 c_s_1, sl A_s_2 s_2 c_s_2] 127 :: ow (sa g19) l30 c_s_0 3 1 y37 :: ow A_s_1 s_1 c_s_1 52 1 y5 :: ow A_s_2 s_2 c_s_2 52 1 y6 :: Fz F W :: cs)) (fun w_ hM => ⟨hM.drew, hM.drew.sub (.cons_cons _ (.cons _ (.cons_cons _ (.cons_cons _ (.cons_cons _ (.cons_cons _ (.refl _)))))))⟩) ?_
  refine oQ [oT 0, oT 1, oT 2, oT 3, oT 5] [(24, vP b1 0), (22, vP b_s 1), (19, vP b_s 0), (3, vP b1 0), (0, vP b_s 0)] (by kernel_rfl) ?_
  refine ops_load (d := some 25) (an := [.v (vI e_0)]) (evs := [ld b1 0 (vI e_0)]) (v := vI e_0) ⟨by kernel_rfl⟩ (fun w_ hM => ⟨hM.cell 0 rfl rfl, rfl⟩) ?_
  refine ops_mem (d := some 23) (an := [.v (sl A_s_1 s_1 c_s_1)]) (evs := [ld b_s 1 (sl A_s_1 s_1 c_s_1)]) (v := sl A_s_1 s_1 c_s_1) ⟨by kernel_rfl⟩ (fun w_ hM hS => ⟨w_, ⟨hM.cell 1 rfl rfl, rfl⟩, hM, hS⟩) ?_
  obtain ⟨x41, hv42, hp⟩ := obind hp
  refine ops_callI (σ := (Option Addr) × Nat × (List Value)) (d := some 26) (f := 32) (args := #[sl A_s_1 s_1 c_s_1, vI e_0]) (v := (fun x_ => match x_ with | (A43, c44, y45) => sl A43 x41 c44)) (I := (fun x_ => match x_ with | (A43, c44, y45) => (RepL (Rep.int .u64) F W x41 y45))) (M' := (fun x_ => match x_ with | (A43, c44, y45) => Mem w0 (ow A43 x41 c44 52 1 y45 :: .blk b1 [vI e_0, vI e_1] 35 :: .blk b_s [sl (sa g19) l30 c_s_0, sl A_s_1 s_1 c_s_1, sl A_s_2 s_2 c_s_2] 127 :: ow (sa g19) l30 c_s_0 3 1 y37 :: ow A_s_1 s_1 c_s_1 52 1 y5 :: ow A_s_2 s_2 c_s_2 52 1 y6 :: Fz F W :: cs))) ⟨by kernel_rfl⟩ (fun w_ hM hS => (sets_Set_Without_ok w_ w_ [] (fun b => b < w_.heap.size) w_ A_s_1 c_s_1 s_1 e_0 (Mem.fz0 w_) (hM.ordS 3 5 rfl rfl h8 rfl rfl) x41 hv42).mono (by rintro e w' ⟨A43, c44, y45, h46, rfl, h'⟩; have h' : Mem w_ [ow A43 x41 c44 52 1 y45] w' := h'.pick 2 [0] (by kernel_rfl) (by decide) rfl; exact ⟨(A43, c44, y45), (RepL.move' (fun h => h) h46), rfl, hM.join h' rfl, (hS.step h'.below)⟩)) ?_
  rintro ⟨A43, c44, y45⟩ h46
  refine oQ [oT 8, oT 9] [(28, vP b_s 1), (26, sl A43 x41 c44), (3, vP b1 0), (0, vP b_s 0)] (by kernel_rfl) ?_
  refine ops_store (an := []) (evs := [sr b_s 1 (sl A43 x41 c44)]) ⟨by kernel_rfl⟩ (fun w_ hM hS => let ⟨w', he, h'⟩ := hM.evs_stores [sl A43 x41 c44] 2 rfl 1 (Nat.le_of_ble_eq_true rfl); ⟨w', he, h', (by exact h'.sub (.cons _ (.cons_cons _ (.cons _ (.cons_cons _ (.cons_cons _ (.cons_cons _ (.cons_cons _ (.refl _)))))))))⟩) ?_
  refine ops_nil (fin_then ?_)
  refine st_join1 (σ := (Option Addr) × Nat × (List Int) × (List Value)) (L := fun x_ => match x_ with | (A47, c48, l49, y50) => []) (N := fun x_ => match x_ with | (A47, c48, l49, y50) => Mem w0 (.blk b_s [sl (sa g19) l30 c_s_0, sl A43 x41 c44, sl A47 l49 c48] 127 :: ow (sa g19) l30 c_s_0 3 1 y37 :: ow A43 x41 c44 52 1 y45 :: ow A47 l49 c48 52 1 y50 :: Fz F W :: cs)) (I := fun x_ => match x_ with | (A47, c48, l49, y50) => ((slots_Slots_Free_j1 l30 x41) l49 = some (i9001, l9002, l9007, l9012)) ∧ (RepL (Rep.int .u64) F W l49 y50)) ?_ ?_
  ·
   rintro ⟨A47, c48, l49, y50⟩ ⟨hp, h51⟩
   unfold slots_Slots_Free_j1 at hp
   refine st_seq (st_region [oF 0] (by rfl) ?_)
   refine oQ [oF 0] [(4, vI 0)] (by kernel_rfl) ?_
   refine ops_nil (fin_then (st_ret ?_))
   have hq_ := Option.some.inj hp
   obtain ⟨hr0_, hq_⟩ := Prod.mk.inj hq_
   obtain ⟨hr1_, hq_⟩ := Prod.mk.inj hq_
   obtain ⟨hr2_, hq_⟩ := Prod.mk.inj hq_
   have hr3_ := hq_
   subst hr0_
   subst hr1_
   subst hr2_
   subst hr3_
   refine fin_ret [.tmp 4] [vI 0] rfl rfl (fun w_ hM => (.tmp rfl .nil)) (fun w_ hM => ?_)
   exact ⟨y37, A43, c44, y45, A47, c48, y50, ⟨h39, h46, h51⟩, rfl, hM⟩
  ·
   intro HJ1
   refine st_seq (st_seq ?_)
   refine st_region_draw [oT 0, oT 1, oT 2, oT 3, oT 4, oT 5, oT 6, oT 7, oT 8] (Mem w0 (ow A43 x41 c44 52 1 y45 :: .blk b1 [vI e_0, vI e_1] 35 :: .blk b_s [sl (sa g19) l30 c_s_0, sl A43 x41 c44, sl A_s_2 s_2 c_s_2] 127 :: ow (sa g19) l30 c_s_0 3 1 y37 :: ow A_s_1 s_1 c_s_1 52 1 y5 :: ow A_s_2 s_2 c_s_2 52 1 y6 :: Fz F W :: cs)) (by kernel_rfl) (by kernel_rfl) (by kernel_rfl) (fun _ d _ _ _ h => by cases d <;> exact h) (M' := Mem w0 (ow A43 x41 c44 52 1 y45 :: .blk b1 [vI e_0, vI e_1] 35 :: .blk b_s [sl (sa g19) l30 c_s_0, sl A43 x41 c44, sl A_s_2 s_2 c_s_2] 127 :: ow (sa g19) l30 c_s_0 3 1 y37 :: ow A_s_1 s_1 c_s_1 52 1 y5 :: ow A_s_2 s_2 c_s_2 52 1 y6 :: Fz F W :: cs)) (fun w_ hM => ⟨hM.drew, hM.drew.sub (.cons_cons _ (.cons_cons _ (.cons_cons _ (.cons_cons _ (.cons_cons _ (.cons_cons _ (.cons_cons _ (.refl _))))))))⟩) ?_
   refine oQ [oT 0, oT 1, oT 2] [(31, vP b_s 0), (3, vP b1 0), (0, vP b_s 0)] (by kernel_rfl) ?_
   refine ops_load (d := some 32) (an := [.v (sl (sa g19) l30 c_s_0)]) (evs := [ld b_s 0 (sl (sa g19) l30 c_s_0)]) (v := sl (sa g19) l30 c_s_0) ⟨by kernel_rfl⟩ (fun w_ hM => ⟨hM.cell 2 rfl rfl, rfl⟩) ?_
   refine oQ [oT 4] [(33, vP b1 0), (32, sl (sa g19) l30 c_s_0), (3, vP b1 0), (0, vP b_s 0)] (by kernel_rfl) ?_
   refine ops_load (d := some 34) (an := [.v (vI e_0)]) (evs := [ld b1 0 (vI e_0)]) (v := vI e_0) ⟨by kernel_rfl⟩ (fun w_ hM => ⟨hM.cell 1 rfl rfl, rfl⟩) ?_
   obtain ⟨x52, hv53, hp⟩ := obind hp
   obtain ⟨m54, hm55, hx56⟩ := idx_some hv53
   have hl59 := (List.getElem?_eq_some_iff.1 hx56).1
   obtain ⟨vs57, hr58, hq60⟩ := h39.at_ m54 x52 hx56
   obtain rfl := hr58
   refine ops_val (op := (.indexAddr 23 (.tmp 32) (.tmp 34))) (d := some 35) (v := vP g19 (m54 * 1)) ⟨by kernel_rfl⟩ (run_indexRow Try.underlying23 (z := 1) (by kernel_rfl) rfl rfl hm55 hl59 rfl) ?_
   refine ops_load (d := some 36) (an := [.v (vI x52)]) (evs := [.load ⟨g19, m54 * 1, none⟩ (vI x52)]) (v := vI x52) ⟨by kernel_rfl⟩ (fun w_ hM => ⟨hM.ocell 3 rfl (hq60 0 _ rfl), rfl⟩) ?_
   refine oQ [oT 8] [(37, .bool (decide (x52 < 1073741824))), (3, vP b1 0), (0, vP b_s 0)] (by kernel_rfl) ?_
   refine ops_nil (fin_then ?_)
   refine st_if (b := decide (x52 < 1073741824)) rfl (fun hc61 => ?_) (fun hc61 => ?_)
   ·
    have hp := cnd_t hc61 hp
    refine st_region_draw [oT 0, oT 1, oT 2, oT 3, oT 5, oT 6, oF 4, oF 7, oT 8, oT 9, oF 10] (Mem w0 (ow A43 x41 c44 52 1 y45 :: .blk b1 [vI e_0, vI e_1] 35 :: ow (sa g19) l30 c_s_0 3 1 y37 :: ow A_s_1 s_1 c_s_1 52 1 y5 :: ow A_s_2 s_2 c_s_2 52 1 y6 :: Fz F W :: cs)) (by kernel_rfl) (by kernel_rfl) (by kernel_rfl) (fun _ d _ _ _ h => by cases d <;> exact h) (M' := Mem w0 (ow A43 x41 c44 52 1 y45 :: .blk b1 [vI e_0, vI e_1] 35 :: .blk b_s [sl (sa g19) l30 c_s_0, sl A43 x41 c44, sl A_s_2 s_2 c_s_2] 127 :: ow (sa g19) l30 c_s_0 3 1 y37 :: ow A_s_1 s_1 c_s_1 52 1 y5 :: ow A_s_2 s_2 c_s_2 52 1 y6 :: Fz F W :: cs)) (fun w_ hM => ⟨hM.drew, hM.drew.sub (.cons_cons _ (.cons_cons _ (.cons _ (.cons_cons _ (.cons_cons _ (.cons_cons _ (.cons_cons _ (.refl _))))))))⟩) ?_
    refine oQ [oT 0, oT 1, oT 2, oT 3, oT 5] [(43, vP b1 0), (41, vP b_s 2), (38, vP b_s 0)] (by kernel_rfl) ?_
    refine ops_load (d := some 44) (an := [.v (vI e_0)]) (evs := [ld b1 0 (vI e_0)]) (v := vI e_0) ⟨by kernel_rfl⟩ (fun w_ hM => ⟨hM.cell 1 rfl rfl, rfl⟩) ?_
    refine ops_mem (d := some 42) (an := [.v (sl A_s_2 s_2 c_s_2)]) (evs := [ld b_s 2 (sl A_s_2 s_2 c_s_2)]) (v := sl A_s_2 s_2 c_s_2) ⟨by kernel_rfl⟩ (fun w_ hM hS => ⟨w_, ⟨hM.cell 2 rfl rfl, rfl⟩, hM, hS⟩) ?_
    obtain ⟨x62, hv63, hp⟩ := obind hp
    refine ops_callI (σ := (Option Addr) × Nat × (List Value)) (d := some 45) (f := 30) (args := #[sl A_s_2 s_2 c_s_2, vI e_0]) (v := (fun x_ => match x_ with | (A64, c65, y66) => sl A64 x62 c65)) (I := (fun x_ => match x_ with | (A64, c65, y66) => (RepL (Rep.int .u64) F W x62 y66))) (M' := (fun x_ => match x_ with | (A64, c65, y66) => Mem w0 (ow A64 x62 c65 52 1 y66 :: ow A43 x41 c44 52 1 y45 :: .blk b1 [vI e_0, vI e_1] 35 :: .blk b_s [sl (sa g19) l30 c_s_0, sl A43 x41 c44, sl A_s_2 s_2 c_s_2] 127 :: ow (sa g19) l30 c_s_0 3 1 y37 :: ow A_s_1 s_1 c_s_1 52 1 y5 :: ow A_s_2 s_2 c_s_2 52 1 y6 :: Fz F W :: cs))) ⟨by kernel_rfl⟩ (fun w_ hM hS => (sets_Set_With_ok w_ w_ [] (fun b => b < w_.heap.size) w_ A_s_2 c_s_2 s_2 e_0 (Mem.fz0 w_) (hM.ordS 5 6 rfl rfl h9 rfl rfl) x62 hv63).mono (by rintro e w' ⟨A64, c65, y66, h67, rfl, h'⟩; have h' : Mem w_ [ow A64 x62 c65 52 1 y66] w' := h'.pick 2 [0] (by kernel_rfl) (by decide) rfl; exact ⟨(A64, c65, y66), (RepL.move' (fun h => h) h67), rfl, hM.join h' rfl, (hS.step h'.below)⟩)) ?_
    rintro ⟨A64, c65, y66⟩ h67
    refine oQ [oT 8, oT 9] [(47, vP b_s 2), (45, sl A64 x62 c65)] (by kernel_rfl) ?_
    refine ops_store (an := []) (evs := [sr b_s 2 (sl A64 x62 c65)]) ⟨by kernel_rfl⟩ (fun w_ hM hS => let ⟨w', he, h'⟩ := hM.evs_stores [sl A64 x62 c65] 3 rfl 2 (Nat.le_of_ble_eq_true rfl); ⟨w', he, h', (by exact h'.sub (.cons _ (.cons_cons _ (.cons_cons _ (.cons _ (.cons_cons _ (.cons_cons _ (.cons_cons _ (.cons_cons _ (.refl _))))))))))⟩) ?_
    refine ops_nil ?_
    exact fin_join HJ1 (A64, c65, x62, y66) ⟨hp, h67⟩ (look_has trivial) (fun w_ hM => hM.pick 8 [3, 4, 1, 0, 7] (by kernel_rfl) (by decide) rfl)
   ·
    have hp := cnd_f hc61 hp
    refine st_skip ?_
    exact fin_join HJ1 (A_s_2, c_s_2, s_2, y6) ⟨hp, h9⟩ (look_has trivial) (fun w_ hM => hM.pick 7 [2, 3, 0, 5, 6] (by kernel_rfl) (by decide) rfl)
theorem tourref1_Room_Free_ok (w0 w : World) (cs : List Chunk) (F : Nat → Prop) (W : World) (e_0 : Int) (e_1 : Int) (hM0 : Mem w0 (Fz F W :: cs) w) (hp : tourref1_Room_Free e_0 e_1 = some ()) : Calls Try.prog 46 #[.pointer none, .agg #[vI e_0, vI e_1]] w fun e w' => (True) ∧ e = .returned (vI 4) ∧ Mem w0 (Fz F W :: cs) w' := by
 unfold tourref1_Room_Free at hp
 refine sx_calls Try.func46 rfl (n := 26) (by kernel_rfl) (l := [(0, .pointer none), (1, .agg #[vI e_0, vI e_1])]) rfl (by rfl) hM0 ?_
 refine st_seq (st_region [oF 0, oF 1] (by rfl) ?_)
 refine ops_newB (d := some 3) [vI e_0, vI e_1] 35 (fun b1 => ⟨by kernel_rfl⟩) (fun w_ hM hS => trivial) (fun b1 => ?_)
 refine oQ [oF 1] [(3, vP b1 0), (0, .pointer none)] (by kernel_rfl) ?_
 refine ops_nil (fin_then (st_seq (st_seq (st_region [oF 0, oF 1, oF 2, oF 3] (by rfl) ?_))))
 refine oQ [oF 0] [(5, .pointer none), (3, vP b1 0), (0, .pointer none)] (by kernel_rfl) ?_
 refine ops_mem (d := some 6) (an := [.v (vI e_0), .v (vI e_1)]) (evs := [ld b1 0 (vI e_0), ld b1 1 (vI e_1)]) (v := .agg #[vI e_0, vI e_1]) ⟨by kernel_rfl⟩ (fun w_ hM hS => ⟨w_, ⟨hM.cell 0 rfl rfl, hM.cell 0 rfl rfl, rfl⟩, hM, trivial⟩) ?_
 obtain ⟨_, hv2, hp⟩ := obind hp
 refine ops_callI (σ := Unit) (d := some 7) (f := 44) (args := #[.pointer none, .agg #[vI e_0, vI e_1]]) (v := (fun _ => .bool false)) (I := (fun _ => True)) (M' := (fun _ => Mem w0 (.blk b1 [vI e_0, vI e_1] 35 :: Fz F W :: cs))) ⟨by kernel_rfl⟩ (fun w_ hM hS => (tourref1_Room_Alive_ok w0 w_ (.blk b1 [vI e_0, vI e_1] 35 :: cs) F W e_0 e_1 (hM.pick 2 [1, 0] (by kernel_rfl) (by decide) rfl)   hv2).mono (by rintro e w' ⟨-, rfl, h'⟩; have h' : Mem w0 (.blk b1 [vI e_0, vI e_1] 35 :: Fz F W :: cs) w' := (h'.pick 2 [1, 0] (by kernel_rfl) (by decide) rfl); exact ⟨(), trivial, rfl, h', trivial⟩)) ?_
 rintro _ -
 refine oQ [oF 3] [(8, .bool true), (3, vP b1 0), (0, .pointer none)] (by kernel_rfl) ?_
 refine ops_nil (fin_then (st_true rfl (st_seq (st_region [oF 0] (by rfl) ?_))))
 refine oQ [oF 0] [(4, vI 4)] (by kernel_rfl) ?_
 refine ops_nil (fin_then (st_ret (fin_ret_then ?_)))
 refine fin_ret [.tmp 4] [vI 4] rfl rfl (fun w_ hM => (.tmp rfl .nil)) (fun w_ hM => ?_)
 exact ⟨trivial, rfl, hM.pick 2 [1] (by kernel_rfl) (by decide) rfl⟩
theorem slots_Slots_List_ok (w0 w : World) (cs : List Chunk) (F : Nat → Prop) (W : World) (b_s : Nat) (A_s_0 : Option Addr) (c_s_0 : Nat) (s_0 : List Int) (y_s_0 : List Value) (A_s_1 : Option Addr) (c_s_1 : Nat) (s_1 : List Int) (y_s_1 : List Value) (A_s_2 : Option Addr) (c_s_2 : Nat) (s_2 : List Int) (y_s_2 : List Value) (hM0 : Mem w0 (.blk b_s [sl A_s_0 s_0 c_s_0, sl A_s_1 s_1 c_s_1, sl A_s_2 s_2 c_s_2] 127 :: ow A_s_0 s_0 c_s_0 3 1 y_s_0 :: ow A_s_1 s_1 c_s_1 52 1 y_s_1 :: ow A_s_2 s_2 c_s_2 52 1 y_s_2 :: Fz F W :: cs) w) (h_s_0 : RepL (Rep.int .i64) F W s_0 y_s_0) (h_s_1 : RepL (Rep.int .u64) F W s_1 y_s_1) (h_s_2 : RepL (Rep.int .u64) F W s_2 y_s_2) (l9003 : List api_Ent) (hp : slots_Slots_List s_0 s_1 s_2 = some l9003) : Calls Try.prog 47 #[vP b_s 0] w fun e w' => ∃ (A9001 : Option Addr), ∃ (c9002 : Nat), ∃ (y9004 : List Value), ∃ (y9006 : List Value), ∃ (y9008 : List Value), ∃ (y9010 : List Value), ((RepL R_api_Ent F W l9003 y9004) ∧ (RepL (Rep.int .i64) F W s_0 y9006) ∧ (RepL (Rep.int .u64) F W s_1 y9008) ∧ (RepL (Rep.int .u64) F W s_2 y9010)) ∧ e = .returned (sl A9001 l9003 c9002) ∧ Mem w0 (ow A9001 l9003 c9002 35 2 y9004 :: .blk b_s [sl A_s_0 s_0 c_s_0, sl A_s_1 s_1 c_s_1, sl A_s_2 s_2 c_s_2] 127 :: ow A_s_0 s_0 c_s_0 3 1 y9006 :: ow A_s_1 s_1 c_s_1 52 1 y9008 :: ow A_s_2 s_2 c_s_2 52 1 y9010 :: Fz F W :: cs) w' := by
 unfold slots_Slots_List at hp
 refine sx_callsM Try.func47 rfl (n := 24) (by kernel_rfl) (l := [(0, vP b_s 0)]) rfl (by rfl) hM0 ?_
 refine st_seq (st_region [oF 0, oF 1] (by rfl) ?_)
 refine ops_newB (d := some 1) [vP b_s 0] 71 (fun b1 => ⟨by kernel_rfl⟩) (fun w_ hM hS => trivial) (fun b1 => ?_)
 refine oQ [oF 1] [(2, .slice none 0 0), (1, vP b1 0)] (by kernel_rfl) ?_
 refine ops_nil (fin_then (st_seq (st_region [oF 0] (by rfl) ?_)))
 refine ops_newB (d := some 3) [.slice none 0 0] 40 (fun b2 => ⟨by kernel_rfl⟩) (fun w_ hM hS => trivial) (fun b2 => ?_)
 refine ops_nil (fin_then ?_)
 refine st_joinN1 (σ := (Option Addr) × Nat × (List api_Ent) × (List Value) × Nat) (nn := fun x_ => match x_ with | (A3, c4, l5, y6, b8) => ⟨24, [markOf b8]⟩) (L := fun x_ => match x_ with | (A3, c4, l5, y6, b8) => [(3, vP b2 0)]) (N := fun x_ => match x_ with | (A3, c4, l5, y6, b8) => Mem w0 (.blk b2 [sl A3 l5 c4] 40 :: ow A3 l5 c4 35 2 y6 :: .blk b_s [sl A_s_0 s_0 c_s_0, sl A_s_1 s_1 c_s_1, sl A_s_2 s_2 c_s_2] 127 :: ow A_s_0 s_0 c_s_0 3 1 y_s_0 :: ow A_s_1 s_1 c_s_1 52 1 y_s_1 :: ow A_s_2 s_2 c_s_2 52 1 y_s_2 :: .obj b8 (.deferred (some [])) :: Fz F W :: cs)) (I := fun x_ => match x_ with | (A3, c4, l5, y6, b8) => (slots_Slots_List_j1 l5 = some l9003) ∧ (RepL R_api_Ent F W l5 y6)) ?_ ?_
 ·
  rintro ⟨A3, c4, l5, y6, b8⟩ ⟨hp, h7⟩
  unfold slots_Slots_List_j1 at hp
  refine st_seq (st_region [oF 0, oF 1] (by rfl) ?_)
  refine ops_mem (d := some 23) (an := [.v (sl A3 l5 c4)]) (evs := [ld b2 0 (sl A3 l5 c4)]) (v := sl A3 l5 c4) ⟨by kernel_rfl⟩ (fun w_ hM hS => ⟨w_, ⟨hM.cell 0 rfl rfl, rfl⟩, hM, trivial⟩) ?_
  refine oQ [oF 1] [(2, sl A3 l5 c4)] (by kernel_rfl) ?_
  refine ops_nil (fin_then (st_ret ?_))
  refine fin_outs rfl ?_
  refine outs_mark 6 rfl ?_
  refine outs_conv (M' := Mem w0 (.blk b2 [sl A3 l5 c4] 40 :: ow A3 l5 c4 35 2 y6 :: .blk b_s [sl A_s_0 s_0 c_s_0, sl A_s_1 s_1 c_s_1, sl A_s_2 s_2 c_s_2] 127 :: ow A_s_0 s_0 c_s_0 3 1 y_s_0 :: ow A_s_1 s_1 c_s_1 52 1 y_s_1 :: ow A_s_2 s_2 c_s_2 52 1 y_s_2 :: Fz F W :: cs)) (fun _ h => h) ?_
  have hq_ := Option.some.inj hp
  have hr0_ := hq_
  subst hr0_
  refine outs_nil [.tmp 2] [sl A3 l5 c4] rfl (fun w_ hM => (.tmp rfl .nil)) (fun w_ hM => ?_)
  exact ⟨A3, c4, y6, y_s_0, y_s_1, y_s_2, ⟨h7, h_s_0, h_s_1, h_s_2⟩, rfl, hM.pick 7 [1, 2, 3, 4, 5, 6] (by kernel_rfl) (by decide) rfl⟩
 ·
  intro HJ1
  refine st_seq (st_seq (st_region [oF 0, oF 1, oF 2, oF 3, oF 4] (by rfl) ?_))
  refine ops_mem (d := some 5) (an := [.v (vP b_s 0)]) (evs := [ld b1 0 (vP b_s 0)]) (v := vP b_s 0) ⟨by kernel_rfl⟩ (fun w_ hM hS => ⟨w_, ⟨hM.cell 1 rfl rfl, rfl⟩, hM, trivial⟩) ?_
  refine oQ [oF 1, oF 2] [(7, vP b_s 1), (3, vP b2 0), (2, .slice none 0 0), (1, vP b1 0)] (by kernel_rfl) ?_
  refine ops_mem (d := some 8) (an := [.v (sl A_s_1 s_1 c_s_1)]) (evs := [ld b_s 1 (sl A_s_1 s_1 c_s_1)]) (v := sl A_s_1 s_1 c_s_1) ⟨by kernel_rfl⟩ (fun w_ hM hS => ⟨w_, ⟨hM.cell 2 rfl rfl, rfl⟩, hM, trivial⟩) ?_
  obtain ⟨x9, hv10, hp⟩ := obind hp
  refine ops_callI (σ := Nat × (Option Addr) × Nat × (List Value)) (d := some 9) (f := 25) (args := #[sl A_s_1 s_1 c_s_1]) (v := (fun x_ => match x_ with | (b11, A12, c13, y14) => .func (.func 69) #[] #[vP b11 0])) (I := (fun x_ => match x_ with | (b11, A12, c13, y14) => (RepL (Rep.int .u64) F W x9 y14))) (M' := (fun x_ => match x_ with | (b11, A12, c13, y14) => Mem w0 (.blk b11 [sl A12 x9 c13] 51 :: ow A12 x9 c13 52 1 y14 :: .blk b2 [.slice none 0 0] 40 :: .blk b1 [vP b_s 0] 71 :: .blk b_s [sl A_s_0 s_0 c_s_0, sl A_s_1 s_1 c_s_1, sl A_s_2 s_2 c_s_2] 127 :: ow A_s_0 s_0 c_s_0 3 1 y_s_0 :: ow A_s_1 s_1 c_s_1 52 1 y_s_1 :: ow A_s_2 s_2 c_s_2 52 1 y_s_2 :: Fz F W :: cs))) ⟨by kernel_rfl⟩ (fun w_ hM hS => (sets_Set_All_ok w_ w_ [] (fun b => b < w_.heap.size) w_ A_s_1 c_s_1 s_1 (Mem.fz0 w_) (hM.ordS 4 6 rfl rfl h_s_1 rfl rfl) x9 hv10).mono (by rintro e w' ⟨b11, A12, c13, y14, h15, rfl, h'⟩; have h' : Mem w_ [.blk b11 [sl A12 x9 c13] 51, ow A12 x9 c13 52 1 y14] w' := h'.pick 3 [0, 1] (by kernel_rfl) (by decide) rfl; exact ⟨(b11, A12, c13, y14), (RepL.move' (fun h => h) h15), rfl, hM.join h' rfl, trivial⟩)) ?_
  rintro ⟨b11, A12, c13, y14⟩ h15
  refine ops_nil (fin_then (st_block ?_))
  refine st_keep (l' := [(9, .func (.func 69) #[] #[vP b11 0]), (3, vP b2 0), (2, .slice none 0 0), (1, vP b1 0)]) [9, 3, 2, 1] (by kernel_rfl) ?_
  refine st_rangeFunc (tg := 9) (caps := #[vP b11 0]) (nf := 32) (lf := fun L_ => [(0, yv L_), (1, vP b11 0)]) rfl Try.func69 rfl (by kernel_rfl) (by kernel_rfl) (fun L_ => by kernel_rfl) (fun _ => rfl) ?_
  intro g_ a_rf18 b16 b17 rc_rf18 hrc_rf18 hk_rf18
  refine st_seq (st_region [oF 0, oF 1, oF 2] (by rfl) ?_)
  refine ops_mem (d := some 6) (an := [.v (sl A12 x9 c13)]) (evs := [ld b11 0 (sl A12 x9 c13)]) (v := sl A12 x9 c13) ⟨by kernel_rfl⟩ (fun w_ hM hS => ⟨w_, ⟨hM.cell 2 rfl rfl, rfl⟩, hM, trivial⟩) ?_
  refine oQ [oF 1, oF 2] [(8, vI 0), (7, vI (x9.length : Int)), (6, sl A12 x9 c13), (0, yv b17)] (by kernel_rfl) ?_
  refine ops_nil (fin_then (st_block ?_))
  refine st_conv (l' := [(8, vI 0), (7, vI (x9.length : Int)), (6, sl A12 x9 c13), (0, yv b17)]) (M' := Mem w0 (ow none ([] : List api_Ent) 0 35 2 [] :: .obj b17 (rc_rf18 .ready none) :: .obj b16 (.deferred (some [])) :: .blk b11 [sl A12 x9 c13] 51 :: ow A12 x9 c13 52 1 y14 :: .blk b2 [.slice none 0 0] 40 :: .blk b1 [vP b_s 0] 71 :: .blk b_s [sl A_s_0 s_0 c_s_0, sl A_s_1 s_1 c_s_1, sl A_s_2 s_2 c_s_2] 127 :: ow A_s_0 s_0 c_s_0 3 1 y_s_0 :: ow A_s_1 s_1 c_s_1 52 1 y_s_1 :: ow A_s_2 s_2 c_s_2 52 1 y_s_2 :: Fz F W :: cs)) rfl (fun w_ h => h.onil none 35 2) ?_
  obtain ⟨r2, hl2, hk2⟩ := obind hp
  refine st_loopP (σ := Int × (List api_Ent)) (ρ := (List api_Ent)) (γ := (Option Addr) × Nat × (List Value)) hl2 (none, 0, []) (fun s_ g_ => match s_, g_ with | (i23, l26), (A24, c25, y27) => [(0, yv b17), (6, sl A12 x9 c13), (7, vI (x9.length : Int)), (8, vI i23)]) (fun s_ g_ => match s_, g_ with | (i23, l26), (A24, c25, y27) => Mem w0 (ow A12 x9 c13 52 1 y14 :: .blk b_s [sl A_s_0 s_0 c_s_0, sl A_s_1 s_1 c_s_1, sl A_s_2 s_2 c_s_2] 127 :: ow A_s_0 s_0 c_s_0 3 1 y_s_0 :: ow A_s_1 s_1 c_s_1 52 1 y_s_1 :: ow A_s_2 s_2 c_s_2 52 1 y_s_2 :: .blk b11 [sl A12 x9 c13] 51 :: .blk b2 [sl A24 l26 c25] 40 :: ow A24 l26 c25 35 2 y27 :: .blk b1 [vP b_s 0] 71 :: .obj b17 (rc_rf18 .ready none) :: .obj b16 (.deferred (some [])) :: Fz F W :: cs)) (fun s_ g_ => match s_, g_ with | (i23, l26), (A24, c25, y27) => (RepL R_api_Ent F W l26 y27)) (RepL.nil (R := R_api_Ent)) (look_has ⟨rfl, rfl, rfl, rfl, trivial⟩) (fun w_ hM => hM.pick 12 [4, 7, 8, 9, 10, 3, 5, 0, 6, 1, 2, 11] (by kernel_rfl) (by decide) rfl) ?_
  rintro ⟨i23, l26⟩ ⟨A24, c25, y27⟩ o2 h28 hs_ hd2
  have hp : (slots_Slots_List_l2 x9 s_0) i23 l26 = some o2 := hs_
  clear hs_
  unfold slots_Slots_List_l2 at hp
  refine st_seq (st_region [oF 0] (by rfl) ?_)
  refine oQ [oF 0] [(9, .bool (decide (i23 < (x9.length : Int)))), (0, yv b17), (6, sl A12 x9 c13), (7, vI (x9.length : Int)), (8, vI i23)] (by kernel_rfl) ?_
  refine ops_nil (fin_then (st_seq ?_))
  refine st_if (b := decide (i23 < (x9.length : Int))) rfl (fun hc29 => ?_) (fun hc29 => ?_)
  ·
   have hp := cnd_t hc29 hp
   refine st_skip (fin_then ?_)
   refine st_join1 (σ := (Option Addr) × Nat × (List api_Ent) × (List Value)) (L := fun x_ => match x_ with | (A30, c31, l32, y33) => [(0, yv b17), (6, sl A12 x9 c13), (7, vI (x9.length : Int)), (8, vI i23)]) (N := fun x_ => match x_ with | (A30, c31, l32, y33) => Mem w0 (ow A12 x9 c13 52 1 y14 :: .blk b_s [sl A_s_0 s_0 c_s_0, sl A_s_1 s_1 c_s_1, sl A_s_2 s_2 c_s_2] 127 :: ow A_s_0 s_0 c_s_0 3 1 y_s_0 :: ow A_s_1 s_1 c_s_1 52 1 y_s_1 :: ow A_s_2 s_2 c_s_2 52 1 y_s_2 :: .blk b11 [sl A12 x9 c13] 51 :: .blk b2 [sl A30 l32 c31] 40 :: ow A30 l32 c31 35 2 y33 :: .blk b1 [vP b_s 0] 71 :: .obj b17 (rc_rf18 .ready none) :: .obj b16 (.deferred (some [])) :: Fz F W :: cs)) (I := fun x_ => match x_ with | (A30, c31, l32, y33) => ((slots_Slots_List_j3 i23) l32 = some o2) ∧ (RepL R_api_Ent F W l32 y33)) ?_ ?_
   ·
    rintro ⟨A30, c31, l32, y33⟩ ⟨hp, h34⟩
    unfold slots_Slots_List_j3 at hp
    refine st_region [oF 0, oF 1] (by rfl) ?_
    refine oQ [oF 0, oF 1] [(8, vI (IntKind.i64.wrap (i23 + 1))), (0, yv b17), (6, sl A12 x9 c13), (7, vI (x9.length : Int))] (by kernel_rfl) ?_
    refine ops_nil ?_
    exact fin_again (IntKind.i64.wrap (i23 + 1), l32) (A30, c31, y33) (Option.some.inj hp).symm h34 (look_has ⟨rfl, rfl, rfl, rfl, trivial⟩) (fun w_ hM => hM)
   ·
    intro HJ3
    refine st_seq (st_block (st_seq (st_region [oF 0, oF 1, oF 2, oF 3, oF 4] (by rfl) ?_)))
    refine oQ [oF 0] [(10, vI i23), (0, yv b17), (6, sl A12 x9 c13), (7, vI (x9.length : Int)), (8, vI i23)] (by kernel_rfl) ?_
    obtain ⟨x35, hv36, hp⟩ := obind hp
    obtain ⟨m37, hm38, hx39⟩ := idx_some hv36
    have hl42 := (List.getElem?_eq_some_iff.1 hx39).1
    refine ops_fact (fun w_ hM => hM.orowSome 0 rfl (Nat.lt_of_le_of_lt (Nat.zero_le _) hl42)) ?_
    rintro ⟨g43, rfl, -⟩
    obtain ⟨vs40, hr41, hq44⟩ := h15.at_ m37 x35 hx39
    obtain rfl := hr41
    refine ops_val (op := (.indexAddr 51 (.tmp 6) (.tmp 8))) (d := some 11) (v := vP g43 (m37 * 1)) ⟨by kernel_rfl⟩ (run_indexRow Try.underlying51 (z := 1) (by kernel_rfl) rfl rfl hm38 hl42 rfl) ?_
    refine ops_mem (d := some 12) (an := [.v (vU x35)]) (evs := [.load ⟨g43, m37 * 1, none⟩ (vU x35)]) (v := vU x35) ⟨by kernel_rfl⟩ (fun w_ hM hS => ⟨w_, ⟨hM.ocell 0 rfl (hq44 0 _ rfl), rfl⟩, hM, trivial⟩) ?_
    refine oQ [oF 3, oF 4] [(4, vU x35), (3, vI i23), (0, yv b17), (6, sl (sa g43) x9 c13), (7, vI (x9.length : Int)), (8, vI i23)] (by kernel_rfl) ?_
    refine ops_nil (fin_then (st_seq (st_region [oF 0] (by rfl) ?_)))
    refine oQ [oF 0] [(5, vI 0), (4, vU x35), (3, vI i23), (0, yv b17), (6, sl (sa g43) x9 c13), (7, vI (x9.length : Int)), (8, vI i23)] (by kernel_rfl) ?_
    refine ops_nil (fin_then (st_block ?_))
    obtain ⟨r4, hl4, hk4⟩ := obind hp
    refine st_loopP (σ := Int × Int × (List api_Ent)) (ρ := (List api_Ent)) (γ := (Option Addr) × Nat × (List Value)) hl4 (A24, c25, y27) (fun s_ g_ => match s_, g_ with | (i45, i46, l49), (A47, c48, y50) => [(0, yv b17), (3, vI i23), (4, vU i45), (5, vI i46), (6, sl (sa g43) x9 c13), (7, vI (x9.length : Int)), (8, vI i23)]) (fun s_ g_ => match s_, g_ with | (i45, i46, l49), (A47, c48, y50) => Mem w0 (ow (sa g43) x9 c13 52 1 y14 :: .blk b_s [sl A_s_0 s_0 c_s_0, sl A_s_1 s_1 c_s_1, sl A_s_2 s_2 c_s_2] 127 :: ow A_s_0 s_0 c_s_0 3 1 y_s_0 :: ow A_s_1 s_1 c_s_1 52 1 y_s_1 :: ow A_s_2 s_2 c_s_2 52 1 y_s_2 :: .blk b11 [sl (sa g43) x9 c13] 51 :: .blk b2 [sl A47 l49 c48] 40 :: ow A47 l49 c48 35 2 y50 :: .blk b1 [vP b_s 0] 71 :: .obj b17 (rc_rf18 .ready none) :: .obj b16 (.deferred (some [])) :: Fz F W :: cs)) (fun s_ g_ => match s_, g_ with | (i45, i46, l49), (A47, c48, y50) => (RepL R_api_Ent F W l49 y50)) h28 (look_has ⟨rfl, rfl, rfl, rfl, rfl, rfl, rfl, trivial⟩) (fun w_ hM => hM) ?_
    rintro ⟨i45, i46, l49⟩ ⟨A47, c48, y50⟩ o4 h51 hs_ hd4
    have hp : (slots_Slots_List_l4 s_0 i23) i45 i46 l49 = some o4 := hs_
    clear hs_
    unfold slots_Slots_List_l4 at hp
    refine st_seq (st_seq (st_region [oF 0, oF 1] (by rfl) ?_))
    refine oQ [oF 0, oF 1] [(14, .bool (!(i45 == 0))), (0, yv b17), (3, vI i23), (4, vU i45), (5, vI i46), (6, sl (sa g43) x9 c13), (7, vI (x9.length : Int)), (8, vI i23)] (by kernel_rfl) ?_
    refine ops_nil (fin_then ?_)
    refine st_if (b := !(i45 == 0)) rfl (fun hc52 => ?_) (fun hc52 => ?_)
    ·
     have hp := cnd_t hc52 hp
     refine st_skip (fin_then ?_)
     refine st_join1 (σ := (Option Addr) × Nat × (List api_Ent) × (List Value)) (L := fun x_ => match x_ with | (A53, c54, l55, y56) => [(0, yv b17), (3, vI i23), (4, vU i45), (5, vI i46), (6, sl (sa g43) x9 c13), (7, vI (x9.length : Int)), (8, vI i23)]) (N := fun x_ => match x_ with | (A53, c54, l55, y56) => Mem w0 (ow (sa g43) x9 c13 52 1 y14 :: .blk b_s [sl A_s_0 s_0 c_s_0, sl A_s_1 s_1 c_s_1, sl A_s_2 s_2 c_s_2] 127 :: ow A_s_0 s_0 c_s_0 3 1 y_s_0 :: ow A_s_1 s_1 c_s_1 52 1 y_s_1 :: ow A_s_2 s_2 c_s_2 52 1 y_s_2 :: .blk b11 [sl (sa g43) x9 c13] 51 :: .blk b2 [sl A53 l55 c54] 40 :: ow A53 l55 c54 35 2 y56 :: .blk b1 [vP b_s 0] 71 :: .obj b17 (rc_rf18 .ready none) :: .obj b16 (.deferred (some [])) :: Fz F W :: cs)) (I := fun x_ => match x_ with | (A53, c54, l55, y56) => ((slots_Slots_List_j5 i45 i46) l55 = some o4) ∧ (RepL R_api_Ent F W l55 y56)) ?_ ?_
     ·
      rintro ⟨A53, c54, l55, y56⟩ ⟨hp, h57⟩
      unfold slots_Slots_List_j5 at hp
      refine st_region [oF 0, oF 1, oF 2, oF 3, oF 4, oF 5] (by rfl) ?_
      refine oQ [oF 0, oF 1, oF 2, oF 3, oF 4, oF 5] [(4, vU (Int.fdiv i45 2)), (5, vI (IntKind.i64.wrap (i46 + 1))), (0, yv b17), (3, vI i23), (6, sl (sa g43) x9 c13), (7, vI (x9.length : Int)), (8, vI i23)] (by kernel_rfl) ?_
      refine ops_nil ?_
      exact fin_again (Int.fdiv i45 2, IntKind.i64.wrap (i46 + 1), l55) (A53, c54, y56) (Option.some.inj hp).symm h57 (look_has ⟨rfl, rfl, rfl, rfl, rfl, rfl, rfl, trivial⟩) (fun w_ hM => hM)
     ·
      intro HJ5
      refine st_seq (st_block (st_seq (st_region [oF 0, oF 1, oF 2, oF 3, oF 4, oF 5, oF 6, oF 7, oF 8, oF 9, oF 10, oF 11] (by rfl) ?_)))
      refine oQ [oF 0, oF 1, oF 2, oF 3] [(22, .bool (Go.bits .and .u64 i45 1 == 1)), (0, yv b17), (3, vI i23), (4, vU i45), (5, vI i46), (6, sl (sa g43) x9 c13), (7, vI (x9.length : Int)), (8, vI i23)] (by kernel_rfl) ?_
      refine ops_bool (t := (Go.bits .and .u64 i45 1 == 1)) (l1 := [(22, .bool true), (0, yv b17), (3, vI i23), (4, vU i45), (5, vI i46), (6, sl (sa g43) x9 c13), (7, vI (x9.length : Int)), (8, vI i23)]) (l2 := [(22, .bool false), (0, yv b17), (3, vI i23), (4, vU i45), (5, vI i46), (6, sl (sa g43) x9 c13), (7, vI (x9.length : Int)), (8, vI i23)]) (fun h => by rw [h]) (fun h => by rw [h]) (fun hc58 => ?_) (fun hc58 => ?_)
      ·
       have hp := cnd_t hc58 hp
       refine oQ [oF 4, oF 5, oF 6, oF 7, oF 8] [(27, vI (IntKind.i64.wrap (IntKind.i64.wrap (64 * i23) + i46))), (23, yv b17), (22, .bool true), (0, yv b17), (3, vI i23), (4, vU i45), (5, vI i46), (6, sl (sa g43) x9 c13), (7, vI (x9.length : Int)), (8, vI i23)] (by kernel_rfl) ?_
       refine ops_yield (d := some 28) (args := #[vI (IntKind.i64.wrap (IntKind.i64.wrap (64 * i23) + i46))]) (l := [(27, vI (IntKind.i64.wrap (IntKind.i64.wrap (64 * i23) + i46))), (23, yv b17), (22, .bool true), (0, yv b17), (3, vI i23), (4, vU i45), (5, vI i46), (6, sl (sa g43) x9 c13), (7, vI (x9.length : Int)), (8, vI i23)]) (lr := [(10, vI (IntKind.i64.wrap (IntKind.i64.wrap (64 * i23) + i46))), (9, .func (.func 69) #[] #[vP b11 0]), (3, vP b2 0), (2, .slice none 0 0), (1, vP b1 0)]) 9 rfl hrc_rf18 ⟨by kernel_rfl⟩ hk_rf18 (by kernel_rfl) (by kernel_rfl) ?_
       intro a_rd59 hk_rd59
       refine st_region [oF 0] (by rfl) ?_
       refine oQ [oF 0] [(4, vI (IntKind.i64.wrap (IntKind.i64.wrap (64 * i23) + i46))), (3, vP b2 0), (1, vP b1 0)] (by kernel_rfl) ?_
       refine ops_nil ?_
       refine fin_begin 9 rfl hrc_rf18 ?_
       refine st_block ?_
       obtain ⟨x60, hv61, hp⟩ := obind hp
       obtain ⟨l72, hv73, hp⟩ := obind hp
       refine st_region_tree (.node [oT 1, oT 2, oT 3, oT 4, oT 5, oT 6, oT 7, oT 8, oT 9] (.leaf [oF 0, oF 10, oF 11, oF 12]) (.leaf [oF 10, oF 0, oF 11, oF 12])) (Mem w0 (ow (sa g43) x9 c13 52 1 y14 :: .blk b_s [sl A_s_0 s_0 c_s_0, sl A_s_1 s_1 c_s_1, sl A_s_2 s_2 c_s_2] 127 :: ow A_s_0 s_0 c_s_0 3 1 y_s_0 :: ow A_s_1 s_1 c_s_1 52 1 y_s_1 :: ow A_s_2 s_2 c_s_2 52 1 y_s_2 :: .blk b11 [sl (sa g43) x9 c13] 51 :: .blk b1 [vP b_s 0] 71 :: .obj b17 (rc_rf18 .busy none) :: .obj b16 (.deferred (some [])) :: Fz F W :: cs)) (by kernel_rfl) (by kernel_rfl) (by kernel_rfl) (fun _ d _ _ _ h => by cases d <;> exact h) (M' := Mem w0 (ow (sa g43) x9 c13 52 1 y14 :: .blk b_s [sl A_s_0 s_0 c_s_0, sl A_s_1 s_1 c_s_1, sl A_s_2 s_2 c_s_2] 127 :: ow A_s_0 s_0 c_s_0 3 1 y_s_0 :: ow A_s_1 s_1 c_s_1 52 1 y_s_1 :: ow A_s_2 s_2 c_s_2 52 1 y_s_2 :: .blk b11 [sl (sa g43) x9 c13] 51 :: .blk b2 [sl A47 l49 c48] 40 :: ow A47 l49 c48 35 2 y50 :: .blk b1 [vP b_s 0] 71 :: .obj b17 (rc_rf18 .busy none) :: .obj b16 (.deferred (some [])) :: Fz F W :: cs)) (fun w_ hM => ⟨hM.drew, hM.drew.sub (.cons_cons _ (.cons_cons _ (.cons_cons _ (.cons_cons _ (.cons_cons _ (.cons_cons _ (.cons _ (.cons _ (.cons_cons _ (.cons_cons _ (.cons_cons _ (.cons_cons _ (.refl _)))))))))))))⟩) ?_
       refine tree_node ?_
       refine oQ [oT 1] [(12, vI (IntKind.i64.wrap (IntKind.i64.wrap (64 * i23) + i46))), (4, vI (IntKind.i64.wrap (IntKind.i64.wrap (64 * i23) + i46))), (3, vP b2 0), (1, vP b1 0)] (by kernel_rfl) ?_
       refine ops_load (d := some 13) (an := [.v (vP b_s 0)]) (evs := [ld b1 0 (vP b_s 0)]) (v := vP b_s 0) ⟨by kernel_rfl⟩ (fun w_ hM => ⟨hM.cell 6 rfl rfl, rfl⟩) ?_
       refine oQ [oT 3, oT 4] [(15, vP b_s 0), (12, vI (IntKind.i64.wrap (IntKind.i64.wrap (64 * i23) + i46))), (4, vI (IntKind.i64.wrap (IntKind.i64.wrap (64 * i23) + i46))), (3, vP b2 0)] (by kernel_rfl) ?_
       refine ops_load (d := some 16) (an := [.v (sl A_s_0 s_0 c_s_0)]) (evs := [ld b_s 0 (sl A_s_0 s_0 c_s_0)]) (v := sl A_s_0 s_0 c_s_0) ⟨by kernel_rfl⟩ (fun w_ hM => ⟨hM.cell 1 rfl rfl, rfl⟩) ?_
       refine oQ [oT 6] [(17, vI (IntKind.i64.wrap (IntKind.i64.wrap (64 * i23) + i46))), (16, sl A_s_0 s_0 c_s_0), (12, vI (IntKind.i64.wrap (IntKind.i64.wrap (64 * i23) + i46))), (3, vP b2 0)] (by kernel_rfl) ?_
       obtain ⟨m74, hm75, hx76⟩ := idx_some hv61
       have hl79 := (List.getElem?_eq_some_iff.1 hx76).1
       refine ops_fact (fun w_ hM => hM.orowSome 2 rfl (Nat.lt_of_le_of_lt (Nat.zero_le _) hl79)) ?_
       rintro ⟨g80, rfl, -⟩
       obtain ⟨vs77, hr78, hq81⟩ := h_s_0.at_ m74 x60 hx76
       obtain rfl := hr78
       refine ops_val (op := (.indexAddr 23 (.tmp 16) (.tmp 17))) (d := some 18) (v := vP g80 (m74 * 1)) ⟨by kernel_rfl⟩ (run_indexRow Try.underlying23 (z := 1) (by kernel_rfl) rfl rfl hm75 hl79 rfl) ?_
       refine ops_load (d := some 19) (an := [.v (vI x60)]) (evs := [.load ⟨g80, m74 * 1, none⟩ (vI x60)]) (v := vI x60) ⟨by kernel_rfl⟩ (fun w_ hM => ⟨hM.ocell 2 rfl (hq81 0 _ rfl), rfl⟩) ?_
       refine oQ [oT 9] [(20, .agg #[vI (IntKind.i64.wrap (IntKind.i64.wrap (64 * i23) + i46)), vI x60]), (3, vP b2 0)] (by kernel_rfl) ?_
       refine ops_nil ?_
       refine tree_both ?_ ?_
       ·
        refine tree_leaf ?_
        refine ops_mem (d := some 11) (an := [.v (sl A47 l49 c48)]) (evs := [ld b2 0 (sl A47 l49 c48)]) (v := sl A47 l49 c48) ⟨by kernel_rfl⟩ (fun w_ hM hS => ⟨w_, ⟨hM.cell 6 rfl rfl, rfl⟩, hM, hS⟩) ?_
        have h82 : RepL R_api_Ent F W ([(api_Ent.mk (IntKind.i64.wrap (IntKind.i64.wrap (64 * i23) + i46)) x60)] : List api_Ent) ([vI (IntKind.i64.wrap (IntKind.i64.wrap (64 * i23) + i46)), vI x60]) := (RepL.cons (R := R_api_Ent) (F := F) (w := W) (vs := [vI (IntKind.i64.wrap (IntKind.i64.wrap (64 * i23) + i46)), vI x60]) (ys := []) (enc_api_Ent) RepL.nil)
        refine ops_new (d := some 21) (o := .cells ([vI (IntKind.i64.wrap (IntKind.i64.wrap (64 * i23) + i46)), vI x60] : List Value).toArray 35) (v := fun g83 => .slice (sa g83) ([(api_Ent.mk (IntKind.i64.wrap (IntKind.i64.wrap (64 * i23) + i46)) x60)] : List api_Ent).length 1) (M' := fun g83 => Mem w0 (orow (sa g83) ([(api_Ent.mk (IntKind.i64.wrap (IntKind.i64.wrap (64 * i23) + i46)) x60)] : List api_Ent).length 1 35 2 ([vI (IntKind.i64.wrap (IntKind.i64.wrap (64 * i23) + i46)), vI x60]) :: ow (sa g43) x9 c13 52 1 y14 :: .blk b_s [sl (sa g80) s_0 c_s_0, sl A_s_1 s_1 c_s_1, sl A_s_2 s_2 c_s_2] 127 :: ow (sa g80) s_0 c_s_0 3 1 y_s_0 :: ow A_s_1 s_1 c_s_1 52 1 y_s_1 :: ow A_s_2 s_2 c_s_2 52 1 y_s_2 :: .blk b11 [sl (sa g43) x9 c13] 51 :: .blk b2 [sl A47 l49 c48] 40 :: ow A47 l49 c48 35 2 y50 :: .blk b1 [vP b_s 0] 71 :: .obj b17 (rc_rf18 .busy none) :: .obj b16 (.deferred (some [])) :: Fz F W :: cs)) (fun g83 => ⟨by kernel_rfl⟩) (fun w_ hM hS => ⟨hM.onew [vI (IntKind.i64.wrap (IntKind.i64.wrap (64 * i23) + i46)), vI x60] 35 1 2 rfl (by decide), hS.alloc _⟩) (fun g83 => ?_)
        obtain ⟨he84, hb85⟩ := app_some hv73
        obtain ⟨y86, hy87⟩ : ∃ y_, y50 ++ ([vI (IntKind.i64.wrap (IntKind.i64.wrap (64 * i23) + i46)), vI x60]) = y_ := ⟨_, rfl⟩
        have h88 : RepL R_api_Ent F W l72 y86 := by rw [he84, ← hy87]; exact RepL.app h51 h82
        refine ops_appendO (x := (Go.Operand.tmp 11)) (y := (Go.Operand.tmp 21)) (t := 40) (e := 35) (d := some 22) (n' := l72.length) (z := 2) (m := ([(api_Ent.mk (IntKind.i64.wrap (IntKind.i64.wrap (64 * i23) + i46)) x60)] : List api_Ent).length) (bytes := 16) (xs' := y86) (news := ([vI (IntKind.i64.wrap (IntKind.i64.wrap (64 * i23) + i46)), vI x60])) (zv := .agg #[vI 0, vI 0]) 8 ⟨by kernel_rfl⟩ rfl rfl Try.underlying40 (by kernel_rfl) (by rfl) rfl (fun w_ hM => hM.srcO 0 rfl) h82.len h82.one hb85 (by have z_ := congrArg List.length he84; rw [List.length_append] at z_; exact z_.symm) hy87 (fun _ _ _ _ hS h' => (by exact h'.sub (.cons _ (.cons_cons _ (.cons_cons _ (.cons_cons _ (.cons_cons _ (.cons_cons _ (.cons_cons _ (.cons _ (.cons _ (.cons_cons _ (.cons_cons _ (.cons_cons _ (.cons_cons _ (.refl _)))))))))))))))) ?_
        rintro ⟨A89, c90⟩
        refine ops_store (an := []) (evs := [sr b2 0 (sl A89 l72 c90)]) ⟨by kernel_rfl⟩ (fun w_ hM hS => let ⟨w', he, h'⟩ := hM.evs_stores [sl A89 l72 c90] 7 rfl 0 (Nat.le_of_ble_eq_true rfl); ⟨w', he, h', (by exact h'.sub (.cons _ (.cons_cons _ (.cons_cons _ (.cons_cons _ (.cons_cons _ (.cons_cons _ (.cons_cons _ (.cons _ (.cons _ (.cons_cons _ (.cons_cons _ (.cons_cons _ (.cons_cons _ (.refl _)))))))))))))))⟩) ?_
        refine ops_nil (fin_block ?_)
        refine fin_round_on 10 rfl hrc_rf18 hk_rd59 (by intro t_ h_; cases h_; decide) (fun w_ h' => trivial) ?_
        refine oQ [oF 10, oF 11] [(30, .bool false), (0, yv b17), (3, vI i23), (4, vU i45), (5, vI i46), (6, sl (sa g43) x9 c13), (7, vI (x9.length : Int)), (8, vI i23)] (by kernel_rfl) ?_
        refine ops_nil (fin_then (st_false rfl (st_skip (fin_block ?_))))
        exact fin_join HJ5 (A89, c90, l72, y86) ⟨hp, h88⟩ (look_has ⟨rfl, rfl, rfl, rfl, rfl, rfl, rfl, trivial⟩) (fun w_ hM => hM.pick 13 [1, 2, 3, 4, 5, 6, 7, 8, 9, 10, 11, 12] (by kernel_rfl) (by decide) rfl)
       ·
        refine tree_leaf ?_
        have h91 : RepL R_api_Ent F W ([(api_Ent.mk (IntKind.i64.wrap (IntKind.i64.wrap (64 * i23) + i46)) x60)] : List api_Ent) ([vI (IntKind.i64.wrap (IntKind.i64.wrap (64 * i23) + i46)), vI x60]) := (RepL.cons (R := R_api_Ent) (F := F) (w := W) (vs := [vI (IntKind.i64.wrap (IntKind.i64.wrap (64 * i23) + i46)), vI x60]) (ys := []) (enc_api_Ent) RepL.nil)
        refine ops_new (d := some 21) (o := .cells ([vI (IntKind.i64.wrap (IntKind.i64.wrap (64 * i23) + i46)), vI x60] : List Value).toArray 35) (v := fun g92 => .slice (sa g92) ([(api_Ent.mk (IntKind.i64.wrap (IntKind.i64.wrap (64 * i23) + i46)) x60)] : List api_Ent).length 1) (M' := fun g92 => Mem w0 (orow (sa g92) ([(api_Ent.mk (IntKind.i64.wrap (IntKind.i64.wrap (64 * i23) + i46)) x60)] : List api_Ent).length 1 35 2 ([vI (IntKind.i64.wrap (IntKind.i64.wrap (64 * i23) + i46)), vI x60]) :: ow (sa g43) x9 c13 52 1 y14 :: .blk b_s [sl (sa g80) s_0 c_s_0, sl A_s_1 s_1 c_s_1, sl A_s_2 s_2 c_s_2] 127 :: ow (sa g80) s_0 c_s_0 3 1 y_s_0 :: ow A_s_1 s_1 c_s_1 52 1 y_s_1 :: ow A_s_2 s_2 c_s_2 52 1 y_s_2 :: .blk b11 [sl (sa g43) x9 c13] 51 :: .blk b2 [sl A47 l49 c48] 40 :: ow A47 l49 c48 35 2 y50 :: .blk b1 [vP b_s 0] 71 :: .obj b17 (rc_rf18 .busy none) :: .obj b16 (.deferred (some [])) :: Fz F W :: cs)) (fun g92 => ⟨by kernel_rfl⟩) (fun w_ hM hS => ⟨hM.onew [vI (IntKind.i64.wrap (IntKind.i64.wrap (64 * i23) + i46)), vI x60] 35 1 2 rfl (by decide), hS.alloc _⟩) (fun g92 => ?_)
        refine ops_mem (d := some 11) (an := [.v (sl A47 l49 c48)]) (evs := [ld b2 0 (sl A47 l49 c48)]) (v := sl A47 l49 c48) ⟨by kernel_rfl⟩ (fun w_ hM hS => ⟨w_, ⟨hM.cell 7 rfl rfl, rfl⟩, hM, hS⟩) ?_
        obtain ⟨he93, hb94⟩ := app_some hv73
        obtain ⟨y95, hy96⟩ : ∃ y_, y50 ++ ([vI (IntKind.i64.wrap (IntKind.i64.wrap (64 * i23) + i46)), vI x60]) = y_ := ⟨_, rfl⟩
        have h97 : RepL R_api_Ent F W l72 y95 := by rw [he93, ← hy96]; exact RepL.app h51 h91
        refine ops_appendO (x := (Go.Operand.tmp 11)) (y := (Go.Operand.tmp 21)) (t := 40) (e := 35) (d := some 22) (n' := l72.length) (z := 2) (m := ([(api_Ent.mk (IntKind.i64.wrap (IntKind.i64.wrap (64 * i23) + i46)) x60)] : List api_Ent).length) (bytes := 16) (xs' := y95) (news := ([vI (IntKind.i64.wrap (IntKind.i64.wrap (64 * i23) + i46)), vI x60])) (zv := .agg #[vI 0, vI 0]) 8 ⟨by kernel_rfl⟩ rfl rfl Try.underlying40 (by kernel_rfl) (by rfl) rfl (fun w_ hM => hM.srcO 0 rfl) h91.len h91.one hb94 (by have z_ := congrArg List.length he93; rw [List.length_append] at z_; exact z_.symm) hy96 (fun _ _ _ _ hS h' => (by exact h'.sub (.cons _ (.cons_cons _ (.cons_cons _ (.cons_cons _ (.cons_cons _ (.cons_cons _ (.cons_cons _ (.cons _ (.cons _ (.cons_cons _ (.cons_cons _ (.cons_cons _ (.cons_cons _ (.refl _)))))))))))))))) ?_
        rintro ⟨A98, c99⟩
        refine ops_store (an := []) (evs := [sr b2 0 (sl A98 l72 c99)]) ⟨by kernel_rfl⟩ (fun w_ hM hS => let ⟨w', he, h'⟩ := hM.evs_stores [sl A98 l72 c99] 7 rfl 0 (Nat.le_of_ble_eq_true rfl); ⟨w', he, h', (by exact h'.sub (.cons _ (.cons_cons _ (.cons_cons _ (.cons_cons _ (.cons_cons _ (.cons_cons _ (.cons_cons _ (.cons _ (.cons _ (.cons_cons _ (.cons_cons _ (.cons_cons _ (.cons_cons _ (.refl _)))))))))))))))⟩) ?_
        refine ops_nil (fin_block ?_)
        refine fin_round_on 10 rfl hrc_rf18 hk_rd59 (by intro t_ h_; cases h_; decide) (fun w_ h' => trivial) ?_
        refine oQ [oF 10, oF 11] [(30, .bool false), (0, yv b17), (3, vI i23), (4, vU i45), (5, vI i46), (6, sl (sa g43) x9 c13), (7, vI (x9.length : Int)), (8, vI i23)] (by kernel_rfl) ?_
        refine ops_nil (fin_then (st_false rfl (st_skip (fin_block ?_))))
        exact fin_join HJ5 (A98, c99, l72, y95) ⟨hp, h97⟩ (look_has ⟨rfl, rfl, rfl, rfl, rfl, rfl, rfl, trivial⟩) (fun w_ hM => hM.pick 13 [1, 2, 3, 4, 5, 6, 7, 8, 9, 10, 11, 12] (by kernel_rfl) (by decide) rfl)
      ·
       have hp := cnd_f hc58 hp
       refine oQ [oF 4, oF 5, oF 6, oF 7, oF 8, oF 9, oF 10, oF 11] [(30, .bool false), (0, yv b17), (3, vI i23), (4, vU i45), (5, vI i46), (6, sl (sa g43) x9 c13), (7, vI (x9.length : Int)), (8, vI i23)] (by kernel_rfl) ?_
       refine ops_nil (fin_then (st_false rfl (st_skip (fin_block ?_))))
       exact fin_join HJ5 (A47, c48, l49, y50) ⟨hp, h51⟩ (look_has ⟨rfl, rfl, rfl, rfl, rfl, rfl, rfl, trivial⟩) (fun w_ hM => hM)
    ·
     have hp := cnd_f hc52 hp
     refine st_exit (fin_exit_then (fin_exit_then (fin_exit (fin_block ?_))))
     obtain hq_ := Option.some.inj hp
     subst hq_
     obtain hq_ := hd4 _ rfl
     subst hq_
     have hp : (slots_Slots_List_j3 i23) l49 = some o2 := hk4
     exact fin_join HJ3 (A47, c48, l49, y50) ⟨hp, h51⟩ (look_has ⟨rfl, rfl, rfl, rfl, trivial⟩) (fun w_ hM => hM)
  ·
   have hp := cnd_f hc29 hp
   refine st_exit (fin_exit_then (fin_exit_then (fin_exit ?_)))
   refine fin_rf_on rfl rfl 9 rfl hrc_rf18 hk_rf18 ?_
   refine fin_conv (l' := [(9, .func (.func 69) #[] #[vP b11 0]), (3, vP b2 0), (2, .slice none 0 0), (1, vP b1 0)]) (M' := Mem w0 (ow A12 x9 c13 52 1 y14 :: .blk b_s [sl A_s_0 s_0 c_s_0, sl A_s_1 s_1 c_s_1, sl A_s_2 s_2 c_s_2] 127 :: ow A_s_0 s_0 c_s_0 3 1 y_s_0 :: ow A_s_1 s_1 c_s_1 52 1 y_s_1 :: ow A_s_2 s_2 c_s_2 52 1 y_s_2 :: .blk b11 [sl A12 x9 c13] 51 :: .blk b2 [sl A24 l26 c25] 40 :: ow A24 l26 c25 35 2 y27 :: .blk b1 [vP b_s 0] 71 :: .obj b16 (.deferred (some [])) :: Fz F W :: cs)) rfl (fun _ h => h) ?_
   refine fin_block ?_
   obtain hq_ := Option.some.inj hp
   subst hq_
   obtain hq_ := hd2 _ rfl
   subst hq_
   have hp : slots_Slots_List_j1 l26 = some l9003 := hk2
   exact fin_joinN HJ1 (A24, c25, l26, y27, b16) rfl ⟨hp, h28⟩ (look_has ⟨rfl, trivial⟩) (fun w_ hM => hM.pick 11 [6, 7, 1, 2, 3, 4, 9, 10] (by kernel_rfl) (by decide) rfl)
end Go.Proofs.Ythcniadbdjoecaa.R
