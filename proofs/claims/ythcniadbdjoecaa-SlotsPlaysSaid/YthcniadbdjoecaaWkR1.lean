/- The Go functions come to what the plain functions tell. No condition. -/
import Derived.Test.YthcniadbdjoecaaProg
import Derived.Test.YthcniadbdjoecaaFnR
import Derived.Test.YthcniadbdjoecaaExRf
import Derived.Test.YthcniadbdjoecaaWkR0
import Derived.Test.YthcniadbdjoecaaEqR
namespace Go.Proofs.Ythcniadbdjoecaa.R
open Go Go.RowKit Go.Proofs.Ythcniadbdjoecaa.Sx
set_option linter.unusedVariables false
set_option maxHeartbeats 4000000
set_option maxRecDepth 100000
def slots_Slots_Take__t0 : List Row := [⟨0, 137438953472, 1⟩, ⟨0, 274877906944, 1⟩, ⟨0, 549755813888, 1⟩, ⟨4, 1099511627776, 549755813888⟩, ⟨8, 2199023255552, 1099511627776⟩, ⟨16, 4398046511104, 2199023255552⟩, ⟨0, 8796093022208, 16⟩, ⟨96, 17592186044416, 13194139533312⟩, ⟨0, 35184372088832, 1⟩, ⟨256, 70368744177664, 35184372088832⟩, ⟨512, 140737488355328, 70368744177664⟩, ⟨1024, 281474976710656, 140737488355328⟩, ⟨0, 562949953421312, 16⟩, ⟨6272, 1125899906842624, 844424930131968⟩, ⟨10493, 2251799813685248, 137438953472⟩, ⟨26877, 4503599627370496, 2251799813685248⟩, ⟨43261, 0, 4521191813414912⟩, ⟨131071, 9007199254740992, 274877906944⟩, ⟨262143, 18014398509481984, 9007199254740992⟩, ⟨393215, 0, 19140298416324608⟩]
theorem slots_Slots_Take_ok (w0 w : World) (cs : List Chunk) (F : Nat → Prop) (W : World) (b_s : Nat) (A_s_0 : Option Addr) (c_s_0 : Nat) (s_0 : List Int) (y_s_0 : List Value) (A_s_1 : Option Addr) (c_s_1 : Nat) (s_1 : List Int) (y_s_1 : List Value) (A_s_2 : Option Addr) (c_s_2 : Nat) (s_2 : List Int) (y_s_2 : List Value) (hM0 : Mem w0 (.blk b_s [sl A_s_0 s_0 c_s_0, sl A_s_1 s_1 c_s_1, sl A_s_2 s_2 c_s_2] 127 :: ow A_s_0 s_0 c_s_0 3 1 y_s_0 :: ow A_s_1 s_1 c_s_1 52 1 y_s_1 :: ow A_s_2 s_2 c_s_2 52 1 y_s_2 :: Fz F W :: cs) w) (h_s_0 : RepL (Rep.int .i64) F W s_0 y_s_0) (h_s_1 : RepL (Rep.int .u64) F W s_1 y_s_1) (h_s_2 : RepL (Rep.int .u64) F W s_2 y_s_2) (i9001 : Int) (i9002 : Int) (i9003 : Int) (l9006 : List Int) (l9011 : List Int) (l9016 : List Int) (hp : slots_Slots_Take s_0 s_1 s_2 = some (i9001, i9002, i9003, l9006, l9011, l9016)) : Calls Try.prog 41 #[vP b_s 0] w fun e w' => ∃ (A9004 : Option Addr), ∃ (c9005 : Nat), ∃ (y9007 : List Value), ∃ (A9009 : Option Addr), ∃ (c9010 : Nat), ∃ (y9012 : List Value), ∃ (A9014 : Option Addr), ∃ (c9015 : Nat), ∃ (y9017 : List Value), ((RepL (Rep.int .i64) F W l9006 y9007) ∧ (RepL (Rep.int .u64) F W l9011 y9012) ∧ (RepL (Rep.int .u64) F W l9016 y9017)) ∧ e = .returned (.tuple #[.agg #[vI i9001, vI i9002], vI i9003]) ∧ Mem w0 (.blk b_s [sl A9004 l9006 c9005, sl A9009 l9011 c9010, sl A9014 l9016 c9015] 127 :: ow A9004 l9006 c9005 3 1 y9007 :: ow A9009 l9011 c9010 52 1 y9012 :: ow A9014 l9016 c9015 52 1 y9017 :: Fz F W :: cs) w' := by
 unfold slots_Slots_Take at hp
 refine sx_callsM Try.func41 rfl (n := 64) (by kernel_rfl) (l := [(0, vP b_s 0)]) rfl (by rfl) hM0 ?_
 refine st_seq (st_region [oF 0, oF 1] (by rfl) ?_)
 refine ops_newB (d := some 2) [vI 0, vI 0] 35 (fun b1 => ⟨by kernel_rfl⟩) (fun w_ hM hS => trivial) (fun b1 => ?_)
 refine oQ [oF 1] [(3, vI 0), (2, vP b1 0), (0, vP b_s 0)] (by kernel_rfl) ?_
 refine ops_nil (fin_then (st_seq (st_region [oF 0, oF 1, oF 2, oF 3, oF 4, oF 5, oF 6] (by rfl) ?_)))
 refine oQ [oF 0, oF 1, oF 2] [(8, vP b_s 0), (3, vI 0), (2, vP b1 0), (0, vP b_s 0)] (by kernel_rfl) ?_
 refine ops_mem (d := some 9) (an := [.v (sl A_s_0 s_0 c_s_0)]) (evs := [ld b_s 0 (sl A_s_0 s_0 c_s_0)]) (v := sl A_s_0 s_0 c_s_0) ⟨by kernel_rfl⟩ (fun w_ hM hS => ⟨w_, ⟨hM.cell 1 rfl rfl, rfl⟩, hM, trivial⟩) ?_
 refine oQ [oF 4] [(10, vI (s_0.length : Int)), (3, vI 0), (2, vP b1 0), (0, vP b_s 0)] (by kernel_rfl) ?_
 refine ops_newB (d := some 4) [vI 0] 3 (fun b2 => ⟨by kernel_rfl⟩) (fun w_ hM hS => trivial) (fun b2 => ?_)
 refine ops_store (an := []) (evs := [sr b2 0 (vI (s_0.length : Int))]) ⟨by kernel_rfl⟩ (fun w_ hM hS => let ⟨w', he, h'⟩ := hM.evs_stores [vI (s_0.length : Int)] 0 rfl 0 (Nat.le_of_ble_eq_true rfl); ⟨w', he, h', trivial⟩) ?_
 refine ops_nil (fin_then ?_)
 refine st_joinN1 (σ := Int × Nat) (nn := fun x_ => match x_ with | (i3, b4) => ⟨64, [markOf b4]⟩) (L := fun x_ => match x_ with | (i3, b4) => [(0, vP b_s 0), (2, vP b1 0), (4, vP b2 0)]) (N := fun x_ => match x_ with | (i3, b4) => Mem w0 (.blk b_s [sl A_s_0 s_0 c_s_0, sl A_s_1 s_1 c_s_1, sl A_s_2 s_2 c_s_2] 127 :: ow A_s_0 s_0 c_s_0 3 1 y_s_0 :: ow A_s_1 s_1 c_s_1 52 1 y_s_1 :: ow A_s_2 s_2 c_s_2 52 1 y_s_2 :: .blk b1 [vI 0, vI 0] 35 :: .blk b2 [vI i3] 3 :: .obj b4 (.deferred (some [])) :: Fz F W :: cs)) (I := fun x_ => match x_ with | (i3, b4) => ((slots_Slots_Take_j1 s_0 s_1 s_2) i3 = some (i9001, i9002, i9003, l9006, l9011, l9016))) ?_ ?_
 ·
  rintro ⟨i3, b4⟩ hp
  unfold slots_Slots_Take_j1 at hp
  refine st_seq (st_seq (st_region [oF 0, oF 1] (by rfl) ?_))
  refine ops_mem (d := some 18) (an := [.v (vI i3)]) (evs := [ld b2 0 (vI i3)]) (v := vI i3) ⟨by kernel_rfl⟩ (fun w_ hM hS => ⟨w_, ⟨hM.cell 5 rfl rfl, rfl⟩, hM, trivial⟩) ?_
  refine oQ [oF 1] [(19, .bool (i3 == 256)), (0, vP b_s 0), (2, vP b1 0), (4, vP b2 0)] (by kernel_rfl) ?_
  refine ops_nil (fin_then ?_)
  refine st_if (b := (i3 == 256)) rfl (fun hc5 => ?_) (fun hc5 => ?_)
  ·
   have hp := cnd_t hc5 hp
   refine st_seq (st_region [oF 0, oF 1, oF 2] (by rfl) ?_)
   refine oQ [oF 0] [(20, .agg #[vI 0, vI 0]), (2, vP b1 0)] (by kernel_rfl) ?_
   refine ops_store (an := []) (evs := [sr b1 0 (vI 0), sr b1 1 (vI 0)]) ⟨by kernel_rfl⟩ (fun w_ hM hS => let ⟨w', he, h'⟩ := hM.evs_stores [vI 0, vI 0] 4 rfl 0 (Nat.le_of_ble_eq_true rfl); ⟨w', he, h', trivial⟩) ?_
   refine oQ [oF 2] [(3, vI 6), (2, vP b1 0)] (by kernel_rfl) ?_
   refine ops_nil (fin_then (st_ret (fin_ret_then ?_)))
   refine fin_outs rfl ?_
   refine outs_mark 6 rfl ?_
   refine outs_conv (M' := Mem w0 (.blk b_s [sl A_s_0 s_0 c_s_0, sl A_s_1 s_1 c_s_1, sl A_s_2 s_2 c_s_2] 127 :: ow A_s_0 s_0 c_s_0 3 1 y_s_0 :: ow A_s_1 s_1 c_s_1 52 1 y_s_1 :: ow A_s_2 s_2 c_s_2 52 1 y_s_2 :: .blk b1 [vI 0, vI 0] 35 :: .blk b2 [vI i3] 3 :: Fz F W :: cs)) (fun _ h => h) ?_
   have hq_ := Option.some.inj hp
   obtain ⟨hr0_, hq_⟩ := Prod.mk.inj hq_
   obtain ⟨hr1_, hq_⟩ := Prod.mk.inj hq_
   obtain ⟨hr2_, hq_⟩ := Prod.mk.inj hq_
   obtain ⟨hr3_, hq_⟩ := Prod.mk.inj hq_
   obtain ⟨hr4_, hq_⟩ := Prod.mk.inj hq_
   have hr5_ := hq_
   subst hr0_
   subst hr1_
   subst hr2_
   subst hr3_
   subst hr4_
   subst hr5_
   refine outs_nil [.cell 2 35, .tmp 3] [.agg #[vI 0, vI 0], vI 6] rfl (fun w_ hM => (.cell rfl (tr_run _ [.v (vI 0), .v (vI 0)] [ld b1 0 (vI 0), ld b1 1 (vI 0)] (.agg #[vI 0, vI 0] : Value) _ _ (by kernel_rfl) ⟨hM.cell 4 rfl rfl, hM.cell 4 rfl rfl, rfl⟩) (.tmp rfl .nil))) (fun w_ hM => ?_)
   exact ⟨A_s_0, c_s_0, y_s_0, A_s_1, c_s_1, y_s_1, A_s_2, c_s_2, y_s_2, ⟨h_s_0, h_s_1, h_s_2⟩, rfl, hM.pick 7 [0, 1, 2, 3, 6] (by kernel_rfl) (by decide) rfl⟩
  ·
   have hp := cnd_f hc5 hp
   refine st_skip (fin_then ?_)
   refine st_join1 (σ := (Option Addr) × Nat × (List Int) × (List Value)) (L := fun x_ => match x_ with | (A6, c7, l8, y9) => [(0, vP b_s 0), (2, vP b1 0), (4, vP b2 0)]) (N := fun x_ => match x_ with | (A6, c7, l8, y9) => Mem w0 (.blk b_s [sl A6 l8 c7, sl A_s_1 s_1 c_s_1, sl A_s_2 s_2 c_s_2] 127 :: ow A6 l8 c7 3 1 y9 :: ow A_s_1 s_1 c_s_1 52 1 y_s_1 :: ow A_s_2 s_2 c_s_2 52 1 y_s_2 :: .blk b1 [vI 0, vI 0] 35 :: .blk b2 [vI i3] 3 :: .obj b4 (.deferred (some [])) :: Fz F W :: cs)) (I := fun x_ => match x_ with | (A6, c7, l8, y9) => ((slots_Slots_Take_j2 s_1 i3 s_2) l8 = some (i9001, i9002, i9003, l9006, l9011, l9016)) ∧ (RepL (Rep.int .i64) F W l8 y9)) ?_ ?_
   ·
    rintro ⟨A6, c7, l8, y9⟩ ⟨hp, h10⟩
    unfold slots_Slots_Take_j2 at hp
    refine st_join1 (σ := (Option Addr) × Nat × (List Int) × (List Value) × (Option Addr) × Nat × (List Int) × (List Value)) (L := fun x_ => match x_ with | (A11, c12, l13, y14, A16, c17, l18, y19) => [(0, vP b_s 0), (2, vP b1 0), (4, vP b2 0)]) (N := fun x_ => match x_ with | (A11, c12, l13, y14, A16, c17, l18, y19) => Mem w0 (.blk b_s [sl A6 l8 c7, sl A11 l13 c12, sl A16 l18 c17] 127 :: ow A6 l8 c7 3 1 y9 :: ow A11 l13 c12 52 1 y14 :: ow A16 l18 c17 52 1 y19 :: .blk b1 [vI 0, vI 0] 35 :: .blk b2 [vI i3] 3 :: .obj b4 (.deferred (some [])) :: Fz F W :: cs)) (I := fun x_ => match x_ with | (A11, c12, l13, y14, A16, c17, l18, y19) => ((slots_Slots_Take_j3 l8 i3) l13 l18 = some (i9001, i9002, i9003, l9006, l9011, l9016)) ∧ (RepL (Rep.int .u64) F W l13 y14) ∧ (RepL (Rep.int .u64) F W l18 y19)) ?_ ?_
    ·
     rintro ⟨A11, c12, l13, y14, A16, c17, l18, y19⟩ ⟨hp, h15, h20⟩
     unfold slots_Slots_Take_j3 at hp
     refine st_seq ?_
     refine st_region_draw [oT 0, oT 1, oT 2, oT 3, oT 4, oT 5, oT 6, oT 7, oT 8, oF 9, oT 10] (Mem w0 (.blk b_s [sl A6 l8 c7, sl A11 l13 c12, sl A16 l18 c17] 127 :: ow A6 l8 c7 3 1 y9 :: ow A11 l13 c12 52 1 y14 :: ow A16 l18 c17 52 1 y19 :: .blk b2 [vI i3] 3 :: .obj b4 (.deferred (some [])) :: Fz F W :: cs)) (by kernel_rfl) (by kernel_rfl) (by kernel_rfl) (fun _ d _ _ _ h => by cases d <;> exact h) (M' := Mem w0 (.blk b_s [sl A6 l8 c7, sl A11 l13 c12, sl A16 l18 c17] 127 :: ow A6 l8 c7 3 1 y9 :: ow A11 l13 c12 52 1 y14 :: ow A16 l18 c17 52 1 y19 :: .blk b1 [vI 0, vI 0] 35 :: .blk b2 [vI i3] 3 :: .obj b4 (.deferred (some [])) :: Fz F W :: cs)) (fun w_ hM => ⟨hM.drew, hM.drew.sub (.cons_cons _ (.cons_cons _ (.cons_cons _ (.cons_cons _ (.cons _ (.cons_cons _ (.cons_cons _ (.cons_cons _ (.refl _)))))))))⟩) ?_
     refine ops_load (d := some 55) (an := [.v (vI i3)]) (evs := [ld b2 0 (vI i3)]) (v := vI i3) ⟨by kernel_rfl⟩ (fun w_ hM => ⟨hM.cell 4 rfl rfl, rfl⟩) ?_
     refine oQ [oT 1, oT 2, oT 3] [(58, vP b_s 0), (55, vI i3), (2, vP b1 0), (4, vP b2 0)] (by kernel_rfl) ?_
     refine ops_load (d := some 59) (an := [.v (sl A6 l8 c7)]) (evs := [ld b_s 0 (sl A6 l8 c7)]) (v := sl A6 l8 c7) ⟨by kernel_rfl⟩ (fun w_ hM => ⟨hM.cell 0 rfl rfl, rfl⟩) ?_
     refine ops_load (d := some 60) (an := [.v (vI i3)]) (evs := [ld b2 0 (vI i3)]) (v := vI i3) ⟨by kernel_rfl⟩ (fun w_ hM => ⟨hM.cell 4 rfl rfl, rfl⟩) ?_
     obtain ⟨x21, hv22, hp⟩ := obind hp
     obtain ⟨m23, hm24, hx25⟩ := idx_some hv22
     have hl28 := (List.getElem?_eq_some_iff.1 hx25).1
     refine ops_fact (fun w_ hM => hM.orowSome 1 rfl (Nat.lt_of_le_of_lt (Nat.zero_le _) hl28)) ?_
     rintro ⟨g29, rfl, -⟩
     obtain ⟨vs26, hr27, hq30⟩ := h10.at_ m23 x21 hx25
     obtain rfl := hr27
     refine ops_val (op := (.indexAddr 23 (.tmp 59) (.tmp 60))) (d := some 61) (v := vP g29 (m23 * 1)) ⟨by kernel_rfl⟩ (run_indexRow Try.underlying23 (z := 1) (by kernel_rfl) rfl rfl hm24 hl28 rfl) ?_
     refine ops_load (d := some 62) (an := [.v (vI x21)]) (evs := [.load ⟨g29, m23 * 1, none⟩ (vI x21)]) (v := vI x21) ⟨by kernel_rfl⟩ (fun w_ hM => ⟨hM.ocell 1 rfl (hq30 0 _ rfl), rfl⟩) ?_
     refine oQ [oT 8] [(63, .agg #[vI i3, vI x21]), (2, vP b1 0)] (by kernel_rfl) ?_
     refine ops_store (an := []) (evs := [sr b1 0 (vI i3), sr b1 1 (vI x21)]) ⟨by kernel_rfl⟩ (fun w_ hM hS => let ⟨w', he, h'⟩ := hM.evs_stores [vI i3, vI x21] 4 rfl 0 (Nat.le_of_ble_eq_true rfl); ⟨w', he, h', (by exact h'.sub (.cons_cons _ (.cons_cons _ (.cons_cons _ (.cons_cons _ (.cons _ (.cons_cons _ (.cons_cons _ (.cons_cons _ (.refl _))))))))))⟩) ?_
     refine oQ [oT 10] [(3, vI 0), (2, vP b1 0)] (by kernel_rfl) ?_
     refine ops_nil (fin_then (st_ret ?_))
     refine fin_outs rfl ?_
     refine outs_mark 6 rfl ?_
     refine outs_conv (M' := Mem w0 (.blk b_s [sl (sa g29) l8 c7, sl A11 l13 c12, sl A16 l18 c17] 127 :: ow (sa g29) l8 c7 3 1 y9 :: ow A11 l13 c12 52 1 y14 :: ow A16 l18 c17 52 1 y19 :: .blk b1 [vI i3, vI x21] 35 :: .blk b2 [vI i3] 3 :: Fz F W :: cs)) (fun _ h => h) ?_
     have hq_ := Option.some.inj hp
     obtain ⟨hr0_, hq_⟩ := Prod.mk.inj hq_
     obtain ⟨hr1_, hq_⟩ := Prod.mk.inj hq_
     obtain ⟨hr2_, hq_⟩ := Prod.mk.inj hq_
     obtain ⟨hr3_, hq_⟩ := Prod.mk.inj hq_
     obtain ⟨hr4_, hq_⟩ := Prod.mk.inj hq_
     have hr5_ := hq_
     subst hr0_
     subst hr1_
     subst hr2_
     subst hr3_
     subst hr4_
     subst hr5_
     refine outs_nil [.cell 2 35, .tmp 3] [.agg #[vI i3, vI x21], vI 0] rfl (fun w_ hM => (.cell rfl (tr_run _ [.v (vI i3), .v (vI x21)] [ld b1 0 (vI i3), ld b1 1 (vI x21)] (.agg #[vI i3, vI x21] : Value) _ _ (by kernel_rfl) ⟨hM.cell 4 rfl rfl, hM.cell 4 rfl rfl, rfl⟩) (.tmp rfl .nil))) (fun w_ hM => ?_)
     exact ⟨(sa g29), c7, y9, A11, c12, y14, A16, c17, y19, ⟨h10, h15, h20⟩, rfl, hM.pick 7 [0, 1, 2, 3, 6] (by kernel_rfl) (by decide) rfl⟩
    ·
     intro HJ3
     refine st_seq ?_
     obtain ⟨x31, hv32, hp⟩ := obind hp
     obtain ⟨x37, hv38, hp⟩ := obind hp
     refine st_region_treeF slots_Slots_Take__t0 20 (.node [oT 0, oT 1, oT 2, oT 3, oT 4, oT 6, oT 8, oT 9, oT 10, oT 12] (.node [oF 5] (.leaf [oF 7, oF 11, oF 13, oT 14, oT 15, oF 16, oT 17, oT 18, oF 19]) (.leaf [oF 11, oF 7, oF 13, oT 14, oT 15, oF 16, oT 17, oT 18, oF 19])) (.leaf [oF 11, oF 5, oF 7, oF 13, oT 14, oT 15, oF 16, oT 17, oT 18, oF 19])) (Mem w0 (ow A6 l8 c7 3 1 y9 :: ow A_s_1 s_1 c_s_1 52 1 y_s_1 :: ow A_s_2 s_2 c_s_2 52 1 y_s_2 :: .blk b1 [vI 0, vI 0] 35 :: .blk b2 [vI i3] 3 :: .obj b4 (.deferred (some [])) :: Fz F W :: cs)) (by kernel_rfl) (by kernel_rfl) (by kernel_rfl) (by kernel_rfl) (by kernel_rfl) (fun _ d _ _ _ h => by cases d <;> exact h) (M' := Mem w0 (.blk b_s [sl A6 l8 c7, sl A_s_1 s_1 c_s_1, sl A_s_2 s_2 c_s_2] 127 :: ow A6 l8 c7 3 1 y9 :: ow A_s_1 s_1 c_s_1 52 1 y_s_1 :: ow A_s_2 s_2 c_s_2 52 1 y_s_2 :: .blk b1 [vI 0, vI 0] 35 :: .blk b2 [vI i3] 3 :: .obj b4 (.deferred (some [])) :: Fz F W :: cs)) (fun w_ hM => ⟨hM.drew, hM.drew.sub (.cons _ (.cons_cons _ (.cons_cons _ (.cons_cons _ (.cons_cons _ (.cons_cons _ (.cons_cons _ (.cons_cons _ (.refl _)))))))))⟩) ?_
     refine tree_node ?_
     refine oQ [oT 0, oT 1, oT 2, oT 3, oT 4] [(41, vP b_s 1), (38, vP b_s 0), (37, vP b_s 0), (0, vP b_s 0), (2, vP b1 0), (4, vP b2 0)] (by kernel_rfl) ?_
     refine ops_load (d := some 43) (an := [.v (vI i3)]) (evs := [ld b2 0 (vI i3)]) (v := vI i3) ⟨by kernel_rfl⟩ (fun w_ hM => ⟨hM.cell 4 rfl rfl, rfl⟩) ?_
     refine oQ [oT 8, oT 9, oT 10] [(47, vP b_s 2), (43, vI i3), (41, vP b_s 1), (38, vP b_s 0), (37, vP b_s 0), (0, vP b_s 0), (2, vP b1 0), (4, vP b2 0)] (by kernel_rfl) ?_
     refine ops_load (d := some 49) (an := [.v (vI i3)]) (evs := [ld b2 0 (vI i3)]) (v := vI i3) ⟨by kernel_rfl⟩ (fun w_ hM => ⟨hM.cell 4 rfl rfl, rfl⟩) ?_
     refine ops_nil ?_
     refine tree_both ?_ ?_
     ·
      refine tree_node ?_
      refine ops_mem (d := some 42) (an := [.v (sl A_s_1 s_1 c_s_1)]) (evs := [ld b_s 1 (sl A_s_1 s_1 c_s_1)]) (v := sl A_s_1 s_1 c_s_1) ⟨by kernel_rfl⟩ (fun w_ hM hS => ⟨w_, ⟨hM.cell 0 rfl rfl, rfl⟩, hM, hS⟩) ?_
      refine ops_nil ?_
      refine tree_both ?_ ?_
      ·
       refine tree_leaf ?_
       refine ops_callI (σ := (Option Addr) × Nat × (List Value)) (d := some 44) (f := 30) (args := #[sl A_s_1 s_1 c_s_1, vI i3]) (v := (fun x_ => match x_ with | (A39, c40, y41) => sl A39 x31 c40)) (I := (fun x_ => match x_ with | (A39, c40, y41) => (RepL (Rep.int .u64) F W x31 y41))) (M' := (fun x_ => match x_ with | (A39, c40, y41) => Mem w0 (ow A39 x31 c40 52 1 y41 :: .blk b_s [sl A6 l8 c7, sl A_s_1 s_1 c_s_1, sl A_s_2 s_2 c_s_2] 127 :: ow A6 l8 c7 3 1 y9 :: ow A_s_1 s_1 c_s_1 52 1 y_s_1 :: ow A_s_2 s_2 c_s_2 52 1 y_s_2 :: .blk b1 [vI 0, vI 0] 35 :: .blk b2 [vI i3] 3 :: .obj b4 (.deferred (some [])) :: Fz F W :: cs))) ⟨by kernel_rfl⟩ (fun w_ hM hS => (sets_Set_With_ok w_ w_ [] (fun b => b < w_.heap.size) w_ A_s_1 c_s_1 s_1 i3 (Mem.fz0 w_) (hM.ordS 2 7 rfl rfl h_s_1 rfl rfl) x31 hv32).mono (by rintro e w' ⟨A39, c40, y41, h42, rfl, h'⟩; have h' : Mem w_ [ow A39 x31 c40 52 1 y41] w' := h'.pick 2 [0] (by kernel_rfl) (by decide) rfl; exact ⟨(A39, c40, y41), (RepL.move' (fun h => h) h42), rfl, hM.join h' rfl, (hS.step h'.below)⟩)) ?_
       rintro ⟨A39, c40, y41⟩ h42
       refine ops_mem (d := some 48) (an := [.v (sl A_s_2 s_2 c_s_2)]) (evs := [ld b_s 2 (sl A_s_2 s_2 c_s_2)]) (v := sl A_s_2 s_2 c_s_2) ⟨by kernel_rfl⟩ (fun w_ hM hS => ⟨w_, ⟨hM.cell 1 rfl rfl, rfl⟩, hM, hS⟩) ?_
       refine ops_callI (σ := (Option Addr) × Nat × (List Value)) (d := some 50) (f := 32) (args := #[sl A_s_2 s_2 c_s_2, vI i3]) (v := (fun x_ => match x_ with | (A43, c44, y45) => sl A43 x37 c44)) (I := (fun x_ => match x_ with | (A43, c44, y45) => (RepL (Rep.int .u64) F W x37 y45))) (M' := (fun x_ => match x_ with | (A43, c44, y45) => Mem w0 (ow A43 x37 c44 52 1 y45 :: ow A39 x31 c40 52 1 y41 :: .blk b_s [sl A6 l8 c7, sl A_s_1 s_1 c_s_1, sl A_s_2 s_2 c_s_2] 127 :: ow A6 l8 c7 3 1 y9 :: ow A_s_1 s_1 c_s_1 52 1 y_s_1 :: ow A_s_2 s_2 c_s_2 52 1 y_s_2 :: .blk b1 [vI 0, vI 0] 35 :: .blk b2 [vI i3] 3 :: .obj b4 (.deferred (some [])) :: Fz F W :: cs))) ⟨by kernel_rfl⟩ (fun w_ hM hS => (sets_Set_Without_ok w_ w_ [] (fun b => b < w_.heap.size) w_ A_s_2 c_s_2 s_2 i3 (Mem.fz0 w_) (hM.ordS 4 8 rfl rfl h_s_2 rfl rfl) x37 hv38).mono (by rintro e w' ⟨A43, c44, y45, h46, rfl, h'⟩; have h' : Mem w_ [ow A43 x37 c44 52 1 y45] w' := h'.pick 2 [0] (by kernel_rfl) (by decide) rfl; exact ⟨(A43, c44, y45), (RepL.move' (fun h => h) h46), rfl, hM.join h' rfl, (hS.step h'.below)⟩)) ?_
       rintro ⟨A43, c44, y45⟩ h46
       refine oQ [oT 14, oT 15] [(52, vP b_s 1), (50, sl A43 x37 c44), (44, sl A39 x31 c40), (38, vP b_s 0), (0, vP b_s 0), (2, vP b1 0), (4, vP b2 0)] (by kernel_rfl) ?_
       refine ops_store (an := []) (evs := [sr b_s 1 (sl A39 x31 c40)]) ⟨by kernel_rfl⟩ (fun w_ hM hS => let ⟨w', he, h'⟩ := hM.evs_stores [sl A39 x31 c40] 2 rfl 1 (Nat.le_of_ble_eq_true rfl); ⟨w', he, h', (by exact h'.sub (.cons _ (.cons _ (.cons _ (.cons_cons _ (.cons_cons _ (.cons_cons _ (.cons_cons _ (.cons_cons _ (.cons_cons _ (.cons_cons _ (.refl _))))))))))))⟩) ?_
       refine oQ [oT 17, oT 18] [(54, vP b_s 2), (50, sl A43 x37 c44), (0, vP b_s 0), (2, vP b1 0), (4, vP b2 0)] (by kernel_rfl) ?_
       refine ops_store (an := []) (evs := [sr b_s 2 (sl A43 x37 c44)]) ⟨by kernel_rfl⟩ (fun w_ hM hS => let ⟨w', he, h'⟩ := hM.evs_stores [sl A43 x37 c44] 2 rfl 2 (Nat.le_of_ble_eq_true rfl); ⟨w', he, h', (by exact h'.sub (.cons _ (.cons _ (.cons _ (.cons_cons _ (.cons_cons _ (.cons_cons _ (.cons_cons _ (.cons_cons _ (.cons_cons _ (.cons_cons _ (.refl _))))))))))))⟩) ?_
       refine ops_nil ?_
       exact fin_join HJ3 (A39, c40, x31, y41, A43, c44, x37, y45) ⟨hp, h42, h46⟩ (look_has ⟨rfl, rfl, rfl, trivial⟩) (fun w_ hM => hM.pick 10 [2, 3, 1, 0, 6, 7, 8, 9] (by kernel_rfl) (by decide) rfl)
      ·
       refine tree_leaf ?_
       refine ops_mem (d := some 48) (an := [.v (sl A_s_2 s_2 c_s_2)]) (evs := [ld b_s 2 (sl A_s_2 s_2 c_s_2)]) (v := sl A_s_2 s_2 c_s_2) ⟨by kernel_rfl⟩ (fun w_ hM hS => ⟨w_, ⟨hM.cell 0 rfl rfl, rfl⟩, hM, hS⟩) ?_
       refine ops_callI (σ := (Option Addr) × Nat × (List Value)) (d := some 44) (f := 30) (args := #[sl A_s_1 s_1 c_s_1, vI i3]) (v := (fun x_ => match x_ with | (A47, c48, y49) => sl A47 x31 c48)) (I := (fun x_ => match x_ with | (A47, c48, y49) => (RepL (Rep.int .u64) F W x31 y49))) (M' := (fun x_ => match x_ with | (A47, c48, y49) => Mem w0 (ow A47 x31 c48 52 1 y49 :: .blk b_s [sl A6 l8 c7, sl A_s_1 s_1 c_s_1, sl A_s_2 s_2 c_s_2] 127 :: ow A6 l8 c7 3 1 y9 :: ow A_s_1 s_1 c_s_1 52 1 y_s_1 :: ow A_s_2 s_2 c_s_2 52 1 y_s_2 :: .blk b1 [vI 0, vI 0] 35 :: .blk b2 [vI i3] 3 :: .obj b4 (.deferred (some [])) :: Fz F W :: cs))) ⟨by kernel_rfl⟩ (fun w_ hM hS => (sets_Set_With_ok w_ w_ [] (fun b => b < w_.heap.size) w_ A_s_1 c_s_1 s_1 i3 (Mem.fz0 w_) (hM.ordS 2 7 rfl rfl h_s_1 rfl rfl) x31 hv32).mono (by rintro e w' ⟨A47, c48, y49, h50, rfl, h'⟩; have h' : Mem w_ [ow A47 x31 c48 52 1 y49] w' := h'.pick 2 [0] (by kernel_rfl) (by decide) rfl; exact ⟨(A47, c48, y49), (RepL.move' (fun h => h) h50), rfl, hM.join h' rfl, (hS.step h'.below)⟩)) ?_
       rintro ⟨A47, c48, y49⟩ h50
       refine ops_callI (σ := (Option Addr) × Nat × (List Value)) (d := some 50) (f := 32) (args := #[sl A_s_2 s_2 c_s_2, vI i3]) (v := (fun x_ => match x_ with | (A51, c52, y53) => sl A51 x37 c52)) (I := (fun x_ => match x_ with | (A51, c52, y53) => (RepL (Rep.int .u64) F W x37 y53))) (M' := (fun x_ => match x_ with | (A51, c52, y53) => Mem w0 (ow A51 x37 c52 52 1 y53 :: ow A47 x31 c48 52 1 y49 :: .blk b_s [sl A6 l8 c7, sl A_s_1 s_1 c_s_1, sl A_s_2 s_2 c_s_2] 127 :: ow A6 l8 c7 3 1 y9 :: ow A_s_1 s_1 c_s_1 52 1 y_s_1 :: ow A_s_2 s_2 c_s_2 52 1 y_s_2 :: .blk b1 [vI 0, vI 0] 35 :: .blk b2 [vI i3] 3 :: .obj b4 (.deferred (some [])) :: Fz F W :: cs))) ⟨by kernel_rfl⟩ (fun w_ hM hS => (sets_Set_Without_ok w_ w_ [] (fun b => b < w_.heap.size) w_ A_s_2 c_s_2 s_2 i3 (Mem.fz0 w_) (hM.ordS 4 8 rfl rfl h_s_2 rfl rfl) x37 hv38).mono (by rintro e w' ⟨A51, c52, y53, h54, rfl, h'⟩; have h' : Mem w_ [ow A51 x37 c52 52 1 y53] w' := h'.pick 2 [0] (by kernel_rfl) (by decide) rfl; exact ⟨(A51, c52, y53), (RepL.move' (fun h => h) h54), rfl, hM.join h' rfl, (hS.step h'.below)⟩)) ?_
       rintro ⟨A51, c52, y53⟩ h54
       refine oQ [oT 14, oT 15] [(52, vP b_s 1), (50, sl A51 x37 c52), (44, sl A47 x31 c48), (38, vP b_s 0), (0, vP b_s 0), (2, vP b1 0), (4, vP b2 0)] (by kernel_rfl) ?_
       refine ops_store (an := []) (evs := [sr b_s 1 (sl A47 x31 c48)]) ⟨by kernel_rfl⟩ (fun w_ hM hS => let ⟨w', he, h'⟩ := hM.evs_stores [sl A47 x31 c48] 2 rfl 1 (Nat.le_of_ble_eq_true rfl); ⟨w', he, h', (by exact h'.sub (.cons _ (.cons _ (.cons _ (.cons_cons _ (.cons_cons _ (.cons_cons _ (.cons_cons _ (.cons_cons _ (.cons_cons _ (.cons_cons _ (.refl _))))))))))))⟩) ?_
       refine oQ [oT 17, oT 18] [(54, vP b_s 2), (50, sl A51 x37 c52), (0, vP b_s 0), (2, vP b1 0), (4, vP b2 0)] (by kernel_rfl) ?_
       refine ops_store (an := []) (evs := [sr b_s 2 (sl A51 x37 c52)]) ⟨by kernel_rfl⟩ (fun w_ hM hS => let ⟨w', he, h'⟩ := hM.evs_stores [sl A51 x37 c52] 2 rfl 2 (Nat.le_of_ble_eq_true rfl); ⟨w', he, h', (by exact h'.sub (.cons _ (.cons _ (.cons _ (.cons_cons _ (.cons_cons _ (.cons_cons _ (.cons_cons _ (.cons_cons _ (.cons_cons _ (.cons_cons _ (.refl _))))))))))))⟩) ?_
       refine ops_nil ?_
       exact fin_join HJ3 (A47, c48, x31, y49, A51, c52, x37, y53) ⟨hp, h50, h54⟩ (look_has ⟨rfl, rfl, rfl, trivial⟩) (fun w_ hM => hM.pick 10 [2, 3, 1, 0, 6, 7, 8, 9] (by kernel_rfl) (by decide) rfl)
     ·
      refine tree_leaf ?_
      refine ops_mem (d := some 48) (an := [.v (sl A_s_2 s_2 c_s_2)]) (evs := [ld b_s 2 (sl A_s_2 s_2 c_s_2)]) (v := sl A_s_2 s_2 c_s_2) ⟨by kernel_rfl⟩ (fun w_ hM hS => ⟨w_, ⟨hM.cell 0 rfl rfl, rfl⟩, hM, hS⟩) ?_
      refine ops_mem (d := some 42) (an := [.v (sl A_s_1 s_1 c_s_1)]) (evs := [ld b_s 1 (sl A_s_1 s_1 c_s_1)]) (v := sl A_s_1 s_1 c_s_1) ⟨by kernel_rfl⟩ (fun w_ hM hS => ⟨w_, ⟨hM.cell 0 rfl rfl, rfl⟩, hM, hS⟩) ?_
      refine ops_callI (σ := (Option Addr) × Nat × (List Value)) (d := some 44) (f := 30) (args := #[sl A_s_1 s_1 c_s_1, vI i3]) (v := (fun x_ => match x_ with | (A55, c56, y57) => sl A55 x31 c56)) (I := (fun x_ => match x_ with | (A55, c56, y57) => (RepL (Rep.int .u64) F W x31 y57))) (M' := (fun x_ => match x_ with | (A55, c56, y57) => Mem w0 (ow A55 x31 c56 52 1 y57 :: .blk b_s [sl A6 l8 c7, sl A_s_1 s_1 c_s_1, sl A_s_2 s_2 c_s_2] 127 :: ow A6 l8 c7 3 1 y9 :: ow A_s_1 s_1 c_s_1 52 1 y_s_1 :: ow A_s_2 s_2 c_s_2 52 1 y_s_2 :: .blk b1 [vI 0, vI 0] 35 :: .blk b2 [vI i3] 3 :: .obj b4 (.deferred (some [])) :: Fz F W :: cs))) ⟨by kernel_rfl⟩ (fun w_ hM hS => (sets_Set_With_ok w_ w_ [] (fun b => b < w_.heap.size) w_ A_s_1 c_s_1 s_1 i3 (Mem.fz0 w_) (hM.ordS 2 7 rfl rfl h_s_1 rfl rfl) x31 hv32).mono (by rintro e w' ⟨A55, c56, y57, h58, rfl, h'⟩; have h' : Mem w_ [ow A55 x31 c56 52 1 y57] w' := h'.pick 2 [0] (by kernel_rfl) (by decide) rfl; exact ⟨(A55, c56, y57), (RepL.move' (fun h => h) h58), rfl, hM.join h' rfl, (hS.step h'.below)⟩)) ?_
      rintro ⟨A55, c56, y57⟩ h58
      refine ops_callI (σ := (Option Addr) × Nat × (List Value)) (d := some 50) (f := 32) (args := #[sl A_s_2 s_2 c_s_2, vI i3]) (v := (fun x_ => match x_ with | (A59, c60, y61) => sl A59 x37 c60)) (I := (fun x_ => match x_ with | (A59, c60, y61) => (RepL (Rep.int .u64) F W x37 y61))) (M' := (fun x_ => match x_ with | (A59, c60, y61) => Mem w0 (ow A59 x37 c60 52 1 y61 :: ow A55 x31 c56 52 1 y57 :: .blk b_s [sl A6 l8 c7, sl A_s_1 s_1 c_s_1, sl A_s_2 s_2 c_s_2] 127 :: ow A6 l8 c7 3 1 y9 :: ow A_s_1 s_1 c_s_1 52 1 y_s_1 :: ow A_s_2 s_2 c_s_2 52 1 y_s_2 :: .blk b1 [vI 0, vI 0] 35 :: .blk b2 [vI i3] 3 :: .obj b4 (.deferred (some [])) :: Fz F W :: cs))) ⟨by kernel_rfl⟩ (fun w_ hM hS => (sets_Set_Without_ok w_ w_ [] (fun b => b < w_.heap.size) w_ A_s_2 c_s_2 s_2 i3 (Mem.fz0 w_) (hM.ordS 4 8 rfl rfl h_s_2 rfl rfl) x37 hv38).mono (by rintro e w' ⟨A59, c60, y61, h62, rfl, h'⟩; have h' : Mem w_ [ow A59 x37 c60 52 1 y61] w' := h'.pick 2 [0] (by kernel_rfl) (by decide) rfl; exact ⟨(A59, c60, y61), (RepL.move' (fun h => h) h62), rfl, hM.join h' rfl, (hS.step h'.below)⟩)) ?_
      rintro ⟨A59, c60, y61⟩ h62
      refine oQ [oT 14, oT 15] [(52, vP b_s 1), (50, sl A59 x37 c60), (44, sl A55 x31 c56), (38, vP b_s 0), (0, vP b_s 0), (2, vP b1 0), (4, vP b2 0)] (by kernel_rfl) ?_
      refine ops_store (an := []) (evs := [sr b_s 1 (sl A55 x31 c56)]) ⟨by kernel_rfl⟩ (fun w_ hM hS => let ⟨w', he, h'⟩ := hM.evs_stores [sl A55 x31 c56] 2 rfl 1 (Nat.le_of_ble_eq_true rfl); ⟨w', he, h', (by exact h'.sub (.cons _ (.cons _ (.cons _ (.cons_cons _ (.cons_cons _ (.cons_cons _ (.cons_cons _ (.cons_cons _ (.cons_cons _ (.cons_cons _ (.refl _))))))))))))⟩) ?_
      refine oQ [oT 17, oT 18] [(54, vP b_s 2), (50, sl A59 x37 c60), (0, vP b_s 0), (2, vP b1 0), (4, vP b2 0)] (by kernel_rfl) ?_
      refine ops_store (an := []) (evs := [sr b_s 2 (sl A59 x37 c60)]) ⟨by kernel_rfl⟩ (fun w_ hM hS => let ⟨w', he, h'⟩ := hM.evs_stores [sl A59 x37 c60] 2 rfl 2 (Nat.le_of_ble_eq_true rfl); ⟨w', he, h', (by exact h'.sub (.cons _ (.cons _ (.cons _ (.cons_cons _ (.cons_cons _ (.cons_cons _ (.cons_cons _ (.cons_cons _ (.cons_cons _ (.cons_cons _ (.refl _))))))))))))⟩) ?_
      refine ops_nil ?_
      exact fin_join HJ3 (A55, c56, x31, y57, A59, c60, x37, y61) ⟨hp, h58, h62⟩ (look_has ⟨rfl, rfl, rfl, trivial⟩) (fun w_ hM => hM.pick 10 [2, 3, 1, 0, 6, 7, 8, 9] (by kernel_rfl) (by decide) rfl)
   ·
    intro HJ2
    refine st_seq (st_seq ?_)
    refine st_region_draw [oT 0, oT 1, oT 2, oT 3, oT 4, oT 5, oT 6] (Mem w0 (.blk b_s [sl A_s_0 s_0 c_s_0, sl A_s_1 s_1 c_s_1, sl A_s_2 s_2 c_s_2] 127 :: ow A_s_0 s_0 c_s_0 3 1 y_s_0 :: ow A_s_1 s_1 c_s_1 52 1 y_s_1 :: ow A_s_2 s_2 c_s_2 52 1 y_s_2 :: .blk b1 [vI 0, vI 0] 35 :: .blk b2 [vI i3] 3 :: .obj b4 (.deferred (some [])) :: Fz F W :: cs)) (by kernel_rfl) (by kernel_rfl) (by kernel_rfl) (fun _ d _ _ _ h => by cases d <;> exact h) (M' := Mem w0 (.blk b_s [sl A_s_0 s_0 c_s_0, sl A_s_1 s_1 c_s_1, sl A_s_2 s_2 c_s_2] 127 :: ow A_s_0 s_0 c_s_0 3 1 y_s_0 :: ow A_s_1 s_1 c_s_1 52 1 y_s_1 :: ow A_s_2 s_2 c_s_2 52 1 y_s_2 :: .blk b1 [vI 0, vI 0] 35 :: .blk b2 [vI i3] 3 :: .obj b4 (.deferred (some [])) :: Fz F W :: cs)) (fun w_ hM => ⟨hM.drew, hM.drew.sub (.cons_cons _ (.cons_cons _ (.cons_cons _ (.cons_cons _ (.cons_cons _ (.cons_cons _ (.cons_cons _ (.cons_cons _ (.refl _)))))))))⟩) ?_
    refine ops_load (d := some 21) (an := [.v (vI i3)]) (evs := [ld b2 0 (vI i3)]) (v := vI i3) ⟨by kernel_rfl⟩ (fun w_ hM => ⟨hM.cell 5 rfl rfl, rfl⟩) ?_
    refine oQ [oT 1, oT 2, oT 3] [(24, vP b_s 0), (21, vI i3), (0, vP b_s 0), (2, vP b1 0), (4, vP b2 0)] (by kernel_rfl) ?_
    refine ops_load (d := some 25) (an := [.v (sl A_s_0 s_0 c_s_0)]) (evs := [ld b_s 0 (sl A_s_0 s_0 c_s_0)]) (v := sl A_s_0 s_0 c_s_0) ⟨by kernel_rfl⟩ (fun w_ hM => ⟨hM.cell 0 rfl rfl, rfl⟩) ?_
    refine oQ [oT 5, oT 6] [(27, .bool (i3 == (s_0.length : Int))), (0, vP b_s 0), (2, vP b1 0), (4, vP b2 0)] (by kernel_rfl) ?_
    refine ops_nil (fin_then ?_)
    refine st_if (b := (i3 == (s_0.length : Int))) rfl (fun hc63 => ?_) (fun hc63 => ?_)
    ·
     have hp := cnd_t hc63 hp
     refine st_region [oF 0, oF 1, oF 2, oF 3, oF 4, oF 5, oF 6, oF 7, oF 8, oF 9] (by rfl) ?_
     refine oQ [oF 0, oF 1, oF 2, oF 3] [(31, vP b_s 0), (28, vP b_s 0), (0, vP b_s 0), (2, vP b1 0), (4, vP b2 0)] (by kernel_rfl) ?_
     refine ops_mem (d := some 32) (an := [.v (sl A_s_0 s_0 c_s_0)]) (evs := [ld b_s 0 (sl A_s_0 s_0 c_s_0)]) (v := sl A_s_0 s_0 c_s_0) ⟨by kernel_rfl⟩ (fun w_ hM hS => ⟨w_, ⟨hM.cell 0 rfl rfl, rfl⟩, hM, trivial⟩) ?_
     have h64 : RepL (Rep.int .i64) F W ([0] : List Int) ([vI 0]) := (RepL.cons (R := (Rep.int .i64)) (F := F) (w := W) (vs := [vI 0]) (ys := []) rfl RepL.nil)
     refine ops_new (d := some 33) (o := .cells ([vI 0] : List Value).toArray 3) (v := fun g65 => .slice (sa g65) ([0] : List Int).length 1) (M' := fun g65 => Mem w0 (orow (sa g65) ([0] : List Int).length 1 3 1 ([vI 0]) :: .blk b_s [sl A_s_0 s_0 c_s_0, sl A_s_1 s_1 c_s_1, sl A_s_2 s_2 c_s_2] 127 :: ow A_s_0 s_0 c_s_0 3 1 y_s_0 :: ow A_s_1 s_1 c_s_1 52 1 y_s_1 :: ow A_s_2 s_2 c_s_2 52 1 y_s_2 :: .blk b1 [vI 0, vI 0] 35 :: .blk b2 [vI i3] 3 :: .obj b4 (.deferred (some [])) :: Fz F W :: cs)) (fun g65 => ⟨by kernel_rfl⟩) (fun w_ hM hS => ⟨hM.onew [vI 0] 3 1 1 rfl (by decide), trivial⟩) (fun g65 => ?_)
     obtain ⟨l66, hv67, hp⟩ := obind hp
     obtain ⟨he68, hb69⟩ := app_some hv67
     obtain ⟨y70, hy71⟩ : ∃ y_, y_s_0 ++ ([vI 0]) = y_ := ⟨_, rfl⟩
     have h72 : RepL (Rep.int .i64) F W l66 y70 := by rw [he68, ← hy71]; exact RepL.app h_s_0 h64
     refine ops_appendO (x := (Go.Operand.tmp 32)) (y := (Go.Operand.tmp 33)) (t := 23) (e := 3) (d := some 34) (n' := l66.length) (z := 1) (m := ([0] : List Int).length) (bytes := 8) (xs' := y70) (news := ([vI 0])) (zv := vI 0) 2 ⟨by kernel_rfl⟩ rfl rfl Try.underlying23 (by kernel_rfl) (by rfl) rfl (fun w_ hM => hM.srcO 0 rfl) h64.len h64.one hb69 (by have z_ := congrArg List.length he68; rw [List.length_append] at z_; exact z_.symm) hy71 (fun _ _ _ _ hS h' => trivial) ?_
     rintro ⟨A73, c74⟩
     refine oQ [oF 7, oF 8] [(36, vP b_s 0), (34, sl A73 l66 c74), (0, vP b_s 0), (2, vP b1 0), (4, vP b2 0)] (by kernel_rfl) ?_
     refine ops_store (an := []) (evs := [sr b_s 0 (sl A73 l66 c74)]) ⟨by kernel_rfl⟩ (fun w_ hM hS => let ⟨w', he, h'⟩ := hM.evs_stores [sl A73 l66 c74] 1 rfl 0 (Nat.le_of_ble_eq_true rfl); ⟨w', he, h', trivial⟩) ?_
     refine ops_nil ?_
     exact fin_join HJ2 (A73, c74, l66, y70) ⟨hp, h72⟩ (look_has ⟨rfl, rfl, rfl, trivial⟩) (fun w_ hM => hM.pick 9 [1, 2, 3, 4, 5, 6, 7, 8] (by kernel_rfl) (by decide) rfl)
    ·
     have hp := cnd_f hc63 hp
     refine st_skip ?_
     exact fin_join HJ2 (A_s_0, c_s_0, s_0, y_s_0) ⟨hp, h_s_0⟩ (look_has ⟨rfl, rfl, rfl, trivial⟩) (fun w_ hM => hM)
 ·
  intro HJ1
  refine st_seq (st_seq (st_region [oF 0, oF 1, oF 2, oF 3, oF 4] (by rfl) ?_))
  refine oQ [oF 0, oF 1, oF 2] [(13, vP b_s 2), (4, vP b2 0), (3, vI 0), (2, vP b1 0), (0, vP b_s 0)] (by kernel_rfl) ?_
  refine ops_mem (d := some 14) (an := [.v (sl A_s_2 s_2 c_s_2)]) (evs := [ld b_s 2 (sl A_s_2 s_2 c_s_2)]) (v := sl A_s_2 s_2 c_s_2) ⟨by kernel_rfl⟩ (fun w_ hM hS => ⟨w_, ⟨hM.cell 2 rfl rfl, rfl⟩, hM, trivial⟩) ?_
  obtain ⟨x75, hv76, hp⟩ := obind hp
  refine ops_callI (σ := Nat × (Option Addr) × Nat × (List Value)) (d := some 15) (f := 25) (args := #[sl A_s_2 s_2 c_s_2]) (v := (fun x_ => match x_ with | (b77, A78, c79, y80) => .func (.func 69) #[] #[vP b77 0])) (I := (fun x_ => match x_ with | (b77, A78, c79, y80) => (RepL (Rep.int .u64) F W x75 y80))) (M' := (fun x_ => match x_ with | (b77, A78, c79, y80) => Mem w0 (.blk b77 [sl A78 x75 c79] 51 :: ow A78 x75 c79 52 1 y80 :: .blk b2 [vI (s_0.length : Int)] 3 :: .blk b1 [vI 0, vI 0] 35 :: .blk b_s [sl A_s_0 s_0 c_s_0, sl A_s_1 s_1 c_s_1, sl A_s_2 s_2 c_s_2] 127 :: ow A_s_0 s_0 c_s_0 3 1 y_s_0 :: ow A_s_1 s_1 c_s_1 52 1 y_s_1 :: ow A_s_2 s_2 c_s_2 52 1 y_s_2 :: Fz F W :: cs))) ⟨by kernel_rfl⟩ (fun w_ hM hS => (sets_Set_All_ok w_ w_ [] (fun b => b < w_.heap.size) w_ A_s_2 c_s_2 s_2 (Mem.fz0 w_) (hM.ordS 5 6 rfl rfl h_s_2 rfl rfl) x75 hv76).mono (by rintro e w' ⟨b77, A78, c79, y80, h81, rfl, h'⟩; have h' : Mem w_ [.blk b77 [sl A78 x75 c79] 51, ow A78 x75 c79 52 1 y80] w' := h'.pick 3 [0, 1] (by kernel_rfl) (by decide) rfl; exact ⟨(b77, A78, c79, y80), (RepL.move' (fun h => h) h81), rfl, hM.join h' rfl, trivial⟩)) ?_
  rintro ⟨b77, A78, c79, y80⟩ h81
  refine ops_nil (fin_then (st_block ?_))
  refine st_keep (l' := [(15, .func (.func 69) #[] #[vP b77 0]), (4, vP b2 0), (3, vI 0), (2, vP b1 0), (0, vP b_s 0)]) [15, 4, 3, 2, 0] (by kernel_rfl) ?_
  refine st_rangeFunc (tg := 15) (caps := #[vP b77 0]) (nf := 32) (lf := fun L_ => [(0, yv L_), (1, vP b77 0)]) rfl Try.func69 rfl (by kernel_rfl) (by kernel_rfl) (fun L_ => by kernel_rfl) (fun _ => rfl) ?_
  intro g_ a_rf84 b82 b83 rc_rf84 hrc_rf84 hk_rf84
  refine st_seq (st_region [oF 0, oF 1, oF 2] (by rfl) ?_)
  refine ops_mem (d := some 6) (an := [.v (sl A78 x75 c79)]) (evs := [ld b77 0 (sl A78 x75 c79)]) (v := sl A78 x75 c79) ⟨by kernel_rfl⟩ (fun w_ hM hS => ⟨w_, ⟨hM.cell 2 rfl rfl, rfl⟩, hM, trivial⟩) ?_
  refine oQ [oF 1, oF 2] [(8, vI 0), (7, vI (x75.length : Int)), (6, sl A78 x75 c79), (0, yv b83)] (by kernel_rfl) ?_
  refine ops_nil (fin_then (st_block ?_))
  obtain ⟨r4, hl4, hk4⟩ := obind hp
  refine st_loopP (σ := Int) (ρ := Int) (γ := Unit) hl4 () (fun s_ g_ => match s_, g_ with | i85, _ => [(0, yv b83), (6, sl A78 x75 c79), (7, vI (x75.length : Int)), (8, vI i85)]) (fun s_ g_ => match s_, g_ with | i85, _ => Mem w0 (ow A78 x75 c79 52 1 y80 :: .blk b_s [sl A_s_0 s_0 c_s_0, sl A_s_1 s_1 c_s_1, sl A_s_2 s_2 c_s_2] 127 :: ow A_s_0 s_0 c_s_0 3 1 y_s_0 :: ow A_s_1 s_1 c_s_1 52 1 y_s_1 :: ow A_s_2 s_2 c_s_2 52 1 y_s_2 :: .blk b77 [sl A78 x75 c79] 51 :: .blk b2 [vI (s_0.length : Int)] 3 :: .blk b1 [vI 0, vI 0] 35 :: .obj b83 (rc_rf84 .ready none) :: .obj b82 (.deferred (some [])) :: Fz F W :: cs)) (fun s_ g_ => match s_, g_ with | i85, _ => True) trivial (look_has ⟨rfl, rfl, rfl, rfl, trivial⟩) (fun w_ hM => hM.pick 11 [3, 6, 7, 8, 9, 2, 4, 5, 0, 1, 10] (by kernel_rfl) (by decide) rfl) ?_
  rintro i85 _ o4 - hs_ hd4
  have hp : (slots_Slots_Take_l4 x75 s_0) i85 = some o4 := hs_
  clear hs_
  unfold slots_Slots_Take_l4 at hp
  refine st_seq (st_region [oF 0] (by rfl) ?_)
  refine oQ [oF 0] [(9, .bool (decide (i85 < (x75.length : Int)))), (0, yv b83), (6, sl A78 x75 c79), (7, vI (x75.length : Int)), (8, vI i85)] (by kernel_rfl) ?_
  refine ops_nil (fin_then (st_seq ?_))
  refine st_if (b := decide (i85 < (x75.length : Int))) rfl (fun hc86 => ?_) (fun hc86 => ?_)
  ·
   have hp := cnd_t hc86 hp
   refine st_skip (fin_then ?_)
   refine st_join1 (σ := Unit) (L := fun _ => [(0, yv b83), (6, sl A78 x75 c79), (7, vI (x75.length : Int)), (8, vI i85)]) (N := fun _ => Mem w0 (ow A78 x75 c79 52 1 y80 :: .blk b_s [sl A_s_0 s_0 c_s_0, sl A_s_1 s_1 c_s_1, sl A_s_2 s_2 c_s_2] 127 :: ow A_s_0 s_0 c_s_0 3 1 y_s_0 :: ow A_s_1 s_1 c_s_1 52 1 y_s_1 :: ow A_s_2 s_2 c_s_2 52 1 y_s_2 :: .blk b77 [sl A78 x75 c79] 51 :: .blk b2 [vI (s_0.length : Int)] 3 :: .blk b1 [vI 0, vI 0] 35 :: .obj b83 (rc_rf84 .ready none) :: .obj b82 (.deferred (some [])) :: Fz F W :: cs)) (I := fun _ => ((slots_Slots_Take_j5 i85) = some o4)) ?_ ?_
   ·
    rintro _ hp
    unfold slots_Slots_Take_j5 at hp
    refine st_region [oF 0, oF 1] (by rfl) ?_
    refine oQ [oF 0, oF 1] [(8, vI (IntKind.i64.wrap (i85 + 1))), (0, yv b83), (6, sl A78 x75 c79), (7, vI (x75.length : Int))] (by kernel_rfl) ?_
    refine ops_nil ?_
    exact fin_again (IntKind.i64.wrap (i85 + 1)) () (Option.some.inj hp).symm trivial (look_has ⟨rfl, rfl, rfl, rfl, trivial⟩) (fun w_ hM => hM)
   ·
    intro HJ5
    refine st_seq (st_block (st_seq (st_region [oF 0, oF 1, oF 2, oF 3, oF 4] (by rfl) ?_)))
    refine oQ [oF 0] [(10, vI i85), (0, yv b83), (6, sl A78 x75 c79), (7, vI (x75.length : Int)), (8, vI i85)] (by kernel_rfl) ?_
    obtain ⟨x87, hv88, hp⟩ := obind hp
    obtain ⟨m89, hm90, hx91⟩ := idx_some hv88
    have hl94 := (List.getElem?_eq_some_iff.1 hx91).1
    refine ops_fact (fun w_ hM => hM.orowSome 0 rfl (Nat.lt_of_le_of_lt (Nat.zero_le _) hl94)) ?_
    rintro ⟨g95, rfl, -⟩
    obtain ⟨vs92, hr93, hq96⟩ := h81.at_ m89 x87 hx91
    obtain rfl := hr93
    refine ops_val (op := (.indexAddr 51 (.tmp 6) (.tmp 8))) (d := some 11) (v := vP g95 (m89 * 1)) ⟨by kernel_rfl⟩ (run_indexRow Try.underlying51 (z := 1) (by kernel_rfl) rfl rfl hm90 hl94 rfl) ?_
    refine ops_mem (d := some 12) (an := [.v (vU x87)]) (evs := [.load ⟨g95, m89 * 1, none⟩ (vU x87)]) (v := vU x87) ⟨by kernel_rfl⟩ (fun w_ hM hS => ⟨w_, ⟨hM.ocell 0 rfl (hq96 0 _ rfl), rfl⟩, hM, trivial⟩) ?_
    refine oQ [oF 3, oF 4] [(4, vU x87), (3, vI i85), (0, yv b83), (6, sl (sa g95) x75 c79), (7, vI (x75.length : Int)), (8, vI i85)] (by kernel_rfl) ?_
    refine ops_nil (fin_then (st_seq (st_region [oF 0] (by rfl) ?_)))
    refine oQ [oF 0] [(5, vI 0), (4, vU x87), (3, vI i85), (0, yv b83), (6, sl (sa g95) x75 c79), (7, vI (x75.length : Int)), (8, vI i85)] (by kernel_rfl) ?_
    refine ops_nil (fin_then (st_block ?_))
    obtain ⟨r6, hl6, hk6⟩ := obind hp
    refine st_loopP (σ := Int × Int) (ρ := (Int ⊕ Unit)) (γ := Unit) hl6 () (fun s_ g_ => match s_, g_ with | (i97, i98), _ => [(0, yv b83), (3, vI i85), (4, vU i97), (5, vI i98), (6, sl (sa g95) x75 c79), (7, vI (x75.length : Int)), (8, vI i85)]) (fun s_ g_ => match s_, g_ with | (i97, i98), _ => Mem w0 (ow (sa g95) x75 c79 52 1 y80 :: .blk b_s [sl A_s_0 s_0 c_s_0, sl A_s_1 s_1 c_s_1, sl A_s_2 s_2 c_s_2] 127 :: ow A_s_0 s_0 c_s_0 3 1 y_s_0 :: ow A_s_1 s_1 c_s_1 52 1 y_s_1 :: ow A_s_2 s_2 c_s_2 52 1 y_s_2 :: .blk b77 [sl (sa g95) x75 c79] 51 :: .blk b2 [vI (s_0.length : Int)] 3 :: .blk b1 [vI 0, vI 0] 35 :: .obj b83 (rc_rf84 .ready none) :: .obj b82 (.deferred (some [])) :: Fz F W :: cs)) (fun s_ g_ => match s_, g_ with | (i97, i98), _ => True) trivial (look_has ⟨rfl, rfl, rfl, rfl, rfl, rfl, rfl, trivial⟩) (fun w_ hM => hM) ?_
    rintro ⟨i97, i98⟩ _ o6 - hs_ hd6
    have hp : (slots_Slots_Take_l6 i85) i97 i98 = some o6 := hs_
    clear hs_
    unfold slots_Slots_Take_l6 at hp
    refine st_seq (st_seq (st_region [oF 0, oF 1] (by rfl) ?_))
    refine oQ [oF 0, oF 1] [(14, .bool (!(i97 == 0))), (0, yv b83), (3, vI i85), (4, vU i97), (5, vI i98), (6, sl (sa g95) x75 c79), (7, vI (x75.length : Int)), (8, vI i85)] (by kernel_rfl) ?_
    refine ops_nil (fin_then ?_)
    refine st_if (b := !(i97 == 0)) rfl (fun hc99 => ?_) (fun hc99 => ?_)
    ·
     have hp := cnd_t hc99 hp
     refine st_skip (fin_then (st_seq (st_block (st_seq (st_region [oF 0, oF 1, oF 2, oF 3, oF 4, oF 5, oF 6, oF 7, oF 8, oF 9, oF 10, oF 11] (by rfl) ?_)))))
     refine oQ [oF 0, oF 1, oF 2, oF 3] [(22, .bool (Go.bits .and .u64 i97 1 == 1)), (0, yv b83), (3, vI i85), (4, vU i97), (5, vI i98), (6, sl (sa g95) x75 c79), (7, vI (x75.length : Int)), (8, vI i85)] (by kernel_rfl) ?_
     refine ops_bool (t := (Go.bits .and .u64 i97 1 == 1)) (l1 := [(22, .bool true), (0, yv b83), (3, vI i85), (4, vU i97), (5, vI i98), (6, sl (sa g95) x75 c79), (7, vI (x75.length : Int)), (8, vI i85)]) (l2 := [(22, .bool false), (0, yv b83), (3, vI i85), (4, vU i97), (5, vI i98), (6, sl (sa g95) x75 c79), (7, vI (x75.length : Int)), (8, vI i85)]) (fun h => by rw [h]) (fun h => by rw [h]) (fun hc100 => ?_) (fun hc100 => ?_)
     ·
      have hp := cnd_t hc100 hp
      refine oQ [oF 4, oF 5, oF 6, oF 7, oF 8] [(27, vI (IntKind.i64.wrap (IntKind.i64.wrap (64 * i85) + i98))), (23, yv b83), (22, .bool true), (0, yv b83), (3, vI i85), (4, vU i97), (5, vI i98), (6, sl (sa g95) x75 c79), (7, vI (x75.length : Int)), (8, vI i85)] (by kernel_rfl) ?_
      refine ops_yield (d := some 28) (args := #[vI (IntKind.i64.wrap (IntKind.i64.wrap (64 * i85) + i98))]) (l := [(27, vI (IntKind.i64.wrap (IntKind.i64.wrap (64 * i85) + i98))), (23, yv b83), (22, .bool true), (0, yv b83), (3, vI i85), (4, vU i97), (5, vI i98), (6, sl (sa g95) x75 c79), (7, vI (x75.length : Int)), (8, vI i85)]) (lr := [(16, vI (IntKind.i64.wrap (IntKind.i64.wrap (64 * i85) + i98))), (15, .func (.func 69) #[] #[vP b77 0]), (4, vP b2 0), (3, vI 0), (2, vP b1 0), (0, vP b_s 0)]) 8 rfl hrc_rf84 ⟨by kernel_rfl⟩ hk_rf84 (by kernel_rfl) (by kernel_rfl) ?_
      intro a_rd101 hk_rd101
      refine st_region [oF 0] (by rfl) ?_
      refine oQ [oF 0] [(5, vI (IntKind.i64.wrap (IntKind.i64.wrap (64 * i85) + i98))), (4, vP b2 0)] (by kernel_rfl) ?_
      refine ops_nil ?_
      refine fin_begin 8 rfl hrc_rf84 ?_
      refine st_block (st_seq (st_region [oF 0, oF 1] (by rfl) ?_))
      refine oQ [oF 0] [(17, vI (IntKind.i64.wrap (IntKind.i64.wrap (64 * i85) + i98))), (4, vP b2 0)] (by kernel_rfl) ?_
      refine ops_store (an := []) (evs := [sr b2 0 (vI (IntKind.i64.wrap (IntKind.i64.wrap (64 * i85) + i98)))]) ⟨by kernel_rfl⟩ (fun w_ hM hS => let ⟨w', he, h'⟩ := hM.evs_stores [vI (IntKind.i64.wrap (IntKind.i64.wrap (64 * i85) + i98))] 6 rfl 0 (Nat.le_of_ble_eq_true rfl); ⟨w', he, h', trivial⟩) ?_
      refine ops_nil (fin_then (st_exit ?_))
      refine fin_exit_ne (by rfl) ?_
      refine fin_round_off (e := (.exit 0)) (c := (.exit 0)) rfl 8 rfl hrc_rf84 hk_rd101 (by intro t_ h_; cases h_; decide) (fun w_ h' => trivial) ?_
      refine oQ [oF 10, oF 11] [(30, .bool true), (0, yv b83), (3, vI i85), (4, vU i97), (5, vI i98), (6, sl (sa g95) x75 c79), (7, vI (x75.length : Int)), (8, vI i85)] (by kernel_rfl) ?_
      refine ops_nil (fin_then (st_true rfl (st_ret (fin_ret_block (fin_ret_then (fin_ret_then (fin_ret_block (fin_ret_block (fin_ret_then (fin_ret_then (fin_ret_block ?_)))))))))))
      refine fin_rf_off (e' := (.exit 0)) (c := (.exit 0)) rfl rfl rfl 8 rfl hrc_rf84 hk_rf84 ?_
      refine fin_conv (l' := [(15, .func (.func 69) #[] #[vP b77 0]), (4, vP b2 0), (3, vI 0), (2, vP b1 0), (0, vP b_s 0)]) (M' := Mem w0 (ow (sa g95) x75 c79 52 1 y80 :: .blk b_s [sl A_s_0 s_0 c_s_0, sl A_s_1 s_1 c_s_1, sl A_s_2 s_2 c_s_2] 127 :: ow A_s_0 s_0 c_s_0 3 1 y_s_0 :: ow A_s_1 s_1 c_s_1 52 1 y_s_1 :: ow A_s_2 s_2 c_s_2 52 1 y_s_2 :: .blk b77 [sl (sa g95) x75 c79] 51 :: .blk b2 [vI (IntKind.i64.wrap (IntKind.i64.wrap (64 * i85) + i98))] 3 :: .blk b1 [vI 0, vI 0] 35 :: .obj b82 (.deferred (some [])) :: Fz F W :: cs)) rfl (fun _ h => h) ?_
      refine fin_exit ?_
      obtain hq_ := Option.some.inj hp
      subst hq_
      obtain hq_ := hd6 _ rfl
      subst hq_
      have hp : some (.inr (IntKind.i64.wrap (IntKind.i64.wrap (64 * i85) + i98))) = some o4 := hk6
      obtain hq_ := Option.some.inj hp
      subst hq_
      obtain hq_ := hd4 _ rfl
      subst hq_
      have hp : (slots_Slots_Take_j1 s_0 s_1 s_2) (IntKind.i64.wrap (IntKind.i64.wrap (64 * i85) + i98)) = some (i9001, i9002, i9003, l9006, l9011, l9016) := hk4
      exact fin_joinN HJ1 (IntKind.i64.wrap (IntKind.i64.wrap (64 * i85) + i98), b82) rfl hp (look_has ⟨rfl, rfl, rfl, trivial⟩) (fun w_ hM => hM.pick 10 [1, 2, 3, 4, 7, 6, 8, 9] (by kernel_rfl) (by decide) rfl)
     ·
      have hp := cnd_f hc100 hp
      refine oQ [oF 4, oF 5, oF 6, oF 7, oF 8, oF 9, oF 10, oF 11] [(30, .bool false), (0, yv b83), (3, vI i85), (4, vU i97), (5, vI i98), (6, sl (sa g95) x75 c79), (7, vI (x75.length : Int)), (8, vI i85)] (by kernel_rfl) ?_
      refine ops_nil (fin_then (st_false rfl (st_skip (fin_block (fin_then (st_region [oF 0, oF 1, oF 2, oF 3, oF 4, oF 5] (by rfl) ?_))))))
      refine oQ [oF 0, oF 1, oF 2, oF 3, oF 4, oF 5] [(4, vU (Int.fdiv i97 2)), (5, vI (IntKind.i64.wrap (i98 + 1))), (0, yv b83), (3, vI i85), (6, sl (sa g95) x75 c79), (7, vI (x75.length : Int)), (8, vI i85)] (by kernel_rfl) ?_
      refine ops_nil ?_
      exact fin_again (Int.fdiv i97 2, IntKind.i64.wrap (i98 + 1)) () (Option.some.inj hp).symm trivial (look_has ⟨rfl, rfl, rfl, rfl, rfl, rfl, rfl, trivial⟩) (fun w_ hM => hM)
    ·
     have hp := cnd_f hc99 hp
     refine st_exit (fin_exit_then (fin_exit_then (fin_exit (fin_block ?_))))
     obtain hq_ := Option.some.inj hp
     subst hq_
     obtain hq_ := hd6 _ rfl
     subst hq_
     have hp : (slots_Slots_Take_j5 i85) = some o4 := hk6
     exact fin_join HJ5 () hp (look_has ⟨rfl, rfl, rfl, rfl, trivial⟩) (fun w_ hM => hM)
  ·
   have hp := cnd_f hc86 hp
   refine st_exit (fin_exit_then (fin_exit_then (fin_exit ?_)))
   refine fin_rf_on rfl rfl 8 rfl hrc_rf84 hk_rf84 ?_
   refine fin_conv (l' := [(15, .func (.func 69) #[] #[vP b77 0]), (4, vP b2 0), (3, vI 0), (2, vP b1 0), (0, vP b_s 0)]) (M' := Mem w0 (ow A78 x75 c79 52 1 y80 :: .blk b_s [sl A_s_0 s_0 c_s_0, sl A_s_1 s_1 c_s_1, sl A_s_2 s_2 c_s_2] 127 :: ow A_s_0 s_0 c_s_0 3 1 y_s_0 :: ow A_s_1 s_1 c_s_1 52 1 y_s_1 :: ow A_s_2 s_2 c_s_2 52 1 y_s_2 :: .blk b77 [sl A78 x75 c79] 51 :: .blk b2 [vI (s_0.length : Int)] 3 :: .blk b1 [vI 0, vI 0] 35 :: .obj b82 (.deferred (some [])) :: Fz F W :: cs)) rfl (fun _ h => h) ?_
   refine fin_block ?_
   obtain hq_ := Option.some.inj hp
   subst hq_
   obtain hq_ := hd4 _ rfl
   subst hq_
   have hp : (slots_Slots_Take_j1 s_0 s_1 s_2) (s_0.length : Int) = some (i9001, i9002, i9003, l9006, l9011, l9016) := hk4
   exact fin_joinN HJ1 ((s_0.length : Int), b82) rfl hp (look_has ⟨rfl, rfl, rfl, trivial⟩) (fun w_ hM => hM.pick 10 [1, 2, 3, 4, 7, 6, 8, 9] (by kernel_rfl) (by decide) rfl)
theorem tourlaw1_slotsBegun_ok (w0 w : World) (cs : List Chunk) (F : Nat → Prop) (W : World) (hM0 : Mem w0 (Fz F W :: cs) w) (t9001 : Bool) (hp : tourlaw1_slotsBegun = some t9001) : Calls Try.prog 38 #[] w fun e w' => (True) ∧ e = .returned (.bool t9001) ∧ Mem w0 (Fz F W :: cs) w' := by
 unfold tourlaw1_slotsBegun at hp
 refine sx_calls Try.func38 rfl (n := 33) (by kernel_rfl) (l := []) rfl (by rfl) hM0 ?_
 refine st_seq (st_region [oF 0] (by rfl) ?_)
 refine oQ [oF 0] [] (by kernel_rfl) ?_
 refine ops_nil (fin_then (st_seq (st_region [oF 0, oF 1] (by rfl) ?_)))
 obtain ⟨x1, hv2, hp⟩ := obind hp
 refine ops_callI (σ := Nat × (Option Addr) × Nat × (List Value) × (List Value) × (List Value)) (d := some 6) (f := 76) (args := #[]) (v := (fun x_ => match x_ with | (b3, A4, c5, y6, y7, y8) => vP b3 0)) (I := (fun x_ => match x_ with | (b3, A4, c5, y6, y7, y8) => (RepL (Rep.int .i64) F W x1 y6) ∧ (RepL (Rep.int .u64) F W x1 y7) ∧ (RepL (Rep.int .u64) F W x1 y8))) (M' := (fun x_ => match x_ with | (b3, A4, c5, y6, y7, y8) => Mem w0 (.blk b3 [sl A4 x1 c5, sl A4 x1 c5, sl A4 x1 c5] 127 :: ow A4 x1 c5 3 1 y6 :: ow A4 x1 c5 52 1 y7 :: ow A4 x1 c5 52 1 y8 :: Fz F W :: cs))) ⟨by kernel_rfl⟩ (fun w_ hM hS => (slots_New_ok w0 w_ (cs) F W  hM  x1 hv2).mono (by rintro e w' ⟨b3, A4, c5, y6, y7, y8, ⟨h9, h10, h11⟩, rfl, h'⟩; have h' : Mem w0 (.blk b3 [sl A4 x1 c5, sl A4 x1 c5, sl A4 x1 c5] 127 :: ow A4 x1 c5 3 1 y6 :: ow A4 x1 c5 52 1 y7 :: ow A4 x1 c5 52 1 y8 :: Fz F W :: cs) w' := h'; exact ⟨(b3, A4, c5, y6, y7, y8), ⟨h9, h10, h11⟩, rfl, h', trivial⟩)) ?_
 rintro ⟨b3, A4, c5, y6, y7, y8⟩ ⟨h9, h10, h11⟩
 refine oQ [oF 1] [(1, vP b3 0)] (by kernel_rfl) ?_
 refine ops_nil (fin_then (st_seq (st_region [oF 0, oF 1, oF 2, oF 3, oF 4, oF 5, oF 6, oF 7] (by rfl) ?_)))
 refine oQ [oF 0] [(8, vP b3 0), (1, vP b3 0)] (by kernel_rfl) ?_
 obtain ⟨x12, x13, x14, x15, x16, x17, hv18, hp⟩ := obind6 hp
 refine ops_callI (σ := (Option Addr) × Nat × (List Value) × (Option Addr) × Nat × (List Value) × (Option Addr) × Nat × (List Value)) (d := some 9) (f := 41) (args := #[vP b3 0]) (v := (fun x_ => match x_ with | (A19, c20, y21, A22, c23, y24, A25, c26, y27) => .tuple #[.agg #[vI x12, vI x13], vI x14])) (I := (fun x_ => match x_ with | (A19, c20, y21, A22, c23, y24, A25, c26, y27) => (RepL (Rep.int .i64) F W x15 y21) ∧ (RepL (Rep.int .u64) F W x16 y24) ∧ (RepL (Rep.int .u64) F W x17 y27))) (M' := (fun x_ => match x_ with | (A19, c20, y21, A22, c23, y24, A25, c26, y27) => Mem w0 (ow A19 x15 c20 3 1 y21 :: ow A22 x16 c23 52 1 y24 :: ow A25 x17 c26 52 1 y27 :: .blk b3 [sl A19 x15 c20, sl A22 x16 c23, sl A25 x17 c26] 127 :: Fz F W :: cs))) ⟨by kernel_rfl⟩ (fun w_ hM hS => (slots_Slots_Take_ok w0 w_ (cs) F W b3 A4 c5 x1 y6 A4 c5 x1 y7 A4 c5 x1 y8 hM h9 h10 h11 x12 x13 x14 x15 x16 x17 hv18).mono (by rintro e w' ⟨A19, c20, y21, A22, c23, y24, A25, c26, y27, ⟨h28, h29, h30⟩, rfl, h'⟩; have h' : Mem w0 (ow A19 x15 c20 3 1 y21 :: ow A22 x16 c23 52 1 y24 :: ow A25 x17 c26 52 1 y27 :: .blk b3 [sl A19 x15 c20, sl A22 x16 c23, sl A25 x17 c26] 127 :: Fz F W :: cs) w' := (h'.pick 5 [1, 2, 3, 0, 4] (by kernel_rfl) (by decide) rfl); exact ⟨(A19, c20, y21, A22, c23, y24, A25, c26, y27), ⟨h28, h29, h30⟩, rfl, h', trivial⟩)) ?_
 rintro ⟨A19, c20, y21, A22, c23, y24, A25, c26, y27⟩ ⟨h28, h29, h30⟩
 refine oQ [oF 2, oF 3, oF 4] [(11, vI x14), (10, .agg #[vI x12, vI x13]), (1, vP b3 0)] (by kernel_rfl) ?_
 refine ops_newB (d := some 2) [vI 0, vI 0] 35 (fun b31 => ⟨by kernel_rfl⟩) (fun w_ hM hS => trivial) (fun b31 => ?_)
 refine ops_store (an := []) (evs := [sr b31 0 (vI x12), sr b31 1 (vI x13)]) ⟨by kernel_rfl⟩ (fun w_ hM hS => let ⟨w', he, h'⟩ := hM.evs_stores [vI x12, vI x13] 0 rfl 0 (Nat.le_of_ble_eq_true rfl); ⟨w', he, h', trivial⟩) ?_
 refine oQ [oF 7] [(3, vI x14), (2, vP b31 0), (1, vP b3 0)] (by kernel_rfl) ?_
 refine ops_nil (fin_then (st_seq (st_region [oF 0, oF 1, oF 2, oF 3, oF 4, oF 5, oF 6, oF 7] (by rfl) ?_)))
 refine oQ [oF 0] [(13, vP b3 0), (3, vI x14), (2, vP b31 0)] (by kernel_rfl) ?_
 obtain ⟨x32, x33, x34, x35, x36, x37, hv38, hp⟩ := obind6 hp
 refine ops_callI (σ := (Option Addr) × Nat × (List Value) × (Option Addr) × Nat × (List Value) × (Option Addr) × Nat × (List Value)) (d := some 14) (f := 41) (args := #[vP b3 0]) (v := (fun x_ => match x_ with | (A39, c40, y41, A42, c43, y44, A45, c46, y47) => .tuple #[.agg #[vI x32, vI x33], vI x34])) (I := (fun x_ => match x_ with | (A39, c40, y41, A42, c43, y44, A45, c46, y47) => (RepL (Rep.int .i64) F W x35 y41) ∧ (RepL (Rep.int .u64) F W x36 y44) ∧ (RepL (Rep.int .u64) F W x37 y47))) (M' := (fun x_ => match x_ with | (A39, c40, y41, A42, c43, y44, A45, c46, y47) => Mem w0 (ow A39 x35 c40 3 1 y41 :: ow A42 x36 c43 52 1 y44 :: ow A45 x37 c46 52 1 y47 :: .blk b31 [vI x12, vI x13] 35 :: .blk b3 [sl A39 x35 c40, sl A42 x36 c43, sl A45 x37 c46] 127 :: Fz F W :: cs))) ⟨by kernel_rfl⟩ (fun w_ hM hS => (slots_Slots_Take_ok w0 w_ (.blk b31 [vI x12, vI x13] 35 :: cs) F W b3 A19 c20 x15 y21 A22 c23 x16 y24 A25 c26 x17 y27 (hM.pick 6 [4, 1, 2, 3, 5, 0] (by kernel_rfl) (by decide) rfl) h28 h29 h30 x32 x33 x34 x35 x36 x37 hv38).mono (by rintro e w' ⟨A39, c40, y41, A42, c43, y44, A45, c46, y47, ⟨h48, h49, h50⟩, rfl, h'⟩; have h' : Mem w0 (ow A39 x35 c40 3 1 y41 :: ow A42 x36 c43 52 1 y44 :: ow A45 x37 c46 52 1 y47 :: .blk b31 [vI x12, vI x13] 35 :: .blk b3 [sl A39 x35 c40, sl A42 x36 c43, sl A45 x37 c46] 127 :: Fz F W :: cs) w' := (h'.pick 6 [1, 2, 3, 5, 0, 4] (by kernel_rfl) (by decide) rfl); exact ⟨(A39, c40, y41, A42, c43, y44, A45, c46, y47), ⟨h48, h49, h50⟩, rfl, h', trivial⟩)) ?_
 rintro ⟨A39, c40, y41, A42, c43, y44, A45, c46, y47⟩ ⟨h48, h49, h50⟩
 refine oQ [oF 2, oF 3, oF 4] [(16, vI x34), (15, .agg #[vI x32, vI x33]), (3, vI x14), (2, vP b31 0)] (by kernel_rfl) ?_
 refine ops_newB (d := some 4) [vI 0, vI 0] 35 (fun b51 => ⟨by kernel_rfl⟩) (fun w_ hM hS => trivial) (fun b51 => ?_)
 refine ops_store (an := []) (evs := [sr b51 0 (vI x32), sr b51 1 (vI x33)]) ⟨by kernel_rfl⟩ (fun w_ hM hS => let ⟨w', he, h'⟩ := hM.evs_stores [vI x32, vI x33] 0 rfl 0 (Nat.le_of_ble_eq_true rfl); ⟨w', he, h', trivial⟩) ?_
 refine oQ [oF 7] [(5, vI x34), (4, vP b51 0), (3, vI x14), (2, vP b31 0)] (by kernel_rfl) ?_
 refine ops_nil (fin_then ?_)
 refine st_join1 (σ := Bool) (L := fun x_ => match x_ with | t52 => [(0, .bool t52)]) (N := fun x_ => match x_ with | t52 => Mem w0 (Fz F W :: cs)) (I := fun x_ => match x_ with | t52 => (tourlaw1_slotsBegun_j1 t52 = some t9001)) ?_ ?_
 ·
  rintro t52 hp
  unfold tourlaw1_slotsBegun_j1 at hp
  refine st_ret ?_
  have hq_ := Option.some.inj hp
  have hr0_ := hq_
  subst hr0_
  refine fin_ret [.tmp 0] [.bool t52] rfl rfl (fun w_ hM => (.tmp rfl .nil)) (fun w_ hM => ?_)
  exact ⟨trivial, rfl, hM⟩
 ·
  intro HJ1
  refine st_seq (st_region [oF 0, oF 1, oF 2, oF 3, oF 4, oF 5, oF 6, oF 7, oF 8, oF 9, oF 10, oF 11, oF 12, oF 13, oF 14, oF 15, oF 16] (by rfl) ?_)
  refine oQ [oF 0, oF 1, oF 2] [(19, .bool (x14 == 0)), (5, vI x34), (4, vP b51 0), (2, vP b31 0)] (by kernel_rfl) ?_
  refine ops_bool (t := (x14 == 0)) (l1 := [(19, .bool true), (5, vI x34), (4, vP b51 0), (2, vP b31 0)]) (l2 := [(19, .bool false), (5, vI x34), (4, vP b51 0), (2, vP b31 0)]) (fun h => by rw [h]) (fun h => by rw [h]) (fun hc53 => ?_) (fun hc53 => ?_)
  ·
   have hp := cnd_t hc53 hp
   refine oQ [oF 3, oF 4, oF 5, oF 6] [(23, .bool (x34 == 0)), (4, vP b51 0), (2, vP b31 0)] (by kernel_rfl) ?_
   refine ops_bool (t := (x34 == 0)) (l1 := [(23, .bool true), (4, vP b51 0), (2, vP b31 0)]) (l2 := [(23, .bool false), (4, vP b51 0), (2, vP b31 0)]) (fun h => by rw [h]) (fun h => by rw [h]) (fun hc54 => ?_) (fun hc54 => ?_)
   ·
    have hp := cnd_t hc54 hp
    refine ops_mem (d := some 24) (an := [.v (vI x12), .v (vI x13)]) (evs := [ld b31 0 (vI x12), ld b31 1 (vI x13)]) (v := .agg #[vI x12, vI x13]) ⟨by kernel_rfl⟩ (fun w_ hM hS => ⟨w_, ⟨hM.cell 4 rfl rfl, hM.cell 4 rfl rfl, rfl⟩, hM, trivial⟩) ?_
    refine oQ [oF 8] [(25, .agg #[vI 0, vI 0]), (24, .agg #[vI x12, vI x13]), (23, .bool true), (4, vP b51 0)] (by kernel_rfl) ?_
    refine ops_val (op := (.binOp Go.BinOp.eql 35 (.tmp 24) (.tmp 25) 35)) (d := some 26) (v := .bool (x12 == 0 && (x13 == 0))) ⟨by kernel_rfl⟩ (run_eql_agg (r := x12 == 0 && (x13 == 0)) rfl rfl (by kernel_rfl) (fun w => eqA35 9998 w x12 0 x13 0)) ?_
    refine oQ [oF 10, oF 11] [(28, .bool (x12 == 0 && (x13 == 0))), (4, vP b51 0)] (by kernel_rfl) ?_
    refine ops_bool (t := x12 == 0 && (x13 == 0)) (l1 := [(28, .bool true), (4, vP b51 0)]) (l2 := [(28, .bool false), (4, vP b51 0)]) (fun h => by rw [h]) (fun h => by rw [h]) (fun hc55 => ?_) (fun hc55 => ?_)
    ·
     have hp := cnd_t hc55 hp
     refine ops_mem (d := some 29) (an := [.v (vI x32), .v (vI x33)]) (evs := [ld b51 0 (vI x32), ld b51 1 (vI x33)]) (v := .agg #[vI x32, vI x33]) ⟨by kernel_rfl⟩ (fun w_ hM hS => ⟨w_, ⟨hM.cell 0 rfl rfl, hM.cell 0 rfl rfl, rfl⟩, hM, trivial⟩) ?_
     refine oQ [oF 13] [(30, .agg #[vI 1, vI 0]), (29, .agg #[vI x32, vI x33]), (28, .bool true)] (by kernel_rfl) ?_
     refine ops_val (op := (.binOp Go.BinOp.eql 35 (.tmp 29) (.tmp 30) 35)) (d := some 31) (v := .bool (x32 == 1 && (x33 == 0))) ⟨by kernel_rfl⟩ (run_eql_agg (r := x32 == 1 && (x33 == 0)) rfl rfl (by kernel_rfl) (fun w => eqA35 9998 w x32 1 x33 0)) ?_
     refine oQ [oF 15, oF 16] [(0, .bool (x32 == 1 && (x33 == 0)))] (by kernel_rfl) ?_
     refine ops_nil ?_
     exact fin_join HJ1 (x32 == 1 && (x33 == 0)) hp (look_has ⟨rfl, trivial⟩) (fun w_ hM => hM.pick 7 [6] (by kernel_rfl) (by decide) rfl)
    ·
     have hp := cnd_f hc55 hp
     refine oQ [oF 12, oF 13, oF 14, oF 15, oF 16] [(0, .bool false)] (by kernel_rfl) ?_
     refine ops_nil ?_
     exact fin_join HJ1 false hp (look_has ⟨rfl, trivial⟩) (fun w_ hM => hM.pick 7 [6] (by kernel_rfl) (by decide) rfl)
   ·
    have hp := cnd_f hc54 hp
    refine oQ [oF 7, oF 8, oF 9, oF 10, oF 11, oF 12, oF 13, oF 14, oF 15, oF 16] [(0, .bool false)] (by kernel_rfl) ?_
    refine ops_nil ?_
    exact fin_join HJ1 false hp (look_has ⟨rfl, trivial⟩) (fun w_ hM => hM.pick 7 [6] (by kernel_rfl) (by decide) rfl)
  ·
   have hp := cnd_f hc53 hp
   refine oQ [oF 3, oF 4, oF 5, oF 6, oF 7, oF 8, oF 9, oF 10, oF 11, oF 12, oF 13, oF 14, oF 15, oF 16] [(0, .bool false)] (by kernel_rfl) ?_
   refine ops_nil ?_
   exact fin_join HJ1 false hp (look_has ⟨rfl, trivial⟩) (fun w_ hM => hM.pick 7 [6] (by kernel_rfl) (by decide) rfl)
theorem sets_Set_Has_ok (w0 w : World) (cs : List Chunk) (F : Nat → Prop) (W : World) (A_s : Option Addr) (c_s : Nat) (s : List Int) (i : Int) (hM0 : Mem w0 (Fz F W :: cs) w) (h_s : RdS (Rep.int .u64) F W A_s c_s s) (t9001 : Bool) (hp : sets_Set_Has s i = some t9001) : Calls Try.prog 27 #[sl A_s s c_s, vI i] w fun e w' => (True) ∧ e = .returned (.bool t9001) ∧ Mem w0 (Fz F W :: cs) w' := by
 unfold sets_Set_Has at hp
 refine sx_calls Try.func27 rfl (n := 18) (by kernel_rfl) (l := [(0, sl A_s s c_s), (1, vI i)]) rfl (by rfl) hM0 ?_
 refine st_seq (st_region [oF 0] (by rfl) ?_)
 refine oQ [oF 0] [(0, sl A_s s c_s), (1, vI i)] (by kernel_rfl) ?_
 refine ops_nil (fin_then ?_)
 refine st_join1 (σ := Bool) (L := fun x_ => match x_ with | t1 => [(4, .bool t1)]) (N := fun x_ => match x_ with | t1 => Mem w0 (Fz F W :: cs)) (I := fun x_ => match x_ with | t1 => (sets_Set_Has_j1 t1 = some t9001)) ?_ ?_
 ·
  rintro t1 hp
  unfold sets_Set_Has_j1 at hp
  refine st_ret ?_
  have hq_ := Option.some.inj hp
  have hr0_ := hq_
  subst hr0_
  refine fin_ret [.tmp 4] [.bool t1] rfl rfl (fun w_ hM => (.tmp rfl .nil)) (fun w_ hM => ?_)
  exact ⟨trivial, rfl, hM⟩
 ·
  intro HJ1
  refine st_seq (st_region [oF 0, oF 1, oF 2, oF 3, oF 4, oF 5, oF 6, oF 7, oF 8, oF 9, oF 10, oF 11, oF 12, oF 13] (by rfl) ?_)
  refine oQ [oF 0, oF 1, oF 2] [(7, .bool (decide (0 ≤ i))), (0, sl A_s s c_s), (1, vI i)] (by kernel_rfl) ?_
  refine ops_bool (t := decide (0 ≤ i)) (l1 := [(7, .bool true), (0, sl A_s s c_s), (1, vI i)]) (l2 := [(7, .bool false), (0, sl A_s s c_s), (1, vI i)]) (fun h => by rw [h]) (fun h => by rw [h]) (fun hc2 => ?_) (fun hc2 => ?_)
  ·
   have hp := cnd_t hc2 hp
   refine oQ [oF 3, oF 4, oF 5] [(10, vI (IntKind.i64.wrap (Int.tdiv i 64))), (8, sl A_s s c_s), (7, .bool true), (1, vI i)] (by kernel_rfl) ?_
   obtain ⟨x3, hv4, hp⟩ := obind hp
   refine ops_callI (σ := Unit) (d := some 11) (f := 70) (args := #[sl A_s s c_s, vI (IntKind.i64.wrap (Int.tdiv i 64))]) (v := (fun _ => vU x3)) (I := (fun _ => True)) (M' := (fun _ => Mem w0 (Fz F W :: cs))) ⟨by kernel_rfl⟩ (fun w_ hM hS => (sets_Set_word_ok w0 w_ (cs) F W A_s c_s s (IntKind.i64.wrap (Int.tdiv i 64)) hM h_s x3 hv4).mono (by rintro e w' ⟨-, rfl, h'⟩; have h' : Mem w0 (Fz F W :: cs) w' := h'; exact ⟨(), trivial, rfl, h', trivial⟩)) ?_
   rintro _ -
   refine oQ [oF 7, oF 8] [(13, vI (Int.tmod i 64)), (11, vU x3), (7, .bool true)] (by kernel_rfl) ?_
   obtain ⟨x5, hv6, hp⟩ := obind hp
   obtain ⟨hb7, he8⟩ := shr_some hv6
   refine ops_val (op := (.binOp Go.BinOp.shr 52 (.tmp 11) (.tmp 13) 3)) (d := some 14) (v := vU x5) ⟨by kernel_rfl⟩ (by rw [he8]; exact run_shr rfl rfl hb7) ?_
   refine oQ [oF 10, oF 11, oF 12, oF 13] [(4, .bool (Go.bits .and .u64 x5 1 == 1))] (by kernel_rfl) ?_
   refine ops_nil ?_
   exact fin_join HJ1 (Go.bits .and .u64 x5 1 == 1) hp (look_has ⟨rfl, trivial⟩) (fun w_ hM => hM)
  ·
   have hp := cnd_f hc2 hp
   refine oQ [oF 3, oF 4, oF 5, oF 6, oF 7, oF 8, oF 9, oF 10, oF 11, oF 12, oF 13] [(4, .bool false)] (by kernel_rfl) ?_
   refine ops_nil ?_
   exact fin_join HJ1 false hp (look_has ⟨rfl, trivial⟩) (fun w_ hM => hM)
end Go.Proofs.Ythcniadbdjoecaa.R
