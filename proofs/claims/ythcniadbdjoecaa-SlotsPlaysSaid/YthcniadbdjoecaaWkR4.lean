/- The Go functions come to what the plain functions tell. No condition. -/
import Derived.Test.YthcniadbdjoecaaProg
import Derived.Test.YthcniadbdjoecaaFnR
namespace Go.Proofs.Ythcniadbdjoecaa.R
open Go Go.RowKit Go.Proofs.Ythcniadbdjoecaa.Sx
set_option linter.unusedVariables false
set_option maxHeartbeats 4000000
set_option maxRecDepth 100000
def tourref1_Room_Take__t0 : List Row := [⟨0, 562949953421312, 1⟩, ⟨0, 1125899906842624, 1⟩, ⟨0, 2251799813685248, 1⟩, ⟨4, 4503599627370496, 2251799813685248⟩, ⟨8, 9007199254740992, 4503599627370496⟩, ⟨16, 18014398509481984, 9007199254740992⟩, ⟨0, 36028797018963968, 0⟩, ⟨96, 72057594037927936, 54043195528445952⟩, ⟨0, 144115188075855872, 1⟩, ⟨256, 288230376151711744, 144115188075855872⟩, ⟨512, 576460752303423488, 288230376151711744⟩, ⟨1024, 1152921504606846976, 576460752303423488⟩, ⟨0, 2305843009213693952, 0⟩, ⟨6272, 4611686018427387904, 3458764513820540928⟩, ⟨10493, 9223372036854775808, 562949953421312⟩, ⟨26877, 18446744073709551616, 9223372036854775808⟩, ⟨43261, 0, 18518801667747479552⟩, ⟨131071, 36893488147419103232, 1125899906842624⟩, ⟨262143, 73786976294838206464, 36893488147419103232⟩, ⟨393215, 0, 78398662313265594368⟩]
theorem tourref1_Room_Take_ok (w0 w : World) (cs : List Chunk) (F : Nat → Prop) (W : World) (b_r : Nat) (A_r_0 : Option Addr) (c_r_0 : Nat) (r_0 : List Int) (y_r_0 : List Value) (A_r_1 : Option Addr) (c_r_1 : Nat) (r_1 : List Bool) (y_r_1 : List Value) (hM0 : Mem w0 (.blk b_r [sl A_r_0 r_0 c_r_0, sl A_r_1 r_1 c_r_1] 86 :: ow A_r_0 r_0 c_r_0 3 1 y_r_0 :: ow A_r_1 r_1 c_r_1 4 1 y_r_1 :: Fz F W :: cs) w) (h_r_0 : RepL (Rep.int .i64) F W r_0 y_r_0) (h_r_1 : RepL Rep.bool F W r_1 y_r_1) (i9001 : Int) (i9002 : Int) (i9003 : Int) (l9006 : List Int) (l9011 : List Bool) (hp : tourref1_Room_Take r_0 r_1 = some (i9001, i9002, i9003, l9006, l9011)) : Calls Try.prog 42 #[vP b_r 0] w fun e w' => ∃ (A9004 : Option Addr), ∃ (c9005 : Nat), ∃ (y9007 : List Value), ∃ (A9009 : Option Addr), ∃ (c9010 : Nat), ∃ (y9012 : List Value), ((RepL (Rep.int .i64) F W l9006 y9007) ∧ (RepL Rep.bool F W l9011 y9012)) ∧ e = .returned (.tuple #[.agg #[vI i9001, vI i9002], vI i9003]) ∧ Mem w0 (.blk b_r [sl A9004 l9006 c9005, sl A9009 l9011 c9010] 86 :: ow A9004 l9006 c9005 3 1 y9007 :: ow A9009 l9011 c9010 4 1 y9012 :: Fz F W :: cs) w' := by
 unfold tourref1_Room_Take at hp
 refine sx_calls Try.func42 rfl (n := 82) (by kernel_rfl) (l := [(0, vP b_r 0)]) rfl (by rfl) hM0 ?_
 refine st_seq (st_region [oF 0, oF 1] (by rfl) ?_)
 refine ops_newB (d := some 2) [vI 0, vI 0] 35 (fun b1 => ⟨by kernel_rfl⟩) (fun w_ hM hS => trivial) (fun b1 => ?_)
 refine oQ [oF 1] [(2, vP b1 0), (0, vP b_r 0)] (by kernel_rfl) ?_
 refine ops_nil (fin_then (st_seq (st_region [oF 0] (by rfl) ?_)))
 refine oQ [oF 0] [(4, vI (-1)), (2, vP b1 0), (0, vP b_r 0)] (by kernel_rfl) ?_
 refine ops_nil (fin_then ?_)
 refine st_join1 (σ := Int) (L := fun x_ => match x_ with | i2 => [(0, vP b_r 0), (2, vP b1 0), (4, vI i2)]) (N := fun x_ => match x_ with | i2 => Mem w0 (.blk b_r [sl A_r_0 r_0 c_r_0, sl A_r_1 r_1 c_r_1] 86 :: ow A_r_0 r_0 c_r_0 3 1 y_r_0 :: ow A_r_1 r_1 c_r_1 4 1 y_r_1 :: .blk b1 [vI 0, vI 0] 35 :: Fz F W :: cs)) (I := fun x_ => match x_ with | i2 => ((tourref1_Room_Take_j1 r_1 r_0) i2 = some (i9001, i9002, i9003, l9006, l9011))) ?_ ?_
 ·
  rintro i2 hp
  unfold tourref1_Room_Take_j1 at hp
  refine st_join1 (σ := (Option Addr) × Nat × (List Int) × (List Value) × (Option Addr) × Nat × (List Bool) × (List Value) × Int) (L := fun x_ => match x_ with | (A3, c4, l5, y6, A8, c9, l10, y11, i13) => [(0, vP b_r 0), (2, vP b1 0), (4, vI i13)]) (N := fun x_ => match x_ with | (A3, c4, l5, y6, A8, c9, l10, y11, i13) => Mem w0 (.blk b_r [sl A3 l5 c4, sl A8 l10 c9] 86 :: ow A3 l5 c4 3 1 y6 :: ow A8 l10 c9 4 1 y11 :: .blk b1 [vI 0, vI 0] 35 :: Fz F W :: cs)) (I := fun x_ => match x_ with | (A3, c4, l5, y6, A8, c9, l10, y11, i13) => (tourref1_Room_Take_j2 l5 l10 i13 = some (i9001, i9002, i9003, l9006, l9011)) ∧ (RepL (Rep.int .i64) F W l5 y6) ∧ (RepL Rep.bool F W l10 y11)) ?_ ?_
  ·
   rintro ⟨A3, c4, l5, y6, A8, c9, l10, y11, i13⟩ ⟨hp, h7, h12⟩
   unfold tourref1_Room_Take_j2 at hp
   refine st_seq (st_region [oF 0, oF 1, oF 2, oF 3, oF 4, oF 5, oF 6] (by rfl) ?_)
   refine oQ [oF 0, oF 1, oF 2] [(69, vP b_r 1), (0, vP b_r 0), (2, vP b1 0), (4, vI i13)] (by kernel_rfl) ?_
   refine ops_mem (d := some 70) (an := [.v (sl A8 l10 c9)]) (evs := [ld b_r 1 (sl A8 l10 c9)]) (v := sl A8 l10 c9) ⟨by kernel_rfl⟩ (fun w_ hM hS => ⟨w_, ⟨hM.cell 0 rfl rfl, rfl⟩, hM, trivial⟩) ?_
   refine oQ [oF 4] [(71, vI i13), (70, sl A8 l10 c9), (0, vP b_r 0), (2, vP b1 0), (4, vI i13)] (by kernel_rfl) ?_
   obtain ⟨x14, hv15, hp⟩ := obind hp
   obtain ⟨m16, hm17, hx18⟩ := idx_some hv15
   have hl21 := (List.getElem?_eq_some_iff.1 hx18).1
   refine ops_fact (fun w_ hM => hM.orowSome 2 rfl (Nat.lt_of_le_of_lt (Nat.zero_le _) hl21)) ?_
   rintro ⟨g22, rfl, -⟩
   obtain ⟨vs19, hr20, hq23⟩ := h12.at_ m16 x14 hx18
   obtain rfl := hr20
   refine ops_val (op := (.indexAddr 84 (.tmp 70) (.tmp 71))) (d := some 72) (v := vP g22 (m16 * 1)) ⟨by kernel_rfl⟩ (run_indexRow Try.underlying84 (z := 1) (by kernel_rfl) rfl rfl hm17 hl21 rfl) ?_
   refine oQ [] [(72, vP g22 (m16 * 1)), (0, vP b_r 0), (2, vP b1 0), (4, vI i13)] (by kernel_rfl) ?_
   obtain ⟨l24, hv25, hp⟩ := obind hp
   obtain ⟨m26, hm27, hl28, he29⟩ := upd_some hv25
   obtain rfl : m16 = m26 := by have := hm17; omega
   have hl30 : l10.length = l24.length := by rw [he29, List.length_set]
   obtain ⟨y31, hy32⟩ : ∃ y_, setAll y11 (m16 * 1 + 0) [.bool true] = y_ := ⟨_, rfl⟩
   have h33 : RepL Rep.bool F W l24 y31 := by rw [he29, ← hy32]; exact RepL.set h12 (List.getElem?_eq_getElem hl28) (fun vs_ hr_ _ => by obtain rfl := hr_; exact ⟨rfl, Nat.le_of_ble_eq_true rfl⟩)
   refine ops_store (an := []) (evs := [.store ⟨g22, m16 * 1, none⟩ (.bool true)]) ⟨by kernel_rfl⟩ (fun w_ hM hS => let ⟨w', he, h'⟩ := hM.ostore' 2 rfl (m16 * 1 + 0) [.bool true] (by have z_ : y11.length = l10.length * 1 := h12.len; have y_ : (m16 + 1) * 1 ≤ l10.length * 1 := Nat.mul_le_mul_right _ hl28; rw [Nat.add_mul] at y_; simp only [List.length_cons, List.length_nil]; omega) hl30 hy32; ⟨w', he, h', trivial⟩) ?_
   refine ops_conv (l' := [(72, vP g22 (m16 * 1)), (0, vP b_r 0), (2, vP b1 0), (4, vI i13)]) (M' := Mem w0 (.blk b_r [sl A3 l5 c4, sl (sa g22) l24 c9] 86 :: ow A3 l5 c4 3 1 y6 :: ow (sa g22) l24 c9 4 1 y31 :: .blk b1 [vI 0, vI 0] 35 :: Fz F W :: cs)) (by first | rfl | ((try dsimp only [sl, ow]); rw [hl30])) (fun w_ hM => by first | exact hM | ((try dsimp only [sl, ow] at hM ⊢); rw [hl30] at hM; exact hM)) ?_
   refine ops_nil (fin_then (st_seq (st_region [oF 0, oF 1, oF 2, oF 3, oF 4, oF 5, oF 6, oF 7, oF 8, oF 9, oF 10] (by rfl) ?_)))
   refine oQ [oF 0, oF 1, oF 2, oF 3] [(76, vP b_r 0), (73, vI i13), (2, vP b1 0), (4, vI i13)] (by kernel_rfl) ?_
   refine ops_mem (d := some 77) (an := [.v (sl A3 l5 c4)]) (evs := [ld b_r 0 (sl A3 l5 c4)]) (v := sl A3 l5 c4) ⟨by kernel_rfl⟩ (fun w_ hM hS => ⟨w_, ⟨hM.cell 0 rfl rfl, rfl⟩, hM, trivial⟩) ?_
   refine oQ [oF 5] [(78, vI i13), (77, sl A3 l5 c4), (73, vI i13), (2, vP b1 0)] (by kernel_rfl) ?_
   obtain ⟨x35, hv36, hp⟩ := obind hp
   obtain ⟨m37, hm38, hx39⟩ := idx_some hv36
   have hl42 := (List.getElem?_eq_some_iff.1 hx39).1
   refine ops_fact (fun w_ hM => hM.orowSome 1 rfl (Nat.lt_of_le_of_lt (Nat.zero_le _) hl42)) ?_
   rintro ⟨g43, rfl, -⟩
   obtain ⟨vs40, hr41, hq44⟩ := h7.at_ m37 x35 hx39
   obtain rfl := hr41
   refine ops_val (op := (.indexAddr 23 (.tmp 77) (.tmp 78))) (d := some 79) (v := vP g43 (m37 * 1)) ⟨by kernel_rfl⟩ (run_indexRow Try.underlying23 (z := 1) (by kernel_rfl) rfl rfl hm38 hl42 rfl) ?_
   refine ops_mem (d := some 80) (an := [.v (vI x35)]) (evs := [.load ⟨g43, m37 * 1, none⟩ (vI x35)]) (v := vI x35) ⟨by kernel_rfl⟩ (fun w_ hM hS => ⟨w_, ⟨hM.ocell 1 rfl (hq44 0 _ rfl), rfl⟩, hM, trivial⟩) ?_
   refine oQ [oF 8] [(81, .agg #[vI i13, vI x35]), (2, vP b1 0)] (by kernel_rfl) ?_
   refine ops_store (an := []) (evs := [sr b1 0 (vI i13), sr b1 1 (vI x35)]) ⟨by kernel_rfl⟩ (fun w_ hM hS => let ⟨w', he, h'⟩ := hM.evs_stores [vI i13, vI x35] 3 rfl 0 (Nat.le_of_ble_eq_true rfl); ⟨w', he, h', trivial⟩) ?_
   refine oQ [oF 10] [(3, vI 0), (2, vP b1 0)] (by kernel_rfl) ?_
   refine ops_nil (fin_then (st_ret ?_))
   have hq_ := Option.some.inj hp
   obtain ⟨hr0_, hq_⟩ := Prod.mk.inj hq_
   obtain ⟨hr1_, hq_⟩ := Prod.mk.inj hq_
   obtain ⟨hr2_, hq_⟩ := Prod.mk.inj hq_
   obtain ⟨hr3_, hq_⟩ := Prod.mk.inj hq_
   have hr4_ := hq_
   subst hr0_
   subst hr1_
   subst hr2_
   subst hr3_
   subst hr4_
   refine fin_ret [.cell 2 35, .tmp 3] [.agg #[vI i13, vI x35], vI 0] rfl rfl (fun w_ hM => (.cell rfl (tr_run _ [.v (vI i13), .v (vI x35)] [ld b1 0 (vI i13), ld b1 1 (vI x35)] (.agg #[vI i13, vI x35] : Value) _ _ (by kernel_rfl) ⟨hM.cell 3 rfl rfl, hM.cell 3 rfl rfl, rfl⟩) (.tmp rfl .nil))) (fun w_ hM => ?_)
   exact ⟨(sa g43), c4, y6, (sa g22), c9, y31, ⟨h7, h33⟩, rfl, hM.pick 5 [0, 1, 2, 4] (by kernel_rfl) (by decide) rfl⟩
  ·
   intro HJ2
   refine st_seq (st_seq (st_region [oF 0, oF 1] (by rfl) ?_))
   refine oQ [oF 0, oF 1] [(36, .bool (decide (i2 < 0))), (0, vP b_r 0), (2, vP b1 0), (4, vI i2)] (by kernel_rfl) ?_
   refine ops_nil (fin_then ?_)
   refine st_if (b := decide (i2 < 0)) rfl (fun hc45 => ?_) (fun hc45 => ?_)
   ·
    have hp := cnd_t hc45 hp
    refine st_seq (st_seq (st_region [oF 0, oF 1, oF 2, oF 3, oF 4, oF 5] (by rfl) ?_))
    refine oQ [oF 0, oF 1, oF 2] [(39, vP b_r 1), (0, vP b_r 0), (2, vP b1 0)] (by kernel_rfl) ?_
    refine ops_mem (d := some 40) (an := [.v (sl A_r_1 r_1 c_r_1)]) (evs := [ld b_r 1 (sl A_r_1 r_1 c_r_1)]) (v := sl A_r_1 r_1 c_r_1) ⟨by kernel_rfl⟩ (fun w_ hM hS => ⟨w_, ⟨hM.cell 0 rfl rfl, rfl⟩, hM, trivial⟩) ?_
    refine oQ [oF 4, oF 5] [(42, .bool ((r_1.length : Int) == 256)), (0, vP b_r 0), (2, vP b1 0)] (by kernel_rfl) ?_
    refine ops_nil (fin_then ?_)
    refine st_if (b := ((r_1.length : Int) == 256)) rfl (fun hc46 => ?_) (fun hc46 => ?_)
    ·
     have hp := cnd_t hc46 hp
     refine st_seq (st_region [oF 0, oF 1, oF 2] (by rfl) ?_)
     refine oQ [oF 0] [(43, .agg #[vI 0, vI 0]), (2, vP b1 0)] (by kernel_rfl) ?_
     refine ops_store (an := []) (evs := [sr b1 0 (vI 0), sr b1 1 (vI 0)]) ⟨by kernel_rfl⟩ (fun w_ hM hS => let ⟨w', he, h'⟩ := hM.evs_stores [vI 0, vI 0] 3 rfl 0 (Nat.le_of_ble_eq_true rfl); ⟨w', he, h', trivial⟩) ?_
     refine oQ [oF 2] [(3, vI 6), (2, vP b1 0)] (by kernel_rfl) ?_
     refine ops_nil (fin_then (st_ret (fin_ret_then (fin_ret_then ?_))))
     have hq_ := Option.some.inj hp
     obtain ⟨hr0_, hq_⟩ := Prod.mk.inj hq_
     obtain ⟨hr1_, hq_⟩ := Prod.mk.inj hq_
     obtain ⟨hr2_, hq_⟩ := Prod.mk.inj hq_
     obtain ⟨hr3_, hq_⟩ := Prod.mk.inj hq_
     have hr4_ := hq_
     subst hr0_
     subst hr1_
     subst hr2_
     subst hr3_
     subst hr4_
     refine fin_ret [.cell 2 35, .tmp 3] [.agg #[vI 0, vI 0], vI 6] rfl rfl (fun w_ hM => (.cell rfl (tr_run _ [.v (vI 0), .v (vI 0)] [ld b1 0 (vI 0), ld b1 1 (vI 0)] (.agg #[vI 0, vI 0] : Value) _ _ (by kernel_rfl) ⟨hM.cell 3 rfl rfl, hM.cell 3 rfl rfl, rfl⟩) (.tmp rfl .nil))) (fun w_ hM => ?_)
     exact ⟨A_r_0, c_r_0, y_r_0, A_r_1, c_r_1, y_r_1, ⟨h_r_0, h_r_1⟩, rfl, hM.pick 5 [0, 1, 2, 4] (by kernel_rfl) (by decide) rfl⟩
    ·
     have hp := cnd_f hc46 hp
     refine st_skip (fin_then (st_seq (st_region [oF 0, oF 1, oF 2, oF 3, oF 4, oF 5] (by rfl) ?_)))
     refine oQ [oF 0, oF 1, oF 2] [(46, vP b_r 1), (0, vP b_r 0), (2, vP b1 0)] (by kernel_rfl) ?_
     refine ops_mem (d := some 47) (an := [.v (sl A_r_1 r_1 c_r_1)]) (evs := [ld b_r 1 (sl A_r_1 r_1 c_r_1)]) (v := sl A_r_1 r_1 c_r_1) ⟨by kernel_rfl⟩ (fun w_ hM hS => ⟨w_, ⟨hM.cell 0 rfl rfl, rfl⟩, hM, trivial⟩) ?_
     refine oQ [oF 4, oF 5] [(4, vI (r_1.length : Int)), (0, vP b_r 0), (2, vP b1 0)] (by kernel_rfl) ?_
     refine ops_nil (fin_then ?_)
     obtain ⟨l49, hv50, hp⟩ := obind hp
     obtain ⟨l60, hv61, hp⟩ := obind hp
     refine st_region_treeF tourref1_Room_Take__t0 20 (.node [oT 0, oT 1, oT 2, oT 3, oT 4, oT 8, oT 9, oT 10] (.node [oF 5] (.node [oF 6] (.node [oF 7] (.leaf [oF 11, oF 12, oF 13, oT 14, oT 15, oF 16, oT 17, oT 18, oF 19]) (.leaf [oF 12, oF 11, oF 13, oT 14, oT 15, oF 16, oT 17, oT 18, oF 19])) (.node [] (.node [oF 11] (.leaf [oF 7, oF 12, oF 13, oT 14, oT 15, oF 16, oT 17, oT 18, oF 19]) (.leaf [oF 12, oF 7, oF 13, oT 14, oT 15, oF 16, oT 17, oT 18, oF 19])) (.node [oF 12] (.leaf [oF 7, oF 11, oF 13, oT 14, oT 15, oF 16, oT 17, oT 18, oF 19]) (.leaf [oF 11, oF 7, oF 13, oT 14, oT 15, oF 16, oT 17, oT 18, oF 19])))) (.node [] (.node [oF 11] (.node [oF 6] (.leaf [oF 7, oF 12, oF 13, oT 14, oT 15, oF 16, oT 17, oT 18, oF 19]) (.leaf [oF 12, oF 7, oF 13, oT 14, oT 15, oF 16, oT 17, oT 18, oF 19])) (.leaf [oF 12, oF 6, oF 7, oF 13, oT 14, oT 15, oF 16, oT 17, oT 18, oF 19])) (.node [oF 12] (.node [oF 6] (.leaf [oF 7, oF 11, oF 13, oT 14, oT 15, oF 16, oT 17, oT 18, oF 19]) (.leaf [oF 11, oF 7, oF 13, oT 14, oT 15, oF 16, oT 17, oT 18, oF 19])) (.leaf [oF 11, oF 6, oF 7, oF 13, oT 14, oT 15, oF 16, oT 17, oT 18, oF 19])))) (.node [] (.node [oF 6] (.node [oF 5] (.node [oF 7] (.leaf [oF 11, oF 12, oF 13, oT 14, oT 15, oF 16, oT 17, oT 18, oF 19]) (.leaf [oF 12, oF 11, oF 13, oT 14, oT 15, oF 16, oT 17, oT 18, oF 19])) (.node [] (.node [oF 11] (.leaf [oF 7, oF 12, oF 13, oT 14, oT 15, oF 16, oT 17, oT 18, oF 19]) (.leaf [oF 12, oF 7, oF 13, oT 14, oT 15, oF 16, oT 17, oT 18, oF 19])) (.node [oF 12] (.leaf [oF 7, oF 11, oF 13, oT 14, oT 15, oF 16, oT 17, oT 18, oF 19]) (.leaf [oF 11, oF 7, oF 13, oT 14, oT 15, oF 16, oT 17, oT 18, oF 19])))) (.node [] (.node [oF 11] (.node [oF 5] (.leaf [oF 7, oF 12, oF 13, oT 14, oT 15, oF 16, oT 17, oT 18, oF 19]) (.leaf [oF 12, oF 7, oF 13, oT 14, oT 15, oF 16, oT 17, oT 18, oF 19])) (.leaf [oF 12, oF 5, oF 7, oF 13, oT 14, oT 15, oF 16, oT 17, oT 18, oF 19])) (.node [oF 12] (.node [oF 5] (.leaf [oF 7, oF 11, oF 13, oT 14, oT 15, oF 16, oT 17, oT 18, oF 19]) (.leaf [oF 11, oF 7, oF 13, oT 14, oT 15, oF 16, oT 17, oT 18, oF 19])) (.leaf [oF 11, oF 5, oF 7, oF 13, oT 14, oT 15, oF 16, oT 17, oT 18, oF 19])))) (.node [] (.node [oF 11] (.node [oF 5] (.node [oF 6] (.leaf [oF 7, oF 12, oF 13, oT 14, oT 15, oF 16, oT 17, oT 18, oF 19]) (.leaf [oF 12, oF 7, oF 13, oT 14, oT 15, oF 16, oT 17, oT 18, oF 19])) (.leaf [oF 12, oF 6, oF 7, oF 13, oT 14, oT 15, oF 16, oT 17, oT 18, oF 19])) (.node [] (.node [oF 6] (.node [oF 5] (.leaf [oF 7, oF 12, oF 13, oT 14, oT 15, oF 16, oT 17, oT 18, oF 19]) (.leaf [oF 12, oF 7, oF 13, oT 14, oT 15, oF 16, oT 17, oT 18, oF 19])) (.leaf [oF 12, oF 5, oF 7, oF 13, oT 14, oT 15, oF 16, oT 17, oT 18, oF 19])) (.node [oF 12] (.leaf [oF 5, oF 6, oF 7, oF 13, oT 14, oT 15, oF 16, oT 17, oT 18, oF 19]) (.leaf [oF 6, oF 5, oF 7, oF 13, oT 14, oT 15, oF 16, oT 17, oT 18, oF 19])))) (.node [oF 12] (.node [oF 5] (.node [oF 6] (.leaf [oF 7, oF 11, oF 13, oT 14, oT 15, oF 16, oT 17, oT 18, oF 19]) (.leaf [oF 11, oF 7, oF 13, oT 14, oT 15, oF 16, oT 17, oT 18, oF 19])) (.leaf [oF 11, oF 6, oF 7, oF 13, oT 14, oT 15, oF 16, oT 17, oT 18, oF 19])) (.node [] (.node [oF 6] (.node [oF 5] (.leaf [oF 7, oF 11, oF 13, oT 14, oT 15, oF 16, oT 17, oT 18, oF 19]) (.leaf [oF 11, oF 7, oF 13, oT 14, oT 15, oF 16, oT 17, oT 18, oF 19])) (.leaf [oF 11, oF 5, oF 7, oF 13, oT 14, oT 15, oF 16, oT 17, oT 18, oF 19])) (.node [oF 11] (.leaf [oF 5, oF 6, oF 7, oF 13, oT 14, oT 15, oF 16, oT 17, oT 18, oF 19]) (.leaf [oF 6, oF 5, oF 7, oF 13, oT 14, oT 15, oF 16, oT 17, oT 18, oF 19]))))))) (Mem w0 (.blk b1 [vI 0, vI 0] 35 :: Fz F W :: cs)) (by kernel_rfl) (by kernel_rfl) (by kernel_rfl) (by kernel_rfl) (by kernel_rfl) (fun _ d _ _ _ h => by cases d <;> exact h) (M' := Mem w0 (.blk b_r [sl A_r_0 r_0 c_r_0, sl A_r_1 r_1 c_r_1] 86 :: ow A_r_0 r_0 c_r_0 3 1 y_r_0 :: ow A_r_1 r_1 c_r_1 4 1 y_r_1 :: .blk b1 [vI 0, vI 0] 35 :: Fz F W :: cs)) (fun w_ hM => ⟨hM.drew, hM.drew.sub (.cons _ (.cons _ (.cons _ (.cons_cons _ (.cons_cons _ (.refl _))))))⟩) ?_
     refine tree_node ?_
     refine oQ [oT 0, oT 1, oT 2, oT 3, oT 4, oT 8, oT 9, oT 10] [(59, vP b_r 0), (53, vP b_r 1), (50, vP b_r 0), (49, vP b_r 0), (4, vI (r_1.length : Int)), (0, vP b_r 0), (2, vP b1 0)] (by kernel_rfl) ?_
     refine ops_nil ?_
     refine tree_both ?_ ?_
     ·
      refine tree_node ?_
      refine ops_mem (d := some 54) (an := [.v (sl A_r_1 r_1 c_r_1)]) (evs := [ld b_r 1 (sl A_r_1 r_1 c_r_1)]) (v := sl A_r_1 r_1 c_r_1) ⟨by kernel_rfl⟩ (fun w_ hM hS => ⟨w_, ⟨hM.cell 0 rfl rfl, rfl⟩, hM, hS⟩) ?_
      refine ops_nil ?_
      refine tree_both ?_ ?_
      ·
       refine tree_node ?_
       have h62 : RepL Rep.bool F W ([false] : List Bool) ([.bool false]) := (RepL.cons (R := Rep.bool) (F := F) (w := W) (vs := [.bool false]) (ys := []) rfl RepL.nil)
       refine ops_new (d := some 55) (o := .cells ([.bool false] : List Value).toArray 4) (v := fun g63 => .slice (sa g63) ([false] : List Bool).length 1) (M' := fun g63 => Mem w0 (orow (sa g63) ([false] : List Bool).length 1 4 1 ([.bool false]) :: .blk b_r [sl A_r_0 r_0 c_r_0, sl A_r_1 r_1 c_r_1] 86 :: ow A_r_0 r_0 c_r_0 3 1 y_r_0 :: ow A_r_1 r_1 c_r_1 4 1 y_r_1 :: .blk b1 [vI 0, vI 0] 35 :: Fz F W :: cs)) (fun g63 => ⟨by kernel_rfl⟩) (fun w_ hM hS => ⟨hM.onew [.bool false] 4 1 1 rfl (by decide), hS.alloc _⟩) (fun g63 => ?_)
       refine ops_nil ?_
       refine tree_both ?_ ?_
       ·
        refine tree_node ?_
        obtain ⟨he64, hb65⟩ := app_some hv50
        obtain ⟨y66, hy67⟩ : ∃ y_, y_r_1 ++ ([.bool false]) = y_ := ⟨_, rfl⟩
        have h68 : RepL Rep.bool F W l49 y66 := by rw [he64, ← hy67]; exact RepL.app h_r_1 h62
        refine ops_appendO (x := (Go.Operand.tmp 54)) (y := (Go.Operand.tmp 55)) (t := 84) (e := 4) (d := some 56) (n' := l49.length) (z := 1) (m := ([false] : List Bool).length) (bytes := 1) (xs' := y66) (news := ([.bool false])) (zv := .bool false) 3 ⟨by kernel_rfl⟩ rfl rfl Try.underlying84 (by kernel_rfl) (by rfl) rfl (fun w_ hM => hM.srcO 0 rfl) h62.len h62.one hb65 (by have z_ := congrArg List.length he64; rw [List.length_append] at z_; exact z_.symm) hy67 (fun _ _ _ _ hS h' => (by exact h'.sub (.cons _ (.cons _ (.cons _ (.cons _ (.cons_cons _ (.cons_cons _ (.refl _))))))))) ?_
        rintro ⟨A69, c70⟩
        refine ops_nil ?_
        refine tree_both ?_ ?_
        ·
         refine tree_leaf ?_
         refine ops_mem (d := some 60) (an := [.v (sl A_r_0 r_0 c_r_0)]) (evs := [ld b_r 0 (sl A_r_0 r_0 c_r_0)]) (v := sl A_r_0 r_0 c_r_0) ⟨by kernel_rfl⟩ (fun w_ hM hS => ⟨w_, ⟨hM.cell 1 rfl rfl, rfl⟩, hM, hS⟩) ?_
         have h71 : RepL (Rep.int .i64) F W ([0] : List Int) ([vI 0]) := (RepL.cons (R := (Rep.int .i64)) (F := F) (w := W) (vs := [vI 0]) (ys := []) rfl RepL.nil)
         refine ops_new (d := some 61) (o := .cells ([vI 0] : List Value).toArray 3) (v := fun g72 => .slice (sa g72) ([0] : List Int).length 1) (M' := fun g72 => Mem w0 (orow (sa g72) ([0] : List Int).length 1 3 1 ([vI 0]) :: orow (sa g63) ([false] : List Bool).length 1 4 1 ([.bool false]) :: .blk b_r [sl A_r_0 r_0 c_r_0, sl A_r_1 r_1 c_r_1] 86 :: ow A_r_0 r_0 c_r_0 3 1 y_r_0 :: ow A69 l49 c70 4 1 y66 :: .blk b1 [vI 0, vI 0] 35 :: Fz F W :: cs)) (fun g72 => ⟨by kernel_rfl⟩) (fun w_ hM hS => ⟨hM.onew [vI 0] 3 1 1 rfl (by decide), hS.alloc _⟩) (fun g72 => ?_)
         obtain ⟨he73, hb74⟩ := app_some hv61
         obtain ⟨y75, hy76⟩ : ∃ y_, y_r_0 ++ ([vI 0]) = y_ := ⟨_, rfl⟩
         have h77 : RepL (Rep.int .i64) F W l60 y75 := by rw [he73, ← hy76]; exact RepL.app h_r_0 h71
         refine ops_appendO (x := (Go.Operand.tmp 60)) (y := (Go.Operand.tmp 61)) (t := 23) (e := 3) (d := some 62) (n' := l60.length) (z := 1) (m := ([0] : List Int).length) (bytes := 8) (xs' := y75) (news := ([vI 0])) (zv := vI 0) 3 ⟨by kernel_rfl⟩ rfl rfl Try.underlying23 (by kernel_rfl) (by rfl) rfl (fun w_ hM => hM.srcO 0 rfl) h71.len h71.one hb74 (by have z_ := congrArg List.length he73; rw [List.length_append] at z_; exact z_.symm) hy76 (fun _ _ _ _ hS h' => (by exact h'.sub (.cons _ (.cons _ (.cons _ (.cons _ (.cons _ (.cons_cons _ (.cons_cons _ (.refl _)))))))))) ?_
         rintro ⟨A78, c79⟩
         refine oQ [oT 14, oT 15] [(64, vP b_r 1), (62, sl A78 l60 c79), (56, sl A69 l49 c70), (50, vP b_r 0), (4, vI (r_1.length : Int)), (0, vP b_r 0), (2, vP b1 0)] (by kernel_rfl) ?_
         refine ops_store (an := []) (evs := [sr b_r 1 (sl A69 l49 c70)]) ⟨by kernel_rfl⟩ (fun w_ hM hS => let ⟨w', he, h'⟩ := hM.evs_stores [sl A69 l49 c70] 2 rfl 1 (Nat.le_of_ble_eq_true rfl); ⟨w', he, h', (by exact h'.sub (.cons _ (.cons _ (.cons _ (.cons _ (.cons _ (.cons_cons _ (.cons_cons _ (.refl _)))))))))⟩) ?_
         refine oQ [oT 17, oT 18] [(66, vP b_r 0), (62, sl A78 l60 c79), (4, vI (r_1.length : Int)), (0, vP b_r 0), (2, vP b1 0)] (by kernel_rfl) ?_
         refine ops_store (an := []) (evs := [sr b_r 0 (sl A78 l60 c79)]) ⟨by kernel_rfl⟩ (fun w_ hM hS => let ⟨w', he, h'⟩ := hM.evs_stores [sl A78 l60 c79] 2 rfl 0 (Nat.le_of_ble_eq_true rfl); ⟨w', he, h', (by exact h'.sub (.cons _ (.cons _ (.cons _ (.cons _ (.cons _ (.cons_cons _ (.cons_cons _ (.refl _)))))))))⟩) ?_
         refine ops_nil ?_
         exact fin_join HJ2 (A78, c79, l60, y75, A69, c70, l49, y66, (r_1.length : Int)) ⟨hp, h77, h68⟩ (look_has ⟨rfl, rfl, rfl, trivial⟩) (fun w_ hM => hM.pick 7 [2, 3, 4, 5, 6] (by kernel_rfl) (by decide) rfl)
        ·
         refine tree_leaf ?_
         have h80 : RepL (Rep.int .i64) F W ([0] : List Int) ([vI 0]) := (RepL.cons (R := (Rep.int .i64)) (F := F) (w := W) (vs := [vI 0]) (ys := []) rfl RepL.nil)
         refine ops_new (d := some 61) (o := .cells ([vI 0] : List Value).toArray 3) (v := fun g81 => .slice (sa g81) ([0] : List Int).length 1) (M' := fun g81 => Mem w0 (orow (sa g81) ([0] : List Int).length 1 3 1 ([vI 0]) :: orow (sa g63) ([false] : List Bool).length 1 4 1 ([.bool false]) :: .blk b_r [sl A_r_0 r_0 c_r_0, sl A_r_1 r_1 c_r_1] 86 :: ow A_r_0 r_0 c_r_0 3 1 y_r_0 :: ow A69 l49 c70 4 1 y66 :: .blk b1 [vI 0, vI 0] 35 :: Fz F W :: cs)) (fun g81 => ⟨by kernel_rfl⟩) (fun w_ hM hS => ⟨hM.onew [vI 0] 3 1 1 rfl (by decide), hS.alloc _⟩) (fun g81 => ?_)
         refine ops_mem (d := some 60) (an := [.v (sl A_r_0 r_0 c_r_0)]) (evs := [ld b_r 0 (sl A_r_0 r_0 c_r_0)]) (v := sl A_r_0 r_0 c_r_0) ⟨by kernel_rfl⟩ (fun w_ hM hS => ⟨w_, ⟨hM.cell 2 rfl rfl, rfl⟩, hM, hS⟩) ?_
         obtain ⟨he82, hb83⟩ := app_some hv61
         obtain ⟨y84, hy85⟩ : ∃ y_, y_r_0 ++ ([vI 0]) = y_ := ⟨_, rfl⟩
         have h86 : RepL (Rep.int .i64) F W l60 y84 := by rw [he82, ← hy85]; exact RepL.app h_r_0 h80
         refine ops_appendO (x := (Go.Operand.tmp 60)) (y := (Go.Operand.tmp 61)) (t := 23) (e := 3) (d := some 62) (n' := l60.length) (z := 1) (m := ([0] : List Int).length) (bytes := 8) (xs' := y84) (news := ([vI 0])) (zv := vI 0) 3 ⟨by kernel_rfl⟩ rfl rfl Try.underlying23 (by kernel_rfl) (by rfl) rfl (fun w_ hM => hM.srcO 0 rfl) h80.len h80.one hb83 (by have z_ := congrArg List.length he82; rw [List.length_append] at z_; exact z_.symm) hy85 (fun _ _ _ _ hS h' => (by exact h'.sub (.cons _ (.cons _ (.cons _ (.cons _ (.cons _ (.cons_cons _ (.cons_cons _ (.refl _)))))))))) ?_
         rintro ⟨A87, c88⟩
         refine oQ [oT 14, oT 15] [(64, vP b_r 1), (62, sl A87 l60 c88), (56, sl A69 l49 c70), (50, vP b_r 0), (4, vI (r_1.length : Int)), (0, vP b_r 0), (2, vP b1 0)] (by kernel_rfl) ?_
         refine ops_store (an := []) (evs := [sr b_r 1 (sl A69 l49 c70)]) ⟨by kernel_rfl⟩ (fun w_ hM hS => let ⟨w', he, h'⟩ := hM.evs_stores [sl A69 l49 c70] 2 rfl 1 (Nat.le_of_ble_eq_true rfl); ⟨w', he, h', (by exact h'.sub (.cons _ (.cons _ (.cons _ (.cons _ (.cons _ (.cons_cons _ (.cons_cons _ (.refl _)))))))))⟩) ?_
         refine oQ [oT 17, oT 18] [(66, vP b_r 0), (62, sl A87 l60 c88), (4, vI (r_1.length : Int)), (0, vP b_r 0), (2, vP b1 0)] (by kernel_rfl) ?_
         refine ops_store (an := []) (evs := [sr b_r 0 (sl A87 l60 c88)]) ⟨by kernel_rfl⟩ (fun w_ hM hS => let ⟨w', he, h'⟩ := hM.evs_stores [sl A87 l60 c88] 2 rfl 0 (Nat.le_of_ble_eq_true rfl); ⟨w', he, h', (by exact h'.sub (.cons _ (.cons _ (.cons _ (.cons _ (.cons _ (.cons_cons _ (.cons_cons _ (.refl _)))))))))⟩) ?_
         refine ops_nil ?_
         exact fin_join HJ2 (A87, c88, l60, y84, A69, c70, l49, y66, (r_1.length : Int)) ⟨hp, h86, h68⟩ (look_has ⟨rfl, rfl, rfl, trivial⟩) (fun w_ hM => hM.pick 7 [2, 3, 4, 5, 6] (by kernel_rfl) (by decide) rfl)
       ·
        refine tree_ways ?_ ?_
        ·
         refine tree_node ?_
         refine ops_mem (d := some 60) (an := [.v (sl A_r_0 r_0 c_r_0)]) (evs := [ld b_r 0 (sl A_r_0 r_0 c_r_0)]) (v := sl A_r_0 r_0 c_r_0) ⟨by kernel_rfl⟩ (fun w_ hM hS => ⟨w_, ⟨hM.cell 1 rfl rfl, rfl⟩, hM, hS⟩) ?_
         refine ops_nil ?_
         refine tree_both ?_ ?_
         ·
          refine tree_leaf ?_
          obtain ⟨he89, hb90⟩ := app_some hv50
          obtain ⟨y91, hy92⟩ : ∃ y_, y_r_1 ++ ([.bool false]) = y_ := ⟨_, rfl⟩
          have h93 : RepL Rep.bool F W l49 y91 := by rw [he89, ← hy92]; exact RepL.app h_r_1 h62
          refine ops_appendO (x := (Go.Operand.tmp 54)) (y := (Go.Operand.tmp 55)) (t := 84) (e := 4) (d := some 56) (n' := l49.length) (z := 1) (m := ([false] : List Bool).length) (bytes := 1) (xs' := y91) (news := ([.bool false])) (zv := .bool false) 3 ⟨by kernel_rfl⟩ rfl rfl Try.underlying84 (by kernel_rfl) (by rfl) rfl (fun w_ hM => hM.srcO 0 rfl) h62.len h62.one hb90 (by have z_ := congrArg List.length he89; rw [List.length_append] at z_; exact z_.symm) hy92 (fun _ _ _ _ hS h' => (by exact h'.sub (.cons _ (.cons _ (.cons _ (.cons _ (.cons_cons _ (.cons_cons _ (.refl _))))))))) ?_
          rintro ⟨A94, c95⟩
          have h96 : RepL (Rep.int .i64) F W ([0] : List Int) ([vI 0]) := (RepL.cons (R := (Rep.int .i64)) (F := F) (w := W) (vs := [vI 0]) (ys := []) rfl RepL.nil)
          refine ops_new (d := some 61) (o := .cells ([vI 0] : List Value).toArray 3) (v := fun g97 => .slice (sa g97) ([0] : List Int).length 1) (M' := fun g97 => Mem w0 (orow (sa g97) ([0] : List Int).length 1 3 1 ([vI 0]) :: orow (sa g63) ([false] : List Bool).length 1 4 1 ([.bool false]) :: .blk b_r [sl A_r_0 r_0 c_r_0, sl A_r_1 r_1 c_r_1] 86 :: ow A_r_0 r_0 c_r_0 3 1 y_r_0 :: ow A94 l49 c95 4 1 y91 :: .blk b1 [vI 0, vI 0] 35 :: Fz F W :: cs)) (fun g97 => ⟨by kernel_rfl⟩) (fun w_ hM hS => ⟨hM.onew [vI 0] 3 1 1 rfl (by decide), hS.alloc _⟩) (fun g97 => ?_)
          obtain ⟨he98, hb99⟩ := app_some hv61
          obtain ⟨y100, hy101⟩ : ∃ y_, y_r_0 ++ ([vI 0]) = y_ := ⟨_, rfl⟩
          have h102 : RepL (Rep.int .i64) F W l60 y100 := by rw [he98, ← hy101]; exact RepL.app h_r_0 h96
          refine ops_appendO (x := (Go.Operand.tmp 60)) (y := (Go.Operand.tmp 61)) (t := 23) (e := 3) (d := some 62) (n' := l60.length) (z := 1) (m := ([0] : List Int).length) (bytes := 8) (xs' := y100) (news := ([vI 0])) (zv := vI 0) 3 ⟨by kernel_rfl⟩ rfl rfl Try.underlying23 (by kernel_rfl) (by rfl) rfl (fun w_ hM => hM.srcO 0 rfl) h96.len h96.one hb99 (by have z_ := congrArg List.length he98; rw [List.length_append] at z_; exact z_.symm) hy101 (fun _ _ _ _ hS h' => (by exact h'.sub (.cons _ (.cons _ (.cons _ (.cons _ (.cons _ (.cons_cons _ (.cons_cons _ (.refl _)))))))))) ?_
          rintro ⟨A103, c104⟩
          refine oQ [oT 14, oT 15] [(64, vP b_r 1), (62, sl A103 l60 c104), (56, sl A94 l49 c95), (50, vP b_r 0), (4, vI (r_1.length : Int)), (0, vP b_r 0), (2, vP b1 0)] (by kernel_rfl) ?_
          refine ops_store (an := []) (evs := [sr b_r 1 (sl A94 l49 c95)]) ⟨by kernel_rfl⟩ (fun w_ hM hS => let ⟨w', he, h'⟩ := hM.evs_stores [sl A94 l49 c95] 2 rfl 1 (Nat.le_of_ble_eq_true rfl); ⟨w', he, h', (by exact h'.sub (.cons _ (.cons _ (.cons _ (.cons _ (.cons _ (.cons_cons _ (.cons_cons _ (.refl _)))))))))⟩) ?_
          refine oQ [oT 17, oT 18] [(66, vP b_r 0), (62, sl A103 l60 c104), (4, vI (r_1.length : Int)), (0, vP b_r 0), (2, vP b1 0)] (by kernel_rfl) ?_
          refine ops_store (an := []) (evs := [sr b_r 0 (sl A103 l60 c104)]) ⟨by kernel_rfl⟩ (fun w_ hM hS => let ⟨w', he, h'⟩ := hM.evs_stores [sl A103 l60 c104] 2 rfl 0 (Nat.le_of_ble_eq_true rfl); ⟨w', he, h', (by exact h'.sub (.cons _ (.cons _ (.cons _ (.cons _ (.cons _ (.cons_cons _ (.cons_cons _ (.refl _)))))))))⟩) ?_
          refine ops_nil ?_
          exact fin_join HJ2 (A103, c104, l60, y100, A94, c95, l49, y91, (r_1.length : Int)) ⟨hp, h102, h93⟩ (look_has ⟨rfl, rfl, rfl, trivial⟩) (fun w_ hM => hM.pick 7 [2, 3, 4, 5, 6] (by kernel_rfl) (by decide) rfl)
         ·
          refine tree_leaf ?_
          have h105 : RepL (Rep.int .i64) F W ([0] : List Int) ([vI 0]) := (RepL.cons (R := (Rep.int .i64)) (F := F) (w := W) (vs := [vI 0]) (ys := []) rfl RepL.nil)
          refine ops_new (d := some 61) (o := .cells ([vI 0] : List Value).toArray 3) (v := fun g106 => .slice (sa g106) ([0] : List Int).length 1) (M' := fun g106 => Mem w0 (orow (sa g106) ([0] : List Int).length 1 3 1 ([vI 0]) :: orow (sa g63) ([false] : List Bool).length 1 4 1 ([.bool false]) :: .blk b_r [sl A_r_0 r_0 c_r_0, sl A_r_1 r_1 c_r_1] 86 :: ow A_r_0 r_0 c_r_0 3 1 y_r_0 :: ow A_r_1 r_1 c_r_1 4 1 y_r_1 :: .blk b1 [vI 0, vI 0] 35 :: Fz F W :: cs)) (fun g106 => ⟨by kernel_rfl⟩) (fun w_ hM hS => ⟨hM.onew [vI 0] 3 1 1 rfl (by decide), hS.alloc _⟩) (fun g106 => ?_)
          obtain ⟨he107, hb108⟩ := app_some hv50
          obtain ⟨y109, hy110⟩ : ∃ y_, y_r_1 ++ ([.bool false]) = y_ := ⟨_, rfl⟩
          have h111 : RepL Rep.bool F W l49 y109 := by rw [he107, ← hy110]; exact RepL.app h_r_1 h62
          refine ops_appendO (x := (Go.Operand.tmp 54)) (y := (Go.Operand.tmp 55)) (t := 84) (e := 4) (d := some 56) (n' := l49.length) (z := 1) (m := ([false] : List Bool).length) (bytes := 1) (xs' := y109) (news := ([.bool false])) (zv := .bool false) 4 ⟨by kernel_rfl⟩ rfl rfl Try.underlying84 (by kernel_rfl) (by rfl) rfl (fun w_ hM => hM.srcO 1 rfl) h62.len h62.one hb108 (by have z_ := congrArg List.length he107; rw [List.length_append] at z_; exact z_.symm) hy110 (fun _ _ _ _ hS h' => (by exact h'.sub (.cons _ (.cons _ (.cons _ (.cons _ (.cons _ (.cons_cons _ (.cons_cons _ (.refl _)))))))))) ?_
          rintro ⟨A112, c113⟩
          obtain ⟨he114, hb115⟩ := app_some hv61
          obtain ⟨y116, hy117⟩ : ∃ y_, y_r_0 ++ ([vI 0]) = y_ := ⟨_, rfl⟩
          have h118 : RepL (Rep.int .i64) F W l60 y116 := by rw [he114, ← hy117]; exact RepL.app h_r_0 h105
          refine ops_appendO (x := (Go.Operand.tmp 60)) (y := (Go.Operand.tmp 61)) (t := 23) (e := 3) (d := some 62) (n' := l60.length) (z := 1) (m := ([0] : List Int).length) (bytes := 8) (xs' := y116) (news := ([vI 0])) (zv := vI 0) 3 ⟨by kernel_rfl⟩ rfl rfl Try.underlying23 (by kernel_rfl) (by rfl) rfl (fun w_ hM => hM.srcO 0 rfl) h105.len h105.one hb115 (by have z_ := congrArg List.length he114; rw [List.length_append] at z_; exact z_.symm) hy117 (fun _ _ _ _ hS h' => (by exact h'.sub (.cons _ (.cons _ (.cons _ (.cons _ (.cons _ (.cons_cons _ (.cons_cons _ (.refl _)))))))))) ?_
          rintro ⟨A119, c120⟩
          refine oQ [oT 14, oT 15] [(64, vP b_r 1), (62, sl A119 l60 c120), (56, sl A112 l49 c113), (50, vP b_r 0), (4, vI (r_1.length : Int)), (0, vP b_r 0), (2, vP b1 0)] (by kernel_rfl) ?_
          refine ops_store (an := []) (evs := [sr b_r 1 (sl A112 l49 c113)]) ⟨by kernel_rfl⟩ (fun w_ hM hS => let ⟨w', he, h'⟩ := hM.evs_stores [sl A112 l49 c113] 2 rfl 1 (Nat.le_of_ble_eq_true rfl); ⟨w', he, h', (by exact h'.sub (.cons _ (.cons _ (.cons _ (.cons _ (.cons _ (.cons_cons _ (.cons_cons _ (.refl _)))))))))⟩) ?_
          refine oQ [oT 17, oT 18] [(66, vP b_r 0), (62, sl A119 l60 c120), (4, vI (r_1.length : Int)), (0, vP b_r 0), (2, vP b1 0)] (by kernel_rfl) ?_
          refine ops_store (an := []) (evs := [sr b_r 0 (sl A119 l60 c120)]) ⟨by kernel_rfl⟩ (fun w_ hM hS => let ⟨w', he, h'⟩ := hM.evs_stores [sl A119 l60 c120] 2 rfl 0 (Nat.le_of_ble_eq_true rfl); ⟨w', he, h', (by exact h'.sub (.cons _ (.cons _ (.cons _ (.cons _ (.cons _ (.cons_cons _ (.cons_cons _ (.refl _)))))))))⟩) ?_
          refine ops_nil ?_
          exact fin_join HJ2 (A119, c120, l60, y116, A112, c113, l49, y109, (r_1.length : Int)) ⟨hp, h118, h111⟩ (look_has ⟨rfl, rfl, rfl, trivial⟩) (fun w_ hM => hM.pick 7 [2, 3, 4, 5, 6] (by kernel_rfl) (by decide) rfl)
        ·
         refine tree_node ?_
         have h121 : RepL (Rep.int .i64) F W ([0] : List Int) ([vI 0]) := (RepL.cons (R := (Rep.int .i64)) (F := F) (w := W) (vs := [vI 0]) (ys := []) rfl RepL.nil)
         refine ops_new (d := some 61) (o := .cells ([vI 0] : List Value).toArray 3) (v := fun g122 => .slice (sa g122) ([0] : List Int).length 1) (M' := fun g122 => Mem w0 (orow (sa g122) ([0] : List Int).length 1 3 1 ([vI 0]) :: orow (sa g63) ([false] : List Bool).length 1 4 1 ([.bool false]) :: .blk b_r [sl A_r_0 r_0 c_r_0, sl A_r_1 r_1 c_r_1] 86 :: ow A_r_0 r_0 c_r_0 3 1 y_r_0 :: ow A_r_1 r_1 c_r_1 4 1 y_r_1 :: .blk b1 [vI 0, vI 0] 35 :: Fz F W :: cs)) (fun g122 => ⟨by kernel_rfl⟩) (fun w_ hM hS => ⟨hM.onew [vI 0] 3 1 1 rfl (by decide), hS.alloc _⟩) (fun g122 => ?_)
         refine ops_nil ?_
         refine tree_both ?_ ?_
         ·
          refine tree_leaf ?_
          obtain ⟨he123, hb124⟩ := app_some hv50
          obtain ⟨y125, hy126⟩ : ∃ y_, y_r_1 ++ ([.bool false]) = y_ := ⟨_, rfl⟩
          have h127 : RepL Rep.bool F W l49 y125 := by rw [he123, ← hy126]; exact RepL.app h_r_1 h62
          refine ops_appendO (x := (Go.Operand.tmp 54)) (y := (Go.Operand.tmp 55)) (t := 84) (e := 4) (d := some 56) (n' := l49.length) (z := 1) (m := ([false] : List Bool).length) (bytes := 1) (xs' := y125) (news := ([.bool false])) (zv := .bool false) 4 ⟨by kernel_rfl⟩ rfl rfl Try.underlying84 (by kernel_rfl) (by rfl) rfl (fun w_ hM => hM.srcO 1 rfl) h62.len h62.one hb124 (by have z_ := congrArg List.length he123; rw [List.length_append] at z_; exact z_.symm) hy126 (fun _ _ _ _ hS h' => (by exact h'.sub (.cons _ (.cons _ (.cons _ (.cons _ (.cons _ (.cons_cons _ (.cons_cons _ (.refl _)))))))))) ?_
          rintro ⟨A128, c129⟩
          refine ops_mem (d := some 60) (an := [.v (sl A_r_0 r_0 c_r_0)]) (evs := [ld b_r 0 (sl A_r_0 r_0 c_r_0)]) (v := sl A_r_0 r_0 c_r_0) ⟨by kernel_rfl⟩ (fun w_ hM hS => ⟨w_, ⟨hM.cell 2 rfl rfl, rfl⟩, hM, hS⟩) ?_
          obtain ⟨he130, hb131⟩ := app_some hv61
          obtain ⟨y132, hy133⟩ : ∃ y_, y_r_0 ++ ([vI 0]) = y_ := ⟨_, rfl⟩
          have h134 : RepL (Rep.int .i64) F W l60 y132 := by rw [he130, ← hy133]; exact RepL.app h_r_0 h121
          refine ops_appendO (x := (Go.Operand.tmp 60)) (y := (Go.Operand.tmp 61)) (t := 23) (e := 3) (d := some 62) (n' := l60.length) (z := 1) (m := ([0] : List Int).length) (bytes := 8) (xs' := y132) (news := ([vI 0])) (zv := vI 0) 3 ⟨by kernel_rfl⟩ rfl rfl Try.underlying23 (by kernel_rfl) (by rfl) rfl (fun w_ hM => hM.srcO 0 rfl) h121.len h121.one hb131 (by have z_ := congrArg List.length he130; rw [List.length_append] at z_; exact z_.symm) hy133 (fun _ _ _ _ hS h' => (by exact h'.sub (.cons _ (.cons _ (.cons _ (.cons _ (.cons _ (.cons_cons _ (.cons_cons _ (.refl _)))))))))) ?_
          rintro ⟨A135, c136⟩
          refine oQ [oT 14, oT 15] [(64, vP b_r 1), (62, sl A135 l60 c136), (56, sl A128 l49 c129), (50, vP b_r 0), (4, vI (r_1.length : Int)), (0, vP b_r 0), (2, vP b1 0)] (by kernel_rfl) ?_
          refine ops_store (an := []) (evs := [sr b_r 1 (sl A128 l49 c129)]) ⟨by kernel_rfl⟩ (fun w_ hM hS => let ⟨w', he, h'⟩ := hM.evs_stores [sl A128 l49 c129] 2 rfl 1 (Nat.le_of_ble_eq_true rfl); ⟨w', he, h', (by exact h'.sub (.cons _ (.cons _ (.cons _ (.cons _ (.cons _ (.cons_cons _ (.cons_cons _ (.refl _)))))))))⟩) ?_
          refine oQ [oT 17, oT 18] [(66, vP b_r 0), (62, sl A135 l60 c136), (4, vI (r_1.length : Int)), (0, vP b_r 0), (2, vP b1 0)] (by kernel_rfl) ?_
          refine ops_store (an := []) (evs := [sr b_r 0 (sl A135 l60 c136)]) ⟨by kernel_rfl⟩ (fun w_ hM hS => let ⟨w', he, h'⟩ := hM.evs_stores [sl A135 l60 c136] 2 rfl 0 (Nat.le_of_ble_eq_true rfl); ⟨w', he, h', (by exact h'.sub (.cons _ (.cons _ (.cons _ (.cons _ (.cons _ (.cons_cons _ (.cons_cons _ (.refl _)))))))))⟩) ?_
          refine ops_nil ?_
          exact fin_join HJ2 (A135, c136, l60, y132, A128, c129, l49, y125, (r_1.length : Int)) ⟨hp, h134, h127⟩ (look_has ⟨rfl, rfl, rfl, trivial⟩) (fun w_ hM => hM.pick 7 [2, 3, 4, 5, 6] (by kernel_rfl) (by decide) rfl)
         ·
          refine tree_leaf ?_
          refine ops_mem (d := some 60) (an := [.v (sl A_r_0 r_0 c_r_0)]) (evs := [ld b_r 0 (sl A_r_0 r_0 c_r_0)]) (v := sl A_r_0 r_0 c_r_0) ⟨by kernel_rfl⟩ (fun w_ hM hS => ⟨w_, ⟨hM.cell 2 rfl rfl, rfl⟩, hM, hS⟩) ?_
          obtain ⟨he137, hb138⟩ := app_some hv50
          obtain ⟨y139, hy140⟩ : ∃ y_, y_r_1 ++ ([.bool false]) = y_ := ⟨_, rfl⟩
          have h141 : RepL Rep.bool F W l49 y139 := by rw [he137, ← hy140]; exact RepL.app h_r_1 h62
          refine ops_appendO (x := (Go.Operand.tmp 54)) (y := (Go.Operand.tmp 55)) (t := 84) (e := 4) (d := some 56) (n' := l49.length) (z := 1) (m := ([false] : List Bool).length) (bytes := 1) (xs' := y139) (news := ([.bool false])) (zv := .bool false) 4 ⟨by kernel_rfl⟩ rfl rfl Try.underlying84 (by kernel_rfl) (by rfl) rfl (fun w_ hM => hM.srcO 1 rfl) h62.len h62.one hb138 (by have z_ := congrArg List.length he137; rw [List.length_append] at z_; exact z_.symm) hy140 (fun _ _ _ _ hS h' => (by exact h'.sub (.cons _ (.cons _ (.cons _ (.cons _ (.cons _ (.cons_cons _ (.cons_cons _ (.refl _)))))))))) ?_
          rintro ⟨A142, c143⟩
          obtain ⟨he144, hb145⟩ := app_some hv61
          obtain ⟨y146, hy147⟩ : ∃ y_, y_r_0 ++ ([vI 0]) = y_ := ⟨_, rfl⟩
          have h148 : RepL (Rep.int .i64) F W l60 y146 := by rw [he144, ← hy147]; exact RepL.app h_r_0 h121
          refine ops_appendO (x := (Go.Operand.tmp 60)) (y := (Go.Operand.tmp 61)) (t := 23) (e := 3) (d := some 62) (n' := l60.length) (z := 1) (m := ([0] : List Int).length) (bytes := 8) (xs' := y146) (news := ([vI 0])) (zv := vI 0) 3 ⟨by kernel_rfl⟩ rfl rfl Try.underlying23 (by kernel_rfl) (by rfl) rfl (fun w_ hM => hM.srcO 0 rfl) h121.len h121.one hb145 (by have z_ := congrArg List.length he144; rw [List.length_append] at z_; exact z_.symm) hy147 (fun _ _ _ _ hS h' => (by exact h'.sub (.cons _ (.cons _ (.cons _ (.cons _ (.cons _ (.cons_cons _ (.cons_cons _ (.refl _)))))))))) ?_
          rintro ⟨A149, c150⟩
          refine oQ [oT 14, oT 15] [(64, vP b_r 1), (62, sl A149 l60 c150), (56, sl A142 l49 c143), (50, vP b_r 0), (4, vI (r_1.length : Int)), (0, vP b_r 0), (2, vP b1 0)] (by kernel_rfl) ?_
          refine ops_store (an := []) (evs := [sr b_r 1 (sl A142 l49 c143)]) ⟨by kernel_rfl⟩ (fun w_ hM hS => let ⟨w', he, h'⟩ := hM.evs_stores [sl A142 l49 c143] 2 rfl 1 (Nat.le_of_ble_eq_true rfl); ⟨w', he, h', (by exact h'.sub (.cons _ (.cons _ (.cons _ (.cons _ (.cons _ (.cons_cons _ (.cons_cons _ (.refl _)))))))))⟩) ?_
          refine oQ [oT 17, oT 18] [(66, vP b_r 0), (62, sl A149 l60 c150), (4, vI (r_1.length : Int)), (0, vP b_r 0), (2, vP b1 0)] (by kernel_rfl) ?_
          refine ops_store (an := []) (evs := [sr b_r 0 (sl A149 l60 c150)]) ⟨by kernel_rfl⟩ (fun w_ hM hS => let ⟨w', he, h'⟩ := hM.evs_stores [sl A149 l60 c150] 2 rfl 0 (Nat.le_of_ble_eq_true rfl); ⟨w', he, h', (by exact h'.sub (.cons _ (.cons _ (.cons _ (.cons _ (.cons _ (.cons_cons _ (.cons_cons _ (.refl _)))))))))⟩) ?_
          refine ops_nil ?_
          exact fin_join HJ2 (A149, c150, l60, y146, A142, c143, l49, y139, (r_1.length : Int)) ⟨hp, h148, h141⟩ (look_has ⟨rfl, rfl, rfl, trivial⟩) (fun w_ hM => hM.pick 7 [2, 3, 4, 5, 6] (by kernel_rfl) (by decide) rfl)
      ·
       refine tree_ways ?_ ?_
       ·
        refine tree_node ?_
        refine ops_mem (d := some 60) (an := [.v (sl A_r_0 r_0 c_r_0)]) (evs := [ld b_r 0 (sl A_r_0 r_0 c_r_0)]) (v := sl A_r_0 r_0 c_r_0) ⟨by kernel_rfl⟩ (fun w_ hM hS => ⟨w_, ⟨hM.cell 0 rfl rfl, rfl⟩, hM, hS⟩) ?_
        refine ops_nil ?_
        refine tree_both ?_ ?_
        ·
         refine tree_node ?_
         have h151 : RepL Rep.bool F W ([false] : List Bool) ([.bool false]) := (RepL.cons (R := Rep.bool) (F := F) (w := W) (vs := [.bool false]) (ys := []) rfl RepL.nil)
         refine ops_new (d := some 55) (o := .cells ([.bool false] : List Value).toArray 4) (v := fun g152 => .slice (sa g152) ([false] : List Bool).length 1) (M' := fun g152 => Mem w0 (orow (sa g152) ([false] : List Bool).length 1 4 1 ([.bool false]) :: .blk b_r [sl A_r_0 r_0 c_r_0, sl A_r_1 r_1 c_r_1] 86 :: ow A_r_0 r_0 c_r_0 3 1 y_r_0 :: ow A_r_1 r_1 c_r_1 4 1 y_r_1 :: .blk b1 [vI 0, vI 0] 35 :: Fz F W :: cs)) (fun g152 => ⟨by kernel_rfl⟩) (fun w_ hM hS => ⟨hM.onew [.bool false] 4 1 1 rfl (by decide), hS.alloc _⟩) (fun g152 => ?_)
         refine ops_nil ?_
         refine tree_both ?_ ?_
         ·
          refine tree_leaf ?_
          obtain ⟨he153, hb154⟩ := app_some hv50
          obtain ⟨y155, hy156⟩ : ∃ y_, y_r_1 ++ ([.bool false]) = y_ := ⟨_, rfl⟩
          have h157 : RepL Rep.bool F W l49 y155 := by rw [he153, ← hy156]; exact RepL.app h_r_1 h151
          refine ops_appendO (x := (Go.Operand.tmp 54)) (y := (Go.Operand.tmp 55)) (t := 84) (e := 4) (d := some 56) (n' := l49.length) (z := 1) (m := ([false] : List Bool).length) (bytes := 1) (xs' := y155) (news := ([.bool false])) (zv := .bool false) 3 ⟨by kernel_rfl⟩ rfl rfl Try.underlying84 (by kernel_rfl) (by rfl) rfl (fun w_ hM => hM.srcO 0 rfl) h151.len h151.one hb154 (by have z_ := congrArg List.length he153; rw [List.length_append] at z_; exact z_.symm) hy156 (fun _ _ _ _ hS h' => (by exact h'.sub (.cons _ (.cons _ (.cons _ (.cons _ (.cons_cons _ (.cons_cons _ (.refl _))))))))) ?_
          rintro ⟨A158, c159⟩
          have h160 : RepL (Rep.int .i64) F W ([0] : List Int) ([vI 0]) := (RepL.cons (R := (Rep.int .i64)) (F := F) (w := W) (vs := [vI 0]) (ys := []) rfl RepL.nil)
          refine ops_new (d := some 61) (o := .cells ([vI 0] : List Value).toArray 3) (v := fun g161 => .slice (sa g161) ([0] : List Int).length 1) (M' := fun g161 => Mem w0 (orow (sa g161) ([0] : List Int).length 1 3 1 ([vI 0]) :: orow (sa g152) ([false] : List Bool).length 1 4 1 ([.bool false]) :: .blk b_r [sl A_r_0 r_0 c_r_0, sl A_r_1 r_1 c_r_1] 86 :: ow A_r_0 r_0 c_r_0 3 1 y_r_0 :: ow A158 l49 c159 4 1 y155 :: .blk b1 [vI 0, vI 0] 35 :: Fz F W :: cs)) (fun g161 => ⟨by kernel_rfl⟩) (fun w_ hM hS => ⟨hM.onew [vI 0] 3 1 1 rfl (by decide), hS.alloc _⟩) (fun g161 => ?_)
          obtain ⟨he162, hb163⟩ := app_some hv61
          obtain ⟨y164, hy165⟩ : ∃ y_, y_r_0 ++ ([vI 0]) = y_ := ⟨_, rfl⟩
          have h166 : RepL (Rep.int .i64) F W l60 y164 := by rw [he162, ← hy165]; exact RepL.app h_r_0 h160
          refine ops_appendO (x := (Go.Operand.tmp 60)) (y := (Go.Operand.tmp 61)) (t := 23) (e := 3) (d := some 62) (n' := l60.length) (z := 1) (m := ([0] : List Int).length) (bytes := 8) (xs' := y164) (news := ([vI 0])) (zv := vI 0) 3 ⟨by kernel_rfl⟩ rfl rfl Try.underlying23 (by kernel_rfl) (by rfl) rfl (fun w_ hM => hM.srcO 0 rfl) h160.len h160.one hb163 (by have z_ := congrArg List.length he162; rw [List.length_append] at z_; exact z_.symm) hy165 (fun _ _ _ _ hS h' => (by exact h'.sub (.cons _ (.cons _ (.cons _ (.cons _ (.cons _ (.cons_cons _ (.cons_cons _ (.refl _)))))))))) ?_
          rintro ⟨A167, c168⟩
          refine oQ [oT 14, oT 15] [(64, vP b_r 1), (62, sl A167 l60 c168), (56, sl A158 l49 c159), (50, vP b_r 0), (4, vI (r_1.length : Int)), (0, vP b_r 0), (2, vP b1 0)] (by kernel_rfl) ?_
          refine ops_store (an := []) (evs := [sr b_r 1 (sl A158 l49 c159)]) ⟨by kernel_rfl⟩ (fun w_ hM hS => let ⟨w', he, h'⟩ := hM.evs_stores [sl A158 l49 c159] 2 rfl 1 (Nat.le_of_ble_eq_true rfl); ⟨w', he, h', (by exact h'.sub (.cons _ (.cons _ (.cons _ (.cons _ (.cons _ (.cons_cons _ (.cons_cons _ (.refl _)))))))))⟩) ?_
          refine oQ [oT 17, oT 18] [(66, vP b_r 0), (62, sl A167 l60 c168), (4, vI (r_1.length : Int)), (0, vP b_r 0), (2, vP b1 0)] (by kernel_rfl) ?_
          refine ops_store (an := []) (evs := [sr b_r 0 (sl A167 l60 c168)]) ⟨by kernel_rfl⟩ (fun w_ hM hS => let ⟨w', he, h'⟩ := hM.evs_stores [sl A167 l60 c168] 2 rfl 0 (Nat.le_of_ble_eq_true rfl); ⟨w', he, h', (by exact h'.sub (.cons _ (.cons _ (.cons _ (.cons _ (.cons _ (.cons_cons _ (.cons_cons _ (.refl _)))))))))⟩) ?_
          refine ops_nil ?_
          exact fin_join HJ2 (A167, c168, l60, y164, A158, c159, l49, y155, (r_1.length : Int)) ⟨hp, h166, h157⟩ (look_has ⟨rfl, rfl, rfl, trivial⟩) (fun w_ hM => hM.pick 7 [2, 3, 4, 5, 6] (by kernel_rfl) (by decide) rfl)
         ·
          refine tree_leaf ?_
          have h169 : RepL (Rep.int .i64) F W ([0] : List Int) ([vI 0]) := (RepL.cons (R := (Rep.int .i64)) (F := F) (w := W) (vs := [vI 0]) (ys := []) rfl RepL.nil)
          refine ops_new (d := some 61) (o := .cells ([vI 0] : List Value).toArray 3) (v := fun g170 => .slice (sa g170) ([0] : List Int).length 1) (M' := fun g170 => Mem w0 (orow (sa g170) ([0] : List Int).length 1 3 1 ([vI 0]) :: orow (sa g152) ([false] : List Bool).length 1 4 1 ([.bool false]) :: .blk b_r [sl A_r_0 r_0 c_r_0, sl A_r_1 r_1 c_r_1] 86 :: ow A_r_0 r_0 c_r_0 3 1 y_r_0 :: ow A_r_1 r_1 c_r_1 4 1 y_r_1 :: .blk b1 [vI 0, vI 0] 35 :: Fz F W :: cs)) (fun g170 => ⟨by kernel_rfl⟩) (fun w_ hM hS => ⟨hM.onew [vI 0] 3 1 1 rfl (by decide), hS.alloc _⟩) (fun g170 => ?_)
          obtain ⟨he171, hb172⟩ := app_some hv50
          obtain ⟨y173, hy174⟩ : ∃ y_, y_r_1 ++ ([.bool false]) = y_ := ⟨_, rfl⟩
          have h175 : RepL Rep.bool F W l49 y173 := by rw [he171, ← hy174]; exact RepL.app h_r_1 h151
          refine ops_appendO (x := (Go.Operand.tmp 54)) (y := (Go.Operand.tmp 55)) (t := 84) (e := 4) (d := some 56) (n' := l49.length) (z := 1) (m := ([false] : List Bool).length) (bytes := 1) (xs' := y173) (news := ([.bool false])) (zv := .bool false) 4 ⟨by kernel_rfl⟩ rfl rfl Try.underlying84 (by kernel_rfl) (by rfl) rfl (fun w_ hM => hM.srcO 1 rfl) h151.len h151.one hb172 (by have z_ := congrArg List.length he171; rw [List.length_append] at z_; exact z_.symm) hy174 (fun _ _ _ _ hS h' => (by exact h'.sub (.cons _ (.cons _ (.cons _ (.cons _ (.cons _ (.cons_cons _ (.cons_cons _ (.refl _)))))))))) ?_
          rintro ⟨A176, c177⟩
          obtain ⟨he178, hb179⟩ := app_some hv61
          obtain ⟨y180, hy181⟩ : ∃ y_, y_r_0 ++ ([vI 0]) = y_ := ⟨_, rfl⟩
          have h182 : RepL (Rep.int .i64) F W l60 y180 := by rw [he178, ← hy181]; exact RepL.app h_r_0 h169
          refine ops_appendO (x := (Go.Operand.tmp 60)) (y := (Go.Operand.tmp 61)) (t := 23) (e := 3) (d := some 62) (n' := l60.length) (z := 1) (m := ([0] : List Int).length) (bytes := 8) (xs' := y180) (news := ([vI 0])) (zv := vI 0) 3 ⟨by kernel_rfl⟩ rfl rfl Try.underlying23 (by kernel_rfl) (by rfl) rfl (fun w_ hM => hM.srcO 0 rfl) h169.len h169.one hb179 (by have z_ := congrArg List.length he178; rw [List.length_append] at z_; exact z_.symm) hy181 (fun _ _ _ _ hS h' => (by exact h'.sub (.cons _ (.cons _ (.cons _ (.cons _ (.cons _ (.cons_cons _ (.cons_cons _ (.refl _)))))))))) ?_
          rintro ⟨A183, c184⟩
          refine oQ [oT 14, oT 15] [(64, vP b_r 1), (62, sl A183 l60 c184), (56, sl A176 l49 c177), (50, vP b_r 0), (4, vI (r_1.length : Int)), (0, vP b_r 0), (2, vP b1 0)] (by kernel_rfl) ?_
          refine ops_store (an := []) (evs := [sr b_r 1 (sl A176 l49 c177)]) ⟨by kernel_rfl⟩ (fun w_ hM hS => let ⟨w', he, h'⟩ := hM.evs_stores [sl A176 l49 c177] 2 rfl 1 (Nat.le_of_ble_eq_true rfl); ⟨w', he, h', (by exact h'.sub (.cons _ (.cons _ (.cons _ (.cons _ (.cons _ (.cons_cons _ (.cons_cons _ (.refl _)))))))))⟩) ?_
          refine oQ [oT 17, oT 18] [(66, vP b_r 0), (62, sl A183 l60 c184), (4, vI (r_1.length : Int)), (0, vP b_r 0), (2, vP b1 0)] (by kernel_rfl) ?_
          refine ops_store (an := []) (evs := [sr b_r 0 (sl A183 l60 c184)]) ⟨by kernel_rfl⟩ (fun w_ hM hS => let ⟨w', he, h'⟩ := hM.evs_stores [sl A183 l60 c184] 2 rfl 0 (Nat.le_of_ble_eq_true rfl); ⟨w', he, h', (by exact h'.sub (.cons _ (.cons _ (.cons _ (.cons _ (.cons _ (.cons_cons _ (.cons_cons _ (.refl _)))))))))⟩) ?_
          refine ops_nil ?_
          exact fin_join HJ2 (A183, c184, l60, y180, A176, c177, l49, y173, (r_1.length : Int)) ⟨hp, h182, h175⟩ (look_has ⟨rfl, rfl, rfl, trivial⟩) (fun w_ hM => hM.pick 7 [2, 3, 4, 5, 6] (by kernel_rfl) (by decide) rfl)
        ·
         refine tree_leaf ?_
         have h185 : RepL (Rep.int .i64) F W ([0] : List Int) ([vI 0]) := (RepL.cons (R := (Rep.int .i64)) (F := F) (w := W) (vs := [vI 0]) (ys := []) rfl RepL.nil)
         refine ops_new (d := some 61) (o := .cells ([vI 0] : List Value).toArray 3) (v := fun g186 => .slice (sa g186) ([0] : List Int).length 1) (M' := fun g186 => Mem w0 (orow (sa g186) ([0] : List Int).length 1 3 1 ([vI 0]) :: .blk b_r [sl A_r_0 r_0 c_r_0, sl A_r_1 r_1 c_r_1] 86 :: ow A_r_0 r_0 c_r_0 3 1 y_r_0 :: ow A_r_1 r_1 c_r_1 4 1 y_r_1 :: .blk b1 [vI 0, vI 0] 35 :: Fz F W :: cs)) (fun g186 => ⟨by kernel_rfl⟩) (fun w_ hM hS => ⟨hM.onew [vI 0] 3 1 1 rfl (by decide), hS.alloc _⟩) (fun g186 => ?_)
         have h187 : RepL Rep.bool F W ([false] : List Bool) ([.bool false]) := (RepL.cons (R := Rep.bool) (F := F) (w := W) (vs := [.bool false]) (ys := []) rfl RepL.nil)
         refine ops_new (d := some 55) (o := .cells ([.bool false] : List Value).toArray 4) (v := fun g188 => .slice (sa g188) ([false] : List Bool).length 1) (M' := fun g188 => Mem w0 (orow (sa g188) ([false] : List Bool).length 1 4 1 ([.bool false]) :: orow (sa g186) ([0] : List Int).length 1 3 1 ([vI 0]) :: .blk b_r [sl A_r_0 r_0 c_r_0, sl A_r_1 r_1 c_r_1] 86 :: ow A_r_0 r_0 c_r_0 3 1 y_r_0 :: ow A_r_1 r_1 c_r_1 4 1 y_r_1 :: .blk b1 [vI 0, vI 0] 35 :: Fz F W :: cs)) (fun g188 => ⟨by kernel_rfl⟩) (fun w_ hM hS => ⟨hM.onew [.bool false] 4 1 1 rfl (by decide), hS.alloc _⟩) (fun g188 => ?_)
         obtain ⟨he189, hb190⟩ := app_some hv50
         obtain ⟨y191, hy192⟩ : ∃ y_, y_r_1 ++ ([.bool false]) = y_ := ⟨_, rfl⟩
         have h193 : RepL Rep.bool F W l49 y191 := by rw [he189, ← hy192]; exact RepL.app h_r_1 h187
         refine ops_appendO (x := (Go.Operand.tmp 54)) (y := (Go.Operand.tmp 55)) (t := 84) (e := 4) (d := some 56) (n' := l49.length) (z := 1) (m := ([false] : List Bool).length) (bytes := 1) (xs' := y191) (news := ([.bool false])) (zv := .bool false) 4 ⟨by kernel_rfl⟩ rfl rfl Try.underlying84 (by kernel_rfl) (by rfl) rfl (fun w_ hM => hM.srcO 0 rfl) h187.len h187.one hb190 (by have z_ := congrArg List.length he189; rw [List.length_append] at z_; exact z_.symm) hy192 (fun _ _ _ _ hS h' => (by exact h'.sub (.cons _ (.cons _ (.cons _ (.cons _ (.cons _ (.cons_cons _ (.cons_cons _ (.refl _)))))))))) ?_
         rintro ⟨A194, c195⟩
         obtain ⟨he196, hb197⟩ := app_some hv61
         obtain ⟨y198, hy199⟩ : ∃ y_, y_r_0 ++ ([vI 0]) = y_ := ⟨_, rfl⟩
         have h200 : RepL (Rep.int .i64) F W l60 y198 := by rw [he196, ← hy199]; exact RepL.app h_r_0 h185
         refine ops_appendO (x := (Go.Operand.tmp 60)) (y := (Go.Operand.tmp 61)) (t := 23) (e := 3) (d := some 62) (n' := l60.length) (z := 1) (m := ([0] : List Int).length) (bytes := 8) (xs' := y198) (news := ([vI 0])) (zv := vI 0) 3 ⟨by kernel_rfl⟩ rfl rfl Try.underlying23 (by kernel_rfl) (by rfl) rfl (fun w_ hM => hM.srcO 1 rfl) h185.len h185.one hb197 (by have z_ := congrArg List.length he196; rw [List.length_append] at z_; exact z_.symm) hy199 (fun _ _ _ _ hS h' => (by exact h'.sub (.cons _ (.cons _ (.cons _ (.cons _ (.cons _ (.cons_cons _ (.cons_cons _ (.refl _)))))))))) ?_
         rintro ⟨A201, c202⟩
         refine oQ [oT 14, oT 15] [(64, vP b_r 1), (62, sl A201 l60 c202), (56, sl A194 l49 c195), (50, vP b_r 0), (4, vI (r_1.length : Int)), (0, vP b_r 0), (2, vP b1 0)] (by kernel_rfl) ?_
         refine ops_store (an := []) (evs := [sr b_r 1 (sl A194 l49 c195)]) ⟨by kernel_rfl⟩ (fun w_ hM hS => let ⟨w', he, h'⟩ := hM.evs_stores [sl A194 l49 c195] 2 rfl 1 (Nat.le_of_ble_eq_true rfl); ⟨w', he, h', (by exact h'.sub (.cons _ (.cons _ (.cons _ (.cons _ (.cons _ (.cons_cons _ (.cons_cons _ (.refl _)))))))))⟩) ?_
         refine oQ [oT 17, oT 18] [(66, vP b_r 0), (62, sl A201 l60 c202), (4, vI (r_1.length : Int)), (0, vP b_r 0), (2, vP b1 0)] (by kernel_rfl) ?_
         refine ops_store (an := []) (evs := [sr b_r 0 (sl A201 l60 c202)]) ⟨by kernel_rfl⟩ (fun w_ hM hS => let ⟨w', he, h'⟩ := hM.evs_stores [sl A201 l60 c202] 2 rfl 0 (Nat.le_of_ble_eq_true rfl); ⟨w', he, h', (by exact h'.sub (.cons _ (.cons _ (.cons _ (.cons _ (.cons _ (.cons_cons _ (.cons_cons _ (.refl _)))))))))⟩) ?_
         refine ops_nil ?_
         exact fin_join HJ2 (A201, c202, l60, y198, A194, c195, l49, y191, (r_1.length : Int)) ⟨hp, h200, h193⟩ (look_has ⟨rfl, rfl, rfl, trivial⟩) (fun w_ hM => hM.pick 7 [2, 3, 4, 5, 6] (by kernel_rfl) (by decide) rfl)
       ·
        refine tree_node ?_
        have h203 : RepL (Rep.int .i64) F W ([0] : List Int) ([vI 0]) := (RepL.cons (R := (Rep.int .i64)) (F := F) (w := W) (vs := [vI 0]) (ys := []) rfl RepL.nil)
        refine ops_new (d := some 61) (o := .cells ([vI 0] : List Value).toArray 3) (v := fun g204 => .slice (sa g204) ([0] : List Int).length 1) (M' := fun g204 => Mem w0 (orow (sa g204) ([0] : List Int).length 1 3 1 ([vI 0]) :: .blk b_r [sl A_r_0 r_0 c_r_0, sl A_r_1 r_1 c_r_1] 86 :: ow A_r_0 r_0 c_r_0 3 1 y_r_0 :: ow A_r_1 r_1 c_r_1 4 1 y_r_1 :: .blk b1 [vI 0, vI 0] 35 :: Fz F W :: cs)) (fun g204 => ⟨by kernel_rfl⟩) (fun w_ hM hS => ⟨hM.onew [vI 0] 3 1 1 rfl (by decide), hS.alloc _⟩) (fun g204 => ?_)
        refine ops_nil ?_
        refine tree_both ?_ ?_
        ·
         refine tree_node ?_
         have h205 : RepL Rep.bool F W ([false] : List Bool) ([.bool false]) := (RepL.cons (R := Rep.bool) (F := F) (w := W) (vs := [.bool false]) (ys := []) rfl RepL.nil)
         refine ops_new (d := some 55) (o := .cells ([.bool false] : List Value).toArray 4) (v := fun g206 => .slice (sa g206) ([false] : List Bool).length 1) (M' := fun g206 => Mem w0 (orow (sa g206) ([false] : List Bool).length 1 4 1 ([.bool false]) :: orow (sa g204) ([0] : List Int).length 1 3 1 ([vI 0]) :: .blk b_r [sl A_r_0 r_0 c_r_0, sl A_r_1 r_1 c_r_1] 86 :: ow A_r_0 r_0 c_r_0 3 1 y_r_0 :: ow A_r_1 r_1 c_r_1 4 1 y_r_1 :: .blk b1 [vI 0, vI 0] 35 :: Fz F W :: cs)) (fun g206 => ⟨by kernel_rfl⟩) (fun w_ hM hS => ⟨hM.onew [.bool false] 4 1 1 rfl (by decide), hS.alloc _⟩) (fun g206 => ?_)
         refine ops_nil ?_
         refine tree_both ?_ ?_
         ·
          refine tree_leaf ?_
          obtain ⟨he207, hb208⟩ := app_some hv50
          obtain ⟨y209, hy210⟩ : ∃ y_, y_r_1 ++ ([.bool false]) = y_ := ⟨_, rfl⟩
          have h211 : RepL Rep.bool F W l49 y209 := by rw [he207, ← hy210]; exact RepL.app h_r_1 h205
          refine ops_appendO (x := (Go.Operand.tmp 54)) (y := (Go.Operand.tmp 55)) (t := 84) (e := 4) (d := some 56) (n' := l49.length) (z := 1) (m := ([false] : List Bool).length) (bytes := 1) (xs' := y209) (news := ([.bool false])) (zv := .bool false) 4 ⟨by kernel_rfl⟩ rfl rfl Try.underlying84 (by kernel_rfl) (by rfl) rfl (fun w_ hM => hM.srcO 0 rfl) h205.len h205.one hb208 (by have z_ := congrArg List.length he207; rw [List.length_append] at z_; exact z_.symm) hy210 (fun _ _ _ _ hS h' => (by exact h'.sub (.cons _ (.cons _ (.cons _ (.cons _ (.cons _ (.cons_cons _ (.cons_cons _ (.refl _)))))))))) ?_
          rintro ⟨A212, c213⟩
          refine ops_mem (d := some 60) (an := [.v (sl A_r_0 r_0 c_r_0)]) (evs := [ld b_r 0 (sl A_r_0 r_0 c_r_0)]) (v := sl A_r_0 r_0 c_r_0) ⟨by kernel_rfl⟩ (fun w_ hM hS => ⟨w_, ⟨hM.cell 2 rfl rfl, rfl⟩, hM, hS⟩) ?_
          obtain ⟨he214, hb215⟩ := app_some hv61
          obtain ⟨y216, hy217⟩ : ∃ y_, y_r_0 ++ ([vI 0]) = y_ := ⟨_, rfl⟩
          have h218 : RepL (Rep.int .i64) F W l60 y216 := by rw [he214, ← hy217]; exact RepL.app h_r_0 h203
          refine ops_appendO (x := (Go.Operand.tmp 60)) (y := (Go.Operand.tmp 61)) (t := 23) (e := 3) (d := some 62) (n' := l60.length) (z := 1) (m := ([0] : List Int).length) (bytes := 8) (xs' := y216) (news := ([vI 0])) (zv := vI 0) 3 ⟨by kernel_rfl⟩ rfl rfl Try.underlying23 (by kernel_rfl) (by rfl) rfl (fun w_ hM => hM.srcO 1 rfl) h203.len h203.one hb215 (by have z_ := congrArg List.length he214; rw [List.length_append] at z_; exact z_.symm) hy217 (fun _ _ _ _ hS h' => (by exact h'.sub (.cons _ (.cons _ (.cons _ (.cons _ (.cons _ (.cons_cons _ (.cons_cons _ (.refl _)))))))))) ?_
          rintro ⟨A219, c220⟩
          refine oQ [oT 14, oT 15] [(64, vP b_r 1), (62, sl A219 l60 c220), (56, sl A212 l49 c213), (50, vP b_r 0), (4, vI (r_1.length : Int)), (0, vP b_r 0), (2, vP b1 0)] (by kernel_rfl) ?_
          refine ops_store (an := []) (evs := [sr b_r 1 (sl A212 l49 c213)]) ⟨by kernel_rfl⟩ (fun w_ hM hS => let ⟨w', he, h'⟩ := hM.evs_stores [sl A212 l49 c213] 2 rfl 1 (Nat.le_of_ble_eq_true rfl); ⟨w', he, h', (by exact h'.sub (.cons _ (.cons _ (.cons _ (.cons _ (.cons _ (.cons_cons _ (.cons_cons _ (.refl _)))))))))⟩) ?_
          refine oQ [oT 17, oT 18] [(66, vP b_r 0), (62, sl A219 l60 c220), (4, vI (r_1.length : Int)), (0, vP b_r 0), (2, vP b1 0)] (by kernel_rfl) ?_
          refine ops_store (an := []) (evs := [sr b_r 0 (sl A219 l60 c220)]) ⟨by kernel_rfl⟩ (fun w_ hM hS => let ⟨w', he, h'⟩ := hM.evs_stores [sl A219 l60 c220] 2 rfl 0 (Nat.le_of_ble_eq_true rfl); ⟨w', he, h', (by exact h'.sub (.cons _ (.cons _ (.cons _ (.cons _ (.cons _ (.cons_cons _ (.cons_cons _ (.refl _)))))))))⟩) ?_
          refine ops_nil ?_
          exact fin_join HJ2 (A219, c220, l60, y216, A212, c213, l49, y209, (r_1.length : Int)) ⟨hp, h218, h211⟩ (look_has ⟨rfl, rfl, rfl, trivial⟩) (fun w_ hM => hM.pick 7 [2, 3, 4, 5, 6] (by kernel_rfl) (by decide) rfl)
         ·
          refine tree_leaf ?_
          refine ops_mem (d := some 60) (an := [.v (sl A_r_0 r_0 c_r_0)]) (evs := [ld b_r 0 (sl A_r_0 r_0 c_r_0)]) (v := sl A_r_0 r_0 c_r_0) ⟨by kernel_rfl⟩ (fun w_ hM hS => ⟨w_, ⟨hM.cell 2 rfl rfl, rfl⟩, hM, hS⟩) ?_
          obtain ⟨he221, hb222⟩ := app_some hv50
          obtain ⟨y223, hy224⟩ : ∃ y_, y_r_1 ++ ([.bool false]) = y_ := ⟨_, rfl⟩
          have h225 : RepL Rep.bool F W l49 y223 := by rw [he221, ← hy224]; exact RepL.app h_r_1 h205
          refine ops_appendO (x := (Go.Operand.tmp 54)) (y := (Go.Operand.tmp 55)) (t := 84) (e := 4) (d := some 56) (n' := l49.length) (z := 1) (m := ([false] : List Bool).length) (bytes := 1) (xs' := y223) (news := ([.bool false])) (zv := .bool false) 4 ⟨by kernel_rfl⟩ rfl rfl Try.underlying84 (by kernel_rfl) (by rfl) rfl (fun w_ hM => hM.srcO 0 rfl) h205.len h205.one hb222 (by have z_ := congrArg List.length he221; rw [List.length_append] at z_; exact z_.symm) hy224 (fun _ _ _ _ hS h' => (by exact h'.sub (.cons _ (.cons _ (.cons _ (.cons _ (.cons _ (.cons_cons _ (.cons_cons _ (.refl _)))))))))) ?_
          rintro ⟨A226, c227⟩
          obtain ⟨he228, hb229⟩ := app_some hv61
          obtain ⟨y230, hy231⟩ : ∃ y_, y_r_0 ++ ([vI 0]) = y_ := ⟨_, rfl⟩
          have h232 : RepL (Rep.int .i64) F W l60 y230 := by rw [he228, ← hy231]; exact RepL.app h_r_0 h203
          refine ops_appendO (x := (Go.Operand.tmp 60)) (y := (Go.Operand.tmp 61)) (t := 23) (e := 3) (d := some 62) (n' := l60.length) (z := 1) (m := ([0] : List Int).length) (bytes := 8) (xs' := y230) (news := ([vI 0])) (zv := vI 0) 3 ⟨by kernel_rfl⟩ rfl rfl Try.underlying23 (by kernel_rfl) (by rfl) rfl (fun w_ hM => hM.srcO 1 rfl) h203.len h203.one hb229 (by have z_ := congrArg List.length he228; rw [List.length_append] at z_; exact z_.symm) hy231 (fun _ _ _ _ hS h' => (by exact h'.sub (.cons _ (.cons _ (.cons _ (.cons _ (.cons _ (.cons_cons _ (.cons_cons _ (.refl _)))))))))) ?_
          rintro ⟨A233, c234⟩
          refine oQ [oT 14, oT 15] [(64, vP b_r 1), (62, sl A233 l60 c234), (56, sl A226 l49 c227), (50, vP b_r 0), (4, vI (r_1.length : Int)), (0, vP b_r 0), (2, vP b1 0)] (by kernel_rfl) ?_
          refine ops_store (an := []) (evs := [sr b_r 1 (sl A226 l49 c227)]) ⟨by kernel_rfl⟩ (fun w_ hM hS => let ⟨w', he, h'⟩ := hM.evs_stores [sl A226 l49 c227] 2 rfl 1 (Nat.le_of_ble_eq_true rfl); ⟨w', he, h', (by exact h'.sub (.cons _ (.cons _ (.cons _ (.cons _ (.cons _ (.cons_cons _ (.cons_cons _ (.refl _)))))))))⟩) ?_
          refine oQ [oT 17, oT 18] [(66, vP b_r 0), (62, sl A233 l60 c234), (4, vI (r_1.length : Int)), (0, vP b_r 0), (2, vP b1 0)] (by kernel_rfl) ?_
          refine ops_store (an := []) (evs := [sr b_r 0 (sl A233 l60 c234)]) ⟨by kernel_rfl⟩ (fun w_ hM hS => let ⟨w', he, h'⟩ := hM.evs_stores [sl A233 l60 c234] 2 rfl 0 (Nat.le_of_ble_eq_true rfl); ⟨w', he, h', (by exact h'.sub (.cons _ (.cons _ (.cons _ (.cons _ (.cons _ (.cons_cons _ (.cons_cons _ (.refl _)))))))))⟩) ?_
          refine ops_nil ?_
          exact fin_join HJ2 (A233, c234, l60, y230, A226, c227, l49, y223, (r_1.length : Int)) ⟨hp, h232, h225⟩ (look_has ⟨rfl, rfl, rfl, trivial⟩) (fun w_ hM => hM.pick 7 [2, 3, 4, 5, 6] (by kernel_rfl) (by decide) rfl)
        ·
         refine tree_leaf ?_
         refine ops_mem (d := some 60) (an := [.v (sl A_r_0 r_0 c_r_0)]) (evs := [ld b_r 0 (sl A_r_0 r_0 c_r_0)]) (v := sl A_r_0 r_0 c_r_0) ⟨by kernel_rfl⟩ (fun w_ hM hS => ⟨w_, ⟨hM.cell 1 rfl rfl, rfl⟩, hM, hS⟩) ?_
         have h235 : RepL Rep.bool F W ([false] : List Bool) ([.bool false]) := (RepL.cons (R := Rep.bool) (F := F) (w := W) (vs := [.bool false]) (ys := []) rfl RepL.nil)
         refine ops_new (d := some 55) (o := .cells ([.bool false] : List Value).toArray 4) (v := fun g236 => .slice (sa g236) ([false] : List Bool).length 1) (M' := fun g236 => Mem w0 (orow (sa g236) ([false] : List Bool).length 1 4 1 ([.bool false]) :: orow (sa g204) ([0] : List Int).length 1 3 1 ([vI 0]) :: .blk b_r [sl A_r_0 r_0 c_r_0, sl A_r_1 r_1 c_r_1] 86 :: ow A_r_0 r_0 c_r_0 3 1 y_r_0 :: ow A_r_1 r_1 c_r_1 4 1 y_r_1 :: .blk b1 [vI 0, vI 0] 35 :: Fz F W :: cs)) (fun g236 => ⟨by kernel_rfl⟩) (fun w_ hM hS => ⟨hM.onew [.bool false] 4 1 1 rfl (by decide), hS.alloc _⟩) (fun g236 => ?_)
         obtain ⟨he237, hb238⟩ := app_some hv50
         obtain ⟨y239, hy240⟩ : ∃ y_, y_r_1 ++ ([.bool false]) = y_ := ⟨_, rfl⟩
         have h241 : RepL Rep.bool F W l49 y239 := by rw [he237, ← hy240]; exact RepL.app h_r_1 h235
         refine ops_appendO (x := (Go.Operand.tmp 54)) (y := (Go.Operand.tmp 55)) (t := 84) (e := 4) (d := some 56) (n' := l49.length) (z := 1) (m := ([false] : List Bool).length) (bytes := 1) (xs' := y239) (news := ([.bool false])) (zv := .bool false) 4 ⟨by kernel_rfl⟩ rfl rfl Try.underlying84 (by kernel_rfl) (by rfl) rfl (fun w_ hM => hM.srcO 0 rfl) h235.len h235.one hb238 (by have z_ := congrArg List.length he237; rw [List.length_append] at z_; exact z_.symm) hy240 (fun _ _ _ _ hS h' => (by exact h'.sub (.cons _ (.cons _ (.cons _ (.cons _ (.cons _ (.cons_cons _ (.cons_cons _ (.refl _)))))))))) ?_
         rintro ⟨A242, c243⟩
         obtain ⟨he244, hb245⟩ := app_some hv61
         obtain ⟨y246, hy247⟩ : ∃ y_, y_r_0 ++ ([vI 0]) = y_ := ⟨_, rfl⟩
         have h248 : RepL (Rep.int .i64) F W l60 y246 := by rw [he244, ← hy247]; exact RepL.app h_r_0 h203
         refine ops_appendO (x := (Go.Operand.tmp 60)) (y := (Go.Operand.tmp 61)) (t := 23) (e := 3) (d := some 62) (n' := l60.length) (z := 1) (m := ([0] : List Int).length) (bytes := 8) (xs' := y246) (news := ([vI 0])) (zv := vI 0) 3 ⟨by kernel_rfl⟩ rfl rfl Try.underlying23 (by kernel_rfl) (by rfl) rfl (fun w_ hM => hM.srcO 1 rfl) h203.len h203.one hb245 (by have z_ := congrArg List.length he244; rw [List.length_append] at z_; exact z_.symm) hy247 (fun _ _ _ _ hS h' => (by exact h'.sub (.cons _ (.cons _ (.cons _ (.cons _ (.cons _ (.cons_cons _ (.cons_cons _ (.refl _)))))))))) ?_
         rintro ⟨A249, c250⟩
         refine oQ [oT 14, oT 15] [(64, vP b_r 1), (62, sl A249 l60 c250), (56, sl A242 l49 c243), (50, vP b_r 0), (4, vI (r_1.length : Int)), (0, vP b_r 0), (2, vP b1 0)] (by kernel_rfl) ?_
         refine ops_store (an := []) (evs := [sr b_r 1 (sl A242 l49 c243)]) ⟨by kernel_rfl⟩ (fun w_ hM hS => let ⟨w', he, h'⟩ := hM.evs_stores [sl A242 l49 c243] 2 rfl 1 (Nat.le_of_ble_eq_true rfl); ⟨w', he, h', (by exact h'.sub (.cons _ (.cons _ (.cons _ (.cons _ (.cons _ (.cons_cons _ (.cons_cons _ (.refl _)))))))))⟩) ?_
         refine oQ [oT 17, oT 18] [(66, vP b_r 0), (62, sl A249 l60 c250), (4, vI (r_1.length : Int)), (0, vP b_r 0), (2, vP b1 0)] (by kernel_rfl) ?_
         refine ops_store (an := []) (evs := [sr b_r 0 (sl A249 l60 c250)]) ⟨by kernel_rfl⟩ (fun w_ hM hS => let ⟨w', he, h'⟩ := hM.evs_stores [sl A249 l60 c250] 2 rfl 0 (Nat.le_of_ble_eq_true rfl); ⟨w', he, h', (by exact h'.sub (.cons _ (.cons _ (.cons _ (.cons _ (.cons _ (.cons_cons _ (.cons_cons _ (.refl _)))))))))⟩) ?_
         refine ops_nil ?_
         exact fin_join HJ2 (A249, c250, l60, y246, A242, c243, l49, y239, (r_1.length : Int)) ⟨hp, h248, h241⟩ (look_has ⟨rfl, rfl, rfl, trivial⟩) (fun w_ hM => hM.pick 7 [2, 3, 4, 5, 6] (by kernel_rfl) (by decide) rfl)
     ·
      refine tree_ways ?_ ?_
      ·
       refine tree_node ?_
       have h251 : RepL Rep.bool F W ([false] : List Bool) ([.bool false]) := (RepL.cons (R := Rep.bool) (F := F) (w := W) (vs := [.bool false]) (ys := []) rfl RepL.nil)
       refine ops_new (d := some 55) (o := .cells ([.bool false] : List Value).toArray 4) (v := fun g252 => .slice (sa g252) ([false] : List Bool).length 1) (M' := fun g252 => Mem w0 (orow (sa g252) ([false] : List Bool).length 1 4 1 ([.bool false]) :: .blk b_r [sl A_r_0 r_0 c_r_0, sl A_r_1 r_1 c_r_1] 86 :: ow A_r_0 r_0 c_r_0 3 1 y_r_0 :: ow A_r_1 r_1 c_r_1 4 1 y_r_1 :: .blk b1 [vI 0, vI 0] 35 :: Fz F W :: cs)) (fun g252 => ⟨by kernel_rfl⟩) (fun w_ hM hS => ⟨hM.onew [.bool false] 4 1 1 rfl (by decide), hS.alloc _⟩) (fun g252 => ?_)
       refine ops_nil ?_
       refine tree_both ?_ ?_
       ·
        refine tree_node ?_
        refine ops_mem (d := some 54) (an := [.v (sl A_r_1 r_1 c_r_1)]) (evs := [ld b_r 1 (sl A_r_1 r_1 c_r_1)]) (v := sl A_r_1 r_1 c_r_1) ⟨by kernel_rfl⟩ (fun w_ hM hS => ⟨w_, ⟨hM.cell 1 rfl rfl, rfl⟩, hM, hS⟩) ?_
        refine ops_nil ?_
        refine tree_both ?_ ?_
        ·
         refine tree_node ?_
         obtain ⟨he253, hb254⟩ := app_some hv50
         obtain ⟨y255, hy256⟩ : ∃ y_, y_r_1 ++ ([.bool false]) = y_ := ⟨_, rfl⟩
         have h257 : RepL Rep.bool F W l49 y255 := by rw [he253, ← hy256]; exact RepL.app h_r_1 h251
         refine ops_appendO (x := (Go.Operand.tmp 54)) (y := (Go.Operand.tmp 55)) (t := 84) (e := 4) (d := some 56) (n' := l49.length) (z := 1) (m := ([false] : List Bool).length) (bytes := 1) (xs' := y255) (news := ([.bool false])) (zv := .bool false) 3 ⟨by kernel_rfl⟩ rfl rfl Try.underlying84 (by kernel_rfl) (by rfl) rfl (fun w_ hM => hM.srcO 0 rfl) h251.len h251.one hb254 (by have z_ := congrArg List.length he253; rw [List.length_append] at z_; exact z_.symm) hy256 (fun _ _ _ _ hS h' => (by exact h'.sub (.cons _ (.cons _ (.cons _ (.cons _ (.cons_cons _ (.cons_cons _ (.refl _))))))))) ?_
         rintro ⟨A258, c259⟩
         refine ops_nil ?_
         refine tree_both ?_ ?_
         ·
          refine tree_leaf ?_
          refine ops_mem (d := some 60) (an := [.v (sl A_r_0 r_0 c_r_0)]) (evs := [ld b_r 0 (sl A_r_0 r_0 c_r_0)]) (v := sl A_r_0 r_0 c_r_0) ⟨by kernel_rfl⟩ (fun w_ hM hS => ⟨w_, ⟨hM.cell 1 rfl rfl, rfl⟩, hM, hS⟩) ?_
          have h260 : RepL (Rep.int .i64) F W ([0] : List Int) ([vI 0]) := (RepL.cons (R := (Rep.int .i64)) (F := F) (w := W) (vs := [vI 0]) (ys := []) rfl RepL.nil)
          refine ops_new (d := some 61) (o := .cells ([vI 0] : List Value).toArray 3) (v := fun g261 => .slice (sa g261) ([0] : List Int).length 1) (M' := fun g261 => Mem w0 (orow (sa g261) ([0] : List Int).length 1 3 1 ([vI 0]) :: orow (sa g252) ([false] : List Bool).length 1 4 1 ([.bool false]) :: .blk b_r [sl A_r_0 r_0 c_r_0, sl A_r_1 r_1 c_r_1] 86 :: ow A_r_0 r_0 c_r_0 3 1 y_r_0 :: ow A258 l49 c259 4 1 y255 :: .blk b1 [vI 0, vI 0] 35 :: Fz F W :: cs)) (fun g261 => ⟨by kernel_rfl⟩) (fun w_ hM hS => ⟨hM.onew [vI 0] 3 1 1 rfl (by decide), hS.alloc _⟩) (fun g261 => ?_)
          obtain ⟨he262, hb263⟩ := app_some hv61
          obtain ⟨y264, hy265⟩ : ∃ y_, y_r_0 ++ ([vI 0]) = y_ := ⟨_, rfl⟩
          have h266 : RepL (Rep.int .i64) F W l60 y264 := by rw [he262, ← hy265]; exact RepL.app h_r_0 h260
          refine ops_appendO (x := (Go.Operand.tmp 60)) (y := (Go.Operand.tmp 61)) (t := 23) (e := 3) (d := some 62) (n' := l60.length) (z := 1) (m := ([0] : List Int).length) (bytes := 8) (xs' := y264) (news := ([vI 0])) (zv := vI 0) 3 ⟨by kernel_rfl⟩ rfl rfl Try.underlying23 (by kernel_rfl) (by rfl) rfl (fun w_ hM => hM.srcO 0 rfl) h260.len h260.one hb263 (by have z_ := congrArg List.length he262; rw [List.length_append] at z_; exact z_.symm) hy265 (fun _ _ _ _ hS h' => (by exact h'.sub (.cons _ (.cons _ (.cons _ (.cons _ (.cons _ (.cons_cons _ (.cons_cons _ (.refl _)))))))))) ?_
          rintro ⟨A267, c268⟩
          refine oQ [oT 14, oT 15] [(64, vP b_r 1), (62, sl A267 l60 c268), (56, sl A258 l49 c259), (50, vP b_r 0), (4, vI (r_1.length : Int)), (0, vP b_r 0), (2, vP b1 0)] (by kernel_rfl) ?_
          refine ops_store (an := []) (evs := [sr b_r 1 (sl A258 l49 c259)]) ⟨by kernel_rfl⟩ (fun w_ hM hS => let ⟨w', he, h'⟩ := hM.evs_stores [sl A258 l49 c259] 2 rfl 1 (Nat.le_of_ble_eq_true rfl); ⟨w', he, h', (by exact h'.sub (.cons _ (.cons _ (.cons _ (.cons _ (.cons _ (.cons_cons _ (.cons_cons _ (.refl _)))))))))⟩) ?_
          refine oQ [oT 17, oT 18] [(66, vP b_r 0), (62, sl A267 l60 c268), (4, vI (r_1.length : Int)), (0, vP b_r 0), (2, vP b1 0)] (by kernel_rfl) ?_
          refine ops_store (an := []) (evs := [sr b_r 0 (sl A267 l60 c268)]) ⟨by kernel_rfl⟩ (fun w_ hM hS => let ⟨w', he, h'⟩ := hM.evs_stores [sl A267 l60 c268] 2 rfl 0 (Nat.le_of_ble_eq_true rfl); ⟨w', he, h', (by exact h'.sub (.cons _ (.cons _ (.cons _ (.cons _ (.cons _ (.cons_cons _ (.cons_cons _ (.refl _)))))))))⟩) ?_
          refine ops_nil ?_
          exact fin_join HJ2 (A267, c268, l60, y264, A258, c259, l49, y255, (r_1.length : Int)) ⟨hp, h266, h257⟩ (look_has ⟨rfl, rfl, rfl, trivial⟩) (fun w_ hM => hM.pick 7 [2, 3, 4, 5, 6] (by kernel_rfl) (by decide) rfl)
         ·
          refine tree_leaf ?_
          have h269 : RepL (Rep.int .i64) F W ([0] : List Int) ([vI 0]) := (RepL.cons (R := (Rep.int .i64)) (F := F) (w := W) (vs := [vI 0]) (ys := []) rfl RepL.nil)
          refine ops_new (d := some 61) (o := .cells ([vI 0] : List Value).toArray 3) (v := fun g270 => .slice (sa g270) ([0] : List Int).length 1) (M' := fun g270 => Mem w0 (orow (sa g270) ([0] : List Int).length 1 3 1 ([vI 0]) :: orow (sa g252) ([false] : List Bool).length 1 4 1 ([.bool false]) :: .blk b_r [sl A_r_0 r_0 c_r_0, sl A_r_1 r_1 c_r_1] 86 :: ow A_r_0 r_0 c_r_0 3 1 y_r_0 :: ow A258 l49 c259 4 1 y255 :: .blk b1 [vI 0, vI 0] 35 :: Fz F W :: cs)) (fun g270 => ⟨by kernel_rfl⟩) (fun w_ hM hS => ⟨hM.onew [vI 0] 3 1 1 rfl (by decide), hS.alloc _⟩) (fun g270 => ?_)
          refine ops_mem (d := some 60) (an := [.v (sl A_r_0 r_0 c_r_0)]) (evs := [ld b_r 0 (sl A_r_0 r_0 c_r_0)]) (v := sl A_r_0 r_0 c_r_0) ⟨by kernel_rfl⟩ (fun w_ hM hS => ⟨w_, ⟨hM.cell 2 rfl rfl, rfl⟩, hM, hS⟩) ?_
          obtain ⟨he271, hb272⟩ := app_some hv61
          obtain ⟨y273, hy274⟩ : ∃ y_, y_r_0 ++ ([vI 0]) = y_ := ⟨_, rfl⟩
          have h275 : RepL (Rep.int .i64) F W l60 y273 := by rw [he271, ← hy274]; exact RepL.app h_r_0 h269
          refine ops_appendO (x := (Go.Operand.tmp 60)) (y := (Go.Operand.tmp 61)) (t := 23) (e := 3) (d := some 62) (n' := l60.length) (z := 1) (m := ([0] : List Int).length) (bytes := 8) (xs' := y273) (news := ([vI 0])) (zv := vI 0) 3 ⟨by kernel_rfl⟩ rfl rfl Try.underlying23 (by kernel_rfl) (by rfl) rfl (fun w_ hM => hM.srcO 0 rfl) h269.len h269.one hb272 (by have z_ := congrArg List.length he271; rw [List.length_append] at z_; exact z_.symm) hy274 (fun _ _ _ _ hS h' => (by exact h'.sub (.cons _ (.cons _ (.cons _ (.cons _ (.cons _ (.cons_cons _ (.cons_cons _ (.refl _)))))))))) ?_
          rintro ⟨A276, c277⟩
          refine oQ [oT 14, oT 15] [(64, vP b_r 1), (62, sl A276 l60 c277), (56, sl A258 l49 c259), (50, vP b_r 0), (4, vI (r_1.length : Int)), (0, vP b_r 0), (2, vP b1 0)] (by kernel_rfl) ?_
          refine ops_store (an := []) (evs := [sr b_r 1 (sl A258 l49 c259)]) ⟨by kernel_rfl⟩ (fun w_ hM hS => let ⟨w', he, h'⟩ := hM.evs_stores [sl A258 l49 c259] 2 rfl 1 (Nat.le_of_ble_eq_true rfl); ⟨w', he, h', (by exact h'.sub (.cons _ (.cons _ (.cons _ (.cons _ (.cons _ (.cons_cons _ (.cons_cons _ (.refl _)))))))))⟩) ?_
          refine oQ [oT 17, oT 18] [(66, vP b_r 0), (62, sl A276 l60 c277), (4, vI (r_1.length : Int)), (0, vP b_r 0), (2, vP b1 0)] (by kernel_rfl) ?_
          refine ops_store (an := []) (evs := [sr b_r 0 (sl A276 l60 c277)]) ⟨by kernel_rfl⟩ (fun w_ hM hS => let ⟨w', he, h'⟩ := hM.evs_stores [sl A276 l60 c277] 2 rfl 0 (Nat.le_of_ble_eq_true rfl); ⟨w', he, h', (by exact h'.sub (.cons _ (.cons _ (.cons _ (.cons _ (.cons _ (.cons_cons _ (.cons_cons _ (.refl _)))))))))⟩) ?_
          refine ops_nil ?_
          exact fin_join HJ2 (A276, c277, l60, y273, A258, c259, l49, y255, (r_1.length : Int)) ⟨hp, h275, h257⟩ (look_has ⟨rfl, rfl, rfl, trivial⟩) (fun w_ hM => hM.pick 7 [2, 3, 4, 5, 6] (by kernel_rfl) (by decide) rfl)
        ·
         refine tree_ways ?_ ?_
         ·
          refine tree_node ?_
          refine ops_mem (d := some 60) (an := [.v (sl A_r_0 r_0 c_r_0)]) (evs := [ld b_r 0 (sl A_r_0 r_0 c_r_0)]) (v := sl A_r_0 r_0 c_r_0) ⟨by kernel_rfl⟩ (fun w_ hM hS => ⟨w_, ⟨hM.cell 1 rfl rfl, rfl⟩, hM, hS⟩) ?_
          refine ops_nil ?_
          refine tree_both ?_ ?_
          ·
           refine tree_leaf ?_
           obtain ⟨he278, hb279⟩ := app_some hv50
           obtain ⟨y280, hy281⟩ : ∃ y_, y_r_1 ++ ([.bool false]) = y_ := ⟨_, rfl⟩
           have h282 : RepL Rep.bool F W l49 y280 := by rw [he278, ← hy281]; exact RepL.app h_r_1 h251
           refine ops_appendO (x := (Go.Operand.tmp 54)) (y := (Go.Operand.tmp 55)) (t := 84) (e := 4) (d := some 56) (n' := l49.length) (z := 1) (m := ([false] : List Bool).length) (bytes := 1) (xs' := y280) (news := ([.bool false])) (zv := .bool false) 3 ⟨by kernel_rfl⟩ rfl rfl Try.underlying84 (by kernel_rfl) (by rfl) rfl (fun w_ hM => hM.srcO 0 rfl) h251.len h251.one hb279 (by have z_ := congrArg List.length he278; rw [List.length_append] at z_; exact z_.symm) hy281 (fun _ _ _ _ hS h' => (by exact h'.sub (.cons _ (.cons _ (.cons _ (.cons _ (.cons_cons _ (.cons_cons _ (.refl _))))))))) ?_
           rintro ⟨A283, c284⟩
           have h285 : RepL (Rep.int .i64) F W ([0] : List Int) ([vI 0]) := (RepL.cons (R := (Rep.int .i64)) (F := F) (w := W) (vs := [vI 0]) (ys := []) rfl RepL.nil)
           refine ops_new (d := some 61) (o := .cells ([vI 0] : List Value).toArray 3) (v := fun g286 => .slice (sa g286) ([0] : List Int).length 1) (M' := fun g286 => Mem w0 (orow (sa g286) ([0] : List Int).length 1 3 1 ([vI 0]) :: orow (sa g252) ([false] : List Bool).length 1 4 1 ([.bool false]) :: .blk b_r [sl A_r_0 r_0 c_r_0, sl A_r_1 r_1 c_r_1] 86 :: ow A_r_0 r_0 c_r_0 3 1 y_r_0 :: ow A283 l49 c284 4 1 y280 :: .blk b1 [vI 0, vI 0] 35 :: Fz F W :: cs)) (fun g286 => ⟨by kernel_rfl⟩) (fun w_ hM hS => ⟨hM.onew [vI 0] 3 1 1 rfl (by decide), hS.alloc _⟩) (fun g286 => ?_)
           obtain ⟨he287, hb288⟩ := app_some hv61
           obtain ⟨y289, hy290⟩ : ∃ y_, y_r_0 ++ ([vI 0]) = y_ := ⟨_, rfl⟩
           have h291 : RepL (Rep.int .i64) F W l60 y289 := by rw [he287, ← hy290]; exact RepL.app h_r_0 h285
           refine ops_appendO (x := (Go.Operand.tmp 60)) (y := (Go.Operand.tmp 61)) (t := 23) (e := 3) (d := some 62) (n' := l60.length) (z := 1) (m := ([0] : List Int).length) (bytes := 8) (xs' := y289) (news := ([vI 0])) (zv := vI 0) 3 ⟨by kernel_rfl⟩ rfl rfl Try.underlying23 (by kernel_rfl) (by rfl) rfl (fun w_ hM => hM.srcO 0 rfl) h285.len h285.one hb288 (by have z_ := congrArg List.length he287; rw [List.length_append] at z_; exact z_.symm) hy290 (fun _ _ _ _ hS h' => (by exact h'.sub (.cons _ (.cons _ (.cons _ (.cons _ (.cons _ (.cons_cons _ (.cons_cons _ (.refl _)))))))))) ?_
           rintro ⟨A292, c293⟩
           refine oQ [oT 14, oT 15] [(64, vP b_r 1), (62, sl A292 l60 c293), (56, sl A283 l49 c284), (50, vP b_r 0), (4, vI (r_1.length : Int)), (0, vP b_r 0), (2, vP b1 0)] (by kernel_rfl) ?_
           refine ops_store (an := []) (evs := [sr b_r 1 (sl A283 l49 c284)]) ⟨by kernel_rfl⟩ (fun w_ hM hS => let ⟨w', he, h'⟩ := hM.evs_stores [sl A283 l49 c284] 2 rfl 1 (Nat.le_of_ble_eq_true rfl); ⟨w', he, h', (by exact h'.sub (.cons _ (.cons _ (.cons _ (.cons _ (.cons _ (.cons_cons _ (.cons_cons _ (.refl _)))))))))⟩) ?_
           refine oQ [oT 17, oT 18] [(66, vP b_r 0), (62, sl A292 l60 c293), (4, vI (r_1.length : Int)), (0, vP b_r 0), (2, vP b1 0)] (by kernel_rfl) ?_
           refine ops_store (an := []) (evs := [sr b_r 0 (sl A292 l60 c293)]) ⟨by kernel_rfl⟩ (fun w_ hM hS => let ⟨w', he, h'⟩ := hM.evs_stores [sl A292 l60 c293] 2 rfl 0 (Nat.le_of_ble_eq_true rfl); ⟨w', he, h', (by exact h'.sub (.cons _ (.cons _ (.cons _ (.cons _ (.cons _ (.cons_cons _ (.cons_cons _ (.refl _)))))))))⟩) ?_
           refine ops_nil ?_
           exact fin_join HJ2 (A292, c293, l60, y289, A283, c284, l49, y280, (r_1.length : Int)) ⟨hp, h291, h282⟩ (look_has ⟨rfl, rfl, rfl, trivial⟩) (fun w_ hM => hM.pick 7 [2, 3, 4, 5, 6] (by kernel_rfl) (by decide) rfl)
          ·
           refine tree_leaf ?_
           have h294 : RepL (Rep.int .i64) F W ([0] : List Int) ([vI 0]) := (RepL.cons (R := (Rep.int .i64)) (F := F) (w := W) (vs := [vI 0]) (ys := []) rfl RepL.nil)
           refine ops_new (d := some 61) (o := .cells ([vI 0] : List Value).toArray 3) (v := fun g295 => .slice (sa g295) ([0] : List Int).length 1) (M' := fun g295 => Mem w0 (orow (sa g295) ([0] : List Int).length 1 3 1 ([vI 0]) :: orow (sa g252) ([false] : List Bool).length 1 4 1 ([.bool false]) :: .blk b_r [sl A_r_0 r_0 c_r_0, sl A_r_1 r_1 c_r_1] 86 :: ow A_r_0 r_0 c_r_0 3 1 y_r_0 :: ow A_r_1 r_1 c_r_1 4 1 y_r_1 :: .blk b1 [vI 0, vI 0] 35 :: Fz F W :: cs)) (fun g295 => ⟨by kernel_rfl⟩) (fun w_ hM hS => ⟨hM.onew [vI 0] 3 1 1 rfl (by decide), hS.alloc _⟩) (fun g295 => ?_)
           obtain ⟨he296, hb297⟩ := app_some hv50
           obtain ⟨y298, hy299⟩ : ∃ y_, y_r_1 ++ ([.bool false]) = y_ := ⟨_, rfl⟩
           have h300 : RepL Rep.bool F W l49 y298 := by rw [he296, ← hy299]; exact RepL.app h_r_1 h251
           refine ops_appendO (x := (Go.Operand.tmp 54)) (y := (Go.Operand.tmp 55)) (t := 84) (e := 4) (d := some 56) (n' := l49.length) (z := 1) (m := ([false] : List Bool).length) (bytes := 1) (xs' := y298) (news := ([.bool false])) (zv := .bool false) 4 ⟨by kernel_rfl⟩ rfl rfl Try.underlying84 (by kernel_rfl) (by rfl) rfl (fun w_ hM => hM.srcO 1 rfl) h251.len h251.one hb297 (by have z_ := congrArg List.length he296; rw [List.length_append] at z_; exact z_.symm) hy299 (fun _ _ _ _ hS h' => (by exact h'.sub (.cons _ (.cons _ (.cons _ (.cons _ (.cons _ (.cons_cons _ (.cons_cons _ (.refl _)))))))))) ?_
           rintro ⟨A301, c302⟩
           obtain ⟨he303, hb304⟩ := app_some hv61
           obtain ⟨y305, hy306⟩ : ∃ y_, y_r_0 ++ ([vI 0]) = y_ := ⟨_, rfl⟩
           have h307 : RepL (Rep.int .i64) F W l60 y305 := by rw [he303, ← hy306]; exact RepL.app h_r_0 h294
           refine ops_appendO (x := (Go.Operand.tmp 60)) (y := (Go.Operand.tmp 61)) (t := 23) (e := 3) (d := some 62) (n' := l60.length) (z := 1) (m := ([0] : List Int).length) (bytes := 8) (xs' := y305) (news := ([vI 0])) (zv := vI 0) 3 ⟨by kernel_rfl⟩ rfl rfl Try.underlying23 (by kernel_rfl) (by rfl) rfl (fun w_ hM => hM.srcO 0 rfl) h294.len h294.one hb304 (by have z_ := congrArg List.length he303; rw [List.length_append] at z_; exact z_.symm) hy306 (fun _ _ _ _ hS h' => (by exact h'.sub (.cons _ (.cons _ (.cons _ (.cons _ (.cons _ (.cons_cons _ (.cons_cons _ (.refl _)))))))))) ?_
           rintro ⟨A308, c309⟩
           refine oQ [oT 14, oT 15] [(64, vP b_r 1), (62, sl A308 l60 c309), (56, sl A301 l49 c302), (50, vP b_r 0), (4, vI (r_1.length : Int)), (0, vP b_r 0), (2, vP b1 0)] (by kernel_rfl) ?_
           refine ops_store (an := []) (evs := [sr b_r 1 (sl A301 l49 c302)]) ⟨by kernel_rfl⟩ (fun w_ hM hS => let ⟨w', he, h'⟩ := hM.evs_stores [sl A301 l49 c302] 2 rfl 1 (Nat.le_of_ble_eq_true rfl); ⟨w', he, h', (by exact h'.sub (.cons _ (.cons _ (.cons _ (.cons _ (.cons _ (.cons_cons _ (.cons_cons _ (.refl _)))))))))⟩) ?_
           refine oQ [oT 17, oT 18] [(66, vP b_r 0), (62, sl A308 l60 c309), (4, vI (r_1.length : Int)), (0, vP b_r 0), (2, vP b1 0)] (by kernel_rfl) ?_
           refine ops_store (an := []) (evs := [sr b_r 0 (sl A308 l60 c309)]) ⟨by kernel_rfl⟩ (fun w_ hM hS => let ⟨w', he, h'⟩ := hM.evs_stores [sl A308 l60 c309] 2 rfl 0 (Nat.le_of_ble_eq_true rfl); ⟨w', he, h', (by exact h'.sub (.cons _ (.cons _ (.cons _ (.cons _ (.cons _ (.cons_cons _ (.cons_cons _ (.refl _)))))))))⟩) ?_
           refine ops_nil ?_
           exact fin_join HJ2 (A308, c309, l60, y305, A301, c302, l49, y298, (r_1.length : Int)) ⟨hp, h307, h300⟩ (look_has ⟨rfl, rfl, rfl, trivial⟩) (fun w_ hM => hM.pick 7 [2, 3, 4, 5, 6] (by kernel_rfl) (by decide) rfl)
         ·
          refine tree_node ?_
          have h310 : RepL (Rep.int .i64) F W ([0] : List Int) ([vI 0]) := (RepL.cons (R := (Rep.int .i64)) (F := F) (w := W) (vs := [vI 0]) (ys := []) rfl RepL.nil)
          refine ops_new (d := some 61) (o := .cells ([vI 0] : List Value).toArray 3) (v := fun g311 => .slice (sa g311) ([0] : List Int).length 1) (M' := fun g311 => Mem w0 (orow (sa g311) ([0] : List Int).length 1 3 1 ([vI 0]) :: orow (sa g252) ([false] : List Bool).length 1 4 1 ([.bool false]) :: .blk b_r [sl A_r_0 r_0 c_r_0, sl A_r_1 r_1 c_r_1] 86 :: ow A_r_0 r_0 c_r_0 3 1 y_r_0 :: ow A_r_1 r_1 c_r_1 4 1 y_r_1 :: .blk b1 [vI 0, vI 0] 35 :: Fz F W :: cs)) (fun g311 => ⟨by kernel_rfl⟩) (fun w_ hM hS => ⟨hM.onew [vI 0] 3 1 1 rfl (by decide), hS.alloc _⟩) (fun g311 => ?_)
          refine ops_nil ?_
          refine tree_both ?_ ?_
          ·
           refine tree_leaf ?_
           obtain ⟨he312, hb313⟩ := app_some hv50
           obtain ⟨y314, hy315⟩ : ∃ y_, y_r_1 ++ ([.bool false]) = y_ := ⟨_, rfl⟩
           have h316 : RepL Rep.bool F W l49 y314 := by rw [he312, ← hy315]; exact RepL.app h_r_1 h251
           refine ops_appendO (x := (Go.Operand.tmp 54)) (y := (Go.Operand.tmp 55)) (t := 84) (e := 4) (d := some 56) (n' := l49.length) (z := 1) (m := ([false] : List Bool).length) (bytes := 1) (xs' := y314) (news := ([.bool false])) (zv := .bool false) 4 ⟨by kernel_rfl⟩ rfl rfl Try.underlying84 (by kernel_rfl) (by rfl) rfl (fun w_ hM => hM.srcO 1 rfl) h251.len h251.one hb313 (by have z_ := congrArg List.length he312; rw [List.length_append] at z_; exact z_.symm) hy315 (fun _ _ _ _ hS h' => (by exact h'.sub (.cons _ (.cons _ (.cons _ (.cons _ (.cons _ (.cons_cons _ (.cons_cons _ (.refl _)))))))))) ?_
           rintro ⟨A317, c318⟩
           refine ops_mem (d := some 60) (an := [.v (sl A_r_0 r_0 c_r_0)]) (evs := [ld b_r 0 (sl A_r_0 r_0 c_r_0)]) (v := sl A_r_0 r_0 c_r_0) ⟨by kernel_rfl⟩ (fun w_ hM hS => ⟨w_, ⟨hM.cell 2 rfl rfl, rfl⟩, hM, hS⟩) ?_
           obtain ⟨he319, hb320⟩ := app_some hv61
           obtain ⟨y321, hy322⟩ : ∃ y_, y_r_0 ++ ([vI 0]) = y_ := ⟨_, rfl⟩
           have h323 : RepL (Rep.int .i64) F W l60 y321 := by rw [he319, ← hy322]; exact RepL.app h_r_0 h310
           refine ops_appendO (x := (Go.Operand.tmp 60)) (y := (Go.Operand.tmp 61)) (t := 23) (e := 3) (d := some 62) (n' := l60.length) (z := 1) (m := ([0] : List Int).length) (bytes := 8) (xs' := y321) (news := ([vI 0])) (zv := vI 0) 3 ⟨by kernel_rfl⟩ rfl rfl Try.underlying23 (by kernel_rfl) (by rfl) rfl (fun w_ hM => hM.srcO 0 rfl) h310.len h310.one hb320 (by have z_ := congrArg List.length he319; rw [List.length_append] at z_; exact z_.symm) hy322 (fun _ _ _ _ hS h' => (by exact h'.sub (.cons _ (.cons _ (.cons _ (.cons _ (.cons _ (.cons_cons _ (.cons_cons _ (.refl _)))))))))) ?_
           rintro ⟨A324, c325⟩
           refine oQ [oT 14, oT 15] [(64, vP b_r 1), (62, sl A324 l60 c325), (56, sl A317 l49 c318), (50, vP b_r 0), (4, vI (r_1.length : Int)), (0, vP b_r 0), (2, vP b1 0)] (by kernel_rfl) ?_
           refine ops_store (an := []) (evs := [sr b_r 1 (sl A317 l49 c318)]) ⟨by kernel_rfl⟩ (fun w_ hM hS => let ⟨w', he, h'⟩ := hM.evs_stores [sl A317 l49 c318] 2 rfl 1 (Nat.le_of_ble_eq_true rfl); ⟨w', he, h', (by exact h'.sub (.cons _ (.cons _ (.cons _ (.cons _ (.cons _ (.cons_cons _ (.cons_cons _ (.refl _)))))))))⟩) ?_
           refine oQ [oT 17, oT 18] [(66, vP b_r 0), (62, sl A324 l60 c325), (4, vI (r_1.length : Int)), (0, vP b_r 0), (2, vP b1 0)] (by kernel_rfl) ?_
           refine ops_store (an := []) (evs := [sr b_r 0 (sl A324 l60 c325)]) ⟨by kernel_rfl⟩ (fun w_ hM hS => let ⟨w', he, h'⟩ := hM.evs_stores [sl A324 l60 c325] 2 rfl 0 (Nat.le_of_ble_eq_true rfl); ⟨w', he, h', (by exact h'.sub (.cons _ (.cons _ (.cons _ (.cons _ (.cons _ (.cons_cons _ (.cons_cons _ (.refl _)))))))))⟩) ?_
           refine ops_nil ?_
           exact fin_join HJ2 (A324, c325, l60, y321, A317, c318, l49, y314, (r_1.length : Int)) ⟨hp, h323, h316⟩ (look_has ⟨rfl, rfl, rfl, trivial⟩) (fun w_ hM => hM.pick 7 [2, 3, 4, 5, 6] (by kernel_rfl) (by decide) rfl)
          ·
           refine tree_leaf ?_
           refine ops_mem (d := some 60) (an := [.v (sl A_r_0 r_0 c_r_0)]) (evs := [ld b_r 0 (sl A_r_0 r_0 c_r_0)]) (v := sl A_r_0 r_0 c_r_0) ⟨by kernel_rfl⟩ (fun w_ hM hS => ⟨w_, ⟨hM.cell 2 rfl rfl, rfl⟩, hM, hS⟩) ?_
           obtain ⟨he326, hb327⟩ := app_some hv50
           obtain ⟨y328, hy329⟩ : ∃ y_, y_r_1 ++ ([.bool false]) = y_ := ⟨_, rfl⟩
           have h330 : RepL Rep.bool F W l49 y328 := by rw [he326, ← hy329]; exact RepL.app h_r_1 h251
           refine ops_appendO (x := (Go.Operand.tmp 54)) (y := (Go.Operand.tmp 55)) (t := 84) (e := 4) (d := some 56) (n' := l49.length) (z := 1) (m := ([false] : List Bool).length) (bytes := 1) (xs' := y328) (news := ([.bool false])) (zv := .bool false) 4 ⟨by kernel_rfl⟩ rfl rfl Try.underlying84 (by kernel_rfl) (by rfl) rfl (fun w_ hM => hM.srcO 1 rfl) h251.len h251.one hb327 (by have z_ := congrArg List.length he326; rw [List.length_append] at z_; exact z_.symm) hy329 (fun _ _ _ _ hS h' => (by exact h'.sub (.cons _ (.cons _ (.cons _ (.cons _ (.cons _ (.cons_cons _ (.cons_cons _ (.refl _)))))))))) ?_
           rintro ⟨A331, c332⟩
           obtain ⟨he333, hb334⟩ := app_some hv61
           obtain ⟨y335, hy336⟩ : ∃ y_, y_r_0 ++ ([vI 0]) = y_ := ⟨_, rfl⟩
           have h337 : RepL (Rep.int .i64) F W l60 y335 := by rw [he333, ← hy336]; exact RepL.app h_r_0 h310
           refine ops_appendO (x := (Go.Operand.tmp 60)) (y := (Go.Operand.tmp 61)) (t := 23) (e := 3) (d := some 62) (n' := l60.length) (z := 1) (m := ([0] : List Int).length) (bytes := 8) (xs' := y335) (news := ([vI 0])) (zv := vI 0) 3 ⟨by kernel_rfl⟩ rfl rfl Try.underlying23 (by kernel_rfl) (by rfl) rfl (fun w_ hM => hM.srcO 0 rfl) h310.len h310.one hb334 (by have z_ := congrArg List.length he333; rw [List.length_append] at z_; exact z_.symm) hy336 (fun _ _ _ _ hS h' => (by exact h'.sub (.cons _ (.cons _ (.cons _ (.cons _ (.cons _ (.cons_cons _ (.cons_cons _ (.refl _)))))))))) ?_
           rintro ⟨A338, c339⟩
           refine oQ [oT 14, oT 15] [(64, vP b_r 1), (62, sl A338 l60 c339), (56, sl A331 l49 c332), (50, vP b_r 0), (4, vI (r_1.length : Int)), (0, vP b_r 0), (2, vP b1 0)] (by kernel_rfl) ?_
           refine ops_store (an := []) (evs := [sr b_r 1 (sl A331 l49 c332)]) ⟨by kernel_rfl⟩ (fun w_ hM hS => let ⟨w', he, h'⟩ := hM.evs_stores [sl A331 l49 c332] 2 rfl 1 (Nat.le_of_ble_eq_true rfl); ⟨w', he, h', (by exact h'.sub (.cons _ (.cons _ (.cons _ (.cons _ (.cons _ (.cons_cons _ (.cons_cons _ (.refl _)))))))))⟩) ?_
           refine oQ [oT 17, oT 18] [(66, vP b_r 0), (62, sl A338 l60 c339), (4, vI (r_1.length : Int)), (0, vP b_r 0), (2, vP b1 0)] (by kernel_rfl) ?_
           refine ops_store (an := []) (evs := [sr b_r 0 (sl A338 l60 c339)]) ⟨by kernel_rfl⟩ (fun w_ hM hS => let ⟨w', he, h'⟩ := hM.evs_stores [sl A338 l60 c339] 2 rfl 0 (Nat.le_of_ble_eq_true rfl); ⟨w', he, h', (by exact h'.sub (.cons _ (.cons _ (.cons _ (.cons _ (.cons _ (.cons_cons _ (.cons_cons _ (.refl _)))))))))⟩) ?_
           refine ops_nil ?_
           exact fin_join HJ2 (A338, c339, l60, y335, A331, c332, l49, y328, (r_1.length : Int)) ⟨hp, h337, h330⟩ (look_has ⟨rfl, rfl, rfl, trivial⟩) (fun w_ hM => hM.pick 7 [2, 3, 4, 5, 6] (by kernel_rfl) (by decide) rfl)
       ·
        refine tree_ways ?_ ?_
        ·
         refine tree_node ?_
         refine ops_mem (d := some 60) (an := [.v (sl A_r_0 r_0 c_r_0)]) (evs := [ld b_r 0 (sl A_r_0 r_0 c_r_0)]) (v := sl A_r_0 r_0 c_r_0) ⟨by kernel_rfl⟩ (fun w_ hM hS => ⟨w_, ⟨hM.cell 1 rfl rfl, rfl⟩, hM, hS⟩) ?_
         refine ops_nil ?_
         refine tree_both ?_ ?_
         ·
          refine tree_node ?_
          refine ops_mem (d := some 54) (an := [.v (sl A_r_1 r_1 c_r_1)]) (evs := [ld b_r 1 (sl A_r_1 r_1 c_r_1)]) (v := sl A_r_1 r_1 c_r_1) ⟨by kernel_rfl⟩ (fun w_ hM hS => ⟨w_, ⟨hM.cell 1 rfl rfl, rfl⟩, hM, hS⟩) ?_
          refine ops_nil ?_
          refine tree_both ?_ ?_
          ·
           refine tree_leaf ?_
           obtain ⟨he340, hb341⟩ := app_some hv50
           obtain ⟨y342, hy343⟩ : ∃ y_, y_r_1 ++ ([.bool false]) = y_ := ⟨_, rfl⟩
           have h344 : RepL Rep.bool F W l49 y342 := by rw [he340, ← hy343]; exact RepL.app h_r_1 h251
           refine ops_appendO (x := (Go.Operand.tmp 54)) (y := (Go.Operand.tmp 55)) (t := 84) (e := 4) (d := some 56) (n' := l49.length) (z := 1) (m := ([false] : List Bool).length) (bytes := 1) (xs' := y342) (news := ([.bool false])) (zv := .bool false) 3 ⟨by kernel_rfl⟩ rfl rfl Try.underlying84 (by kernel_rfl) (by rfl) rfl (fun w_ hM => hM.srcO 0 rfl) h251.len h251.one hb341 (by have z_ := congrArg List.length he340; rw [List.length_append] at z_; exact z_.symm) hy343 (fun _ _ _ _ hS h' => (by exact h'.sub (.cons _ (.cons _ (.cons _ (.cons _ (.cons_cons _ (.cons_cons _ (.refl _))))))))) ?_
           rintro ⟨A345, c346⟩
           have h347 : RepL (Rep.int .i64) F W ([0] : List Int) ([vI 0]) := (RepL.cons (R := (Rep.int .i64)) (F := F) (w := W) (vs := [vI 0]) (ys := []) rfl RepL.nil)
           refine ops_new (d := some 61) (o := .cells ([vI 0] : List Value).toArray 3) (v := fun g348 => .slice (sa g348) ([0] : List Int).length 1) (M' := fun g348 => Mem w0 (orow (sa g348) ([0] : List Int).length 1 3 1 ([vI 0]) :: orow (sa g252) ([false] : List Bool).length 1 4 1 ([.bool false]) :: .blk b_r [sl A_r_0 r_0 c_r_0, sl A_r_1 r_1 c_r_1] 86 :: ow A_r_0 r_0 c_r_0 3 1 y_r_0 :: ow A345 l49 c346 4 1 y342 :: .blk b1 [vI 0, vI 0] 35 :: Fz F W :: cs)) (fun g348 => ⟨by kernel_rfl⟩) (fun w_ hM hS => ⟨hM.onew [vI 0] 3 1 1 rfl (by decide), hS.alloc _⟩) (fun g348 => ?_)
           obtain ⟨he349, hb350⟩ := app_some hv61
           obtain ⟨y351, hy352⟩ : ∃ y_, y_r_0 ++ ([vI 0]) = y_ := ⟨_, rfl⟩
           have h353 : RepL (Rep.int .i64) F W l60 y351 := by rw [he349, ← hy352]; exact RepL.app h_r_0 h347
           refine ops_appendO (x := (Go.Operand.tmp 60)) (y := (Go.Operand.tmp 61)) (t := 23) (e := 3) (d := some 62) (n' := l60.length) (z := 1) (m := ([0] : List Int).length) (bytes := 8) (xs' := y351) (news := ([vI 0])) (zv := vI 0) 3 ⟨by kernel_rfl⟩ rfl rfl Try.underlying23 (by kernel_rfl) (by rfl) rfl (fun w_ hM => hM.srcO 0 rfl) h347.len h347.one hb350 (by have z_ := congrArg List.length he349; rw [List.length_append] at z_; exact z_.symm) hy352 (fun _ _ _ _ hS h' => (by exact h'.sub (.cons _ (.cons _ (.cons _ (.cons _ (.cons _ (.cons_cons _ (.cons_cons _ (.refl _)))))))))) ?_
           rintro ⟨A354, c355⟩
           refine oQ [oT 14, oT 15] [(64, vP b_r 1), (62, sl A354 l60 c355), (56, sl A345 l49 c346), (50, vP b_r 0), (4, vI (r_1.length : Int)), (0, vP b_r 0), (2, vP b1 0)] (by kernel_rfl) ?_
           refine ops_store (an := []) (evs := [sr b_r 1 (sl A345 l49 c346)]) ⟨by kernel_rfl⟩ (fun w_ hM hS => let ⟨w', he, h'⟩ := hM.evs_stores [sl A345 l49 c346] 2 rfl 1 (Nat.le_of_ble_eq_true rfl); ⟨w', he, h', (by exact h'.sub (.cons _ (.cons _ (.cons _ (.cons _ (.cons _ (.cons_cons _ (.cons_cons _ (.refl _)))))))))⟩) ?_
           refine oQ [oT 17, oT 18] [(66, vP b_r 0), (62, sl A354 l60 c355), (4, vI (r_1.length : Int)), (0, vP b_r 0), (2, vP b1 0)] (by kernel_rfl) ?_
           refine ops_store (an := []) (evs := [sr b_r 0 (sl A354 l60 c355)]) ⟨by kernel_rfl⟩ (fun w_ hM hS => let ⟨w', he, h'⟩ := hM.evs_stores [sl A354 l60 c355] 2 rfl 0 (Nat.le_of_ble_eq_true rfl); ⟨w', he, h', (by exact h'.sub (.cons _ (.cons _ (.cons _ (.cons _ (.cons _ (.cons_cons _ (.cons_cons _ (.refl _)))))))))⟩) ?_
           refine ops_nil ?_
           exact fin_join HJ2 (A354, c355, l60, y351, A345, c346, l49, y342, (r_1.length : Int)) ⟨hp, h353, h344⟩ (look_has ⟨rfl, rfl, rfl, trivial⟩) (fun w_ hM => hM.pick 7 [2, 3, 4, 5, 6] (by kernel_rfl) (by decide) rfl)
          ·
           refine tree_leaf ?_
           have h356 : RepL (Rep.int .i64) F W ([0] : List Int) ([vI 0]) := (RepL.cons (R := (Rep.int .i64)) (F := F) (w := W) (vs := [vI 0]) (ys := []) rfl RepL.nil)
           refine ops_new (d := some 61) (o := .cells ([vI 0] : List Value).toArray 3) (v := fun g357 => .slice (sa g357) ([0] : List Int).length 1) (M' := fun g357 => Mem w0 (orow (sa g357) ([0] : List Int).length 1 3 1 ([vI 0]) :: orow (sa g252) ([false] : List Bool).length 1 4 1 ([.bool false]) :: .blk b_r [sl A_r_0 r_0 c_r_0, sl A_r_1 r_1 c_r_1] 86 :: ow A_r_0 r_0 c_r_0 3 1 y_r_0 :: ow A_r_1 r_1 c_r_1 4 1 y_r_1 :: .blk b1 [vI 0, vI 0] 35 :: Fz F W :: cs)) (fun g357 => ⟨by kernel_rfl⟩) (fun w_ hM hS => ⟨hM.onew [vI 0] 3 1 1 rfl (by decide), hS.alloc _⟩) (fun g357 => ?_)
           obtain ⟨he358, hb359⟩ := app_some hv50
           obtain ⟨y360, hy361⟩ : ∃ y_, y_r_1 ++ ([.bool false]) = y_ := ⟨_, rfl⟩
           have h362 : RepL Rep.bool F W l49 y360 := by rw [he358, ← hy361]; exact RepL.app h_r_1 h251
           refine ops_appendO (x := (Go.Operand.tmp 54)) (y := (Go.Operand.tmp 55)) (t := 84) (e := 4) (d := some 56) (n' := l49.length) (z := 1) (m := ([false] : List Bool).length) (bytes := 1) (xs' := y360) (news := ([.bool false])) (zv := .bool false) 4 ⟨by kernel_rfl⟩ rfl rfl Try.underlying84 (by kernel_rfl) (by rfl) rfl (fun w_ hM => hM.srcO 1 rfl) h251.len h251.one hb359 (by have z_ := congrArg List.length he358; rw [List.length_append] at z_; exact z_.symm) hy361 (fun _ _ _ _ hS h' => (by exact h'.sub (.cons _ (.cons _ (.cons _ (.cons _ (.cons _ (.cons_cons _ (.cons_cons _ (.refl _)))))))))) ?_
           rintro ⟨A363, c364⟩
           obtain ⟨he365, hb366⟩ := app_some hv61
           obtain ⟨y367, hy368⟩ : ∃ y_, y_r_0 ++ ([vI 0]) = y_ := ⟨_, rfl⟩
           have h369 : RepL (Rep.int .i64) F W l60 y367 := by rw [he365, ← hy368]; exact RepL.app h_r_0 h356
           refine ops_appendO (x := (Go.Operand.tmp 60)) (y := (Go.Operand.tmp 61)) (t := 23) (e := 3) (d := some 62) (n' := l60.length) (z := 1) (m := ([0] : List Int).length) (bytes := 8) (xs' := y367) (news := ([vI 0])) (zv := vI 0) 3 ⟨by kernel_rfl⟩ rfl rfl Try.underlying23 (by kernel_rfl) (by rfl) rfl (fun w_ hM => hM.srcO 0 rfl) h356.len h356.one hb366 (by have z_ := congrArg List.length he365; rw [List.length_append] at z_; exact z_.symm) hy368 (fun _ _ _ _ hS h' => (by exact h'.sub (.cons _ (.cons _ (.cons _ (.cons _ (.cons _ (.cons_cons _ (.cons_cons _ (.refl _)))))))))) ?_
           rintro ⟨A370, c371⟩
           refine oQ [oT 14, oT 15] [(64, vP b_r 1), (62, sl A370 l60 c371), (56, sl A363 l49 c364), (50, vP b_r 0), (4, vI (r_1.length : Int)), (0, vP b_r 0), (2, vP b1 0)] (by kernel_rfl) ?_
           refine ops_store (an := []) (evs := [sr b_r 1 (sl A363 l49 c364)]) ⟨by kernel_rfl⟩ (fun w_ hM hS => let ⟨w', he, h'⟩ := hM.evs_stores [sl A363 l49 c364] 2 rfl 1 (Nat.le_of_ble_eq_true rfl); ⟨w', he, h', (by exact h'.sub (.cons _ (.cons _ (.cons _ (.cons _ (.cons _ (.cons_cons _ (.cons_cons _ (.refl _)))))))))⟩) ?_
           refine oQ [oT 17, oT 18] [(66, vP b_r 0), (62, sl A370 l60 c371), (4, vI (r_1.length : Int)), (0, vP b_r 0), (2, vP b1 0)] (by kernel_rfl) ?_
           refine ops_store (an := []) (evs := [sr b_r 0 (sl A370 l60 c371)]) ⟨by kernel_rfl⟩ (fun w_ hM hS => let ⟨w', he, h'⟩ := hM.evs_stores [sl A370 l60 c371] 2 rfl 0 (Nat.le_of_ble_eq_true rfl); ⟨w', he, h', (by exact h'.sub (.cons _ (.cons _ (.cons _ (.cons _ (.cons _ (.cons_cons _ (.cons_cons _ (.refl _)))))))))⟩) ?_
           refine ops_nil ?_
           exact fin_join HJ2 (A370, c371, l60, y367, A363, c364, l49, y360, (r_1.length : Int)) ⟨hp, h369, h362⟩ (look_has ⟨rfl, rfl, rfl, trivial⟩) (fun w_ hM => hM.pick 7 [2, 3, 4, 5, 6] (by kernel_rfl) (by decide) rfl)
         ·
          refine tree_leaf ?_
          have h372 : RepL (Rep.int .i64) F W ([0] : List Int) ([vI 0]) := (RepL.cons (R := (Rep.int .i64)) (F := F) (w := W) (vs := [vI 0]) (ys := []) rfl RepL.nil)
          refine ops_new (d := some 61) (o := .cells ([vI 0] : List Value).toArray 3) (v := fun g373 => .slice (sa g373) ([0] : List Int).length 1) (M' := fun g373 => Mem w0 (orow (sa g373) ([0] : List Int).length 1 3 1 ([vI 0]) :: orow (sa g252) ([false] : List Bool).length 1 4 1 ([.bool false]) :: .blk b_r [sl A_r_0 r_0 c_r_0, sl A_r_1 r_1 c_r_1] 86 :: ow A_r_0 r_0 c_r_0 3 1 y_r_0 :: ow A_r_1 r_1 c_r_1 4 1 y_r_1 :: .blk b1 [vI 0, vI 0] 35 :: Fz F W :: cs)) (fun g373 => ⟨by kernel_rfl⟩) (fun w_ hM hS => ⟨hM.onew [vI 0] 3 1 1 rfl (by decide), hS.alloc _⟩) (fun g373 => ?_)
          refine ops_mem (d := some 54) (an := [.v (sl A_r_1 r_1 c_r_1)]) (evs := [ld b_r 1 (sl A_r_1 r_1 c_r_1)]) (v := sl A_r_1 r_1 c_r_1) ⟨by kernel_rfl⟩ (fun w_ hM hS => ⟨w_, ⟨hM.cell 2 rfl rfl, rfl⟩, hM, hS⟩) ?_
          obtain ⟨he374, hb375⟩ := app_some hv50
          obtain ⟨y376, hy377⟩ : ∃ y_, y_r_1 ++ ([.bool false]) = y_ := ⟨_, rfl⟩
          have h378 : RepL Rep.bool F W l49 y376 := by rw [he374, ← hy377]; exact RepL.app h_r_1 h251
          refine ops_appendO (x := (Go.Operand.tmp 54)) (y := (Go.Operand.tmp 55)) (t := 84) (e := 4) (d := some 56) (n' := l49.length) (z := 1) (m := ([false] : List Bool).length) (bytes := 1) (xs' := y376) (news := ([.bool false])) (zv := .bool false) 4 ⟨by kernel_rfl⟩ rfl rfl Try.underlying84 (by kernel_rfl) (by rfl) rfl (fun w_ hM => hM.srcO 1 rfl) h251.len h251.one hb375 (by have z_ := congrArg List.length he374; rw [List.length_append] at z_; exact z_.symm) hy377 (fun _ _ _ _ hS h' => (by exact h'.sub (.cons _ (.cons _ (.cons _ (.cons _ (.cons _ (.cons_cons _ (.cons_cons _ (.refl _)))))))))) ?_
          rintro ⟨A379, c380⟩
          obtain ⟨he381, hb382⟩ := app_some hv61
          obtain ⟨y383, hy384⟩ : ∃ y_, y_r_0 ++ ([vI 0]) = y_ := ⟨_, rfl⟩
          have h385 : RepL (Rep.int .i64) F W l60 y383 := by rw [he381, ← hy384]; exact RepL.app h_r_0 h372
          refine ops_appendO (x := (Go.Operand.tmp 60)) (y := (Go.Operand.tmp 61)) (t := 23) (e := 3) (d := some 62) (n' := l60.length) (z := 1) (m := ([0] : List Int).length) (bytes := 8) (xs' := y383) (news := ([vI 0])) (zv := vI 0) 3 ⟨by kernel_rfl⟩ rfl rfl Try.underlying23 (by kernel_rfl) (by rfl) rfl (fun w_ hM => hM.srcO 0 rfl) h372.len h372.one hb382 (by have z_ := congrArg List.length he381; rw [List.length_append] at z_; exact z_.symm) hy384 (fun _ _ _ _ hS h' => (by exact h'.sub (.cons _ (.cons _ (.cons _ (.cons _ (.cons _ (.cons_cons _ (.cons_cons _ (.refl _)))))))))) ?_
          rintro ⟨A386, c387⟩
          refine oQ [oT 14, oT 15] [(64, vP b_r 1), (62, sl A386 l60 c387), (56, sl A379 l49 c380), (50, vP b_r 0), (4, vI (r_1.length : Int)), (0, vP b_r 0), (2, vP b1 0)] (by kernel_rfl) ?_
          refine ops_store (an := []) (evs := [sr b_r 1 (sl A379 l49 c380)]) ⟨by kernel_rfl⟩ (fun w_ hM hS => let ⟨w', he, h'⟩ := hM.evs_stores [sl A379 l49 c380] 2 rfl 1 (Nat.le_of_ble_eq_true rfl); ⟨w', he, h', (by exact h'.sub (.cons _ (.cons _ (.cons _ (.cons _ (.cons _ (.cons_cons _ (.cons_cons _ (.refl _)))))))))⟩) ?_
          refine oQ [oT 17, oT 18] [(66, vP b_r 0), (62, sl A386 l60 c387), (4, vI (r_1.length : Int)), (0, vP b_r 0), (2, vP b1 0)] (by kernel_rfl) ?_
          refine ops_store (an := []) (evs := [sr b_r 0 (sl A386 l60 c387)]) ⟨by kernel_rfl⟩ (fun w_ hM hS => let ⟨w', he, h'⟩ := hM.evs_stores [sl A386 l60 c387] 2 rfl 0 (Nat.le_of_ble_eq_true rfl); ⟨w', he, h', (by exact h'.sub (.cons _ (.cons _ (.cons _ (.cons _ (.cons _ (.cons_cons _ (.cons_cons _ (.refl _)))))))))⟩) ?_
          refine ops_nil ?_
          exact fin_join HJ2 (A386, c387, l60, y383, A379, c380, l49, y376, (r_1.length : Int)) ⟨hp, h385, h378⟩ (look_has ⟨rfl, rfl, rfl, trivial⟩) (fun w_ hM => hM.pick 7 [2, 3, 4, 5, 6] (by kernel_rfl) (by decide) rfl)
        ·
         refine tree_node ?_
         have h388 : RepL (Rep.int .i64) F W ([0] : List Int) ([vI 0]) := (RepL.cons (R := (Rep.int .i64)) (F := F) (w := W) (vs := [vI 0]) (ys := []) rfl RepL.nil)
         refine ops_new (d := some 61) (o := .cells ([vI 0] : List Value).toArray 3) (v := fun g389 => .slice (sa g389) ([0] : List Int).length 1) (M' := fun g389 => Mem w0 (orow (sa g389) ([0] : List Int).length 1 3 1 ([vI 0]) :: orow (sa g252) ([false] : List Bool).length 1 4 1 ([.bool false]) :: .blk b_r [sl A_r_0 r_0 c_r_0, sl A_r_1 r_1 c_r_1] 86 :: ow A_r_0 r_0 c_r_0 3 1 y_r_0 :: ow A_r_1 r_1 c_r_1 4 1 y_r_1 :: .blk b1 [vI 0, vI 0] 35 :: Fz F W :: cs)) (fun g389 => ⟨by kernel_rfl⟩) (fun w_ hM hS => ⟨hM.onew [vI 0] 3 1 1 rfl (by decide), hS.alloc _⟩) (fun g389 => ?_)
         refine ops_nil ?_
         refine tree_both ?_ ?_
         ·
          refine tree_node ?_
          refine ops_mem (d := some 54) (an := [.v (sl A_r_1 r_1 c_r_1)]) (evs := [ld b_r 1 (sl A_r_1 r_1 c_r_1)]) (v := sl A_r_1 r_1 c_r_1) ⟨by kernel_rfl⟩ (fun w_ hM hS => ⟨w_, ⟨hM.cell 2 rfl rfl, rfl⟩, hM, hS⟩) ?_
          refine ops_nil ?_
          refine tree_both ?_ ?_
          ·
           refine tree_leaf ?_
           obtain ⟨he390, hb391⟩ := app_some hv50
           obtain ⟨y392, hy393⟩ : ∃ y_, y_r_1 ++ ([.bool false]) = y_ := ⟨_, rfl⟩
           have h394 : RepL Rep.bool F W l49 y392 := by rw [he390, ← hy393]; exact RepL.app h_r_1 h251
           refine ops_appendO (x := (Go.Operand.tmp 54)) (y := (Go.Operand.tmp 55)) (t := 84) (e := 4) (d := some 56) (n' := l49.length) (z := 1) (m := ([false] : List Bool).length) (bytes := 1) (xs' := y392) (news := ([.bool false])) (zv := .bool false) 4 ⟨by kernel_rfl⟩ rfl rfl Try.underlying84 (by kernel_rfl) (by rfl) rfl (fun w_ hM => hM.srcO 1 rfl) h251.len h251.one hb391 (by have z_ := congrArg List.length he390; rw [List.length_append] at z_; exact z_.symm) hy393 (fun _ _ _ _ hS h' => (by exact h'.sub (.cons _ (.cons _ (.cons _ (.cons _ (.cons _ (.cons_cons _ (.cons_cons _ (.refl _)))))))))) ?_
           rintro ⟨A395, c396⟩
           refine ops_mem (d := some 60) (an := [.v (sl A_r_0 r_0 c_r_0)]) (evs := [ld b_r 0 (sl A_r_0 r_0 c_r_0)]) (v := sl A_r_0 r_0 c_r_0) ⟨by kernel_rfl⟩ (fun w_ hM hS => ⟨w_, ⟨hM.cell 2 rfl rfl, rfl⟩, hM, hS⟩) ?_
           obtain ⟨he397, hb398⟩ := app_some hv61
           obtain ⟨y399, hy400⟩ : ∃ y_, y_r_0 ++ ([vI 0]) = y_ := ⟨_, rfl⟩
           have h401 : RepL (Rep.int .i64) F W l60 y399 := by rw [he397, ← hy400]; exact RepL.app h_r_0 h388
           refine ops_appendO (x := (Go.Operand.tmp 60)) (y := (Go.Operand.tmp 61)) (t := 23) (e := 3) (d := some 62) (n' := l60.length) (z := 1) (m := ([0] : List Int).length) (bytes := 8) (xs' := y399) (news := ([vI 0])) (zv := vI 0) 3 ⟨by kernel_rfl⟩ rfl rfl Try.underlying23 (by kernel_rfl) (by rfl) rfl (fun w_ hM => hM.srcO 0 rfl) h388.len h388.one hb398 (by have z_ := congrArg List.length he397; rw [List.length_append] at z_; exact z_.symm) hy400 (fun _ _ _ _ hS h' => (by exact h'.sub (.cons _ (.cons _ (.cons _ (.cons _ (.cons _ (.cons_cons _ (.cons_cons _ (.refl _)))))))))) ?_
           rintro ⟨A402, c403⟩
           refine oQ [oT 14, oT 15] [(64, vP b_r 1), (62, sl A402 l60 c403), (56, sl A395 l49 c396), (50, vP b_r 0), (4, vI (r_1.length : Int)), (0, vP b_r 0), (2, vP b1 0)] (by kernel_rfl) ?_
           refine ops_store (an := []) (evs := [sr b_r 1 (sl A395 l49 c396)]) ⟨by kernel_rfl⟩ (fun w_ hM hS => let ⟨w', he, h'⟩ := hM.evs_stores [sl A395 l49 c396] 2 rfl 1 (Nat.le_of_ble_eq_true rfl); ⟨w', he, h', (by exact h'.sub (.cons _ (.cons _ (.cons _ (.cons _ (.cons _ (.cons_cons _ (.cons_cons _ (.refl _)))))))))⟩) ?_
           refine oQ [oT 17, oT 18] [(66, vP b_r 0), (62, sl A402 l60 c403), (4, vI (r_1.length : Int)), (0, vP b_r 0), (2, vP b1 0)] (by kernel_rfl) ?_
           refine ops_store (an := []) (evs := [sr b_r 0 (sl A402 l60 c403)]) ⟨by kernel_rfl⟩ (fun w_ hM hS => let ⟨w', he, h'⟩ := hM.evs_stores [sl A402 l60 c403] 2 rfl 0 (Nat.le_of_ble_eq_true rfl); ⟨w', he, h', (by exact h'.sub (.cons _ (.cons _ (.cons _ (.cons _ (.cons _ (.cons_cons _ (.cons_cons _ (.refl _)))))))))⟩) ?_
           refine ops_nil ?_
           exact fin_join HJ2 (A402, c403, l60, y399, A395, c396, l49, y392, (r_1.length : Int)) ⟨hp, h401, h394⟩ (look_has ⟨rfl, rfl, rfl, trivial⟩) (fun w_ hM => hM.pick 7 [2, 3, 4, 5, 6] (by kernel_rfl) (by decide) rfl)
          ·
           refine tree_leaf ?_
           refine ops_mem (d := some 60) (an := [.v (sl A_r_0 r_0 c_r_0)]) (evs := [ld b_r 0 (sl A_r_0 r_0 c_r_0)]) (v := sl A_r_0 r_0 c_r_0) ⟨by kernel_rfl⟩ (fun w_ hM hS => ⟨w_, ⟨hM.cell 2 rfl rfl, rfl⟩, hM, hS⟩) ?_
           obtain ⟨he404, hb405⟩ := app_some hv50
           obtain ⟨y406, hy407⟩ : ∃ y_, y_r_1 ++ ([.bool false]) = y_ := ⟨_, rfl⟩
           have h408 : RepL Rep.bool F W l49 y406 := by rw [he404, ← hy407]; exact RepL.app h_r_1 h251
           refine ops_appendO (x := (Go.Operand.tmp 54)) (y := (Go.Operand.tmp 55)) (t := 84) (e := 4) (d := some 56) (n' := l49.length) (z := 1) (m := ([false] : List Bool).length) (bytes := 1) (xs' := y406) (news := ([.bool false])) (zv := .bool false) 4 ⟨by kernel_rfl⟩ rfl rfl Try.underlying84 (by kernel_rfl) (by rfl) rfl (fun w_ hM => hM.srcO 1 rfl) h251.len h251.one hb405 (by have z_ := congrArg List.length he404; rw [List.length_append] at z_; exact z_.symm) hy407 (fun _ _ _ _ hS h' => (by exact h'.sub (.cons _ (.cons _ (.cons _ (.cons _ (.cons _ (.cons_cons _ (.cons_cons _ (.refl _)))))))))) ?_
           rintro ⟨A409, c410⟩
           obtain ⟨he411, hb412⟩ := app_some hv61
           obtain ⟨y413, hy414⟩ : ∃ y_, y_r_0 ++ ([vI 0]) = y_ := ⟨_, rfl⟩
           have h415 : RepL (Rep.int .i64) F W l60 y413 := by rw [he411, ← hy414]; exact RepL.app h_r_0 h388
           refine ops_appendO (x := (Go.Operand.tmp 60)) (y := (Go.Operand.tmp 61)) (t := 23) (e := 3) (d := some 62) (n' := l60.length) (z := 1) (m := ([0] : List Int).length) (bytes := 8) (xs' := y413) (news := ([vI 0])) (zv := vI 0) 3 ⟨by kernel_rfl⟩ rfl rfl Try.underlying23 (by kernel_rfl) (by rfl) rfl (fun w_ hM => hM.srcO 0 rfl) h388.len h388.one hb412 (by have z_ := congrArg List.length he411; rw [List.length_append] at z_; exact z_.symm) hy414 (fun _ _ _ _ hS h' => (by exact h'.sub (.cons _ (.cons _ (.cons _ (.cons _ (.cons _ (.cons_cons _ (.cons_cons _ (.refl _)))))))))) ?_
           rintro ⟨A416, c417⟩
           refine oQ [oT 14, oT 15] [(64, vP b_r 1), (62, sl A416 l60 c417), (56, sl A409 l49 c410), (50, vP b_r 0), (4, vI (r_1.length : Int)), (0, vP b_r 0), (2, vP b1 0)] (by kernel_rfl) ?_
           refine ops_store (an := []) (evs := [sr b_r 1 (sl A409 l49 c410)]) ⟨by kernel_rfl⟩ (fun w_ hM hS => let ⟨w', he, h'⟩ := hM.evs_stores [sl A409 l49 c410] 2 rfl 1 (Nat.le_of_ble_eq_true rfl); ⟨w', he, h', (by exact h'.sub (.cons _ (.cons _ (.cons _ (.cons _ (.cons _ (.cons_cons _ (.cons_cons _ (.refl _)))))))))⟩) ?_
           refine oQ [oT 17, oT 18] [(66, vP b_r 0), (62, sl A416 l60 c417), (4, vI (r_1.length : Int)), (0, vP b_r 0), (2, vP b1 0)] (by kernel_rfl) ?_
           refine ops_store (an := []) (evs := [sr b_r 0 (sl A416 l60 c417)]) ⟨by kernel_rfl⟩ (fun w_ hM hS => let ⟨w', he, h'⟩ := hM.evs_stores [sl A416 l60 c417] 2 rfl 0 (Nat.le_of_ble_eq_true rfl); ⟨w', he, h', (by exact h'.sub (.cons _ (.cons _ (.cons _ (.cons _ (.cons _ (.cons_cons _ (.cons_cons _ (.refl _)))))))))⟩) ?_
           refine ops_nil ?_
           exact fin_join HJ2 (A416, c417, l60, y413, A409, c410, l49, y406, (r_1.length : Int)) ⟨hp, h415, h408⟩ (look_has ⟨rfl, rfl, rfl, trivial⟩) (fun w_ hM => hM.pick 7 [2, 3, 4, 5, 6] (by kernel_rfl) (by decide) rfl)
         ·
          refine tree_leaf ?_
          refine ops_mem (d := some 60) (an := [.v (sl A_r_0 r_0 c_r_0)]) (evs := [ld b_r 0 (sl A_r_0 r_0 c_r_0)]) (v := sl A_r_0 r_0 c_r_0) ⟨by kernel_rfl⟩ (fun w_ hM hS => ⟨w_, ⟨hM.cell 2 rfl rfl, rfl⟩, hM, hS⟩) ?_
          refine ops_mem (d := some 54) (an := [.v (sl A_r_1 r_1 c_r_1)]) (evs := [ld b_r 1 (sl A_r_1 r_1 c_r_1)]) (v := sl A_r_1 r_1 c_r_1) ⟨by kernel_rfl⟩ (fun w_ hM hS => ⟨w_, ⟨hM.cell 2 rfl rfl, rfl⟩, hM, hS⟩) ?_
          obtain ⟨he418, hb419⟩ := app_some hv50
          obtain ⟨y420, hy421⟩ : ∃ y_, y_r_1 ++ ([.bool false]) = y_ := ⟨_, rfl⟩
          have h422 : RepL Rep.bool F W l49 y420 := by rw [he418, ← hy421]; exact RepL.app h_r_1 h251
          refine ops_appendO (x := (Go.Operand.tmp 54)) (y := (Go.Operand.tmp 55)) (t := 84) (e := 4) (d := some 56) (n' := l49.length) (z := 1) (m := ([false] : List Bool).length) (bytes := 1) (xs' := y420) (news := ([.bool false])) (zv := .bool false) 4 ⟨by kernel_rfl⟩ rfl rfl Try.underlying84 (by kernel_rfl) (by rfl) rfl (fun w_ hM => hM.srcO 1 rfl) h251.len h251.one hb419 (by have z_ := congrArg List.length he418; rw [List.length_append] at z_; exact z_.symm) hy421 (fun _ _ _ _ hS h' => (by exact h'.sub (.cons _ (.cons _ (.cons _ (.cons _ (.cons _ (.cons_cons _ (.cons_cons _ (.refl _)))))))))) ?_
          rintro ⟨A423, c424⟩
          obtain ⟨he425, hb426⟩ := app_some hv61
          obtain ⟨y427, hy428⟩ : ∃ y_, y_r_0 ++ ([vI 0]) = y_ := ⟨_, rfl⟩
          have h429 : RepL (Rep.int .i64) F W l60 y427 := by rw [he425, ← hy428]; exact RepL.app h_r_0 h388
          refine ops_appendO (x := (Go.Operand.tmp 60)) (y := (Go.Operand.tmp 61)) (t := 23) (e := 3) (d := some 62) (n' := l60.length) (z := 1) (m := ([0] : List Int).length) (bytes := 8) (xs' := y427) (news := ([vI 0])) (zv := vI 0) 3 ⟨by kernel_rfl⟩ rfl rfl Try.underlying23 (by kernel_rfl) (by rfl) rfl (fun w_ hM => hM.srcO 0 rfl) h388.len h388.one hb426 (by have z_ := congrArg List.length he425; rw [List.length_append] at z_; exact z_.symm) hy428 (fun _ _ _ _ hS h' => (by exact h'.sub (.cons _ (.cons _ (.cons _ (.cons _ (.cons _ (.cons_cons _ (.cons_cons _ (.refl _)))))))))) ?_
          rintro ⟨A430, c431⟩
          refine oQ [oT 14, oT 15] [(64, vP b_r 1), (62, sl A430 l60 c431), (56, sl A423 l49 c424), (50, vP b_r 0), (4, vI (r_1.length : Int)), (0, vP b_r 0), (2, vP b1 0)] (by kernel_rfl) ?_
          refine ops_store (an := []) (evs := [sr b_r 1 (sl A423 l49 c424)]) ⟨by kernel_rfl⟩ (fun w_ hM hS => let ⟨w', he, h'⟩ := hM.evs_stores [sl A423 l49 c424] 2 rfl 1 (Nat.le_of_ble_eq_true rfl); ⟨w', he, h', (by exact h'.sub (.cons _ (.cons _ (.cons _ (.cons _ (.cons _ (.cons_cons _ (.cons_cons _ (.refl _)))))))))⟩) ?_
          refine oQ [oT 17, oT 18] [(66, vP b_r 0), (62, sl A430 l60 c431), (4, vI (r_1.length : Int)), (0, vP b_r 0), (2, vP b1 0)] (by kernel_rfl) ?_
          refine ops_store (an := []) (evs := [sr b_r 0 (sl A430 l60 c431)]) ⟨by kernel_rfl⟩ (fun w_ hM hS => let ⟨w', he, h'⟩ := hM.evs_stores [sl A430 l60 c431] 2 rfl 0 (Nat.le_of_ble_eq_true rfl); ⟨w', he, h', (by exact h'.sub (.cons _ (.cons _ (.cons _ (.cons _ (.cons _ (.cons_cons _ (.cons_cons _ (.refl _)))))))))⟩) ?_
          refine ops_nil ?_
          exact fin_join HJ2 (A430, c431, l60, y427, A423, c424, l49, y420, (r_1.length : Int)) ⟨hp, h429, h422⟩ (look_has ⟨rfl, rfl, rfl, trivial⟩) (fun w_ hM => hM.pick 7 [2, 3, 4, 5, 6] (by kernel_rfl) (by decide) rfl)
      ·
       refine tree_ways ?_ ?_
       ·
        refine tree_node ?_
        refine ops_mem (d := some 60) (an := [.v (sl A_r_0 r_0 c_r_0)]) (evs := [ld b_r 0 (sl A_r_0 r_0 c_r_0)]) (v := sl A_r_0 r_0 c_r_0) ⟨by kernel_rfl⟩ (fun w_ hM hS => ⟨w_, ⟨hM.cell 0 rfl rfl, rfl⟩, hM, hS⟩) ?_
        refine ops_nil ?_
        refine tree_both ?_ ?_
        ·
         refine tree_node ?_
         refine ops_mem (d := some 54) (an := [.v (sl A_r_1 r_1 c_r_1)]) (evs := [ld b_r 1 (sl A_r_1 r_1 c_r_1)]) (v := sl A_r_1 r_1 c_r_1) ⟨by kernel_rfl⟩ (fun w_ hM hS => ⟨w_, ⟨hM.cell 0 rfl rfl, rfl⟩, hM, hS⟩) ?_
         refine ops_nil ?_
         refine tree_both ?_ ?_
         ·
          refine tree_node ?_
          have h432 : RepL Rep.bool F W ([false] : List Bool) ([.bool false]) := (RepL.cons (R := Rep.bool) (F := F) (w := W) (vs := [.bool false]) (ys := []) rfl RepL.nil)
          refine ops_new (d := some 55) (o := .cells ([.bool false] : List Value).toArray 4) (v := fun g433 => .slice (sa g433) ([false] : List Bool).length 1) (M' := fun g433 => Mem w0 (orow (sa g433) ([false] : List Bool).length 1 4 1 ([.bool false]) :: .blk b_r [sl A_r_0 r_0 c_r_0, sl A_r_1 r_1 c_r_1] 86 :: ow A_r_0 r_0 c_r_0 3 1 y_r_0 :: ow A_r_1 r_1 c_r_1 4 1 y_r_1 :: .blk b1 [vI 0, vI 0] 35 :: Fz F W :: cs)) (fun g433 => ⟨by kernel_rfl⟩) (fun w_ hM hS => ⟨hM.onew [.bool false] 4 1 1 rfl (by decide), hS.alloc _⟩) (fun g433 => ?_)
          refine ops_nil ?_
          refine tree_both ?_ ?_
          ·
           refine tree_leaf ?_
           obtain ⟨he434, hb435⟩ := app_some hv50
           obtain ⟨y436, hy437⟩ : ∃ y_, y_r_1 ++ ([.bool false]) = y_ := ⟨_, rfl⟩
           have h438 : RepL Rep.bool F W l49 y436 := by rw [he434, ← hy437]; exact RepL.app h_r_1 h432
           refine ops_appendO (x := (Go.Operand.tmp 54)) (y := (Go.Operand.tmp 55)) (t := 84) (e := 4) (d := some 56) (n' := l49.length) (z := 1) (m := ([false] : List Bool).length) (bytes := 1) (xs' := y436) (news := ([.bool false])) (zv := .bool false) 3 ⟨by kernel_rfl⟩ rfl rfl Try.underlying84 (by kernel_rfl) (by rfl) rfl (fun w_ hM => hM.srcO 0 rfl) h432.len h432.one hb435 (by have z_ := congrArg List.length he434; rw [List.length_append] at z_; exact z_.symm) hy437 (fun _ _ _ _ hS h' => (by exact h'.sub (.cons _ (.cons _ (.cons _ (.cons _ (.cons_cons _ (.cons_cons _ (.refl _))))))))) ?_
           rintro ⟨A439, c440⟩
           have h441 : RepL (Rep.int .i64) F W ([0] : List Int) ([vI 0]) := (RepL.cons (R := (Rep.int .i64)) (F := F) (w := W) (vs := [vI 0]) (ys := []) rfl RepL.nil)
           refine ops_new (d := some 61) (o := .cells ([vI 0] : List Value).toArray 3) (v := fun g442 => .slice (sa g442) ([0] : List Int).length 1) (M' := fun g442 => Mem w0 (orow (sa g442) ([0] : List Int).length 1 3 1 ([vI 0]) :: orow (sa g433) ([false] : List Bool).length 1 4 1 ([.bool false]) :: .blk b_r [sl A_r_0 r_0 c_r_0, sl A_r_1 r_1 c_r_1] 86 :: ow A_r_0 r_0 c_r_0 3 1 y_r_0 :: ow A439 l49 c440 4 1 y436 :: .blk b1 [vI 0, vI 0] 35 :: Fz F W :: cs)) (fun g442 => ⟨by kernel_rfl⟩) (fun w_ hM hS => ⟨hM.onew [vI 0] 3 1 1 rfl (by decide), hS.alloc _⟩) (fun g442 => ?_)
           obtain ⟨he443, hb444⟩ := app_some hv61
           obtain ⟨y445, hy446⟩ : ∃ y_, y_r_0 ++ ([vI 0]) = y_ := ⟨_, rfl⟩
           have h447 : RepL (Rep.int .i64) F W l60 y445 := by rw [he443, ← hy446]; exact RepL.app h_r_0 h441
           refine ops_appendO (x := (Go.Operand.tmp 60)) (y := (Go.Operand.tmp 61)) (t := 23) (e := 3) (d := some 62) (n' := l60.length) (z := 1) (m := ([0] : List Int).length) (bytes := 8) (xs' := y445) (news := ([vI 0])) (zv := vI 0) 3 ⟨by kernel_rfl⟩ rfl rfl Try.underlying23 (by kernel_rfl) (by rfl) rfl (fun w_ hM => hM.srcO 0 rfl) h441.len h441.one hb444 (by have z_ := congrArg List.length he443; rw [List.length_append] at z_; exact z_.symm) hy446 (fun _ _ _ _ hS h' => (by exact h'.sub (.cons _ (.cons _ (.cons _ (.cons _ (.cons _ (.cons_cons _ (.cons_cons _ (.refl _)))))))))) ?_
           rintro ⟨A448, c449⟩
           refine oQ [oT 14, oT 15] [(64, vP b_r 1), (62, sl A448 l60 c449), (56, sl A439 l49 c440), (50, vP b_r 0), (4, vI (r_1.length : Int)), (0, vP b_r 0), (2, vP b1 0)] (by kernel_rfl) ?_
           refine ops_store (an := []) (evs := [sr b_r 1 (sl A439 l49 c440)]) ⟨by kernel_rfl⟩ (fun w_ hM hS => let ⟨w', he, h'⟩ := hM.evs_stores [sl A439 l49 c440] 2 rfl 1 (Nat.le_of_ble_eq_true rfl); ⟨w', he, h', (by exact h'.sub (.cons _ (.cons _ (.cons _ (.cons _ (.cons _ (.cons_cons _ (.cons_cons _ (.refl _)))))))))⟩) ?_
           refine oQ [oT 17, oT 18] [(66, vP b_r 0), (62, sl A448 l60 c449), (4, vI (r_1.length : Int)), (0, vP b_r 0), (2, vP b1 0)] (by kernel_rfl) ?_
           refine ops_store (an := []) (evs := [sr b_r 0 (sl A448 l60 c449)]) ⟨by kernel_rfl⟩ (fun w_ hM hS => let ⟨w', he, h'⟩ := hM.evs_stores [sl A448 l60 c449] 2 rfl 0 (Nat.le_of_ble_eq_true rfl); ⟨w', he, h', (by exact h'.sub (.cons _ (.cons _ (.cons _ (.cons _ (.cons _ (.cons_cons _ (.cons_cons _ (.refl _)))))))))⟩) ?_
           refine ops_nil ?_
           exact fin_join HJ2 (A448, c449, l60, y445, A439, c440, l49, y436, (r_1.length : Int)) ⟨hp, h447, h438⟩ (look_has ⟨rfl, rfl, rfl, trivial⟩) (fun w_ hM => hM.pick 7 [2, 3, 4, 5, 6] (by kernel_rfl) (by decide) rfl)
          ·
           refine tree_leaf ?_
           have h450 : RepL (Rep.int .i64) F W ([0] : List Int) ([vI 0]) := (RepL.cons (R := (Rep.int .i64)) (F := F) (w := W) (vs := [vI 0]) (ys := []) rfl RepL.nil)
           refine ops_new (d := some 61) (o := .cells ([vI 0] : List Value).toArray 3) (v := fun g451 => .slice (sa g451) ([0] : List Int).length 1) (M' := fun g451 => Mem w0 (orow (sa g451) ([0] : List Int).length 1 3 1 ([vI 0]) :: orow (sa g433) ([false] : List Bool).length 1 4 1 ([.bool false]) :: .blk b_r [sl A_r_0 r_0 c_r_0, sl A_r_1 r_1 c_r_1] 86 :: ow A_r_0 r_0 c_r_0 3 1 y_r_0 :: ow A_r_1 r_1 c_r_1 4 1 y_r_1 :: .blk b1 [vI 0, vI 0] 35 :: Fz F W :: cs)) (fun g451 => ⟨by kernel_rfl⟩) (fun w_ hM hS => ⟨hM.onew [vI 0] 3 1 1 rfl (by decide), hS.alloc _⟩) (fun g451 => ?_)
           obtain ⟨he452, hb453⟩ := app_some hv50
           obtain ⟨y454, hy455⟩ : ∃ y_, y_r_1 ++ ([.bool false]) = y_ := ⟨_, rfl⟩
           have h456 : RepL Rep.bool F W l49 y454 := by rw [he452, ← hy455]; exact RepL.app h_r_1 h432
           refine ops_appendO (x := (Go.Operand.tmp 54)) (y := (Go.Operand.tmp 55)) (t := 84) (e := 4) (d := some 56) (n' := l49.length) (z := 1) (m := ([false] : List Bool).length) (bytes := 1) (xs' := y454) (news := ([.bool false])) (zv := .bool false) 4 ⟨by kernel_rfl⟩ rfl rfl Try.underlying84 (by kernel_rfl) (by rfl) rfl (fun w_ hM => hM.srcO 1 rfl) h432.len h432.one hb453 (by have z_ := congrArg List.length he452; rw [List.length_append] at z_; exact z_.symm) hy455 (fun _ _ _ _ hS h' => (by exact h'.sub (.cons _ (.cons _ (.cons _ (.cons _ (.cons _ (.cons_cons _ (.cons_cons _ (.refl _)))))))))) ?_
           rintro ⟨A457, c458⟩
           obtain ⟨he459, hb460⟩ := app_some hv61
           obtain ⟨y461, hy462⟩ : ∃ y_, y_r_0 ++ ([vI 0]) = y_ := ⟨_, rfl⟩
           have h463 : RepL (Rep.int .i64) F W l60 y461 := by rw [he459, ← hy462]; exact RepL.app h_r_0 h450
           refine ops_appendO (x := (Go.Operand.tmp 60)) (y := (Go.Operand.tmp 61)) (t := 23) (e := 3) (d := some 62) (n' := l60.length) (z := 1) (m := ([0] : List Int).length) (bytes := 8) (xs' := y461) (news := ([vI 0])) (zv := vI 0) 3 ⟨by kernel_rfl⟩ rfl rfl Try.underlying23 (by kernel_rfl) (by rfl) rfl (fun w_ hM => hM.srcO 0 rfl) h450.len h450.one hb460 (by have z_ := congrArg List.length he459; rw [List.length_append] at z_; exact z_.symm) hy462 (fun _ _ _ _ hS h' => (by exact h'.sub (.cons _ (.cons _ (.cons _ (.cons _ (.cons _ (.cons_cons _ (.cons_cons _ (.refl _)))))))))) ?_
           rintro ⟨A464, c465⟩
           refine oQ [oT 14, oT 15] [(64, vP b_r 1), (62, sl A464 l60 c465), (56, sl A457 l49 c458), (50, vP b_r 0), (4, vI (r_1.length : Int)), (0, vP b_r 0), (2, vP b1 0)] (by kernel_rfl) ?_
           refine ops_store (an := []) (evs := [sr b_r 1 (sl A457 l49 c458)]) ⟨by kernel_rfl⟩ (fun w_ hM hS => let ⟨w', he, h'⟩ := hM.evs_stores [sl A457 l49 c458] 2 rfl 1 (Nat.le_of_ble_eq_true rfl); ⟨w', he, h', (by exact h'.sub (.cons _ (.cons _ (.cons _ (.cons _ (.cons _ (.cons_cons _ (.cons_cons _ (.refl _)))))))))⟩) ?_
           refine oQ [oT 17, oT 18] [(66, vP b_r 0), (62, sl A464 l60 c465), (4, vI (r_1.length : Int)), (0, vP b_r 0), (2, vP b1 0)] (by kernel_rfl) ?_
           refine ops_store (an := []) (evs := [sr b_r 0 (sl A464 l60 c465)]) ⟨by kernel_rfl⟩ (fun w_ hM hS => let ⟨w', he, h'⟩ := hM.evs_stores [sl A464 l60 c465] 2 rfl 0 (Nat.le_of_ble_eq_true rfl); ⟨w', he, h', (by exact h'.sub (.cons _ (.cons _ (.cons _ (.cons _ (.cons _ (.cons_cons _ (.cons_cons _ (.refl _)))))))))⟩) ?_
           refine ops_nil ?_
           exact fin_join HJ2 (A464, c465, l60, y461, A457, c458, l49, y454, (r_1.length : Int)) ⟨hp, h463, h456⟩ (look_has ⟨rfl, rfl, rfl, trivial⟩) (fun w_ hM => hM.pick 7 [2, 3, 4, 5, 6] (by kernel_rfl) (by decide) rfl)
         ·
          refine tree_leaf ?_
          have h466 : RepL (Rep.int .i64) F W ([0] : List Int) ([vI 0]) := (RepL.cons (R := (Rep.int .i64)) (F := F) (w := W) (vs := [vI 0]) (ys := []) rfl RepL.nil)
          refine ops_new (d := some 61) (o := .cells ([vI 0] : List Value).toArray 3) (v := fun g467 => .slice (sa g467) ([0] : List Int).length 1) (M' := fun g467 => Mem w0 (orow (sa g467) ([0] : List Int).length 1 3 1 ([vI 0]) :: .blk b_r [sl A_r_0 r_0 c_r_0, sl A_r_1 r_1 c_r_1] 86 :: ow A_r_0 r_0 c_r_0 3 1 y_r_0 :: ow A_r_1 r_1 c_r_1 4 1 y_r_1 :: .blk b1 [vI 0, vI 0] 35 :: Fz F W :: cs)) (fun g467 => ⟨by kernel_rfl⟩) (fun w_ hM hS => ⟨hM.onew [vI 0] 3 1 1 rfl (by decide), hS.alloc _⟩) (fun g467 => ?_)
          have h468 : RepL Rep.bool F W ([false] : List Bool) ([.bool false]) := (RepL.cons (R := Rep.bool) (F := F) (w := W) (vs := [.bool false]) (ys := []) rfl RepL.nil)
          refine ops_new (d := some 55) (o := .cells ([.bool false] : List Value).toArray 4) (v := fun g469 => .slice (sa g469) ([false] : List Bool).length 1) (M' := fun g469 => Mem w0 (orow (sa g469) ([false] : List Bool).length 1 4 1 ([.bool false]) :: orow (sa g467) ([0] : List Int).length 1 3 1 ([vI 0]) :: .blk b_r [sl A_r_0 r_0 c_r_0, sl A_r_1 r_1 c_r_1] 86 :: ow A_r_0 r_0 c_r_0 3 1 y_r_0 :: ow A_r_1 r_1 c_r_1 4 1 y_r_1 :: .blk b1 [vI 0, vI 0] 35 :: Fz F W :: cs)) (fun g469 => ⟨by kernel_rfl⟩) (fun w_ hM hS => ⟨hM.onew [.bool false] 4 1 1 rfl (by decide), hS.alloc _⟩) (fun g469 => ?_)
          obtain ⟨he470, hb471⟩ := app_some hv50
          obtain ⟨y472, hy473⟩ : ∃ y_, y_r_1 ++ ([.bool false]) = y_ := ⟨_, rfl⟩
          have h474 : RepL Rep.bool F W l49 y472 := by rw [he470, ← hy473]; exact RepL.app h_r_1 h468
          refine ops_appendO (x := (Go.Operand.tmp 54)) (y := (Go.Operand.tmp 55)) (t := 84) (e := 4) (d := some 56) (n' := l49.length) (z := 1) (m := ([false] : List Bool).length) (bytes := 1) (xs' := y472) (news := ([.bool false])) (zv := .bool false) 4 ⟨by kernel_rfl⟩ rfl rfl Try.underlying84 (by kernel_rfl) (by rfl) rfl (fun w_ hM => hM.srcO 0 rfl) h468.len h468.one hb471 (by have z_ := congrArg List.length he470; rw [List.length_append] at z_; exact z_.symm) hy473 (fun _ _ _ _ hS h' => (by exact h'.sub (.cons _ (.cons _ (.cons _ (.cons _ (.cons _ (.cons_cons _ (.cons_cons _ (.refl _)))))))))) ?_
          rintro ⟨A475, c476⟩
          obtain ⟨he477, hb478⟩ := app_some hv61
          obtain ⟨y479, hy480⟩ : ∃ y_, y_r_0 ++ ([vI 0]) = y_ := ⟨_, rfl⟩
          have h481 : RepL (Rep.int .i64) F W l60 y479 := by rw [he477, ← hy480]; exact RepL.app h_r_0 h466
          refine ops_appendO (x := (Go.Operand.tmp 60)) (y := (Go.Operand.tmp 61)) (t := 23) (e := 3) (d := some 62) (n' := l60.length) (z := 1) (m := ([0] : List Int).length) (bytes := 8) (xs' := y479) (news := ([vI 0])) (zv := vI 0) 3 ⟨by kernel_rfl⟩ rfl rfl Try.underlying23 (by kernel_rfl) (by rfl) rfl (fun w_ hM => hM.srcO 1 rfl) h466.len h466.one hb478 (by have z_ := congrArg List.length he477; rw [List.length_append] at z_; exact z_.symm) hy480 (fun _ _ _ _ hS h' => (by exact h'.sub (.cons _ (.cons _ (.cons _ (.cons _ (.cons _ (.cons_cons _ (.cons_cons _ (.refl _)))))))))) ?_
          rintro ⟨A482, c483⟩
          refine oQ [oT 14, oT 15] [(64, vP b_r 1), (62, sl A482 l60 c483), (56, sl A475 l49 c476), (50, vP b_r 0), (4, vI (r_1.length : Int)), (0, vP b_r 0), (2, vP b1 0)] (by kernel_rfl) ?_
          refine ops_store (an := []) (evs := [sr b_r 1 (sl A475 l49 c476)]) ⟨by kernel_rfl⟩ (fun w_ hM hS => let ⟨w', he, h'⟩ := hM.evs_stores [sl A475 l49 c476] 2 rfl 1 (Nat.le_of_ble_eq_true rfl); ⟨w', he, h', (by exact h'.sub (.cons _ (.cons _ (.cons _ (.cons _ (.cons _ (.cons_cons _ (.cons_cons _ (.refl _)))))))))⟩) ?_
          refine oQ [oT 17, oT 18] [(66, vP b_r 0), (62, sl A482 l60 c483), (4, vI (r_1.length : Int)), (0, vP b_r 0), (2, vP b1 0)] (by kernel_rfl) ?_
          refine ops_store (an := []) (evs := [sr b_r 0 (sl A482 l60 c483)]) ⟨by kernel_rfl⟩ (fun w_ hM hS => let ⟨w', he, h'⟩ := hM.evs_stores [sl A482 l60 c483] 2 rfl 0 (Nat.le_of_ble_eq_true rfl); ⟨w', he, h', (by exact h'.sub (.cons _ (.cons _ (.cons _ (.cons _ (.cons _ (.cons_cons _ (.cons_cons _ (.refl _)))))))))⟩) ?_
          refine ops_nil ?_
          exact fin_join HJ2 (A482, c483, l60, y479, A475, c476, l49, y472, (r_1.length : Int)) ⟨hp, h481, h474⟩ (look_has ⟨rfl, rfl, rfl, trivial⟩) (fun w_ hM => hM.pick 7 [2, 3, 4, 5, 6] (by kernel_rfl) (by decide) rfl)
        ·
         refine tree_ways ?_ ?_
         ·
          refine tree_node ?_
          have h484 : RepL Rep.bool F W ([false] : List Bool) ([.bool false]) := (RepL.cons (R := Rep.bool) (F := F) (w := W) (vs := [.bool false]) (ys := []) rfl RepL.nil)
          refine ops_new (d := some 55) (o := .cells ([.bool false] : List Value).toArray 4) (v := fun g485 => .slice (sa g485) ([false] : List Bool).length 1) (M' := fun g485 => Mem w0 (orow (sa g485) ([false] : List Bool).length 1 4 1 ([.bool false]) :: .blk b_r [sl A_r_0 r_0 c_r_0, sl A_r_1 r_1 c_r_1] 86 :: ow A_r_0 r_0 c_r_0 3 1 y_r_0 :: ow A_r_1 r_1 c_r_1 4 1 y_r_1 :: .blk b1 [vI 0, vI 0] 35 :: Fz F W :: cs)) (fun g485 => ⟨by kernel_rfl⟩) (fun w_ hM hS => ⟨hM.onew [.bool false] 4 1 1 rfl (by decide), hS.alloc _⟩) (fun g485 => ?_)
          refine ops_nil ?_
          refine tree_both ?_ ?_
          ·
           refine tree_node ?_
           refine ops_mem (d := some 54) (an := [.v (sl A_r_1 r_1 c_r_1)]) (evs := [ld b_r 1 (sl A_r_1 r_1 c_r_1)]) (v := sl A_r_1 r_1 c_r_1) ⟨by kernel_rfl⟩ (fun w_ hM hS => ⟨w_, ⟨hM.cell 1 rfl rfl, rfl⟩, hM, hS⟩) ?_
           refine ops_nil ?_
           refine tree_both ?_ ?_
           ·
            refine tree_leaf ?_
            obtain ⟨he486, hb487⟩ := app_some hv50
            obtain ⟨y488, hy489⟩ : ∃ y_, y_r_1 ++ ([.bool false]) = y_ := ⟨_, rfl⟩
            have h490 : RepL Rep.bool F W l49 y488 := by rw [he486, ← hy489]; exact RepL.app h_r_1 h484
            refine ops_appendO (x := (Go.Operand.tmp 54)) (y := (Go.Operand.tmp 55)) (t := 84) (e := 4) (d := some 56) (n' := l49.length) (z := 1) (m := ([false] : List Bool).length) (bytes := 1) (xs' := y488) (news := ([.bool false])) (zv := .bool false) 3 ⟨by kernel_rfl⟩ rfl rfl Try.underlying84 (by kernel_rfl) (by rfl) rfl (fun w_ hM => hM.srcO 0 rfl) h484.len h484.one hb487 (by have z_ := congrArg List.length he486; rw [List.length_append] at z_; exact z_.symm) hy489 (fun _ _ _ _ hS h' => (by exact h'.sub (.cons _ (.cons _ (.cons _ (.cons _ (.cons_cons _ (.cons_cons _ (.refl _))))))))) ?_
            rintro ⟨A491, c492⟩
            have h493 : RepL (Rep.int .i64) F W ([0] : List Int) ([vI 0]) := (RepL.cons (R := (Rep.int .i64)) (F := F) (w := W) (vs := [vI 0]) (ys := []) rfl RepL.nil)
            refine ops_new (d := some 61) (o := .cells ([vI 0] : List Value).toArray 3) (v := fun g494 => .slice (sa g494) ([0] : List Int).length 1) (M' := fun g494 => Mem w0 (orow (sa g494) ([0] : List Int).length 1 3 1 ([vI 0]) :: orow (sa g485) ([false] : List Bool).length 1 4 1 ([.bool false]) :: .blk b_r [sl A_r_0 r_0 c_r_0, sl A_r_1 r_1 c_r_1] 86 :: ow A_r_0 r_0 c_r_0 3 1 y_r_0 :: ow A491 l49 c492 4 1 y488 :: .blk b1 [vI 0, vI 0] 35 :: Fz F W :: cs)) (fun g494 => ⟨by kernel_rfl⟩) (fun w_ hM hS => ⟨hM.onew [vI 0] 3 1 1 rfl (by decide), hS.alloc _⟩) (fun g494 => ?_)
            obtain ⟨he495, hb496⟩ := app_some hv61
            obtain ⟨y497, hy498⟩ : ∃ y_, y_r_0 ++ ([vI 0]) = y_ := ⟨_, rfl⟩
            have h499 : RepL (Rep.int .i64) F W l60 y497 := by rw [he495, ← hy498]; exact RepL.app h_r_0 h493
            refine ops_appendO (x := (Go.Operand.tmp 60)) (y := (Go.Operand.tmp 61)) (t := 23) (e := 3) (d := some 62) (n' := l60.length) (z := 1) (m := ([0] : List Int).length) (bytes := 8) (xs' := y497) (news := ([vI 0])) (zv := vI 0) 3 ⟨by kernel_rfl⟩ rfl rfl Try.underlying23 (by kernel_rfl) (by rfl) rfl (fun w_ hM => hM.srcO 0 rfl) h493.len h493.one hb496 (by have z_ := congrArg List.length he495; rw [List.length_append] at z_; exact z_.symm) hy498 (fun _ _ _ _ hS h' => (by exact h'.sub (.cons _ (.cons _ (.cons _ (.cons _ (.cons _ (.cons_cons _ (.cons_cons _ (.refl _)))))))))) ?_
            rintro ⟨A500, c501⟩
            refine oQ [oT 14, oT 15] [(64, vP b_r 1), (62, sl A500 l60 c501), (56, sl A491 l49 c492), (50, vP b_r 0), (4, vI (r_1.length : Int)), (0, vP b_r 0), (2, vP b1 0)] (by kernel_rfl) ?_
            refine ops_store (an := []) (evs := [sr b_r 1 (sl A491 l49 c492)]) ⟨by kernel_rfl⟩ (fun w_ hM hS => let ⟨w', he, h'⟩ := hM.evs_stores [sl A491 l49 c492] 2 rfl 1 (Nat.le_of_ble_eq_true rfl); ⟨w', he, h', (by exact h'.sub (.cons _ (.cons _ (.cons _ (.cons _ (.cons _ (.cons_cons _ (.cons_cons _ (.refl _)))))))))⟩) ?_
            refine oQ [oT 17, oT 18] [(66, vP b_r 0), (62, sl A500 l60 c501), (4, vI (r_1.length : Int)), (0, vP b_r 0), (2, vP b1 0)] (by kernel_rfl) ?_
            refine ops_store (an := []) (evs := [sr b_r 0 (sl A500 l60 c501)]) ⟨by kernel_rfl⟩ (fun w_ hM hS => let ⟨w', he, h'⟩ := hM.evs_stores [sl A500 l60 c501] 2 rfl 0 (Nat.le_of_ble_eq_true rfl); ⟨w', he, h', (by exact h'.sub (.cons _ (.cons _ (.cons _ (.cons _ (.cons _ (.cons_cons _ (.cons_cons _ (.refl _)))))))))⟩) ?_
            refine ops_nil ?_
            exact fin_join HJ2 (A500, c501, l60, y497, A491, c492, l49, y488, (r_1.length : Int)) ⟨hp, h499, h490⟩ (look_has ⟨rfl, rfl, rfl, trivial⟩) (fun w_ hM => hM.pick 7 [2, 3, 4, 5, 6] (by kernel_rfl) (by decide) rfl)
           ·
            refine tree_leaf ?_
            have h502 : RepL (Rep.int .i64) F W ([0] : List Int) ([vI 0]) := (RepL.cons (R := (Rep.int .i64)) (F := F) (w := W) (vs := [vI 0]) (ys := []) rfl RepL.nil)
            refine ops_new (d := some 61) (o := .cells ([vI 0] : List Value).toArray 3) (v := fun g503 => .slice (sa g503) ([0] : List Int).length 1) (M' := fun g503 => Mem w0 (orow (sa g503) ([0] : List Int).length 1 3 1 ([vI 0]) :: orow (sa g485) ([false] : List Bool).length 1 4 1 ([.bool false]) :: .blk b_r [sl A_r_0 r_0 c_r_0, sl A_r_1 r_1 c_r_1] 86 :: ow A_r_0 r_0 c_r_0 3 1 y_r_0 :: ow A_r_1 r_1 c_r_1 4 1 y_r_1 :: .blk b1 [vI 0, vI 0] 35 :: Fz F W :: cs)) (fun g503 => ⟨by kernel_rfl⟩) (fun w_ hM hS => ⟨hM.onew [vI 0] 3 1 1 rfl (by decide), hS.alloc _⟩) (fun g503 => ?_)
            obtain ⟨he504, hb505⟩ := app_some hv50
            obtain ⟨y506, hy507⟩ : ∃ y_, y_r_1 ++ ([.bool false]) = y_ := ⟨_, rfl⟩
            have h508 : RepL Rep.bool F W l49 y506 := by rw [he504, ← hy507]; exact RepL.app h_r_1 h484
            refine ops_appendO (x := (Go.Operand.tmp 54)) (y := (Go.Operand.tmp 55)) (t := 84) (e := 4) (d := some 56) (n' := l49.length) (z := 1) (m := ([false] : List Bool).length) (bytes := 1) (xs' := y506) (news := ([.bool false])) (zv := .bool false) 4 ⟨by kernel_rfl⟩ rfl rfl Try.underlying84 (by kernel_rfl) (by rfl) rfl (fun w_ hM => hM.srcO 1 rfl) h484.len h484.one hb505 (by have z_ := congrArg List.length he504; rw [List.length_append] at z_; exact z_.symm) hy507 (fun _ _ _ _ hS h' => (by exact h'.sub (.cons _ (.cons _ (.cons _ (.cons _ (.cons _ (.cons_cons _ (.cons_cons _ (.refl _)))))))))) ?_
            rintro ⟨A509, c510⟩
            obtain ⟨he511, hb512⟩ := app_some hv61
            obtain ⟨y513, hy514⟩ : ∃ y_, y_r_0 ++ ([vI 0]) = y_ := ⟨_, rfl⟩
            have h515 : RepL (Rep.int .i64) F W l60 y513 := by rw [he511, ← hy514]; exact RepL.app h_r_0 h502
            refine ops_appendO (x := (Go.Operand.tmp 60)) (y := (Go.Operand.tmp 61)) (t := 23) (e := 3) (d := some 62) (n' := l60.length) (z := 1) (m := ([0] : List Int).length) (bytes := 8) (xs' := y513) (news := ([vI 0])) (zv := vI 0) 3 ⟨by kernel_rfl⟩ rfl rfl Try.underlying23 (by kernel_rfl) (by rfl) rfl (fun w_ hM => hM.srcO 0 rfl) h502.len h502.one hb512 (by have z_ := congrArg List.length he511; rw [List.length_append] at z_; exact z_.symm) hy514 (fun _ _ _ _ hS h' => (by exact h'.sub (.cons _ (.cons _ (.cons _ (.cons _ (.cons _ (.cons_cons _ (.cons_cons _ (.refl _)))))))))) ?_
            rintro ⟨A516, c517⟩
            refine oQ [oT 14, oT 15] [(64, vP b_r 1), (62, sl A516 l60 c517), (56, sl A509 l49 c510), (50, vP b_r 0), (4, vI (r_1.length : Int)), (0, vP b_r 0), (2, vP b1 0)] (by kernel_rfl) ?_
            refine ops_store (an := []) (evs := [sr b_r 1 (sl A509 l49 c510)]) ⟨by kernel_rfl⟩ (fun w_ hM hS => let ⟨w', he, h'⟩ := hM.evs_stores [sl A509 l49 c510] 2 rfl 1 (Nat.le_of_ble_eq_true rfl); ⟨w', he, h', (by exact h'.sub (.cons _ (.cons _ (.cons _ (.cons _ (.cons _ (.cons_cons _ (.cons_cons _ (.refl _)))))))))⟩) ?_
            refine oQ [oT 17, oT 18] [(66, vP b_r 0), (62, sl A516 l60 c517), (4, vI (r_1.length : Int)), (0, vP b_r 0), (2, vP b1 0)] (by kernel_rfl) ?_
            refine ops_store (an := []) (evs := [sr b_r 0 (sl A516 l60 c517)]) ⟨by kernel_rfl⟩ (fun w_ hM hS => let ⟨w', he, h'⟩ := hM.evs_stores [sl A516 l60 c517] 2 rfl 0 (Nat.le_of_ble_eq_true rfl); ⟨w', he, h', (by exact h'.sub (.cons _ (.cons _ (.cons _ (.cons _ (.cons _ (.cons_cons _ (.cons_cons _ (.refl _)))))))))⟩) ?_
            refine ops_nil ?_
            exact fin_join HJ2 (A516, c517, l60, y513, A509, c510, l49, y506, (r_1.length : Int)) ⟨hp, h515, h508⟩ (look_has ⟨rfl, rfl, rfl, trivial⟩) (fun w_ hM => hM.pick 7 [2, 3, 4, 5, 6] (by kernel_rfl) (by decide) rfl)
          ·
           refine tree_leaf ?_
           have h518 : RepL (Rep.int .i64) F W ([0] : List Int) ([vI 0]) := (RepL.cons (R := (Rep.int .i64)) (F := F) (w := W) (vs := [vI 0]) (ys := []) rfl RepL.nil)
           refine ops_new (d := some 61) (o := .cells ([vI 0] : List Value).toArray 3) (v := fun g519 => .slice (sa g519) ([0] : List Int).length 1) (M' := fun g519 => Mem w0 (orow (sa g519) ([0] : List Int).length 1 3 1 ([vI 0]) :: orow (sa g485) ([false] : List Bool).length 1 4 1 ([.bool false]) :: .blk b_r [sl A_r_0 r_0 c_r_0, sl A_r_1 r_1 c_r_1] 86 :: ow A_r_0 r_0 c_r_0 3 1 y_r_0 :: ow A_r_1 r_1 c_r_1 4 1 y_r_1 :: .blk b1 [vI 0, vI 0] 35 :: Fz F W :: cs)) (fun g519 => ⟨by kernel_rfl⟩) (fun w_ hM hS => ⟨hM.onew [vI 0] 3 1 1 rfl (by decide), hS.alloc _⟩) (fun g519 => ?_)
           refine ops_mem (d := some 54) (an := [.v (sl A_r_1 r_1 c_r_1)]) (evs := [ld b_r 1 (sl A_r_1 r_1 c_r_1)]) (v := sl A_r_1 r_1 c_r_1) ⟨by kernel_rfl⟩ (fun w_ hM hS => ⟨w_, ⟨hM.cell 2 rfl rfl, rfl⟩, hM, hS⟩) ?_
           obtain ⟨he520, hb521⟩ := app_some hv50
           obtain ⟨y522, hy523⟩ : ∃ y_, y_r_1 ++ ([.bool false]) = y_ := ⟨_, rfl⟩
           have h524 : RepL Rep.bool F W l49 y522 := by rw [he520, ← hy523]; exact RepL.app h_r_1 h484
           refine ops_appendO (x := (Go.Operand.tmp 54)) (y := (Go.Operand.tmp 55)) (t := 84) (e := 4) (d := some 56) (n' := l49.length) (z := 1) (m := ([false] : List Bool).length) (bytes := 1) (xs' := y522) (news := ([.bool false])) (zv := .bool false) 4 ⟨by kernel_rfl⟩ rfl rfl Try.underlying84 (by kernel_rfl) (by rfl) rfl (fun w_ hM => hM.srcO 1 rfl) h484.len h484.one hb521 (by have z_ := congrArg List.length he520; rw [List.length_append] at z_; exact z_.symm) hy523 (fun _ _ _ _ hS h' => (by exact h'.sub (.cons _ (.cons _ (.cons _ (.cons _ (.cons _ (.cons_cons _ (.cons_cons _ (.refl _)))))))))) ?_
           rintro ⟨A525, c526⟩
           obtain ⟨he527, hb528⟩ := app_some hv61
           obtain ⟨y529, hy530⟩ : ∃ y_, y_r_0 ++ ([vI 0]) = y_ := ⟨_, rfl⟩
           have h531 : RepL (Rep.int .i64) F W l60 y529 := by rw [he527, ← hy530]; exact RepL.app h_r_0 h518
           refine ops_appendO (x := (Go.Operand.tmp 60)) (y := (Go.Operand.tmp 61)) (t := 23) (e := 3) (d := some 62) (n' := l60.length) (z := 1) (m := ([0] : List Int).length) (bytes := 8) (xs' := y529) (news := ([vI 0])) (zv := vI 0) 3 ⟨by kernel_rfl⟩ rfl rfl Try.underlying23 (by kernel_rfl) (by rfl) rfl (fun w_ hM => hM.srcO 0 rfl) h518.len h518.one hb528 (by have z_ := congrArg List.length he527; rw [List.length_append] at z_; exact z_.symm) hy530 (fun _ _ _ _ hS h' => (by exact h'.sub (.cons _ (.cons _ (.cons _ (.cons _ (.cons _ (.cons_cons _ (.cons_cons _ (.refl _)))))))))) ?_
           rintro ⟨A532, c533⟩
           refine oQ [oT 14, oT 15] [(64, vP b_r 1), (62, sl A532 l60 c533), (56, sl A525 l49 c526), (50, vP b_r 0), (4, vI (r_1.length : Int)), (0, vP b_r 0), (2, vP b1 0)] (by kernel_rfl) ?_
           refine ops_store (an := []) (evs := [sr b_r 1 (sl A525 l49 c526)]) ⟨by kernel_rfl⟩ (fun w_ hM hS => let ⟨w', he, h'⟩ := hM.evs_stores [sl A525 l49 c526] 2 rfl 1 (Nat.le_of_ble_eq_true rfl); ⟨w', he, h', (by exact h'.sub (.cons _ (.cons _ (.cons _ (.cons _ (.cons _ (.cons_cons _ (.cons_cons _ (.refl _)))))))))⟩) ?_
           refine oQ [oT 17, oT 18] [(66, vP b_r 0), (62, sl A532 l60 c533), (4, vI (r_1.length : Int)), (0, vP b_r 0), (2, vP b1 0)] (by kernel_rfl) ?_
           refine ops_store (an := []) (evs := [sr b_r 0 (sl A532 l60 c533)]) ⟨by kernel_rfl⟩ (fun w_ hM hS => let ⟨w', he, h'⟩ := hM.evs_stores [sl A532 l60 c533] 2 rfl 0 (Nat.le_of_ble_eq_true rfl); ⟨w', he, h', (by exact h'.sub (.cons _ (.cons _ (.cons _ (.cons _ (.cons _ (.cons_cons _ (.cons_cons _ (.refl _)))))))))⟩) ?_
           refine ops_nil ?_
           exact fin_join HJ2 (A532, c533, l60, y529, A525, c526, l49, y522, (r_1.length : Int)) ⟨hp, h531, h524⟩ (look_has ⟨rfl, rfl, rfl, trivial⟩) (fun w_ hM => hM.pick 7 [2, 3, 4, 5, 6] (by kernel_rfl) (by decide) rfl)
         ·
          refine tree_node ?_
          have h534 : RepL (Rep.int .i64) F W ([0] : List Int) ([vI 0]) := (RepL.cons (R := (Rep.int .i64)) (F := F) (w := W) (vs := [vI 0]) (ys := []) rfl RepL.nil)
          refine ops_new (d := some 61) (o := .cells ([vI 0] : List Value).toArray 3) (v := fun g535 => .slice (sa g535) ([0] : List Int).length 1) (M' := fun g535 => Mem w0 (orow (sa g535) ([0] : List Int).length 1 3 1 ([vI 0]) :: .blk b_r [sl A_r_0 r_0 c_r_0, sl A_r_1 r_1 c_r_1] 86 :: ow A_r_0 r_0 c_r_0 3 1 y_r_0 :: ow A_r_1 r_1 c_r_1 4 1 y_r_1 :: .blk b1 [vI 0, vI 0] 35 :: Fz F W :: cs)) (fun g535 => ⟨by kernel_rfl⟩) (fun w_ hM hS => ⟨hM.onew [vI 0] 3 1 1 rfl (by decide), hS.alloc _⟩) (fun g535 => ?_)
          refine ops_nil ?_
          refine tree_both ?_ ?_
          ·
           refine tree_leaf ?_
           refine ops_mem (d := some 54) (an := [.v (sl A_r_1 r_1 c_r_1)]) (evs := [ld b_r 1 (sl A_r_1 r_1 c_r_1)]) (v := sl A_r_1 r_1 c_r_1) ⟨by kernel_rfl⟩ (fun w_ hM hS => ⟨w_, ⟨hM.cell 1 rfl rfl, rfl⟩, hM, hS⟩) ?_
           have h536 : RepL Rep.bool F W ([false] : List Bool) ([.bool false]) := (RepL.cons (R := Rep.bool) (F := F) (w := W) (vs := [.bool false]) (ys := []) rfl RepL.nil)
           refine ops_new (d := some 55) (o := .cells ([.bool false] : List Value).toArray 4) (v := fun g537 => .slice (sa g537) ([false] : List Bool).length 1) (M' := fun g537 => Mem w0 (orow (sa g537) ([false] : List Bool).length 1 4 1 ([.bool false]) :: orow (sa g535) ([0] : List Int).length 1 3 1 ([vI 0]) :: .blk b_r [sl A_r_0 r_0 c_r_0, sl A_r_1 r_1 c_r_1] 86 :: ow A_r_0 r_0 c_r_0 3 1 y_r_0 :: ow A_r_1 r_1 c_r_1 4 1 y_r_1 :: .blk b1 [vI 0, vI 0] 35 :: Fz F W :: cs)) (fun g537 => ⟨by kernel_rfl⟩) (fun w_ hM hS => ⟨hM.onew [.bool false] 4 1 1 rfl (by decide), hS.alloc _⟩) (fun g537 => ?_)
           obtain ⟨he538, hb539⟩ := app_some hv50
           obtain ⟨y540, hy541⟩ : ∃ y_, y_r_1 ++ ([.bool false]) = y_ := ⟨_, rfl⟩
           have h542 : RepL Rep.bool F W l49 y540 := by rw [he538, ← hy541]; exact RepL.app h_r_1 h536
           refine ops_appendO (x := (Go.Operand.tmp 54)) (y := (Go.Operand.tmp 55)) (t := 84) (e := 4) (d := some 56) (n' := l49.length) (z := 1) (m := ([false] : List Bool).length) (bytes := 1) (xs' := y540) (news := ([.bool false])) (zv := .bool false) 4 ⟨by kernel_rfl⟩ rfl rfl Try.underlying84 (by kernel_rfl) (by rfl) rfl (fun w_ hM => hM.srcO 0 rfl) h536.len h536.one hb539 (by have z_ := congrArg List.length he538; rw [List.length_append] at z_; exact z_.symm) hy541 (fun _ _ _ _ hS h' => (by exact h'.sub (.cons _ (.cons _ (.cons _ (.cons _ (.cons _ (.cons_cons _ (.cons_cons _ (.refl _)))))))))) ?_
           rintro ⟨A543, c544⟩
           obtain ⟨he545, hb546⟩ := app_some hv61
           obtain ⟨y547, hy548⟩ : ∃ y_, y_r_0 ++ ([vI 0]) = y_ := ⟨_, rfl⟩
           have h549 : RepL (Rep.int .i64) F W l60 y547 := by rw [he545, ← hy548]; exact RepL.app h_r_0 h534
           refine ops_appendO (x := (Go.Operand.tmp 60)) (y := (Go.Operand.tmp 61)) (t := 23) (e := 3) (d := some 62) (n' := l60.length) (z := 1) (m := ([0] : List Int).length) (bytes := 8) (xs' := y547) (news := ([vI 0])) (zv := vI 0) 3 ⟨by kernel_rfl⟩ rfl rfl Try.underlying23 (by kernel_rfl) (by rfl) rfl (fun w_ hM => hM.srcO 1 rfl) h534.len h534.one hb546 (by have z_ := congrArg List.length he545; rw [List.length_append] at z_; exact z_.symm) hy548 (fun _ _ _ _ hS h' => (by exact h'.sub (.cons _ (.cons _ (.cons _ (.cons _ (.cons _ (.cons_cons _ (.cons_cons _ (.refl _)))))))))) ?_
           rintro ⟨A550, c551⟩
           refine oQ [oT 14, oT 15] [(64, vP b_r 1), (62, sl A550 l60 c551), (56, sl A543 l49 c544), (50, vP b_r 0), (4, vI (r_1.length : Int)), (0, vP b_r 0), (2, vP b1 0)] (by kernel_rfl) ?_
           refine ops_store (an := []) (evs := [sr b_r 1 (sl A543 l49 c544)]) ⟨by kernel_rfl⟩ (fun w_ hM hS => let ⟨w', he, h'⟩ := hM.evs_stores [sl A543 l49 c544] 2 rfl 1 (Nat.le_of_ble_eq_true rfl); ⟨w', he, h', (by exact h'.sub (.cons _ (.cons _ (.cons _ (.cons _ (.cons _ (.cons_cons _ (.cons_cons _ (.refl _)))))))))⟩) ?_
           refine oQ [oT 17, oT 18] [(66, vP b_r 0), (62, sl A550 l60 c551), (4, vI (r_1.length : Int)), (0, vP b_r 0), (2, vP b1 0)] (by kernel_rfl) ?_
           refine ops_store (an := []) (evs := [sr b_r 0 (sl A550 l60 c551)]) ⟨by kernel_rfl⟩ (fun w_ hM hS => let ⟨w', he, h'⟩ := hM.evs_stores [sl A550 l60 c551] 2 rfl 0 (Nat.le_of_ble_eq_true rfl); ⟨w', he, h', (by exact h'.sub (.cons _ (.cons _ (.cons _ (.cons _ (.cons _ (.cons_cons _ (.cons_cons _ (.refl _)))))))))⟩) ?_
           refine ops_nil ?_
           exact fin_join HJ2 (A550, c551, l60, y547, A543, c544, l49, y540, (r_1.length : Int)) ⟨hp, h549, h542⟩ (look_has ⟨rfl, rfl, rfl, trivial⟩) (fun w_ hM => hM.pick 7 [2, 3, 4, 5, 6] (by kernel_rfl) (by decide) rfl)
          ·
           refine tree_leaf ?_
           have h552 : RepL Rep.bool F W ([false] : List Bool) ([.bool false]) := (RepL.cons (R := Rep.bool) (F := F) (w := W) (vs := [.bool false]) (ys := []) rfl RepL.nil)
           refine ops_new (d := some 55) (o := .cells ([.bool false] : List Value).toArray 4) (v := fun g553 => .slice (sa g553) ([false] : List Bool).length 1) (M' := fun g553 => Mem w0 (orow (sa g553) ([false] : List Bool).length 1 4 1 ([.bool false]) :: orow (sa g535) ([0] : List Int).length 1 3 1 ([vI 0]) :: .blk b_r [sl A_r_0 r_0 c_r_0, sl A_r_1 r_1 c_r_1] 86 :: ow A_r_0 r_0 c_r_0 3 1 y_r_0 :: ow A_r_1 r_1 c_r_1 4 1 y_r_1 :: .blk b1 [vI 0, vI 0] 35 :: Fz F W :: cs)) (fun g553 => ⟨by kernel_rfl⟩) (fun w_ hM hS => ⟨hM.onew [.bool false] 4 1 1 rfl (by decide), hS.alloc _⟩) (fun g553 => ?_)
           refine ops_mem (d := some 54) (an := [.v (sl A_r_1 r_1 c_r_1)]) (evs := [ld b_r 1 (sl A_r_1 r_1 c_r_1)]) (v := sl A_r_1 r_1 c_r_1) ⟨by kernel_rfl⟩ (fun w_ hM hS => ⟨w_, ⟨hM.cell 2 rfl rfl, rfl⟩, hM, hS⟩) ?_
           obtain ⟨he554, hb555⟩ := app_some hv50
           obtain ⟨y556, hy557⟩ : ∃ y_, y_r_1 ++ ([.bool false]) = y_ := ⟨_, rfl⟩
           have h558 : RepL Rep.bool F W l49 y556 := by rw [he554, ← hy557]; exact RepL.app h_r_1 h552
           refine ops_appendO (x := (Go.Operand.tmp 54)) (y := (Go.Operand.tmp 55)) (t := 84) (e := 4) (d := some 56) (n' := l49.length) (z := 1) (m := ([false] : List Bool).length) (bytes := 1) (xs' := y556) (news := ([.bool false])) (zv := .bool false) 4 ⟨by kernel_rfl⟩ rfl rfl Try.underlying84 (by kernel_rfl) (by rfl) rfl (fun w_ hM => hM.srcO 0 rfl) h552.len h552.one hb555 (by have z_ := congrArg List.length he554; rw [List.length_append] at z_; exact z_.symm) hy557 (fun _ _ _ _ hS h' => (by exact h'.sub (.cons _ (.cons _ (.cons _ (.cons _ (.cons _ (.cons_cons _ (.cons_cons _ (.refl _)))))))))) ?_
           rintro ⟨A559, c560⟩
           obtain ⟨he561, hb562⟩ := app_some hv61
           obtain ⟨y563, hy564⟩ : ∃ y_, y_r_0 ++ ([vI 0]) = y_ := ⟨_, rfl⟩
           have h565 : RepL (Rep.int .i64) F W l60 y563 := by rw [he561, ← hy564]; exact RepL.app h_r_0 h534
           refine ops_appendO (x := (Go.Operand.tmp 60)) (y := (Go.Operand.tmp 61)) (t := 23) (e := 3) (d := some 62) (n' := l60.length) (z := 1) (m := ([0] : List Int).length) (bytes := 8) (xs' := y563) (news := ([vI 0])) (zv := vI 0) 3 ⟨by kernel_rfl⟩ rfl rfl Try.underlying23 (by kernel_rfl) (by rfl) rfl (fun w_ hM => hM.srcO 1 rfl) h534.len h534.one hb562 (by have z_ := congrArg List.length he561; rw [List.length_append] at z_; exact z_.symm) hy564 (fun _ _ _ _ hS h' => (by exact h'.sub (.cons _ (.cons _ (.cons _ (.cons _ (.cons _ (.cons_cons _ (.cons_cons _ (.refl _)))))))))) ?_
           rintro ⟨A566, c567⟩
           refine oQ [oT 14, oT 15] [(64, vP b_r 1), (62, sl A566 l60 c567), (56, sl A559 l49 c560), (50, vP b_r 0), (4, vI (r_1.length : Int)), (0, vP b_r 0), (2, vP b1 0)] (by kernel_rfl) ?_
           refine ops_store (an := []) (evs := [sr b_r 1 (sl A559 l49 c560)]) ⟨by kernel_rfl⟩ (fun w_ hM hS => let ⟨w', he, h'⟩ := hM.evs_stores [sl A559 l49 c560] 2 rfl 1 (Nat.le_of_ble_eq_true rfl); ⟨w', he, h', (by exact h'.sub (.cons _ (.cons _ (.cons _ (.cons _ (.cons _ (.cons_cons _ (.cons_cons _ (.refl _)))))))))⟩) ?_
           refine oQ [oT 17, oT 18] [(66, vP b_r 0), (62, sl A566 l60 c567), (4, vI (r_1.length : Int)), (0, vP b_r 0), (2, vP b1 0)] (by kernel_rfl) ?_
           refine ops_store (an := []) (evs := [sr b_r 0 (sl A566 l60 c567)]) ⟨by kernel_rfl⟩ (fun w_ hM hS => let ⟨w', he, h'⟩ := hM.evs_stores [sl A566 l60 c567] 2 rfl 0 (Nat.le_of_ble_eq_true rfl); ⟨w', he, h', (by exact h'.sub (.cons _ (.cons _ (.cons _ (.cons _ (.cons _ (.cons_cons _ (.cons_cons _ (.refl _)))))))))⟩) ?_
           refine ops_nil ?_
           exact fin_join HJ2 (A566, c567, l60, y563, A559, c560, l49, y556, (r_1.length : Int)) ⟨hp, h565, h558⟩ (look_has ⟨rfl, rfl, rfl, trivial⟩) (fun w_ hM => hM.pick 7 [2, 3, 4, 5, 6] (by kernel_rfl) (by decide) rfl)
       ·
        refine tree_node ?_
        have h568 : RepL (Rep.int .i64) F W ([0] : List Int) ([vI 0]) := (RepL.cons (R := (Rep.int .i64)) (F := F) (w := W) (vs := [vI 0]) (ys := []) rfl RepL.nil)
        refine ops_new (d := some 61) (o := .cells ([vI 0] : List Value).toArray 3) (v := fun g569 => .slice (sa g569) ([0] : List Int).length 1) (M' := fun g569 => Mem w0 (orow (sa g569) ([0] : List Int).length 1 3 1 ([vI 0]) :: .blk b_r [sl A_r_0 r_0 c_r_0, sl A_r_1 r_1 c_r_1] 86 :: ow A_r_0 r_0 c_r_0 3 1 y_r_0 :: ow A_r_1 r_1 c_r_1 4 1 y_r_1 :: .blk b1 [vI 0, vI 0] 35 :: Fz F W :: cs)) (fun g569 => ⟨by kernel_rfl⟩) (fun w_ hM hS => ⟨hM.onew [vI 0] 3 1 1 rfl (by decide), hS.alloc _⟩) (fun g569 => ?_)
        refine ops_nil ?_
        refine tree_both ?_ ?_
        ·
         refine tree_node ?_
         refine ops_mem (d := some 54) (an := [.v (sl A_r_1 r_1 c_r_1)]) (evs := [ld b_r 1 (sl A_r_1 r_1 c_r_1)]) (v := sl A_r_1 r_1 c_r_1) ⟨by kernel_rfl⟩ (fun w_ hM hS => ⟨w_, ⟨hM.cell 1 rfl rfl, rfl⟩, hM, hS⟩) ?_
         refine ops_nil ?_
         refine tree_both ?_ ?_
         ·
          refine tree_node ?_
          have h570 : RepL Rep.bool F W ([false] : List Bool) ([.bool false]) := (RepL.cons (R := Rep.bool) (F := F) (w := W) (vs := [.bool false]) (ys := []) rfl RepL.nil)
          refine ops_new (d := some 55) (o := .cells ([.bool false] : List Value).toArray 4) (v := fun g571 => .slice (sa g571) ([false] : List Bool).length 1) (M' := fun g571 => Mem w0 (orow (sa g571) ([false] : List Bool).length 1 4 1 ([.bool false]) :: orow (sa g569) ([0] : List Int).length 1 3 1 ([vI 0]) :: .blk b_r [sl A_r_0 r_0 c_r_0, sl A_r_1 r_1 c_r_1] 86 :: ow A_r_0 r_0 c_r_0 3 1 y_r_0 :: ow A_r_1 r_1 c_r_1 4 1 y_r_1 :: .blk b1 [vI 0, vI 0] 35 :: Fz F W :: cs)) (fun g571 => ⟨by kernel_rfl⟩) (fun w_ hM hS => ⟨hM.onew [.bool false] 4 1 1 rfl (by decide), hS.alloc _⟩) (fun g571 => ?_)
          refine ops_nil ?_
          refine tree_both ?_ ?_
          ·
           refine tree_leaf ?_
           obtain ⟨he572, hb573⟩ := app_some hv50
           obtain ⟨y574, hy575⟩ : ∃ y_, y_r_1 ++ ([.bool false]) = y_ := ⟨_, rfl⟩
           have h576 : RepL Rep.bool F W l49 y574 := by rw [he572, ← hy575]; exact RepL.app h_r_1 h570
           refine ops_appendO (x := (Go.Operand.tmp 54)) (y := (Go.Operand.tmp 55)) (t := 84) (e := 4) (d := some 56) (n' := l49.length) (z := 1) (m := ([false] : List Bool).length) (bytes := 1) (xs' := y574) (news := ([.bool false])) (zv := .bool false) 4 ⟨by kernel_rfl⟩ rfl rfl Try.underlying84 (by kernel_rfl) (by rfl) rfl (fun w_ hM => hM.srcO 0 rfl) h570.len h570.one hb573 (by have z_ := congrArg List.length he572; rw [List.length_append] at z_; exact z_.symm) hy575 (fun _ _ _ _ hS h' => (by exact h'.sub (.cons _ (.cons _ (.cons _ (.cons _ (.cons _ (.cons_cons _ (.cons_cons _ (.refl _)))))))))) ?_
           rintro ⟨A577, c578⟩
           refine ops_mem (d := some 60) (an := [.v (sl A_r_0 r_0 c_r_0)]) (evs := [ld b_r 0 (sl A_r_0 r_0 c_r_0)]) (v := sl A_r_0 r_0 c_r_0) ⟨by kernel_rfl⟩ (fun w_ hM hS => ⟨w_, ⟨hM.cell 2 rfl rfl, rfl⟩, hM, hS⟩) ?_
           obtain ⟨he579, hb580⟩ := app_some hv61
           obtain ⟨y581, hy582⟩ : ∃ y_, y_r_0 ++ ([vI 0]) = y_ := ⟨_, rfl⟩
           have h583 : RepL (Rep.int .i64) F W l60 y581 := by rw [he579, ← hy582]; exact RepL.app h_r_0 h568
           refine ops_appendO (x := (Go.Operand.tmp 60)) (y := (Go.Operand.tmp 61)) (t := 23) (e := 3) (d := some 62) (n' := l60.length) (z := 1) (m := ([0] : List Int).length) (bytes := 8) (xs' := y581) (news := ([vI 0])) (zv := vI 0) 3 ⟨by kernel_rfl⟩ rfl rfl Try.underlying23 (by kernel_rfl) (by rfl) rfl (fun w_ hM => hM.srcO 1 rfl) h568.len h568.one hb580 (by have z_ := congrArg List.length he579; rw [List.length_append] at z_; exact z_.symm) hy582 (fun _ _ _ _ hS h' => (by exact h'.sub (.cons _ (.cons _ (.cons _ (.cons _ (.cons _ (.cons_cons _ (.cons_cons _ (.refl _)))))))))) ?_
           rintro ⟨A584, c585⟩
           refine oQ [oT 14, oT 15] [(64, vP b_r 1), (62, sl A584 l60 c585), (56, sl A577 l49 c578), (50, vP b_r 0), (4, vI (r_1.length : Int)), (0, vP b_r 0), (2, vP b1 0)] (by kernel_rfl) ?_
           refine ops_store (an := []) (evs := [sr b_r 1 (sl A577 l49 c578)]) ⟨by kernel_rfl⟩ (fun w_ hM hS => let ⟨w', he, h'⟩ := hM.evs_stores [sl A577 l49 c578] 2 rfl 1 (Nat.le_of_ble_eq_true rfl); ⟨w', he, h', (by exact h'.sub (.cons _ (.cons _ (.cons _ (.cons _ (.cons _ (.cons_cons _ (.cons_cons _ (.refl _)))))))))⟩) ?_
           refine oQ [oT 17, oT 18] [(66, vP b_r 0), (62, sl A584 l60 c585), (4, vI (r_1.length : Int)), (0, vP b_r 0), (2, vP b1 0)] (by kernel_rfl) ?_
           refine ops_store (an := []) (evs := [sr b_r 0 (sl A584 l60 c585)]) ⟨by kernel_rfl⟩ (fun w_ hM hS => let ⟨w', he, h'⟩ := hM.evs_stores [sl A584 l60 c585] 2 rfl 0 (Nat.le_of_ble_eq_true rfl); ⟨w', he, h', (by exact h'.sub (.cons _ (.cons _ (.cons _ (.cons _ (.cons _ (.cons_cons _ (.cons_cons _ (.refl _)))))))))⟩) ?_
           refine ops_nil ?_
           exact fin_join HJ2 (A584, c585, l60, y581, A577, c578, l49, y574, (r_1.length : Int)) ⟨hp, h583, h576⟩ (look_has ⟨rfl, rfl, rfl, trivial⟩) (fun w_ hM => hM.pick 7 [2, 3, 4, 5, 6] (by kernel_rfl) (by decide) rfl)
          ·
           refine tree_leaf ?_
           refine ops_mem (d := some 60) (an := [.v (sl A_r_0 r_0 c_r_0)]) (evs := [ld b_r 0 (sl A_r_0 r_0 c_r_0)]) (v := sl A_r_0 r_0 c_r_0) ⟨by kernel_rfl⟩ (fun w_ hM hS => ⟨w_, ⟨hM.cell 2 rfl rfl, rfl⟩, hM, hS⟩) ?_
           obtain ⟨he586, hb587⟩ := app_some hv50
           obtain ⟨y588, hy589⟩ : ∃ y_, y_r_1 ++ ([.bool false]) = y_ := ⟨_, rfl⟩
           have h590 : RepL Rep.bool F W l49 y588 := by rw [he586, ← hy589]; exact RepL.app h_r_1 h570
           refine ops_appendO (x := (Go.Operand.tmp 54)) (y := (Go.Operand.tmp 55)) (t := 84) (e := 4) (d := some 56) (n' := l49.length) (z := 1) (m := ([false] : List Bool).length) (bytes := 1) (xs' := y588) (news := ([.bool false])) (zv := .bool false) 4 ⟨by kernel_rfl⟩ rfl rfl Try.underlying84 (by kernel_rfl) (by rfl) rfl (fun w_ hM => hM.srcO 0 rfl) h570.len h570.one hb587 (by have z_ := congrArg List.length he586; rw [List.length_append] at z_; exact z_.symm) hy589 (fun _ _ _ _ hS h' => (by exact h'.sub (.cons _ (.cons _ (.cons _ (.cons _ (.cons _ (.cons_cons _ (.cons_cons _ (.refl _)))))))))) ?_
           rintro ⟨A591, c592⟩
           obtain ⟨he593, hb594⟩ := app_some hv61
           obtain ⟨y595, hy596⟩ : ∃ y_, y_r_0 ++ ([vI 0]) = y_ := ⟨_, rfl⟩
           have h597 : RepL (Rep.int .i64) F W l60 y595 := by rw [he593, ← hy596]; exact RepL.app h_r_0 h568
           refine ops_appendO (x := (Go.Operand.tmp 60)) (y := (Go.Operand.tmp 61)) (t := 23) (e := 3) (d := some 62) (n' := l60.length) (z := 1) (m := ([0] : List Int).length) (bytes := 8) (xs' := y595) (news := ([vI 0])) (zv := vI 0) 3 ⟨by kernel_rfl⟩ rfl rfl Try.underlying23 (by kernel_rfl) (by rfl) rfl (fun w_ hM => hM.srcO 1 rfl) h568.len h568.one hb594 (by have z_ := congrArg List.length he593; rw [List.length_append] at z_; exact z_.symm) hy596 (fun _ _ _ _ hS h' => (by exact h'.sub (.cons _ (.cons _ (.cons _ (.cons _ (.cons _ (.cons_cons _ (.cons_cons _ (.refl _)))))))))) ?_
           rintro ⟨A598, c599⟩
           refine oQ [oT 14, oT 15] [(64, vP b_r 1), (62, sl A598 l60 c599), (56, sl A591 l49 c592), (50, vP b_r 0), (4, vI (r_1.length : Int)), (0, vP b_r 0), (2, vP b1 0)] (by kernel_rfl) ?_
           refine ops_store (an := []) (evs := [sr b_r 1 (sl A591 l49 c592)]) ⟨by kernel_rfl⟩ (fun w_ hM hS => let ⟨w', he, h'⟩ := hM.evs_stores [sl A591 l49 c592] 2 rfl 1 (Nat.le_of_ble_eq_true rfl); ⟨w', he, h', (by exact h'.sub (.cons _ (.cons _ (.cons _ (.cons _ (.cons _ (.cons_cons _ (.cons_cons _ (.refl _)))))))))⟩) ?_
           refine oQ [oT 17, oT 18] [(66, vP b_r 0), (62, sl A598 l60 c599), (4, vI (r_1.length : Int)), (0, vP b_r 0), (2, vP b1 0)] (by kernel_rfl) ?_
           refine ops_store (an := []) (evs := [sr b_r 0 (sl A598 l60 c599)]) ⟨by kernel_rfl⟩ (fun w_ hM hS => let ⟨w', he, h'⟩ := hM.evs_stores [sl A598 l60 c599] 2 rfl 0 (Nat.le_of_ble_eq_true rfl); ⟨w', he, h', (by exact h'.sub (.cons _ (.cons _ (.cons _ (.cons _ (.cons _ (.cons_cons _ (.cons_cons _ (.refl _)))))))))⟩) ?_
           refine ops_nil ?_
           exact fin_join HJ2 (A598, c599, l60, y595, A591, c592, l49, y588, (r_1.length : Int)) ⟨hp, h597, h590⟩ (look_has ⟨rfl, rfl, rfl, trivial⟩) (fun w_ hM => hM.pick 7 [2, 3, 4, 5, 6] (by kernel_rfl) (by decide) rfl)
         ·
          refine tree_leaf ?_
          refine ops_mem (d := some 60) (an := [.v (sl A_r_0 r_0 c_r_0)]) (evs := [ld b_r 0 (sl A_r_0 r_0 c_r_0)]) (v := sl A_r_0 r_0 c_r_0) ⟨by kernel_rfl⟩ (fun w_ hM hS => ⟨w_, ⟨hM.cell 1 rfl rfl, rfl⟩, hM, hS⟩) ?_
          have h600 : RepL Rep.bool F W ([false] : List Bool) ([.bool false]) := (RepL.cons (R := Rep.bool) (F := F) (w := W) (vs := [.bool false]) (ys := []) rfl RepL.nil)
          refine ops_new (d := some 55) (o := .cells ([.bool false] : List Value).toArray 4) (v := fun g601 => .slice (sa g601) ([false] : List Bool).length 1) (M' := fun g601 => Mem w0 (orow (sa g601) ([false] : List Bool).length 1 4 1 ([.bool false]) :: orow (sa g569) ([0] : List Int).length 1 3 1 ([vI 0]) :: .blk b_r [sl A_r_0 r_0 c_r_0, sl A_r_1 r_1 c_r_1] 86 :: ow A_r_0 r_0 c_r_0 3 1 y_r_0 :: ow A_r_1 r_1 c_r_1 4 1 y_r_1 :: .blk b1 [vI 0, vI 0] 35 :: Fz F W :: cs)) (fun g601 => ⟨by kernel_rfl⟩) (fun w_ hM hS => ⟨hM.onew [.bool false] 4 1 1 rfl (by decide), hS.alloc _⟩) (fun g601 => ?_)
          obtain ⟨he602, hb603⟩ := app_some hv50
          obtain ⟨y604, hy605⟩ : ∃ y_, y_r_1 ++ ([.bool false]) = y_ := ⟨_, rfl⟩
          have h606 : RepL Rep.bool F W l49 y604 := by rw [he602, ← hy605]; exact RepL.app h_r_1 h600
          refine ops_appendO (x := (Go.Operand.tmp 54)) (y := (Go.Operand.tmp 55)) (t := 84) (e := 4) (d := some 56) (n' := l49.length) (z := 1) (m := ([false] : List Bool).length) (bytes := 1) (xs' := y604) (news := ([.bool false])) (zv := .bool false) 4 ⟨by kernel_rfl⟩ rfl rfl Try.underlying84 (by kernel_rfl) (by rfl) rfl (fun w_ hM => hM.srcO 0 rfl) h600.len h600.one hb603 (by have z_ := congrArg List.length he602; rw [List.length_append] at z_; exact z_.symm) hy605 (fun _ _ _ _ hS h' => (by exact h'.sub (.cons _ (.cons _ (.cons _ (.cons _ (.cons _ (.cons_cons _ (.cons_cons _ (.refl _)))))))))) ?_
          rintro ⟨A607, c608⟩
          obtain ⟨he609, hb610⟩ := app_some hv61
          obtain ⟨y611, hy612⟩ : ∃ y_, y_r_0 ++ ([vI 0]) = y_ := ⟨_, rfl⟩
          have h613 : RepL (Rep.int .i64) F W l60 y611 := by rw [he609, ← hy612]; exact RepL.app h_r_0 h568
          refine ops_appendO (x := (Go.Operand.tmp 60)) (y := (Go.Operand.tmp 61)) (t := 23) (e := 3) (d := some 62) (n' := l60.length) (z := 1) (m := ([0] : List Int).length) (bytes := 8) (xs' := y611) (news := ([vI 0])) (zv := vI 0) 3 ⟨by kernel_rfl⟩ rfl rfl Try.underlying23 (by kernel_rfl) (by rfl) rfl (fun w_ hM => hM.srcO 1 rfl) h568.len h568.one hb610 (by have z_ := congrArg List.length he609; rw [List.length_append] at z_; exact z_.symm) hy612 (fun _ _ _ _ hS h' => (by exact h'.sub (.cons _ (.cons _ (.cons _ (.cons _ (.cons _ (.cons_cons _ (.cons_cons _ (.refl _)))))))))) ?_
          rintro ⟨A614, c615⟩
          refine oQ [oT 14, oT 15] [(64, vP b_r 1), (62, sl A614 l60 c615), (56, sl A607 l49 c608), (50, vP b_r 0), (4, vI (r_1.length : Int)), (0, vP b_r 0), (2, vP b1 0)] (by kernel_rfl) ?_
          refine ops_store (an := []) (evs := [sr b_r 1 (sl A607 l49 c608)]) ⟨by kernel_rfl⟩ (fun w_ hM hS => let ⟨w', he, h'⟩ := hM.evs_stores [sl A607 l49 c608] 2 rfl 1 (Nat.le_of_ble_eq_true rfl); ⟨w', he, h', (by exact h'.sub (.cons _ (.cons _ (.cons _ (.cons _ (.cons _ (.cons_cons _ (.cons_cons _ (.refl _)))))))))⟩) ?_
          refine oQ [oT 17, oT 18] [(66, vP b_r 0), (62, sl A614 l60 c615), (4, vI (r_1.length : Int)), (0, vP b_r 0), (2, vP b1 0)] (by kernel_rfl) ?_
          refine ops_store (an := []) (evs := [sr b_r 0 (sl A614 l60 c615)]) ⟨by kernel_rfl⟩ (fun w_ hM hS => let ⟨w', he, h'⟩ := hM.evs_stores [sl A614 l60 c615] 2 rfl 0 (Nat.le_of_ble_eq_true rfl); ⟨w', he, h', (by exact h'.sub (.cons _ (.cons _ (.cons _ (.cons _ (.cons _ (.cons_cons _ (.cons_cons _ (.refl _)))))))))⟩) ?_
          refine ops_nil ?_
          exact fin_join HJ2 (A614, c615, l60, y611, A607, c608, l49, y604, (r_1.length : Int)) ⟨hp, h613, h606⟩ (look_has ⟨rfl, rfl, rfl, trivial⟩) (fun w_ hM => hM.pick 7 [2, 3, 4, 5, 6] (by kernel_rfl) (by decide) rfl)
        ·
         refine tree_ways ?_ ?_
         ·
          refine tree_node ?_
          have h616 : RepL Rep.bool F W ([false] : List Bool) ([.bool false]) := (RepL.cons (R := Rep.bool) (F := F) (w := W) (vs := [.bool false]) (ys := []) rfl RepL.nil)
          refine ops_new (d := some 55) (o := .cells ([.bool false] : List Value).toArray 4) (v := fun g617 => .slice (sa g617) ([false] : List Bool).length 1) (M' := fun g617 => Mem w0 (orow (sa g617) ([false] : List Bool).length 1 4 1 ([.bool false]) :: orow (sa g569) ([0] : List Int).length 1 3 1 ([vI 0]) :: .blk b_r [sl A_r_0 r_0 c_r_0, sl A_r_1 r_1 c_r_1] 86 :: ow A_r_0 r_0 c_r_0 3 1 y_r_0 :: ow A_r_1 r_1 c_r_1 4 1 y_r_1 :: .blk b1 [vI 0, vI 0] 35 :: Fz F W :: cs)) (fun g617 => ⟨by kernel_rfl⟩) (fun w_ hM hS => ⟨hM.onew [.bool false] 4 1 1 rfl (by decide), hS.alloc _⟩) (fun g617 => ?_)
          refine ops_nil ?_
          refine tree_both ?_ ?_
          ·
           refine tree_node ?_
           refine ops_mem (d := some 54) (an := [.v (sl A_r_1 r_1 c_r_1)]) (evs := [ld b_r 1 (sl A_r_1 r_1 c_r_1)]) (v := sl A_r_1 r_1 c_r_1) ⟨by kernel_rfl⟩ (fun w_ hM hS => ⟨w_, ⟨hM.cell 2 rfl rfl, rfl⟩, hM, hS⟩) ?_
           refine ops_nil ?_
           refine tree_both ?_ ?_
           ·
            refine tree_leaf ?_
            obtain ⟨he618, hb619⟩ := app_some hv50
            obtain ⟨y620, hy621⟩ : ∃ y_, y_r_1 ++ ([.bool false]) = y_ := ⟨_, rfl⟩
            have h622 : RepL Rep.bool F W l49 y620 := by rw [he618, ← hy621]; exact RepL.app h_r_1 h616
            refine ops_appendO (x := (Go.Operand.tmp 54)) (y := (Go.Operand.tmp 55)) (t := 84) (e := 4) (d := some 56) (n' := l49.length) (z := 1) (m := ([false] : List Bool).length) (bytes := 1) (xs' := y620) (news := ([.bool false])) (zv := .bool false) 4 ⟨by kernel_rfl⟩ rfl rfl Try.underlying84 (by kernel_rfl) (by rfl) rfl (fun w_ hM => hM.srcO 0 rfl) h616.len h616.one hb619 (by have z_ := congrArg List.length he618; rw [List.length_append] at z_; exact z_.symm) hy621 (fun _ _ _ _ hS h' => (by exact h'.sub (.cons _ (.cons _ (.cons _ (.cons _ (.cons _ (.cons_cons _ (.cons_cons _ (.refl _)))))))))) ?_
            rintro ⟨A623, c624⟩
            refine ops_mem (d := some 60) (an := [.v (sl A_r_0 r_0 c_r_0)]) (evs := [ld b_r 0 (sl A_r_0 r_0 c_r_0)]) (v := sl A_r_0 r_0 c_r_0) ⟨by kernel_rfl⟩ (fun w_ hM hS => ⟨w_, ⟨hM.cell 2 rfl rfl, rfl⟩, hM, hS⟩) ?_
            obtain ⟨he625, hb626⟩ := app_some hv61
            obtain ⟨y627, hy628⟩ : ∃ y_, y_r_0 ++ ([vI 0]) = y_ := ⟨_, rfl⟩
            have h629 : RepL (Rep.int .i64) F W l60 y627 := by rw [he625, ← hy628]; exact RepL.app h_r_0 h568
            refine ops_appendO (x := (Go.Operand.tmp 60)) (y := (Go.Operand.tmp 61)) (t := 23) (e := 3) (d := some 62) (n' := l60.length) (z := 1) (m := ([0] : List Int).length) (bytes := 8) (xs' := y627) (news := ([vI 0])) (zv := vI 0) 3 ⟨by kernel_rfl⟩ rfl rfl Try.underlying23 (by kernel_rfl) (by rfl) rfl (fun w_ hM => hM.srcO 1 rfl) h568.len h568.one hb626 (by have z_ := congrArg List.length he625; rw [List.length_append] at z_; exact z_.symm) hy628 (fun _ _ _ _ hS h' => (by exact h'.sub (.cons _ (.cons _ (.cons _ (.cons _ (.cons _ (.cons_cons _ (.cons_cons _ (.refl _)))))))))) ?_
            rintro ⟨A630, c631⟩
            refine oQ [oT 14, oT 15] [(64, vP b_r 1), (62, sl A630 l60 c631), (56, sl A623 l49 c624), (50, vP b_r 0), (4, vI (r_1.length : Int)), (0, vP b_r 0), (2, vP b1 0)] (by kernel_rfl) ?_
            refine ops_store (an := []) (evs := [sr b_r 1 (sl A623 l49 c624)]) ⟨by kernel_rfl⟩ (fun w_ hM hS => let ⟨w', he, h'⟩ := hM.evs_stores [sl A623 l49 c624] 2 rfl 1 (Nat.le_of_ble_eq_true rfl); ⟨w', he, h', (by exact h'.sub (.cons _ (.cons _ (.cons _ (.cons _ (.cons _ (.cons_cons _ (.cons_cons _ (.refl _)))))))))⟩) ?_
            refine oQ [oT 17, oT 18] [(66, vP b_r 0), (62, sl A630 l60 c631), (4, vI (r_1.length : Int)), (0, vP b_r 0), (2, vP b1 0)] (by kernel_rfl) ?_
            refine ops_store (an := []) (evs := [sr b_r 0 (sl A630 l60 c631)]) ⟨by kernel_rfl⟩ (fun w_ hM hS => let ⟨w', he, h'⟩ := hM.evs_stores [sl A630 l60 c631] 2 rfl 0 (Nat.le_of_ble_eq_true rfl); ⟨w', he, h', (by exact h'.sub (.cons _ (.cons _ (.cons _ (.cons _ (.cons _ (.cons_cons _ (.cons_cons _ (.refl _)))))))))⟩) ?_
            refine ops_nil ?_
            exact fin_join HJ2 (A630, c631, l60, y627, A623, c624, l49, y620, (r_1.length : Int)) ⟨hp, h629, h622⟩ (look_has ⟨rfl, rfl, rfl, trivial⟩) (fun w_ hM => hM.pick 7 [2, 3, 4, 5, 6] (by kernel_rfl) (by decide) rfl)
           ·
            refine tree_leaf ?_
            refine ops_mem (d := some 60) (an := [.v (sl A_r_0 r_0 c_r_0)]) (evs := [ld b_r 0 (sl A_r_0 r_0 c_r_0)]) (v := sl A_r_0 r_0 c_r_0) ⟨by kernel_rfl⟩ (fun w_ hM hS => ⟨w_, ⟨hM.cell 2 rfl rfl, rfl⟩, hM, hS⟩) ?_
            obtain ⟨he632, hb633⟩ := app_some hv50
            obtain ⟨y634, hy635⟩ : ∃ y_, y_r_1 ++ ([.bool false]) = y_ := ⟨_, rfl⟩
            have h636 : RepL Rep.bool F W l49 y634 := by rw [he632, ← hy635]; exact RepL.app h_r_1 h616
            refine ops_appendO (x := (Go.Operand.tmp 54)) (y := (Go.Operand.tmp 55)) (t := 84) (e := 4) (d := some 56) (n' := l49.length) (z := 1) (m := ([false] : List Bool).length) (bytes := 1) (xs' := y634) (news := ([.bool false])) (zv := .bool false) 4 ⟨by kernel_rfl⟩ rfl rfl Try.underlying84 (by kernel_rfl) (by rfl) rfl (fun w_ hM => hM.srcO 0 rfl) h616.len h616.one hb633 (by have z_ := congrArg List.length he632; rw [List.length_append] at z_; exact z_.symm) hy635 (fun _ _ _ _ hS h' => (by exact h'.sub (.cons _ (.cons _ (.cons _ (.cons _ (.cons _ (.cons_cons _ (.cons_cons _ (.refl _)))))))))) ?_
            rintro ⟨A637, c638⟩
            obtain ⟨he639, hb640⟩ := app_some hv61
            obtain ⟨y641, hy642⟩ : ∃ y_, y_r_0 ++ ([vI 0]) = y_ := ⟨_, rfl⟩
            have h643 : RepL (Rep.int .i64) F W l60 y641 := by rw [he639, ← hy642]; exact RepL.app h_r_0 h568
            refine ops_appendO (x := (Go.Operand.tmp 60)) (y := (Go.Operand.tmp 61)) (t := 23) (e := 3) (d := some 62) (n' := l60.length) (z := 1) (m := ([0] : List Int).length) (bytes := 8) (xs' := y641) (news := ([vI 0])) (zv := vI 0) 3 ⟨by kernel_rfl⟩ rfl rfl Try.underlying23 (by kernel_rfl) (by rfl) rfl (fun w_ hM => hM.srcO 1 rfl) h568.len h568.one hb640 (by have z_ := congrArg List.length he639; rw [List.length_append] at z_; exact z_.symm) hy642 (fun _ _ _ _ hS h' => (by exact h'.sub (.cons _ (.cons _ (.cons _ (.cons _ (.cons _ (.cons_cons _ (.cons_cons _ (.refl _)))))))))) ?_
            rintro ⟨A644, c645⟩
            refine oQ [oT 14, oT 15] [(64, vP b_r 1), (62, sl A644 l60 c645), (56, sl A637 l49 c638), (50, vP b_r 0), (4, vI (r_1.length : Int)), (0, vP b_r 0), (2, vP b1 0)] (by kernel_rfl) ?_
            refine ops_store (an := []) (evs := [sr b_r 1 (sl A637 l49 c638)]) ⟨by kernel_rfl⟩ (fun w_ hM hS => let ⟨w', he, h'⟩ := hM.evs_stores [sl A637 l49 c638] 2 rfl 1 (Nat.le_of_ble_eq_true rfl); ⟨w', he, h', (by exact h'.sub (.cons _ (.cons _ (.cons _ (.cons _ (.cons _ (.cons_cons _ (.cons_cons _ (.refl _)))))))))⟩) ?_
            refine oQ [oT 17, oT 18] [(66, vP b_r 0), (62, sl A644 l60 c645), (4, vI (r_1.length : Int)), (0, vP b_r 0), (2, vP b1 0)] (by kernel_rfl) ?_
            refine ops_store (an := []) (evs := [sr b_r 0 (sl A644 l60 c645)]) ⟨by kernel_rfl⟩ (fun w_ hM hS => let ⟨w', he, h'⟩ := hM.evs_stores [sl A644 l60 c645] 2 rfl 0 (Nat.le_of_ble_eq_true rfl); ⟨w', he, h', (by exact h'.sub (.cons _ (.cons _ (.cons _ (.cons _ (.cons _ (.cons_cons _ (.cons_cons _ (.refl _)))))))))⟩) ?_
            refine ops_nil ?_
            exact fin_join HJ2 (A644, c645, l60, y641, A637, c638, l49, y634, (r_1.length : Int)) ⟨hp, h643, h636⟩ (look_has ⟨rfl, rfl, rfl, trivial⟩) (fun w_ hM => hM.pick 7 [2, 3, 4, 5, 6] (by kernel_rfl) (by decide) rfl)
          ·
           refine tree_leaf ?_
           refine ops_mem (d := some 60) (an := [.v (sl A_r_0 r_0 c_r_0)]) (evs := [ld b_r 0 (sl A_r_0 r_0 c_r_0)]) (v := sl A_r_0 r_0 c_r_0) ⟨by kernel_rfl⟩ (fun w_ hM hS => ⟨w_, ⟨hM.cell 2 rfl rfl, rfl⟩, hM, hS⟩) ?_
           refine ops_mem (d := some 54) (an := [.v (sl A_r_1 r_1 c_r_1)]) (evs := [ld b_r 1 (sl A_r_1 r_1 c_r_1)]) (v := sl A_r_1 r_1 c_r_1) ⟨by kernel_rfl⟩ (fun w_ hM hS => ⟨w_, ⟨hM.cell 2 rfl rfl, rfl⟩, hM, hS⟩) ?_
           obtain ⟨he646, hb647⟩ := app_some hv50
           obtain ⟨y648, hy649⟩ : ∃ y_, y_r_1 ++ ([.bool false]) = y_ := ⟨_, rfl⟩
           have h650 : RepL Rep.bool F W l49 y648 := by rw [he646, ← hy649]; exact RepL.app h_r_1 h616
           refine ops_appendO (x := (Go.Operand.tmp 54)) (y := (Go.Operand.tmp 55)) (t := 84) (e := 4) (d := some 56) (n' := l49.length) (z := 1) (m := ([false] : List Bool).length) (bytes := 1) (xs' := y648) (news := ([.bool false])) (zv := .bool false) 4 ⟨by kernel_rfl⟩ rfl rfl Try.underlying84 (by kernel_rfl) (by rfl) rfl (fun w_ hM => hM.srcO 0 rfl) h616.len h616.one hb647 (by have z_ := congrArg List.length he646; rw [List.length_append] at z_; exact z_.symm) hy649 (fun _ _ _ _ hS h' => (by exact h'.sub (.cons _ (.cons _ (.cons _ (.cons _ (.cons _ (.cons_cons _ (.cons_cons _ (.refl _)))))))))) ?_
           rintro ⟨A651, c652⟩
           obtain ⟨he653, hb654⟩ := app_some hv61
           obtain ⟨y655, hy656⟩ : ∃ y_, y_r_0 ++ ([vI 0]) = y_ := ⟨_, rfl⟩
           have h657 : RepL (Rep.int .i64) F W l60 y655 := by rw [he653, ← hy656]; exact RepL.app h_r_0 h568
           refine ops_appendO (x := (Go.Operand.tmp 60)) (y := (Go.Operand.tmp 61)) (t := 23) (e := 3) (d := some 62) (n' := l60.length) (z := 1) (m := ([0] : List Int).length) (bytes := 8) (xs' := y655) (news := ([vI 0])) (zv := vI 0) 3 ⟨by kernel_rfl⟩ rfl rfl Try.underlying23 (by kernel_rfl) (by rfl) rfl (fun w_ hM => hM.srcO 1 rfl) h568.len h568.one hb654 (by have z_ := congrArg List.length he653; rw [List.length_append] at z_; exact z_.symm) hy656 (fun _ _ _ _ hS h' => (by exact h'.sub (.cons _ (.cons _ (.cons _ (.cons _ (.cons _ (.cons_cons _ (.cons_cons _ (.refl _)))))))))) ?_
           rintro ⟨A658, c659⟩
           refine oQ [oT 14, oT 15] [(64, vP b_r 1), (62, sl A658 l60 c659), (56, sl A651 l49 c652), (50, vP b_r 0), (4, vI (r_1.length : Int)), (0, vP b_r 0), (2, vP b1 0)] (by kernel_rfl) ?_
           refine ops_store (an := []) (evs := [sr b_r 1 (sl A651 l49 c652)]) ⟨by kernel_rfl⟩ (fun w_ hM hS => let ⟨w', he, h'⟩ := hM.evs_stores [sl A651 l49 c652] 2 rfl 1 (Nat.le_of_ble_eq_true rfl); ⟨w', he, h', (by exact h'.sub (.cons _ (.cons _ (.cons _ (.cons _ (.cons _ (.cons_cons _ (.cons_cons _ (.refl _)))))))))⟩) ?_
           refine oQ [oT 17, oT 18] [(66, vP b_r 0), (62, sl A658 l60 c659), (4, vI (r_1.length : Int)), (0, vP b_r 0), (2, vP b1 0)] (by kernel_rfl) ?_
           refine ops_store (an := []) (evs := [sr b_r 0 (sl A658 l60 c659)]) ⟨by kernel_rfl⟩ (fun w_ hM hS => let ⟨w', he, h'⟩ := hM.evs_stores [sl A658 l60 c659] 2 rfl 0 (Nat.le_of_ble_eq_true rfl); ⟨w', he, h', (by exact h'.sub (.cons _ (.cons _ (.cons _ (.cons _ (.cons _ (.cons_cons _ (.cons_cons _ (.refl _)))))))))⟩) ?_
           refine ops_nil ?_
           exact fin_join HJ2 (A658, c659, l60, y655, A651, c652, l49, y648, (r_1.length : Int)) ⟨hp, h657, h650⟩ (look_has ⟨rfl, rfl, rfl, trivial⟩) (fun w_ hM => hM.pick 7 [2, 3, 4, 5, 6] (by kernel_rfl) (by decide) rfl)
         ·
          refine tree_node ?_
          refine ops_mem (d := some 60) (an := [.v (sl A_r_0 r_0 c_r_0)]) (evs := [ld b_r 0 (sl A_r_0 r_0 c_r_0)]) (v := sl A_r_0 r_0 c_r_0) ⟨by kernel_rfl⟩ (fun w_ hM hS => ⟨w_, ⟨hM.cell 1 rfl rfl, rfl⟩, hM, hS⟩) ?_
          refine ops_nil ?_
          refine tree_both ?_ ?_
          ·
           refine tree_leaf ?_
           refine ops_mem (d := some 54) (an := [.v (sl A_r_1 r_1 c_r_1)]) (evs := [ld b_r 1 (sl A_r_1 r_1 c_r_1)]) (v := sl A_r_1 r_1 c_r_1) ⟨by kernel_rfl⟩ (fun w_ hM hS => ⟨w_, ⟨hM.cell 1 rfl rfl, rfl⟩, hM, hS⟩) ?_
           have h660 : RepL Rep.bool F W ([false] : List Bool) ([.bool false]) := (RepL.cons (R := Rep.bool) (F := F) (w := W) (vs := [.bool false]) (ys := []) rfl RepL.nil)
           refine ops_new (d := some 55) (o := .cells ([.bool false] : List Value).toArray 4) (v := fun g661 => .slice (sa g661) ([false] : List Bool).length 1) (M' := fun g661 => Mem w0 (orow (sa g661) ([false] : List Bool).length 1 4 1 ([.bool false]) :: orow (sa g569) ([0] : List Int).length 1 3 1 ([vI 0]) :: .blk b_r [sl A_r_0 r_0 c_r_0, sl A_r_1 r_1 c_r_1] 86 :: ow A_r_0 r_0 c_r_0 3 1 y_r_0 :: ow A_r_1 r_1 c_r_1 4 1 y_r_1 :: .blk b1 [vI 0, vI 0] 35 :: Fz F W :: cs)) (fun g661 => ⟨by kernel_rfl⟩) (fun w_ hM hS => ⟨hM.onew [.bool false] 4 1 1 rfl (by decide), hS.alloc _⟩) (fun g661 => ?_)
           obtain ⟨he662, hb663⟩ := app_some hv50
           obtain ⟨y664, hy665⟩ : ∃ y_, y_r_1 ++ ([.bool false]) = y_ := ⟨_, rfl⟩
           have h666 : RepL Rep.bool F W l49 y664 := by rw [he662, ← hy665]; exact RepL.app h_r_1 h660
           refine ops_appendO (x := (Go.Operand.tmp 54)) (y := (Go.Operand.tmp 55)) (t := 84) (e := 4) (d := some 56) (n' := l49.length) (z := 1) (m := ([false] : List Bool).length) (bytes := 1) (xs' := y664) (news := ([.bool false])) (zv := .bool false) 4 ⟨by kernel_rfl⟩ rfl rfl Try.underlying84 (by kernel_rfl) (by rfl) rfl (fun w_ hM => hM.srcO 0 rfl) h660.len h660.one hb663 (by have z_ := congrArg List.length he662; rw [List.length_append] at z_; exact z_.symm) hy665 (fun _ _ _ _ hS h' => (by exact h'.sub (.cons _ (.cons _ (.cons _ (.cons _ (.cons _ (.cons_cons _ (.cons_cons _ (.refl _)))))))))) ?_
           rintro ⟨A667, c668⟩
           obtain ⟨he669, hb670⟩ := app_some hv61
           obtain ⟨y671, hy672⟩ : ∃ y_, y_r_0 ++ ([vI 0]) = y_ := ⟨_, rfl⟩
           have h673 : RepL (Rep.int .i64) F W l60 y671 := by rw [he669, ← hy672]; exact RepL.app h_r_0 h568
           refine ops_appendO (x := (Go.Operand.tmp 60)) (y := (Go.Operand.tmp 61)) (t := 23) (e := 3) (d := some 62) (n' := l60.length) (z := 1) (m := ([0] : List Int).length) (bytes := 8) (xs' := y671) (news := ([vI 0])) (zv := vI 0) 3 ⟨by kernel_rfl⟩ rfl rfl Try.underlying23 (by kernel_rfl) (by rfl) rfl (fun w_ hM => hM.srcO 1 rfl) h568.len h568.one hb670 (by have z_ := congrArg List.length he669; rw [List.length_append] at z_; exact z_.symm) hy672 (fun _ _ _ _ hS h' => (by exact h'.sub (.cons _ (.cons _ (.cons _ (.cons _ (.cons _ (.cons_cons _ (.cons_cons _ (.refl _)))))))))) ?_
           rintro ⟨A674, c675⟩
           refine oQ [oT 14, oT 15] [(64, vP b_r 1), (62, sl A674 l60 c675), (56, sl A667 l49 c668), (50, vP b_r 0), (4, vI (r_1.length : Int)), (0, vP b_r 0), (2, vP b1 0)] (by kernel_rfl) ?_
           refine ops_store (an := []) (evs := [sr b_r 1 (sl A667 l49 c668)]) ⟨by kernel_rfl⟩ (fun w_ hM hS => let ⟨w', he, h'⟩ := hM.evs_stores [sl A667 l49 c668] 2 rfl 1 (Nat.le_of_ble_eq_true rfl); ⟨w', he, h', (by exact h'.sub (.cons _ (.cons _ (.cons _ (.cons _ (.cons _ (.cons_cons _ (.cons_cons _ (.refl _)))))))))⟩) ?_
           refine oQ [oT 17, oT 18] [(66, vP b_r 0), (62, sl A674 l60 c675), (4, vI (r_1.length : Int)), (0, vP b_r 0), (2, vP b1 0)] (by kernel_rfl) ?_
           refine ops_store (an := []) (evs := [sr b_r 0 (sl A674 l60 c675)]) ⟨by kernel_rfl⟩ (fun w_ hM hS => let ⟨w', he, h'⟩ := hM.evs_stores [sl A674 l60 c675] 2 rfl 0 (Nat.le_of_ble_eq_true rfl); ⟨w', he, h', (by exact h'.sub (.cons _ (.cons _ (.cons _ (.cons _ (.cons _ (.cons_cons _ (.cons_cons _ (.refl _)))))))))⟩) ?_
           refine ops_nil ?_
           exact fin_join HJ2 (A674, c675, l60, y671, A667, c668, l49, y664, (r_1.length : Int)) ⟨hp, h673, h666⟩ (look_has ⟨rfl, rfl, rfl, trivial⟩) (fun w_ hM => hM.pick 7 [2, 3, 4, 5, 6] (by kernel_rfl) (by decide) rfl)
          ·
           refine tree_leaf ?_
           have h676 : RepL Rep.bool F W ([false] : List Bool) ([.bool false]) := (RepL.cons (R := Rep.bool) (F := F) (w := W) (vs := [.bool false]) (ys := []) rfl RepL.nil)
           refine ops_new (d := some 55) (o := .cells ([.bool false] : List Value).toArray 4) (v := fun g677 => .slice (sa g677) ([false] : List Bool).length 1) (M' := fun g677 => Mem w0 (orow (sa g677) ([false] : List Bool).length 1 4 1 ([.bool false]) :: orow (sa g569) ([0] : List Int).length 1 3 1 ([vI 0]) :: .blk b_r [sl A_r_0 r_0 c_r_0, sl A_r_1 r_1 c_r_1] 86 :: ow A_r_0 r_0 c_r_0 3 1 y_r_0 :: ow A_r_1 r_1 c_r_1 4 1 y_r_1 :: .blk b1 [vI 0, vI 0] 35 :: Fz F W :: cs)) (fun g677 => ⟨by kernel_rfl⟩) (fun w_ hM hS => ⟨hM.onew [.bool false] 4 1 1 rfl (by decide), hS.alloc _⟩) (fun g677 => ?_)
           refine ops_mem (d := some 54) (an := [.v (sl A_r_1 r_1 c_r_1)]) (evs := [ld b_r 1 (sl A_r_1 r_1 c_r_1)]) (v := sl A_r_1 r_1 c_r_1) ⟨by kernel_rfl⟩ (fun w_ hM hS => ⟨w_, ⟨hM.cell 2 rfl rfl, rfl⟩, hM, hS⟩) ?_
           obtain ⟨he678, hb679⟩ := app_some hv50
           obtain ⟨y680, hy681⟩ : ∃ y_, y_r_1 ++ ([.bool false]) = y_ := ⟨_, rfl⟩
           have h682 : RepL Rep.bool F W l49 y680 := by rw [he678, ← hy681]; exact RepL.app h_r_1 h676
           refine ops_appendO (x := (Go.Operand.tmp 54)) (y := (Go.Operand.tmp 55)) (t := 84) (e := 4) (d := some 56) (n' := l49.length) (z := 1) (m := ([false] : List Bool).length) (bytes := 1) (xs' := y680) (news := ([.bool false])) (zv := .bool false) 4 ⟨by kernel_rfl⟩ rfl rfl Try.underlying84 (by kernel_rfl) (by rfl) rfl (fun w_ hM => hM.srcO 0 rfl) h676.len h676.one hb679 (by have z_ := congrArg List.length he678; rw [List.length_append] at z_; exact z_.symm) hy681 (fun _ _ _ _ hS h' => (by exact h'.sub (.cons _ (.cons _ (.cons _ (.cons _ (.cons _ (.cons_cons _ (.cons_cons _ (.refl _)))))))))) ?_
           rintro ⟨A683, c684⟩
           obtain ⟨he685, hb686⟩ := app_some hv61
           obtain ⟨y687, hy688⟩ : ∃ y_, y_r_0 ++ ([vI 0]) = y_ := ⟨_, rfl⟩
           have h689 : RepL (Rep.int .i64) F W l60 y687 := by rw [he685, ← hy688]; exact RepL.app h_r_0 h568
           refine ops_appendO (x := (Go.Operand.tmp 60)) (y := (Go.Operand.tmp 61)) (t := 23) (e := 3) (d := some 62) (n' := l60.length) (z := 1) (m := ([0] : List Int).length) (bytes := 8) (xs' := y687) (news := ([vI 0])) (zv := vI 0) 3 ⟨by kernel_rfl⟩ rfl rfl Try.underlying23 (by kernel_rfl) (by rfl) rfl (fun w_ hM => hM.srcO 1 rfl) h568.len h568.one hb686 (by have z_ := congrArg List.length he685; rw [List.length_append] at z_; exact z_.symm) hy688 (fun _ _ _ _ hS h' => (by exact h'.sub (.cons _ (.cons _ (.cons _ (.cons _ (.cons _ (.cons_cons _ (.cons_cons _ (.refl _)))))))))) ?_
           rintro ⟨A690, c691⟩
           refine oQ [oT 14, oT 15] [(64, vP b_r 1), (62, sl A690 l60 c691), (56, sl A683 l49 c684), (50, vP b_r 0), (4, vI (r_1.length : Int)), (0, vP b_r 0), (2, vP b1 0)] (by kernel_rfl) ?_
           refine ops_store (an := []) (evs := [sr b_r 1 (sl A683 l49 c684)]) ⟨by kernel_rfl⟩ (fun w_ hM hS => let ⟨w', he, h'⟩ := hM.evs_stores [sl A683 l49 c684] 2 rfl 1 (Nat.le_of_ble_eq_true rfl); ⟨w', he, h', (by exact h'.sub (.cons _ (.cons _ (.cons _ (.cons _ (.cons _ (.cons_cons _ (.cons_cons _ (.refl _)))))))))⟩) ?_
           refine oQ [oT 17, oT 18] [(66, vP b_r 0), (62, sl A690 l60 c691), (4, vI (r_1.length : Int)), (0, vP b_r 0), (2, vP b1 0)] (by kernel_rfl) ?_
           refine ops_store (an := []) (evs := [sr b_r 0 (sl A690 l60 c691)]) ⟨by kernel_rfl⟩ (fun w_ hM hS => let ⟨w', he, h'⟩ := hM.evs_stores [sl A690 l60 c691] 2 rfl 0 (Nat.le_of_ble_eq_true rfl); ⟨w', he, h', (by exact h'.sub (.cons _ (.cons _ (.cons _ (.cons _ (.cons _ (.cons_cons _ (.cons_cons _ (.refl _)))))))))⟩) ?_
           refine ops_nil ?_
           exact fin_join HJ2 (A690, c691, l60, y687, A683, c684, l49, y680, (r_1.length : Int)) ⟨hp, h689, h682⟩ (look_has ⟨rfl, rfl, rfl, trivial⟩) (fun w_ hM => hM.pick 7 [2, 3, 4, 5, 6] (by kernel_rfl) (by decide) rfl)
   ·
    have hp := cnd_f hc45 hp
    refine st_skip ?_
    exact fin_join HJ2 (A_r_0, c_r_0, r_0, y_r_0, A_r_1, c_r_1, r_1, y_r_1, i2) ⟨hp, h_r_0, h_r_1⟩ (look_has ⟨rfl, rfl, rfl, trivial⟩) (fun w_ hM => hM)
 ·
  intro HJ1
  refine st_seq (st_seq (st_region [oF 0, oF 1, oF 2, oF 3, oF 4, oF 5, oF 6] (by rfl) ?_))
  refine oQ [oF 0, oF 1, oF 2] [(8, vP b_r 1), (4, vI (-1)), (2, vP b1 0), (0, vP b_r 0)] (by kernel_rfl) ?_
  refine ops_mem (d := some 9) (an := [.v (sl A_r_1 r_1 c_r_1)]) (evs := [ld b_r 1 (sl A_r_1 r_1 c_r_1)]) (v := sl A_r_1 r_1 c_r_1) ⟨by kernel_rfl⟩ (fun w_ hM hS => ⟨w_, ⟨hM.cell 1 rfl rfl, rfl⟩, hM, trivial⟩) ?_
  refine oQ [oF 4, oF 5, oF 6] [(5, vI (IntKind.i64.wrap ((r_1.length : Int) - 1))), (4, vI (-1)), (2, vP b1 0), (0, vP b_r 0)] (by kernel_rfl) ?_
  refine ops_nil (fin_then (st_block ?_))
  obtain ⟨r3, hl3, hk3⟩ := obind hp
  refine st_loopP (σ := Int × Int) (ρ := Int) (γ := Unit) hl3 () (fun s_ g_ => match s_, g_ with | (i692, i693), _ => [(0, vP b_r 0), (2, vP b1 0), (4, vI i692), (5, vI i693)]) (fun s_ g_ => match s_, g_ with | (i692, i693), _ => Mem w0 (.blk b_r [sl A_r_0 r_0 c_r_0, sl A_r_1 r_1 c_r_1] 86 :: ow A_r_0 r_0 c_r_0 3 1 y_r_0 :: ow A_r_1 r_1 c_r_1 4 1 y_r_1 :: .blk b1 [vI 0, vI 0] 35 :: Fz F W :: cs)) (fun s_ g_ => match s_, g_ with | (i692, i693), _ => True) trivial (look_has ⟨rfl, rfl, rfl, rfl, trivial⟩) (fun w_ hM => hM.pick 5 [1, 2, 3, 0, 4] (by kernel_rfl) (by decide) rfl) ?_
  rintro ⟨i692, i693⟩ _ o3 - hs_ hd3
  have hp : (tourref1_Room_Take_l3 r_1 r_0) i692 i693 = some o3 := hs_
  clear hs_
  unfold tourref1_Room_Take_l3 at hp
  refine st_seq (st_seq (st_region [oF 0, oF 1] (by rfl) ?_))
  refine oQ [oF 0, oF 1] [(13, .bool (decide (0 ≤ i693))), (0, vP b_r 0), (2, vP b1 0), (4, vI i692), (5, vI i693)] (by kernel_rfl) ?_
  refine ops_nil (fin_then ?_)
  refine st_if (b := decide (0 ≤ i693)) rfl (fun hc694 => ?_) (fun hc694 => ?_)
  ·
   have hp := cnd_t hc694 hp
   refine st_skip (fin_then ?_)
   refine st_join1 (σ := Int) (L := fun x_ => match x_ with | i695 => [(0, vP b_r 0), (2, vP b1 0), (4, vI i695), (5, vI i693)]) (N := fun x_ => match x_ with | i695 => Mem w0 (.blk b_r [sl A_r_0 r_0 c_r_0, sl A_r_1 r_1 c_r_1] 86 :: ow A_r_0 r_0 c_r_0 3 1 y_r_0 :: ow A_r_1 r_1 c_r_1 4 1 y_r_1 :: .blk b1 [vI 0, vI 0] 35 :: Fz F W :: cs)) (I := fun x_ => match x_ with | i695 => ((tourref1_Room_Take_j4 i693) i695 = some o3)) ?_ ?_
   ·
    rintro i695 hp
    unfold tourref1_Room_Take_j4 at hp
    refine st_region [oF 0, oF 1, oF 2] (by rfl) ?_
    refine oQ [oF 0, oF 1, oF 2] [(5, vI (IntKind.i64.wrap (i693 - 1))), (0, vP b_r 0), (2, vP b1 0), (4, vI i695)] (by kernel_rfl) ?_
    refine ops_nil ?_
    exact fin_again (i695, IntKind.i64.wrap (i693 - 1)) () (Option.some.inj hp).symm trivial (look_has ⟨rfl, rfl, rfl, rfl, trivial⟩) (fun w_ hM => hM)
   ·
    intro HJ4
    refine st_seq (st_block (st_seq (st_region [oF 0, oF 1, oF 2, oF 3, oF 4, oF 5, oF 6, oF 7, oF 8, oF 9, oF 10, oF 11, oF 12, oF 13, oF 14, oF 15, oF 16, oF 17] (by rfl) ?_)))
    refine oQ [oF 0, oF 1, oF 2] [(18, vP b_r 1), (0, vP b_r 0), (2, vP b1 0), (4, vI i692), (5, vI i693)] (by kernel_rfl) ?_
    refine ops_mem (d := some 19) (an := [.v (sl A_r_1 r_1 c_r_1)]) (evs := [ld b_r 1 (sl A_r_1 r_1 c_r_1)]) (v := sl A_r_1 r_1 c_r_1) ⟨by kernel_rfl⟩ (fun w_ hM hS => ⟨w_, ⟨hM.cell 0 rfl rfl, rfl⟩, hM, trivial⟩) ?_
    refine oQ [oF 4] [(20, vI i693), (19, sl A_r_1 r_1 c_r_1), (0, vP b_r 0), (2, vP b1 0), (4, vI i692), (5, vI i693)] (by kernel_rfl) ?_
    obtain ⟨x696, hv697, hp⟩ := obind hp
    obtain ⟨m698, hm699, hx700⟩ := idx_some hv697
    have hl703 := (List.getElem?_eq_some_iff.1 hx700).1
    refine ops_fact (fun w_ hM => hM.orowSome 2 rfl (Nat.lt_of_le_of_lt (Nat.zero_le _) hl703)) ?_
    rintro ⟨g704, rfl, -⟩
    obtain ⟨vs701, hr702, hq705⟩ := h_r_1.at_ m698 x696 hx700
    obtain rfl := hr702
    refine ops_val (op := (.indexAddr 84 (.tmp 19) (.tmp 20))) (d := some 21) (v := vP g704 (m698 * 1)) ⟨by kernel_rfl⟩ (run_indexRow Try.underlying84 (z := 1) (by kernel_rfl) rfl rfl hm699 hl703 rfl) ?_
    refine ops_mem (d := some 22) (an := [.v (.bool x696)]) (evs := [.load ⟨g704, m698 * 1, none⟩ (.bool x696)]) (v := .bool x696) ⟨by kernel_rfl⟩ (fun w_ hM hS => ⟨w_, ⟨hM.ocell 2 rfl (hq705 0 _ rfl), rfl⟩, hM, trivial⟩) ?_
    refine oQ [oF 7, oF 8] [(24, .bool (!x696)), (0, vP b_r 0), (2, vP b1 0), (4, vI i692), (5, vI i693)] (by kernel_rfl) ?_
    refine ops_bool (t := !x696) (l1 := [(24, .bool true), (0, vP b_r 0), (2, vP b1 0), (4, vI i692), (5, vI i693)]) (l2 := [(24, .bool false), (0, vP b_r 0), (2, vP b1 0), (4, vI i692), (5, vI i693)]) (fun h => by rw [h]) (fun h => by rw [h]) (fun hc706 => ?_) (fun hc706 => ?_)
    ·
     have hp := cnd_t hc706 hp
     refine oQ [oF 9, oF 10, oF 11] [(27, vP b_r 0), (24, .bool true), (0, vP b_r 0), (2, vP b1 0), (4, vI i692), (5, vI i693)] (by kernel_rfl) ?_
     refine ops_mem (d := some 28) (an := [.v (sl A_r_0 r_0 c_r_0)]) (evs := [ld b_r 0 (sl A_r_0 r_0 c_r_0)]) (v := sl A_r_0 r_0 c_r_0) ⟨by kernel_rfl⟩ (fun w_ hM hS => ⟨w_, ⟨hM.cell 0 rfl rfl, rfl⟩, hM, trivial⟩) ?_
     refine oQ [oF 13] [(29, vI i693), (28, sl A_r_0 r_0 c_r_0), (24, .bool true), (0, vP b_r 0), (2, vP b1 0), (4, vI i692), (5, vI i693)] (by kernel_rfl) ?_
     obtain ⟨x707, hv708, hp⟩ := obind hp
     obtain ⟨m709, hm710, hx711⟩ := idx_some hv708
     have hl714 := (List.getElem?_eq_some_iff.1 hx711).1
     refine ops_fact (fun w_ hM => hM.orowSome 1 rfl (Nat.lt_of_le_of_lt (Nat.zero_le _) hl714)) ?_
     rintro ⟨g715, rfl, -⟩
     obtain ⟨vs712, hr713, hq716⟩ := h_r_0.at_ m709 x707 hx711
     obtain rfl := hr713
     refine ops_val (op := (.indexAddr 23 (.tmp 28) (.tmp 29))) (d := some 30) (v := vP g715 (m709 * 1)) ⟨by kernel_rfl⟩ (run_indexRow Try.underlying23 (z := 1) (by kernel_rfl) rfl rfl hm710 hl714 rfl) ?_
     refine ops_mem (d := some 31) (an := [.v (vI x707)]) (evs := [.load ⟨g715, m709 * 1, none⟩ (vI x707)]) (v := vI x707) ⟨by kernel_rfl⟩ (fun w_ hM hS => ⟨w_, ⟨hM.ocell 1 rfl (hq716 0 _ rfl), rfl⟩, hM, trivial⟩) ?_
     refine oQ [oF 16, oF 17] [(33, .bool (decide (x707 < 1073741824))), (0, vP b_r 0), (2, vP b1 0), (4, vI i692), (5, vI i693)] (by kernel_rfl) ?_
     refine ops_nil (fin_then ?_)
     refine st_if (b := decide (x707 < 1073741824)) rfl (fun hc717 => ?_) (fun hc717 => ?_)
     ·
      have hp := cnd_t hc717 hp
      refine st_region [oF 0, oF 1] (by rfl) ?_
      refine oQ [oF 0, oF 1] [(4, vI i693), (0, vP b_r 0), (2, vP b1 0), (5, vI i693)] (by kernel_rfl) ?_
      refine ops_nil (fin_block ?_)
      exact fin_join HJ4 i693 hp (look_has ⟨rfl, rfl, rfl, rfl, trivial⟩) (fun w_ hM => hM)
     ·
      have hp := cnd_f hc717 hp
      refine st_skip (fin_block ?_)
      exact fin_join HJ4 i692 hp (look_has ⟨rfl, rfl, rfl, rfl, trivial⟩) (fun w_ hM => hM)
    ·
     have hp := cnd_f hc706 hp
     refine oQ [oF 9, oF 10, oF 11, oF 12, oF 13, oF 14, oF 15, oF 16, oF 17] [(33, .bool false), (0, vP b_r 0), (2, vP b1 0), (4, vI i692), (5, vI i693)] (by kernel_rfl) ?_
     refine ops_nil (fin_then (st_false rfl (st_skip (fin_block ?_))))
     exact fin_join HJ4 i692 hp (look_has ⟨rfl, rfl, rfl, rfl, trivial⟩) (fun w_ hM => hM)
  ·
   have hp := cnd_f hc694 hp
   refine st_exit (fin_exit_then (fin_exit_then (fin_exit ?_)))
   obtain hq_ := Option.some.inj hp
   subst hq_
   obtain hq_ := hd3 _ rfl
   subst hq_
   have hp : (tourref1_Room_Take_j1 r_1 r_0) i692 = some (i9001, i9002, i9003, l9006, l9011) := hk3
   exact fin_join HJ1 i692 hp (look_has ⟨rfl, rfl, rfl, trivial⟩) (fun w_ hM => hM)
end Go.Proofs.Ythcniadbdjoecaa.R
