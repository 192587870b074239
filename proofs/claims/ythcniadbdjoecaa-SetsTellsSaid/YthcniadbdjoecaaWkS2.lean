/- The Go functions come to what the plain functions tell. No condition. -/
import Derived.Test.YthcniadbdjoecaaProg
import Derived.Test.YthcniadbdjoecaaFnS
import Derived.Test.YthcniadbdjoecaaExRf
import Derived.Test.YthcniadbdjoecaaWkS1
namespace Go.Proofs.Ythcniadbdjoecaa.S
open Go Go.RowKit Go.Proofs.Ythcniadbdjoecaa.Sx
set_option linter.unusedVariables false
set_option maxHeartbeats 4000000
set_option maxRecDepth 100000
theorem sets_Set_Len_ok (w0 w : World) (cs : List Chunk) (F : Nat → Prop) (W : World) (A_s : Option Addr) (c_s : Nat) (s : List Int) (hM0 : Mem w0 (Fz F W :: cs) w) (h_s : RdS (Rep.int .u64) F W A_s c_s s) (i9001 : Int) (hp : sets_Set_Len s = some i9001) : Calls Try.prog 26 #[sl A_s s c_s] w fun e w' => (True) ∧ e = .returned (vI i9001) ∧ Mem w0 (Fz F W :: cs) w' := by
 unfold sets_Set_Len at hp
 refine sx_callsM Try.func26 rfl (n := 10) (by kernel_rfl) (l := [(0, sl A_s s c_s)]) rfl (by rfl) hM0 ?_
 refine st_seq (st_region [oF 0] (by rfl) ?_)
 refine oQ [oF 0] [(2, vI 0), (0, sl A_s s c_s)] (by kernel_rfl) ?_
 refine ops_nil (fin_then (st_seq (st_region [oF 0, oF 1] (by rfl) ?_)))
 refine ops_newB (d := some 3) [vI 0] 3 (fun b1 => ⟨by kernel_rfl⟩) (fun w_ hM hS => trivial) (fun b1 => ?_)
 refine ops_store (an := []) (evs := [sr b1 0 (vI 0)]) ⟨by kernel_rfl⟩ (fun w_ hM hS => let ⟨w', he, h'⟩ := hM.evs_stores [vI 0] 0 rfl 0 (Nat.le_of_ble_eq_true rfl); ⟨w', he, h', trivial⟩) ?_
 refine ops_nil (fin_then ?_)
 refine st_joinN1 (σ := Int × Nat) (nn := fun x_ => match x_ with | (i2, b3) => ⟨10, [markOf b3]⟩) (L := fun x_ => match x_ with | (i2, b3) => [(3, vP b1 0)]) (N := fun x_ => match x_ with | (i2, b3) => Mem w0 (.blk b1 [vI i2] 3 :: .obj b3 (.deferred (some [])) :: Fz F W :: cs)) (I := fun x_ => match x_ with | (i2, b3) => (sets_Set_Len_j1 i2 = some i9001)) ?_ ?_
 ·
  rintro ⟨i2, b3⟩ hp
  unfold sets_Set_Len_j1 at hp
  refine st_seq (st_region [oF 0, oF 1] (by rfl) ?_)
  refine ops_mem (d := some 9) (an := [.v (vI i2)]) (evs := [ld b1 0 (vI i2)]) (v := vI i2) ⟨by kernel_rfl⟩ (fun w_ hM hS => ⟨w_, ⟨hM.cell 0 rfl rfl, rfl⟩, hM, trivial⟩) ?_
  refine oQ [oF 1] [(2, vI i2)] (by kernel_rfl) ?_
  refine ops_nil (fin_then (st_ret ?_))
  refine fin_outs rfl ?_
  refine outs_mark 1 rfl ?_
  refine outs_conv (M' := Mem w0 (.blk b1 [vI i2] 3 :: Fz F W :: cs)) (fun _ h => h) ?_
  have hq_ := Option.some.inj hp
  have hr0_ := hq_
  subst hr0_
  refine outs_nil [.tmp 2] [vI i2] rfl (fun w_ hM => (.tmp rfl .nil)) (fun w_ hM => ?_)
  exact ⟨trivial, rfl, hM.pick 2 [1] (by kernel_rfl) (by decide) rfl⟩
 ·
  intro HJ1
  refine st_seq (st_seq (st_region [oF 0, oF 1] (by rfl) ?_))
  refine oQ [oF 0] [(4, sl A_s s c_s), (3, vP b1 0), (2, vI 0)] (by kernel_rfl) ?_
  obtain ⟨x4, hv5, hp⟩ := obind hp
  refine ops_callI (σ := Nat × (Option Addr) × Nat × (List Value)) (d := some 5) (f := 25) (args := #[sl A_s s c_s]) (v := (fun x_ => match x_ with | (b6, A7, c8, y9) => .func (.func 69) #[] #[vP b6 0])) (I := (fun x_ => match x_ with | (b6, A7, c8, y9) => (RepL (Rep.int .u64) F W x4 y9))) (M' := (fun x_ => match x_ with | (b6, A7, c8, y9) => Mem w0 (.blk b6 [sl A7 x4 c8] 51 :: ow A7 x4 c8 52 1 y9 :: .blk b1 [vI 0] 3 :: Fz F W :: cs))) ⟨by kernel_rfl⟩ (fun w_ hM hS => (sets_Set_All_ok w0 w_ (.blk b1 [vI 0] 3 :: cs) F W A_s c_s s (hM.pick 2 [1, 0] (by kernel_rfl) (by decide) rfl) h_s x4 hv5).mono (by rintro e w' ⟨b6, A7, c8, y9, h10, rfl, h'⟩; have h' : Mem w0 (.blk b6 [sl A7 x4 c8] 51 :: ow A7 x4 c8 52 1 y9 :: .blk b1 [vI 0] 3 :: Fz F W :: cs) w' := (h'.pick 4 [0, 1, 3, 2] (by kernel_rfl) (by decide) rfl); exact ⟨(b6, A7, c8, y9), h10, rfl, h', trivial⟩)) ?_
  rintro ⟨b6, A7, c8, y9⟩ h10
  refine ops_nil (fin_then (st_block ?_))
  refine st_keep (l' := [(5, .func (.func 69) #[] #[vP b6 0]), (3, vP b1 0), (2, vI 0)]) [5, 3, 2] (by kernel_rfl) ?_
  refine st_rangeFunc (tg := 5) (caps := #[vP b6 0]) (nf := 32) (lf := fun L_ => [(0, yv L_), (1, vP b6 0)]) rfl Try.func69 rfl (by kernel_rfl) (by kernel_rfl) (fun L_ => by kernel_rfl) (fun _ => rfl) ?_
  intro g_ a_rf13 b11 b12 rc_rf13 hrc_rf13 hk_rf13
  refine st_seq (st_region [oF 0, oF 1, oF 2] (by rfl) ?_)
  refine ops_mem (d := some 6) (an := [.v (sl A7 x4 c8)]) (evs := [ld b6 0 (sl A7 x4 c8)]) (v := sl A7 x4 c8) ⟨by kernel_rfl⟩ (fun w_ hM hS => ⟨w_, ⟨hM.cell 2 rfl rfl, rfl⟩, hM, trivial⟩) ?_
  refine oQ [oF 1, oF 2] [(8, vI 0), (7, vI (x4.length : Int)), (6, sl A7 x4 c8), (0, yv b12)] (by kernel_rfl) ?_
  refine ops_nil (fin_then (st_block ?_))
  obtain ⟨r2, hl2, hk2⟩ := obind hp
  refine st_loopP (σ := Int × Int) (ρ := Int) (γ := Unit) hl2 () (fun s_ g_ => match s_, g_ with | (i14, i15), _ => [(0, yv b12), (6, sl A7 x4 c8), (7, vI (x4.length : Int)), (8, vI i14)]) (fun s_ g_ => match s_, g_ with | (i14, i15), _ => Mem w0 (ow A7 x4 c8 52 1 y9 :: .blk b6 [sl A7 x4 c8] 51 :: .blk b1 [vI i15] 3 :: .obj b12 (rc_rf13 .ready none) :: .obj b11 (.deferred (some [])) :: Fz F W :: cs)) (fun s_ g_ => match s_, g_ with | (i14, i15), _ => True) trivial (look_has ⟨rfl, rfl, rfl, rfl, trivial⟩) (fun w_ hM => hM.pick 6 [3, 2, 4, 0, 1, 5] (by kernel_rfl) (by decide) rfl) ?_
  rintro ⟨i14, i15⟩ _ o2 - hs_ hd2
  have hp : (sets_Set_Len_l2 x4) i14 i15 = some o2 := hs_
  clear hs_
  unfold sets_Set_Len_l2 at hp
  refine st_seq (st_region [oF 0] (by rfl) ?_)
  refine oQ [oF 0] [(9, .bool (decide (i14 < (x4.length : Int)))), (0, yv b12), (6, sl A7 x4 c8), (7, vI (x4.length : Int)), (8, vI i14)] (by kernel_rfl) ?_
  refine ops_nil (fin_then (st_seq ?_))
  refine st_if (b := decide (i14 < (x4.length : Int))) rfl (fun hc16 => ?_) (fun hc16 => ?_)
  ·
   have hp := cnd_t hc16 hp
   refine st_skip (fin_then ?_)
   refine st_join1 (σ := Int) (L := fun x_ => match x_ with | i17 => [(0, yv b12), (6, sl A7 x4 c8), (7, vI (x4.length : Int)), (8, vI i14)]) (N := fun x_ => match x_ with | i17 => Mem w0 (ow A7 x4 c8 52 1 y9 :: .blk b6 [sl A7 x4 c8] 51 :: .blk b1 [vI i17] 3 :: .obj b12 (rc_rf13 .ready none) :: .obj b11 (.deferred (some [])) :: Fz F W :: cs)) (I := fun x_ => match x_ with | i17 => ((sets_Set_Len_j3 i14) i17 = some o2)) ?_ ?_
   ·
    rintro i17 hp
    unfold sets_Set_Len_j3 at hp
    refine st_region [oF 0, oF 1] (by rfl) ?_
    refine oQ [oF 0, oF 1] [(8, vI (IntKind.i64.wrap (i14 + 1))), (0, yv b12), (6, sl A7 x4 c8), (7, vI (x4.length : Int))] (by kernel_rfl) ?_
    refine ops_nil ?_
    exact fin_again (IntKind.i64.wrap (i14 + 1), i17) () (Option.some.inj hp).symm trivial (look_has ⟨rfl, rfl, rfl, rfl, trivial⟩) (fun w_ hM => hM)
   ·
    intro HJ3
    refine st_seq (st_block (st_seq (st_region [oF 0, oF 1, oF 2, oF 3, oF 4] (by rfl) ?_)))
    refine oQ [oF 0] [(10, vI i14), (0, yv b12), (6, sl A7 x4 c8), (7, vI (x4.length : Int)), (8, vI i14)] (by kernel_rfl) ?_
    obtain ⟨x18, hv19, hp⟩ := obind hp
    obtain ⟨m20, hm21, hx22⟩ := idx_some hv19
    have hl25 := (List.getElem?_eq_some_iff.1 hx22).1
    refine ops_fact (fun w_ hM => hM.orowSome 0 rfl (Nat.lt_of_le_of_lt (Nat.zero_le _) hl25)) ?_
    rintro ⟨g26, rfl, -⟩
    obtain ⟨vs23, hr24, hq27⟩ := h10.at_ m20 x18 hx22
    obtain rfl := hr24
    refine ops_val (op := (.indexAddr 51 (.tmp 6) (.tmp 8))) (d := some 11) (v := vP g26 (m20 * 1)) ⟨by kernel_rfl⟩ (run_indexRow Try.underlying51 (z := 1) (by kernel_rfl) rfl rfl hm21 hl25 rfl) ?_
    refine ops_mem (d := some 12) (an := [.v (vU x18)]) (evs := [.load ⟨g26, m20 * 1, none⟩ (vU x18)]) (v := vU x18) ⟨by kernel_rfl⟩ (fun w_ hM hS => ⟨w_, ⟨hM.ocell 0 rfl (hq27 0 _ rfl), rfl⟩, hM, trivial⟩) ?_
    refine oQ [oF 3, oF 4] [(4, vU x18), (3, vI i14), (0, yv b12), (6, sl (sa g26) x4 c8), (7, vI (x4.length : Int)), (8, vI i14)] (by kernel_rfl) ?_
    refine ops_nil (fin_then (st_seq (st_region [oF 0] (by rfl) ?_)))
    refine oQ [oF 0] [(5, vI 0), (4, vU x18), (3, vI i14), (0, yv b12), (6, sl (sa g26) x4 c8), (7, vI (x4.length : Int)), (8, vI i14)] (by kernel_rfl) ?_
    refine ops_nil (fin_then (st_block ?_))
    obtain ⟨r4, hl4, hk4⟩ := obind hp
    refine st_loopP (σ := Int × Int × Int) (ρ := Int) (γ := Unit) hl4 () (fun s_ g_ => match s_, g_ with | (i28, i29, i30), _ => [(0, yv b12), (3, vI i14), (4, vU i28), (5, vI i29), (6, sl (sa g26) x4 c8), (7, vI (x4.length : Int)), (8, vI i14)]) (fun s_ g_ => match s_, g_ with | (i28, i29, i30), _ => Mem w0 (ow (sa g26) x4 c8 52 1 y9 :: .blk b6 [sl (sa g26) x4 c8] 51 :: .blk b1 [vI i30] 3 :: .obj b12 (rc_rf13 .ready none) :: .obj b11 (.deferred (some [])) :: Fz F W :: cs)) (fun s_ g_ => match s_, g_ with | (i28, i29, i30), _ => True) trivial (look_has ⟨rfl, rfl, rfl, rfl, rfl, rfl, rfl, trivial⟩) (fun w_ hM => hM) ?_
    rintro ⟨i28, i29, i30⟩ _ o4 - hs_ hd4
    have hp : sets_Set_Len_l4 i28 i29 i30 = some o4 := hs_
    clear hs_
    unfold sets_Set_Len_l4 at hp
    refine st_seq (st_seq (st_region [oF 0, oF 1] (by rfl) ?_))
    refine oQ [oF 0, oF 1] [(14, .bool (!(i28 == 0))), (0, yv b12), (3, vI i14), (4, vU i28), (5, vI i29), (6, sl (sa g26) x4 c8), (7, vI (x4.length : Int)), (8, vI i14)] (by kernel_rfl) ?_
    refine ops_nil (fin_then ?_)
    refine st_if (b := !(i28 == 0)) rfl (fun hc31 => ?_) (fun hc31 => ?_)
    ·
     have hp := cnd_t hc31 hp
     refine st_skip (fin_then ?_)
     refine st_join1 (σ := Int) (L := fun x_ => match x_ with | i32 => [(0, yv b12), (3, vI i14), (4, vU i28), (5, vI i29), (6, sl (sa g26) x4 c8), (7, vI (x4.length : Int)), (8, vI i14)]) (N := fun x_ => match x_ with | i32 => Mem w0 (ow (sa g26) x4 c8 52 1 y9 :: .blk b6 [sl (sa g26) x4 c8] 51 :: .blk b1 [vI i32] 3 :: .obj b12 (rc_rf13 .ready none) :: .obj b11 (.deferred (some [])) :: Fz F W :: cs)) (I := fun x_ => match x_ with | i32 => ((sets_Set_Len_j5 i28 i29) i32 = some o4)) ?_ ?_
     ·
      rintro i32 hp
      unfold sets_Set_Len_j5 at hp
      refine st_region [oF 0, oF 1, oF 2, oF 3, oF 4, oF 5] (by rfl) ?_
      refine oQ [oF 0, oF 1, oF 2, oF 3, oF 4, oF 5] [(4, vU (Int.fdiv i28 2)), (5, vI (IntKind.i64.wrap (i29 + 1))), (0, yv b12), (3, vI i14), (6, sl (sa g26) x4 c8), (7, vI (x4.length : Int)), (8, vI i14)] (by kernel_rfl) ?_
      refine ops_nil ?_
      exact fin_again (Int.fdiv i28 2, IntKind.i64.wrap (i29 + 1), i32) () (Option.some.inj hp).symm trivial (look_has ⟨rfl, rfl, rfl, rfl, rfl, rfl, rfl, trivial⟩) (fun w_ hM => hM)
     ·
      intro HJ5
      refine st_seq (st_block (st_seq (st_region [oF 0, oF 1, oF 2, oF 3, oF 4, oF 5, oF 6, oF 7, oF 8, oF 9, oF 10, oF 11] (by rfl) ?_)))
      refine oQ [oF 0, oF 1, oF 2, oF 3] [(22, .bool (Go.bits .and .u64 i28 1 == 1)), (0, yv b12), (3, vI i14), (4, vU i28), (5, vI i29), (6, sl (sa g26) x4 c8), (7, vI (x4.length : Int)), (8, vI i14)] (by kernel_rfl) ?_
      refine ops_bool (t := (Go.bits .and .u64 i28 1 == 1)) (l1 := [(22, .bool true), (0, yv b12), (3, vI i14), (4, vU i28), (5, vI i29), (6, sl (sa g26) x4 c8), (7, vI (x4.length : Int)), (8, vI i14)]) (l2 := [(22, .bool false), (0, yv b12), (3, vI i14), (4, vU i28), (5, vI i29), (6, sl (sa g26) x4 c8), (7, vI (x4.length : Int)), (8, vI i14)]) (fun h => by rw [h]) (fun h => by rw [h]) (fun hc33 => ?_) (fun hc33 => ?_)
      ·
       have hp := cnd_t hc33 hp
       refine oQ [oF 4, oF 5, oF 6, oF 7, oF 8] [(27, vI (IntKind.i64.wrap (IntKind.i64.wrap (64 * i14) + i29))), (23, yv b12), (22, .bool true), (0, yv b12), (3, vI i14), (4, vU i28), (5, vI i29), (6, sl (sa g26) x4 c8), (7, vI (x4.length : Int)), (8, vI i14)] (by kernel_rfl) ?_
       refine ops_yield (d := some 28) (args := #[vI (IntKind.i64.wrap (IntKind.i64.wrap (64 * i14) + i29))]) (l := [(27, vI (IntKind.i64.wrap (IntKind.i64.wrap (64 * i14) + i29))), (23, yv b12), (22, .bool true), (0, yv b12), (3, vI i14), (4, vU i28), (5, vI i29), (6, sl (sa g26) x4 c8), (7, vI (x4.length : Int)), (8, vI i14)]) (lr := [(6, vI (IntKind.i64.wrap (IntKind.i64.wrap (64 * i14) + i29))), (5, .func (.func 69) #[] #[vP b6 0]), (3, vP b1 0), (2, vI 0)]) 3 rfl hrc_rf13 ⟨by kernel_rfl⟩ hk_rf13 (by kernel_rfl) (by kernel_rfl) ?_
       intro a_rd34 hk_rd34
       refine st_skip ?_
       refine fin_begin 3 rfl hrc_rf13 ?_
       refine st_block (st_region [oF 0, oF 1, oF 2] (by rfl) ?_)
       refine ops_mem (d := some 7) (an := [.v (vI i30)]) (evs := [ld b1 0 (vI i30)]) (v := vI i30) ⟨by kernel_rfl⟩ (fun w_ hM hS => ⟨w_, ⟨hM.cell 2 rfl rfl, rfl⟩, hM, trivial⟩) ?_
       refine oQ [oF 1] [(8, vI (IntKind.i64.wrap (i30 + 1))), (3, vP b1 0)] (by kernel_rfl) ?_
       refine ops_store (an := []) (evs := [sr b1 0 (vI (IntKind.i64.wrap (i30 + 1)))]) ⟨by kernel_rfl⟩ (fun w_ hM hS => let ⟨w', he, h'⟩ := hM.evs_stores [vI (IntKind.i64.wrap (i30 + 1))] 2 rfl 0 (Nat.le_of_ble_eq_true rfl); ⟨w', he, h', trivial⟩) ?_
       refine ops_nil (fin_block ?_)
       refine fin_round_on 3 rfl hrc_rf13 hk_rd34 (by intro t_ h_; cases h_; decide) (fun w_ h' => trivial) ?_
       refine oQ [oF 10, oF 11] [(30, .bool false), (0, yv b12), (3, vI i14), (4, vU i28), (5, vI i29), (6, sl (sa g26) x4 c8), (7, vI (x4.length : Int)), (8, vI i14)] (by kernel_rfl) ?_
       refine ops_nil (fin_then (st_false rfl (st_skip (fin_block ?_))))
       exact fin_join HJ5 (IntKind.i64.wrap (i30 + 1)) hp (look_has ⟨rfl, rfl, rfl, rfl, rfl, rfl, rfl, trivial⟩) (fun w_ hM => hM)
      ·
       have hp := cnd_f hc33 hp
       refine oQ [oF 4, oF 5, oF 6, oF 7, oF 8, oF 9, oF 10, oF 11] [(30, .bool false), (0, yv b12), (3, vI i14), (4, vU i28), (5, vI i29), (6, sl (sa g26) x4 c8), (7, vI (x4.length : Int)), (8, vI i14)] (by kernel_rfl) ?_
       refine ops_nil (fin_then (st_false rfl (st_skip (fin_block ?_))))
       exact fin_join HJ5 i30 hp (look_has ⟨rfl, rfl, rfl, rfl, rfl, rfl, rfl, trivial⟩) (fun w_ hM => hM)
    ·
     have hp := cnd_f hc31 hp
     refine st_exit (fin_exit_then (fin_exit_then (fin_exit (fin_block ?_))))
     obtain hq_ := Option.some.inj hp
     subst hq_
     obtain hq_ := hd4 _ rfl
     subst hq_
     have hp : (sets_Set_Len_j3 i14) i30 = some o2 := hk4
     exact fin_join HJ3 i30 hp (look_has ⟨rfl, rfl, rfl, rfl, trivial⟩) (fun w_ hM => hM)
  ·
   have hp := cnd_f hc16 hp
   refine st_exit (fin_exit_then (fin_exit_then (fin_exit ?_)))
   refine fin_rf_on rfl rfl 3 rfl hrc_rf13 hk_rf13 ?_
   refine fin_conv (l' := [(5, .func (.func 69) #[] #[vP b6 0]), (3, vP b1 0), (2, vI 0)]) (M' := Mem w0 (ow A7 x4 c8 52 1 y9 :: .blk b6 [sl A7 x4 c8] 51 :: .blk b1 [vI i15] 3 :: .obj b11 (.deferred (some [])) :: Fz F W :: cs)) rfl (fun _ h => h) ?_
   refine fin_block ?_
   obtain hq_ := Option.some.inj hp
   subst hq_
   obtain hq_ := hd2 _ rfl
   subst hq_
   have hp : sets_Set_Len_j1 i15 = some i9001 := hk2
   exact fin_joinN HJ1 (i15, b11) rfl hp (look_has ⟨rfl, trivial⟩) (fun w_ hM => hM.pick 5 [2, 3, 4] (by kernel_rfl) (by decide) rfl)
theorem sets_Set_Has_ok (w0 w : World) (cs : List Chunk) (F : Nat → Prop) (W : World) (A_s : Option Addr) (c_s : Nat) (s : List Int) (i : Int) (hM0 : Mem w0 (Fz F W :: cs) w) (h_s : RdS (Rep.int .u64) F W A_s c_s s) (t9001 : Bool) (hp : sets_Set_Has s i = some t9001) : Calls Try.prog 27 #[sl A_s s c_s, vI i] w fun e w' => (True) ∧ e = .returned (.bool t9001) ∧ Mem w0 (Fz F W :: cs) w' := by
 unfold sets_Set_Has at hp
 refine sx_calls Try.func27 rfl (n := 18) (by kernel_rfl) (l := [(0, sl A_s s c_s), (1, vI i)]) rfl (by rfl) hM0 ?_
 refine st_seq (st_region [oF 0] (by rfl) ?_)
 refine oQ [oF 0] [(0, sl A_s s c_s), (1, vI i)] (by kernel_rfl) ?_
 refine ops_nil (fin_then ?_)
 refine st_join1 (σ := Bool) (L := fun x_ => match x_ with | t1 => [(4, .bool t1)]) (N := fun x_ => match x_ with | t1 => Mem w0 (Fz F W :: cs)) (I := fun x_ => match x_ with | t1 => (sets_Set_Has_j1 t1 = some t9001)) ?_ ?_
 ·
  rintro t1 hp
  unfold sets_Set_Has_j1 at hp
  refine st_ret ?_
  have hq_ := Option.some.inj hp
  have hr0_ := hq_
  subst hr0_
  refine fin_ret [.tmp 4] [.bool t1] rfl rfl (fun w_ hM => (.tmp rfl .nil)) (fun w_ hM => ?_)
  exact ⟨trivial, rfl, hM⟩
 ·
  intro HJ1
  refine st_seq (st_region [oF 0, oF 1, oF 2, oF 3, oF 4, oF 5, oF 6, oF 7, oF 8, oF 9, oF 10, oF 11, oF 12, oF 13] (by rfl) ?_)
  refine oQ [oF 0, oF 1, oF 2] [(7, .bool (decide (0 ≤ i))), (0, sl A_s s c_s), (1, vI i)] (by kernel_rfl) ?_
  refine ops_bool (t := decide (0 ≤ i)) (l1 := [(7, .bool true), (0, sl A_s s c_s), (1, vI i)]) (l2 := [(7, .bool false), (0, sl A_s s c_s), (1, vI i)]) (fun h => by rw [h]) (fun h => by rw [h]) (fun hc2 => ?_) (fun hc2 => ?_)
  ·
   have hp := cnd_t hc2 hp
   refine oQ [oF 3, oF 4, oF 5] [(10, vI (IntKind.i64.wrap (Int.tdiv i 64))), (8, sl A_s s c_s), (7, .bool true), (1, vI i)] (by kernel_rfl) ?_
   obtain ⟨x3, hv4, hp⟩ := obind hp
   refine ops_callI (σ := Unit) (d := some 11) (f := 70) (args := #[sl A_s s c_s, vI (IntKind.i64.wrap (Int.tdiv i 64))]) (v := (fun _ => vU x3)) (I := (fun _ => True)) (M' := (fun _ => Mem w0 (Fz F W :: cs))) ⟨by kernel_rfl⟩ (fun w_ hM hS => (sets_Set_word_ok w0 w_ (cs) F W A_s c_s s (IntKind.i64.wrap (Int.tdiv i 64)) hM h_s x3 hv4).mono (by rintro e w' ⟨-, rfl, h'⟩; have h' : Mem w0 (Fz F W :: cs) w' := h'; exact ⟨(), trivial, rfl, h', trivial⟩)) ?_
   rintro _ -
   refine oQ [oF 7, oF 8] [(13, vI (Int.tmod i 64)), (11, vU x3), (7, .bool true)] (by kernel_rfl) ?_
   obtain ⟨x5, hv6, hp⟩ := obind hp
   obtain ⟨hb7, he8⟩ := shr_some hv6
   refine ops_val (op := (.binOp Go.BinOp.shr 52 (.tmp 11) (.tmp 13) 3)) (d := some 14) (v := vU x5) ⟨by kernel_rfl⟩ (by rw [he8]; exact run_shr rfl rfl hb7) ?_
   refine oQ [oF 10, oF 11, oF 12, oF 13] [(4, .bool (Go.bits .and .u64 x5 1 == 1))] (by kernel_rfl) ?_
   refine ops_nil ?_
   exact fin_join HJ1 (Go.bits .and .u64 x5 1 == 1) hp (look_has ⟨rfl, trivial⟩) (fun w_ hM => hM)
  ·
   have hp := cnd_f hc2 hp
   refine oQ [oF 3, oF 4, oF 5, oF 6, oF 7, oF 8, oF 9, oF 10, oF 11, oF 12, oF 13] [(4, .bool false)] (by kernel_rfl) ?_
   refine ops_nil ?_
   exact fin_join HJ1 false hp (look_has ⟨rfl, trivial⟩) (fun w_ hM => hM)
theorem slices_Index_int_int_ok (w0 w : World) (cs : List Chunk) (F : Nat → Prop) (W : World) (A_s : Option Addr) (c_s : Nat) (s : List Int) (v : Int) (hM0 : Mem w0 (Fz F W :: cs) w) (h_s : RdS (Rep.int .i64) F W A_s c_s s) (i9001 : Int) (hp : slices_Index_int_int s v = some i9001) : Calls Try.prog 66 #[sl A_s s c_s, vI v] w fun e w' => (True) ∧ e = .returned (vI i9001) ∧ Mem w0 (Fz F W :: cs) w' := by
 unfold slices_Index_int_int at hp
 refine sx_calls Try.func66 rfl (n := 19) (by kernel_rfl) (l := [(0, sl A_s s c_s), (1, vI v)]) rfl (by rfl) hM0 ?_
 refine st_seq (st_region [oF 0] (by rfl) ?_)
 refine oQ [oF 0] [(0, sl A_s s c_s), (1, vI v)] (by kernel_rfl) ?_
 refine ops_nil (fin_then ?_)
 refine st_join1 (σ := Unit) (L := fun _ => []) (N := fun _ => Mem w0 (Fz F W :: cs)) (I := fun _ => (slices_Index_int_int_j1 = some i9001)) ?_ ?_
 ·
  rintro _ hp
  unfold slices_Index_int_int_j1 at hp
  refine st_seq (st_region [oF 0] (by rfl) ?_)
  refine oQ [oF 0] [(4, vI (-1))] (by kernel_rfl) ?_
  refine ops_nil (fin_then (st_ret ?_))
  have hq_ := Option.some.inj hp
  have hr0_ := hq_
  subst hr0_
  refine fin_ret [.tmp 4] [vI (-1)] rfl rfl (fun w_ hM => (.tmp rfl .nil)) (fun w_ hM => ?_)
  exact ⟨trivial, rfl, hM⟩
 ·
  intro HJ1
  refine st_seq (st_seq (st_region [oF 0, oF 1, oF 2] (by rfl) ?_))
  refine oQ [oF 0, oF 1, oF 2] [(8, vI 0), (7, vI (s.length : Int)), (0, sl A_s s c_s), (1, vI v)] (by kernel_rfl) ?_
  refine ops_nil (fin_then (st_block ?_))
  obtain ⟨r2, hl2, hk2⟩ := obind hp
  refine st_loopP (σ := Int) (ρ := (Int ⊕ Unit)) (γ := Unit) hl2 () (fun s_ g_ => match s_, g_ with | i1, _ => [(0, sl A_s s c_s), (1, vI v), (7, vI (s.length : Int)), (8, vI i1)]) (fun s_ g_ => match s_, g_ with | i1, _ => Mem w0 (Fz F W :: cs)) (fun s_ g_ => match s_, g_ with | i1, _ => True) trivial (look_has ⟨rfl, rfl, rfl, rfl, trivial⟩) (fun w_ hM => hM) ?_
  rintro i1 _ o2 - hs_ hd2
  have hp : (slices_Index_int_int_l2 s v) i1 = some o2 := hs_
  clear hs_
  unfold slices_Index_int_int_l2 at hp
  refine st_seq (st_region [oF 0] (by rfl) ?_)
  refine oQ [oF 0] [(9, .bool (decide (i1 < (s.length : Int)))), (0, sl A_s s c_s), (1, vI v), (7, vI (s.length : Int)), (8, vI i1)] (by kernel_rfl) ?_
  refine ops_nil (fin_then (st_seq ?_))
  refine st_if (b := decide (i1 < (s.length : Int))) rfl (fun hc2 => ?_) (fun hc2 => ?_)
  ·
   have hp := cnd_t hc2 hp
   refine st_skip (fin_then (st_seq (st_block (st_seq (st_region [oF 0, oF 1] (by rfl) ?_)))))
   refine oQ [oF 0, oF 1] [(5, vI i1), (0, sl A_s s c_s), (1, vI v), (7, vI (s.length : Int)), (8, vI i1)] (by kernel_rfl) ?_
   refine ops_nil (fin_then (st_seq (st_region [oF 0, oF 1, oF 2, oF 3, oF 4, oF 5] (by rfl) ?_)))
   refine oQ [oF 0, oF 1, oF 2] [(13, vI i1), (12, sl A_s s c_s), (11, vI v), (5, vI i1), (0, sl A_s s c_s), (1, vI v), (7, vI (s.length : Int)), (8, vI i1)] (by kernel_rfl) ?_
   obtain ⟨x3, hv4, hp⟩ := obind hp
   obtain ⟨m5, hm6, hx7⟩ := idx_some hv4
   have hl10 := (List.getElem?_eq_some_iff.1 hx7).1
   obtain ⟨ad11, vs8, hA12, hr9, hq13⟩ := RdS.el h_s hx7
   obtain rfl := hr9
   refine ops_val (op := (.indexAddr 23 (.tmp 12) (.tmp 13))) (d := some 14) (v := .pointer (some (ad11.add (m5 * 1)))) ⟨by kernel_rfl⟩ (run_indexA hA12 Try.underlying23 (z := 1) (by kernel_rfl) rfl rfl hm6 hl10) ?_
   refine ops_mem (d := some 15) (an := [.v (vI x3)]) (evs := [.load (ad11.add (m5 * 1)) (vI x3)]) (v := vI x3) ⟨by kernel_rfl⟩ (fun w_ hM hS => ⟨w_, ⟨hM.elcell 0 rfl hq13 0 rfl, rfl⟩, hM, trivial⟩) ?_
   refine oQ [oF 5] [(16, .bool (v == x3)), (5, vI i1), (0, sl A_s s c_s), (1, vI v), (7, vI (s.length : Int)), (8, vI i1)] (by kernel_rfl) ?_
   refine ops_nil (fin_then ?_)
   refine st_if (b := (v == x3)) rfl (fun hc14 => ?_) (fun hc14 => ?_)
   ·
    have hp := cnd_t hc14 hp
    refine st_seq (st_region [oF 0, oF 1] (by rfl) ?_)
    refine oQ [oF 0, oF 1] [(4, vI i1)] (by kernel_rfl) ?_
    refine ops_nil (fin_then (st_ret (fin_ret_block (fin_ret_then (fin_ret_then (fin_ret_block (fin_ret_then ?_)))))))
    obtain hq_ := Option.some.inj hp
    subst hq_
    obtain hq_ := hd2 _ rfl
    subst hq_
    have hp : some i1 = some i9001 := hk2
    have hq_ := Option.some.inj hp
    have hr0_ := hq_
    subst hr0_
    refine fin_ret [.tmp 4] [vI i1] rfl rfl (fun w_ hM => (.tmp rfl .nil)) (fun w_ hM => ?_)
    exact ⟨trivial, rfl, hM⟩
   ·
    have hp := cnd_f hc14 hp
    refine st_skip (fin_block (fin_then (st_region [oF 0, oF 1] (by rfl) ?_)))
    refine oQ [oF 0, oF 1] [(8, vI (IntKind.i64.wrap (i1 + 1))), (0, sl A_s s c_s), (1, vI v), (7, vI (s.length : Int))] (by kernel_rfl) ?_
    refine ops_nil ?_
    exact fin_again (IntKind.i64.wrap (i1 + 1)) () (Option.some.inj hp).symm trivial (look_has ⟨rfl, rfl, rfl, rfl, trivial⟩) (fun w_ hM => hM)
  ·
   have hp := cnd_f hc2 hp
   refine st_exit (fin_exit_then (fin_exit_then (fin_exit ?_)))
   obtain hq_ := Option.some.inj hp
   subst hq_
   obtain hq_ := hd2 _ rfl
   subst hq_
   have hp : slices_Index_int_int_j1 = some i9001 := hk2
   exact fin_join HJ1 () hp (look_has trivial) (fun w_ hM => hM)
theorem slices_Contains_int_int_ok (w0 w : World) (cs : List Chunk) (F : Nat → Prop) (W : World) (A_s : Option Addr) (c_s : Nat) (s : List Int) (v : Int) (hM0 : Mem w0 (Fz F W :: cs) w) (h_s : RdS (Rep.int .i64) F W A_s c_s s) (t9001 : Bool) (hp : slices_Contains_int_int s v = some t9001) : Calls Try.prog 21 #[sl A_s s c_s, vI v] w fun e w' => (True) ∧ e = .returned (.bool t9001) ∧ Mem w0 (Fz F W :: cs) w' := by
 unfold slices_Contains_int_int at hp
 refine sx_calls Try.func21 rfl (n := 9) (by kernel_rfl) (l := [(0, sl A_s s c_s), (1, vI v)]) rfl (by rfl) hM0 ?_
 refine st_seq (st_region [oF 0] (by rfl) ?_)
 refine oQ [oF 0] [(0, sl A_s s c_s), (1, vI v)] (by kernel_rfl) ?_
 refine ops_nil (fin_then (st_seq (st_region [oF 0, oF 1, oF 2, oF 3, oF 4] (by rfl) ?_)))
 refine oQ [oF 0, oF 1] [(6, vI v), (5, sl A_s s c_s)] (by kernel_rfl) ?_
 obtain ⟨x1, hv2, hp⟩ := obind hp
 refine ops_callI (σ := Unit) (d := some 7) (f := 66) (args := #[sl A_s s c_s, vI v]) (v := (fun _ => vI x1)) (I := (fun _ => True)) (M' := (fun _ => Mem w0 (Fz F W :: cs))) ⟨by kernel_rfl⟩ (fun w_ hM hS => (slices_Index_int_int_ok w0 w_ (cs) F W A_s c_s s v hM h_s x1 hv2).mono (by rintro e w' ⟨-, rfl, h'⟩; have h' : Mem w0 (Fz F W :: cs) w' := h'; exact ⟨(), trivial, rfl, h', trivial⟩)) ?_
 rintro _ -
 refine oQ [oF 3, oF 4] [(4, .bool (decide (0 ≤ x1)))] (by kernel_rfl) ?_
 refine ops_nil (fin_then (st_ret ?_))
 have hq_ := Option.some.inj hp
 have hr0_ := hq_
 subst hr0_
 refine fin_ret [.tmp 4] [.bool (decide (0 ≤ x1))] rfl rfl (fun w_ hM => (.tmp rfl .nil)) (fun w_ hM => ?_)
 exact ⟨trivial, rfl, hM⟩
theorem tourref1_SetOf_ok (w0 w : World) (cs : List Chunk) (F : Nat → Prop) (W : World) (A_l : Option Addr) (c_l : Nat) (l : List Int) (hM0 : Mem w0 (Fz F W :: cs) w) (h_l : RdS (Rep.int .i64) F W A_l c_l l) (l9003 : List Int) (hp : tourref1_SetOf l = some l9003) : Calls Try.prog 29 #[sl A_l l c_l] w fun e w' => ∃ (A9001 : Option Addr), ∃ (c9002 : Nat), ∃ (y9004 : List Value), ((RepL (Rep.int .u64) F W l9003 y9004)) ∧ e = .returned (sl A9001 l9003 c9002) ∧ Mem w0 (ow A9001 l9003 c9002 52 1 y9004 :: Fz F W :: cs) w' := by
 unfold tourref1_SetOf at hp
 refine sx_calls Try.func29 rfl (n := 49) (by kernel_rfl) (l := [(0, sl A_l l c_l)]) rfl (by rfl) hM0 ?_
 refine st_seq (st_region [oF 0] (by rfl) ?_)
 refine oQ [oF 0] [(0, sl A_l l c_l)] (by kernel_rfl) ?_
 refine ops_nil (fin_then (st_seq (st_region [oF 0] (by rfl) ?_)))
 refine oQ [oF 0] [(3, .slice none 0 0), (0, sl A_l l c_l)] (by kernel_rfl) ?_
 refine ops_nil (fin_then ?_)
 refine st_join1 (σ := (Option Addr) × Nat × (List Int) × (List Value)) (L := fun x_ => match x_ with | (A1, c2, l3, y4) => [(3, sl A1 l3 c2)]) (N := fun x_ => match x_ with | (A1, c2, l3, y4) => Mem w0 (ow A1 l3 c2 52 1 y4 :: Fz F W :: cs)) (I := fun x_ => match x_ with | (A1, c2, l3, y4) => (tourref1_SetOf_j1 l3 = some l9003) ∧ (RepL (Rep.int .u64) F W l3 y4)) ?_ ?_
 ·
  rintro ⟨A1, c2, l3, y4⟩ ⟨hp, h5⟩
  unfold tourref1_SetOf_j1 at hp
  refine st_seq (st_region [oF 0, oF 1] (by rfl) ?_)
  refine oQ [oF 0, oF 1] [(2, sl A1 l3 c2)] (by kernel_rfl) ?_
  refine ops_nil (fin_then (st_ret ?_))
  have hq_ := Option.some.inj hp
  have hr0_ := hq_
  subst hr0_
  refine fin_ret [.tmp 2] [sl A1 l3 c2] rfl rfl (fun w_ hM => (.tmp rfl .nil)) (fun w_ hM => ?_)
  exact ⟨A1, c2, y4, h5, rfl, hM⟩
 ·
  intro HJ1
  refine st_seq (st_seq (st_region [oF 0, oF 1, oF 2] (by rfl) ?_))
  refine oQ [oF 0, oF 1, oF 2] [(8, vI 0), (7, vI (l.length : Int)), (6, sl A_l l c_l), (3, .slice none 0 0)] (by kernel_rfl) ?_
  refine ops_nil (fin_then (st_block ?_))
  refine st_conv (l' := [(8, vI 0), (7, vI (l.length : Int)), (6, sl A_l l c_l), (3, .slice none 0 0)]) (M' := Mem w0 (ow none ([] : List Int) 0 52 1 [] :: Fz F W :: cs)) rfl (fun w_ h => h.onil none 52 1) ?_
  obtain ⟨r2, hl2, hk2⟩ := obind hp
  refine st_loopP (σ := (List Int) × Int) (ρ := (List Int)) (γ := (Option Addr) × Nat × (List Value)) hl2 (none, 0, []) (fun s_ g_ => match s_, g_ with | (l8, i11), (A6, c7, y9) => [(3, sl A6 l8 c7), (6, sl A_l l c_l), (7, vI (l.length : Int)), (8, vI i11)]) (fun s_ g_ => match s_, g_ with | (l8, i11), (A6, c7, y9) => Mem w0 (ow A6 l8 c7 52 1 y9 :: Fz F W :: cs)) (fun s_ g_ => match s_, g_ with | (l8, i11), (A6, c7, y9) => (RepL (Rep.int .u64) F W l8 y9)) (RepL.nil (R := (Rep.int .u64))) (look_has ⟨rfl, rfl, rfl, rfl, trivial⟩) (fun w_ hM => hM) ?_
  rintro ⟨l8, i11⟩ ⟨A6, c7, y9⟩ o2 h10 hs_ hd2
  have hp : (tourref1_SetOf_l2 l) l8 i11 = some o2 := hs_
  clear hs_
  unfold tourref1_SetOf_l2 at hp
  refine st_seq (st_region [oF 0] (by rfl) ?_)
  refine oQ [oF 0] [(9, .bool (decide (i11 < (l.length : Int)))), (3, sl A6 l8 c7), (6, sl A_l l c_l), (7, vI (l.length : Int)), (8, vI i11)] (by kernel_rfl) ?_
  refine ops_nil (fin_then (st_seq ?_))
  refine st_if (b := decide (i11 < (l.length : Int))) rfl (fun hc12 => ?_) (fun hc12 => ?_)
  ·
   have hp := cnd_t hc12 hp
   refine st_skip (fin_then ?_)
   refine st_join1 (σ := (Option Addr) × Nat × (List Int) × (List Value)) (L := fun x_ => match x_ with | (A13, c14, l15, y16) => [(3, sl A13 l15 c14), (6, sl A_l l c_l), (7, vI (l.length : Int)), (8, vI i11)]) (N := fun x_ => match x_ with | (A13, c14, l15, y16) => Mem w0 (ow A13 l15 c14 52 1 y16 :: Fz F W :: cs)) (I := fun x_ => match x_ with | (A13, c14, l15, y16) => ((tourref1_SetOf_j3 i11) l15 = some o2) ∧ (RepL (Rep.int .u64) F W l15 y16)) ?_ ?_
   ·
    rintro ⟨A13, c14, l15, y16⟩ ⟨hp, h17⟩
    unfold tourref1_SetOf_j3 at hp
    refine st_region [oF 0, oF 1] (by rfl) ?_
    refine oQ [oF 0, oF 1] [(8, vI (IntKind.i64.wrap (i11 + 1))), (3, sl A13 l15 c14), (6, sl A_l l c_l), (7, vI (l.length : Int))] (by kernel_rfl) ?_
    refine ops_nil ?_
    exact fin_again (l15, IntKind.i64.wrap (i11 + 1)) (A13, c14, y16) (Option.some.inj hp).symm h17 (look_has ⟨rfl, rfl, rfl, rfl, trivial⟩) (fun w_ hM => hM)
   ·
    intro HJ3
    refine st_seq (st_block (st_seq (st_region [oF 0, oF 1, oF 2] (by rfl) ?_)))
    obtain ⟨x18, hv19, hp⟩ := obind hp
    obtain ⟨m20, hm21, hx22⟩ := idx_some hv19
    have hl25 := (List.getElem?_eq_some_iff.1 hx22).1
    obtain ⟨ad26, vs23, hA27, hr24, hq28⟩ := RdS.el h_l hx22
    obtain rfl := hr24
    refine ops_val (op := (.indexAddr 23 (.tmp 6) (.tmp 8))) (d := some 10) (v := .pointer (some (ad26.add (m20 * 1)))) ⟨by kernel_rfl⟩ (run_indexA hA27 Try.underlying23 (z := 1) (by kernel_rfl) rfl rfl hm21 hl25) ?_
    refine ops_mem (d := some 11) (an := [.v (vI x18)]) (evs := [.load (ad26.add (m20 * 1)) (vI x18)]) (v := vI x18) ⟨by kernel_rfl⟩ (fun w_ hM hS => ⟨w_, ⟨hM.elcell 1 rfl hq28 0 rfl, rfl⟩, hM, trivial⟩) ?_
    refine oQ [oF 2] [(5, vI x18), (3, sl A6 l8 c7), (6, sl A_l l c_l), (7, vI (l.length : Int)), (8, vI i11)] (by kernel_rfl) ?_
    refine ops_nil (fin_then (st_seq (st_seq (st_region [oF 0, oF 1, oF 2, oF 3, oF 4, oF 5] (by rfl) ?_))))
    refine oQ [oF 0, oF 1, oF 2] [(14, .bool (decide (x18 < 0))), (5, vI x18), (3, sl A6 l8 c7), (6, sl A_l l c_l), (7, vI (l.length : Int)), (8, vI i11)] (by kernel_rfl) ?_
    refine ops_bool (t := decide (x18 < 0)) (l1 := [(14, .bool true), (5, vI x18), (3, sl A6 l8 c7), (6, sl A_l l c_l), (7, vI (l.length : Int)), (8, vI i11)]) (l2 := [(14, .bool false), (5, vI x18), (3, sl A6 l8 c7), (6, sl A_l l c_l), (7, vI (l.length : Int)), (8, vI i11)]) (fun h => by rw [h]) (fun h => by rw [h]) (fun hc29 => ?_) (fun hc29 => ?_)
    ·
     have hp := cnd_t hc29 hp
     refine oQ [oF 3, oF 4, oF 5] [(17, .bool true), (5, vI x18), (3, sl A6 l8 c7), (6, sl A_l l c_l), (7, vI (l.length : Int)), (8, vI i11)] (by kernel_rfl) ?_
     refine ops_nil (fin_then (st_true rfl (st_exit (fin_exit_then (fin_exit ?_)))))
     exact fin_join HJ3 (A6, c7, l8, y9) ⟨hp, h10⟩ (look_has ⟨rfl, rfl, rfl, rfl, trivial⟩) (fun w_ hM => hM)
    ·
     have hp := cnd_f hc29 hp
     refine oQ [oF 3, oF 4, oF 5] [(17, .bool (decide (4096 ≤ x18))), (5, vI x18), (3, sl A6 l8 c7), (6, sl A_l l c_l), (7, vI (l.length : Int)), (8, vI i11)] (by kernel_rfl) ?_
     refine ops_nil (fin_then ?_)
     refine st_if (b := decide (4096 ≤ x18)) rfl (fun hc30 => ?_) (fun hc30 => ?_)
     ·
      have hp := cnd_t hc30 hp
      refine st_exit (fin_exit_then (fin_exit ?_))
      exact fin_join HJ3 (A6, c7, l8, y9) ⟨hp, h10⟩ (look_has ⟨rfl, rfl, rfl, rfl, trivial⟩) (fun w_ hM => hM)
     ·
      have hp := cnd_f hc30 hp
      refine st_skip (fin_then ?_)
      refine st_join1 (σ := (Option Addr) × Nat × (List Int) × (List Value)) (L := fun x_ => match x_ with | (A31, c32, l33, y34) => [(3, sl A31 l33 c32), (5, vI x18), (6, sl A_l l c_l), (7, vI (l.length : Int)), (8, vI i11)]) (N := fun x_ => match x_ with | (A31, c32, l33, y34) => Mem w0 (ow A31 l33 c32 52 1 y34 :: Fz F W :: cs)) (I := fun x_ => match x_ with | (A31, c32, l33, y34) => ((tourref1_SetOf_j4 x18 i11) l33 = some o2) ∧ (RepL (Rep.int .u64) F W l33 y34)) ?_ ?_
      ·
       rintro ⟨A31, c32, l33, y34⟩ ⟨hp, h35⟩
       unfold tourref1_SetOf_j4 at hp
       refine st_seq ?_
       refine st_region_draw [oT 0, oT 1, oT 2, oT 3, oT 4, oT 5, oT 6, oT 7, oT 8, oT 9, oT 10] (Mem w0 (ow A31 l33 c32 52 1 y34 :: Fz F W :: cs)) (by kernel_rfl) (by kernel_rfl) (by kernel_rfl) (fun _ d _ _ _ h => by cases d <;> exact h) (M' := Mem w0 (ow A31 l33 c32 52 1 y34 :: Fz F W :: cs)) (fun w_ hM => ⟨hM.drew, hM.drew.sub (.cons_cons _ (.cons_cons _ (.refl _)))⟩) ?_
       refine oQ [oT 0, oT 1, oT 2] [(28, vI (IntKind.i64.wrap (Int.tdiv x18 64))), (26, sl A31 l33 c32), (3, sl A31 l33 c32), (5, vI x18), (6, sl A_l l c_l), (7, vI (l.length : Int)), (8, vI i11)] (by kernel_rfl) ?_
       obtain ⟨x36, hv37, hp⟩ := obind hp
       obtain ⟨m38, hm39, hx40⟩ := idx_some hv37
       have hl43 := (List.getElem?_eq_some_iff.1 hx40).1
       refine ops_fact (fun w_ hM => hM.orowSome 0 rfl (Nat.lt_of_le_of_lt (Nat.zero_le _) hl43)) ?_
       rintro ⟨g44, rfl, -⟩
       obtain ⟨vs41, hr42, hq45⟩ := h35.at_ m38 x36 hx40
       obtain rfl := hr42
       refine ops_val (op := (.indexAddr 49 (.tmp 26) (.tmp 28))) (d := some 29) (v := vP g44 (m38 * 1)) ⟨by kernel_rfl⟩ (run_indexRow Try.underlying49 (z := 1) (by kernel_rfl) rfl rfl hm39 hl43 rfl) ?_
       refine ops_load (d := some 30) (an := [.v (vU x36)]) (evs := [.load ⟨g44, m38 * 1, none⟩ (vU x36)]) (v := vU x36) ⟨by kernel_rfl⟩ (fun w_ hM => ⟨hM.ocell 0 rfl (hq45 0 _ rfl), rfl⟩) ?_
       refine oQ [oT 5, oT 6] [(32, vI (Int.tmod x18 64)), (30, vU x36), (3, sl (sa g44) l33 c32), (5, vI x18), (6, sl A_l l c_l), (7, vI (l.length : Int)), (8, vI i11)] (by kernel_rfl) ?_
       obtain ⟨x46, hv47, hp⟩ := obind hp
       obtain ⟨hb48, he49⟩ := shl_some hv47
       refine ops_val (op := (.binOp Go.BinOp.shl 52 (.const (Go.Value.int Go.IntKind.u64 1)) (.tmp 32) 3)) (d := some 33) (v := vU x46) ⟨by kernel_rfl⟩ (by rw [he49]; exact run_shl rfl rfl hb48) ?_
       obtain ⟨x50, hv51, hp⟩ := obind hp
       obtain ⟨hb52, he53⟩ := quo_some hv51
       refine ops_val (op := (.binOp Go.BinOp.quo 52 (.tmp 30) (.tmp 33) 52)) (d := some 34) (v := vU x50) ⟨by kernel_rfl⟩ (by rw [he53]; exact run_quo rfl rfl hb52) ?_
       refine oQ [oT 9, oT 10] [(36, .bool (Int.tmod x50 2 == 0)), (3, sl (sa g44) l33 c32), (5, vI x18), (6, sl A_l l c_l), (7, vI (l.length : Int)), (8, vI i11)] (by kernel_rfl) ?_
       refine ops_nil (fin_then ?_)
       refine st_if (b := (Int.tmod x50 2 == 0)) rfl (fun hc54 => ?_) (fun hc54 => ?_)
       ·
        have hp := cnd_t hc54 hp
        refine st_region_draw [oT 0, oT 1, oT 2, oT 3, oT 5, oT 6, oT 7, oF 4, oT 8, oT 9, oF 10] (Mem w0 (Fz F W :: cs)) (by kernel_rfl) (by kernel_rfl) (by kernel_rfl) (fun _ d _ _ _ h => by cases d <;> exact h) (M' := Mem w0 (ow (sa g44) l33 c32 52 1 y34 :: Fz F W :: cs)) (fun w_ hM => ⟨hM.drew, hM.drew.sub (.cons _ (.cons_cons _ (.refl _)))⟩) ?_
        refine oQ [oT 0, oT 1, oT 2] [(39, vI (IntKind.i64.wrap (Int.tdiv x18 64))), (37, sl (sa g44) l33 c32), (3, sl (sa g44) l33 c32), (5, vI x18), (6, sl A_l l c_l), (7, vI (l.length : Int)), (8, vI i11)] (by kernel_rfl) ?_
        obtain ⟨x55, hv56, hp⟩ := obind hp
        obtain ⟨m57, hm58, hx59⟩ := idx_some hv56
        have hl62 := (List.getElem?_eq_some_iff.1 hx59).1
        obtain ⟨vs60, hr61, hq63⟩ := h35.at_ m57 x55 hx59
        obtain rfl := hr61
        refine ops_val (op := (.indexAddr 49 (.tmp 37) (.tmp 39))) (d := some 40) (v := vP g44 (m57 * 1)) ⟨by kernel_rfl⟩ (run_indexRow Try.underlying49 (z := 1) (by kernel_rfl) rfl rfl hm58 hl62 rfl) ?_
        refine oQ [oT 5, oT 6] [(43, vI (Int.tmod x18 64)), (40, vP g44 (m57 * 1)), (39, vI (IntKind.i64.wrap (Int.tdiv x18 64))), (37, sl (sa g44) l33 c32), (3, sl (sa g44) l33 c32), (6, sl A_l l c_l), (7, vI (l.length : Int)), (8, vI i11)] (by kernel_rfl) ?_
        obtain ⟨x64, hv65, hp⟩ := obind hp
        obtain ⟨hb66, he67⟩ := shl_some hv65
        refine ops_val (op := (.binOp Go.BinOp.shl 52 (.const (Go.Value.int Go.IntKind.u64 1)) (.tmp 43) 3)) (d := some 44) (v := vU x64) ⟨by kernel_rfl⟩ (by rw [he67]; exact run_shl rfl rfl hb66) ?_
        refine ops_mem (d := some 41) (an := [.v (vU x55)]) (evs := [.load ⟨g44, m57 * 1, none⟩ (vU x55)]) (v := vU x55) ⟨by kernel_rfl⟩ (fun w_ hM hS => ⟨w_, ⟨hM.ocell 0 rfl (hq63 0 _ rfl), rfl⟩, hM, hS⟩) ?_
        refine oQ [oT 8] [(45, vU (IntKind.u64.wrap (x55 + x64))), (39, vI (IntKind.i64.wrap (Int.tdiv x18 64))), (37, sl (sa g44) l33 c32), (3, sl (sa g44) l33 c32), (6, sl A_l l c_l), (7, vI (l.length : Int)), (8, vI i11)] (by kernel_rfl) ?_
        obtain ⟨x68, hv69, hp⟩ := obind hp
        obtain ⟨m70, hm71, hx72⟩ := idx_some hv69
        have hl75 := (List.getElem?_eq_some_iff.1 hx72).1
        obtain ⟨vs73, hr74, hq76⟩ := h35.at_ m70 x68 hx72
        obtain rfl := hr74
        refine ops_val (op := (.indexAddr 49 (.tmp 37) (.tmp 39))) (d := some 46) (v := vP g44 (m70 * 1)) ⟨by kernel_rfl⟩ (run_indexRow Try.underlying49 (z := 1) (by kernel_rfl) rfl rfl hm71 hl75 rfl) ?_
        refine oQ [] [(46, vP g44 (m70 * 1)), (45, vU (IntKind.u64.wrap (x55 + x64))), (3, sl (sa g44) l33 c32), (6, sl A_l l c_l), (7, vI (l.length : Int)), (8, vI i11)] (by kernel_rfl) ?_
        obtain ⟨l77, hv78, hp⟩ := obind hp
        obtain ⟨m79, hm80, hl81, he82⟩ := upd_some hv78
        obtain rfl : m70 = m79 := by have := hm71; omega
        have hl83 : l33.length = l77.length := by rw [he82, List.length_set]
        obtain ⟨y84, hy85⟩ : ∃ y_, setAll y34 (m70 * 1 + 0) [vU (IntKind.u64.wrap (x55 + x64))] = y_ := ⟨_, rfl⟩
        have h86 : RepL (Rep.int .u64) F W l77 y84 := by rw [he82, ← hy85]; exact RepL.set h35 (List.getElem?_eq_getElem hl81) (fun vs_ hr_ _ => by obtain rfl := hr_; exact ⟨rfl, Nat.le_of_ble_eq_true rfl⟩)
        refine ops_store (an := []) (evs := [.store ⟨g44, m70 * 1, none⟩ (vU (IntKind.u64.wrap (x55 + x64)))]) ⟨by kernel_rfl⟩ (fun w_ hM hS => let ⟨w', he, h'⟩ := hM.ostore' 0 rfl (m70 * 1 + 0) [vU (IntKind.u64.wrap (x55 + x64))] (by have z_ : y34.length = l33.length * 1 := h35.len; have y_ : (m70 + 1) * 1 ≤ l33.length * 1 := Nat.mul_le_mul_right _ hl81; rw [Nat.add_mul] at y_; simp only [List.length_cons, List.length_nil]; omega) hl83 hy85; ⟨w', he, h', (by exact h'.sub (.cons _ (.cons_cons _ (.refl _))))⟩) ?_
        refine ops_conv (l' := [(46, vP g44 (m70 * 1)), (45, vU (IntKind.u64.wrap (x55 + x64))), (3, sl (sa g44) l77 c32), (6, sl A_l l c_l), (7, vI (l.length : Int)), (8, vI i11)]) (M' := Mem w0 (ow (sa g44) l77 c32 52 1 y84 :: Fz F W :: cs)) (by first | rfl | ((try dsimp only [sl, ow]); rw [hl83])) (fun w_ hM => by first | exact hM | ((try dsimp only [sl, ow] at hM ⊢); rw [hl83] at hM; exact hM)) ?_
        refine ops_nil (fin_block ?_)
        exact fin_join HJ3 ((sa g44), c32, l77, y84) ⟨hp, h86⟩ (look_has ⟨rfl, rfl, rfl, rfl, trivial⟩) (fun w_ hM => hM)
       ·
        have hp := cnd_f hc54 hp
        refine st_skip (fin_block ?_)
        exact fin_join HJ3 ((sa g44), c32, l33, y34) ⟨hp, h35⟩ (look_has ⟨rfl, rfl, rfl, rfl, trivial⟩) (fun w_ hM => hM)
      ·
       intro HJ4
       refine st_seq (st_block ?_)
       obtain ⟨r5, hl5, hk5⟩ := obind hp
       refine st_loopP (σ := (List Int)) (ρ := (List Int)) (γ := (Option Addr) × Nat × (List Value)) hl5 (A6, c7, y9) (fun s_ g_ => match s_, g_ with | l90, (A88, c89, y91) => [(3, sl A88 l90 c89), (5, vI x18), (6, sl A_l l c_l), (7, vI (l.length : Int)), (8, vI i11)]) (fun s_ g_ => match s_, g_ with | l90, (A88, c89, y91) => Mem w0 (ow A88 l90 c89 52 1 y91 :: Fz F W :: cs)) (fun s_ g_ => match s_, g_ with | l90, (A88, c89, y91) => (RepL (Rep.int .u64) F W l90 y91)) h10 (look_has ⟨rfl, rfl, rfl, rfl, rfl, trivial⟩) (fun w_ hM => hM) ?_
       rintro l90 ⟨A88, c89, y91⟩ o5 h92 hs_ hd5
       have hp : (tourref1_SetOf_l5 x18) l90 = some o5 := hs_
       clear hs_
       unfold tourref1_SetOf_l5 at hp
       refine st_seq (st_seq (st_region [oF 0, oF 1, oF 2, oF 3, oF 4] (by rfl) ?_))
       refine oQ [oF 0, oF 1, oF 2, oF 3, oF 4] [(22, .bool (decide ((l90.length : Int) ≤ IntKind.i64.wrap (Int.tdiv x18 64)))), (3, sl A88 l90 c89), (5, vI x18), (6, sl A_l l c_l), (7, vI (l.length : Int)), (8, vI i11)] (by kernel_rfl) ?_
       refine ops_nil (fin_then ?_)
       refine st_if (b := decide ((l90.length : Int) ≤ IntKind.i64.wrap (Int.tdiv x18 64))) rfl (fun hc93 => ?_) (fun hc93 => ?_)
       ·
        have hp := cnd_t hc93 hp
        refine st_skip (fin_then (st_block (st_region [oF 0, oF 1, oF 2, oF 3] (by rfl) ?_)))
        refine oQ [oF 0] [(23, sl A88 l90 c89), (3, sl A88 l90 c89), (5, vI x18), (6, sl A_l l c_l), (7, vI (l.length : Int)), (8, vI i11)] (by kernel_rfl) ?_
        have h94 : RepL (Rep.int .u64) F W ([0] : List Int) ([vU 0]) := (RepL.cons (R := (Rep.int .u64)) (F := F) (w := W) (vs := [vU 0]) (ys := []) rfl RepL.nil)
        refine ops_new (d := some 24) (o := .cells ([vU 0] : List Value).toArray 52) (v := fun g95 => .slice (sa g95) ([0] : List Int).length 1) (M' := fun g95 => Mem w0 (orow (sa g95) ([0] : List Int).length 1 52 1 ([vU 0]) :: ow A88 l90 c89 52 1 y91 :: Fz F W :: cs)) (fun g95 => ⟨by kernel_rfl⟩) (fun w_ hM hS => ⟨hM.onew [vU 0] 52 1 1 rfl (by decide), trivial⟩) (fun g95 => ?_)
        obtain ⟨l96, hv97, hp⟩ := obind hp
        obtain ⟨he98, hb99⟩ := app_some hv97
        obtain ⟨y100, hy101⟩ : ∃ y_, y91 ++ ([vU 0]) = y_ := ⟨_, rfl⟩
        have h102 : RepL (Rep.int .u64) F W l96 y100 := by rw [he98, ← hy101]; exact RepL.app h92 h94
        refine ops_appendO (x := (Go.Operand.tmp 23)) (y := (Go.Operand.tmp 24)) (t := 49) (e := 52) (d := some 25) (n' := l96.length) (z := 1) (m := ([0] : List Int).length) (bytes := 8) (xs' := y100) (news := ([vU 0])) (zv := vU 0) 1 ⟨by kernel_rfl⟩ rfl rfl Try.underlying49 (by kernel_rfl) (by rfl) rfl (fun w_ hM => hM.srcO 0 rfl) h94.len h94.one hb99 (by have z_ := congrArg List.length he98; rw [List.length_append] at z_; exact z_.symm) hy101 (fun _ _ _ _ hS h' => trivial) ?_
        rintro ⟨A103, c104⟩
        refine oQ [oF 3] [(3, sl A103 l96 c104), (5, vI x18), (6, sl A_l l c_l), (7, vI (l.length : Int)), (8, vI i11)] (by kernel_rfl) ?_
        refine ops_nil (fin_block ?_)
        exact fin_again l96 (A103, c104, y100) (Option.some.inj hp).symm h102 (look_has ⟨rfl, rfl, rfl, rfl, rfl, trivial⟩) (fun w_ hM => hM.pick 3 [1, 2] (by kernel_rfl) (by decide) rfl)
       ·
        have hp := cnd_f hc93 hp
        refine st_exit (fin_exit_then (fin_exit_then (fin_exit ?_)))
        obtain hq_ := Option.some.inj hp
        subst hq_
        obtain hq_ := hd5 _ rfl
        subst hq_
        have hp : (tourref1_SetOf_j4 x18 i11) l90 = some o2 := hk5
        exact fin_join HJ4 (A88, c89, l90, y91) ⟨hp, h92⟩ (look_has ⟨rfl, rfl, rfl, rfl, rfl, trivial⟩) (fun w_ hM => hM)
  ·
   have hp := cnd_f hc12 hp
   refine st_exit (fin_exit_then (fin_exit_then (fin_exit ?_)))
   obtain hq_ := Option.some.inj hp
   subst hq_
   obtain hq_ := hd2 _ rfl
   subst hq_
   have hp : tourref1_SetOf_j1 l8 = some l9003 := hk2
   exact fin_join HJ1 (A6, c7, l8, y9) ⟨hp, h10⟩ (look_has ⟨rfl, trivial⟩) (fun w_ hM => hM)
theorem tourlaw1_SetsTells_4_ok (w0 w : World) (cs : List Chunk) (F : Nat → Prop) (W : World) (A_got : Option Addr) (c_got : Nat) (got : List Int) (A_want : Option Addr) (c_want : Nat) (want : List Int) (hM0 : Mem w0 (Fz F W :: cs) w) (h_got : RdS (Rep.int .u64) F W A_got c_got got) (h_want : RdS (Rep.int .i64) F W A_want c_want want) (t9001 : Bool) (hp : tourlaw1_SetsTells_4 got want = some t9001) : Calls Try.prog 28 #[sl A_got got c_got, sl A_want want c_want] w fun e w' => (True) ∧ e = .returned (.bool t9001) ∧ Mem w0 (Fz F W :: cs) w' := by
 unfold tourlaw1_SetsTells_4 at hp
 refine sx_calls Try.func28 rfl (n := 9) (by kernel_rfl) (l := [(0, sl A_got got c_got), (1, sl A_want want c_want)]) rfl (by rfl) hM0 ?_
 refine st_seq (st_region [oF 0] (by rfl) ?_)
 refine oQ [oF 0] [(0, sl A_got got c_got), (1, sl A_want want c_want)] (by kernel_rfl) ?_
 refine ops_nil (fin_then (st_seq (st_region [oF 0, oF 1, oF 2, oF 3, oF 4] (by rfl) ?_)))
 refine oQ [oF 0, oF 1] [(6, sl A_want want c_want), (5, sl A_got got c_got)] (by kernel_rfl) ?_
 obtain ⟨x1, hv2, hp⟩ := obind hp
 refine ops_callI (σ := (Option Addr) × Nat × (List Value)) (d := some 7) (f := 29) (args := #[sl A_want want c_want]) (v := (fun x_ => match x_ with | (A3, c4, y5) => sl A3 x1 c4)) (I := (fun x_ => match x_ with | (A3, c4, y5) => (RepL (Rep.int .u64) F W x1 y5))) (M' := (fun x_ => match x_ with | (A3, c4, y5) => Mem w0 (ow A3 x1 c4 52 1 y5 :: Fz F W :: cs))) ⟨by kernel_rfl⟩ (fun w_ hM hS => (tourref1_SetOf_ok w0 w_ (cs) F W A_want c_want want hM h_want x1 hv2).mono (by rintro e w' ⟨A3, c4, y5, h6, rfl, h'⟩; have h' : Mem w0 (ow A3 x1 c4 52 1 y5 :: Fz F W :: cs) w' := h'; exact ⟨(A3, c4, y5), h6, rfl, h', trivial⟩)) ?_
 rintro ⟨A3, c4, y5⟩ h6
 obtain ⟨x7, hv8, hp⟩ := obind hp
 refine ops_callI (σ := Unit) (d := some 8) (f := 16) (args := #[sl A_got got c_got, sl A3 x1 c4]) (v := (fun _ => .bool x7)) (I := (fun _ => True)) (M' := (fun _ => Mem w0 (ow A3 x1 c4 52 1 y5 :: Fz F W :: cs))) ⟨by kernel_rfl⟩ (fun w_ hM hS => (slices_Equal_sets_Set_uint64_ok w_ w_ [] (fun b => b < w_.heap.size) w_ A_got c_got got A3 c4 x1 (Mem.fz0 w_) (hM.now 1 rfl h_got) (hM.ordS 0 1 rfl rfl h6 rfl rfl) x7 hv8).mono (by rintro e w' ⟨-, rfl, h'⟩; have h' : Mem w_ [] w' := h'.pick 1 [] (by kernel_rfl) (by decide) rfl; exact ⟨(), trivial, rfl, hM.join h' rfl, trivial⟩)) ?_
 rintro _ -
 refine oQ [oF 4] [(4, .bool x7)] (by kernel_rfl) ?_
 refine ops_nil (fin_then (st_ret ?_))
 have hq_ := Option.some.inj hp
 have hr0_ := hq_
 subst hr0_
 refine fin_ret [.tmp 4] [.bool x7] rfl rfl (fun w_ hM => (.tmp rfl .nil)) (fun w_ hM => ?_)
 exact ⟨trivial, rfl, hM.pick 2 [1] (by kernel_rfl) (by decide) rfl⟩
theorem slices_Clone_int_int_ok (w0 w : World) (cs : List Chunk) (F : Nat → Prop) (W : World) (A_s : Option Addr) (c_s : Nat) (s : List Int) (hM0 : Mem w0 (Fz F W :: cs) w) (h_s : RdS (Rep.int .i64) F W A_s c_s s) (l9003 : List Int) (hp : slices_Clone_int_int s = some l9003) : Calls Try.prog 31 #[sl A_s s c_s] w fun e w' => ∃ (A9001 : Option Addr), ∃ (c9002 : Nat), ∃ (y9004 : List Value), ((RepL (Rep.int .i64) F W l9003 y9004)) ∧ e = .returned (sl A9001 l9003 c9002) ∧ Mem w0 (ow A9001 l9003 c9002 3 1 y9004 :: Fz F W :: cs) w' := by
 unfold slices_Clone_int_int at hp
 refine sx_calls Try.func31 rfl (n := 8) (by kernel_rfl) (l := [(0, sl A_s s c_s)]) rfl (by rfl) hM0 ?_
 refine st_seq (st_region [oF 0] (by rfl) ?_)
 refine oQ [oF 0] [(0, sl A_s s c_s)] (by kernel_rfl) ?_
 refine ops_nil (fin_then (st_seq (st_seq (st_region [oF 0, oF 1] (by rfl) ?_))))
 refine oQ [oF 0] [(3, sl A_s s c_s), (0, sl A_s s c_s)] (by kernel_rfl) ?_
 have hz2 := fun e_ => RdS.len0 h_s e_
 rcases A_s with _ | ad1
 ·
  have hp : some ([] : List Int) = some l9003 := by rw [← hp, hz2 rfl]; simp [app]
  refine oQ [oF 1] [(4, .bool true), (3, sl none s c_s), (0, sl none s c_s)] (by kernel_rfl) ?_
  refine ops_nil (fin_then (st_true rfl (st_seq (st_region [oF 0] (by rfl) ?_))))
  refine oQ [oF 0] [(2, .slice none 0 0)] (by kernel_rfl) ?_
  refine ops_nil (fin_then (st_ret (fin_ret_then ?_)))
  refine fin_conv (l' := [(2, .slice none 0 0)]) (M' := Mem w0 (ow none ([] : List Int) 0 3 1 [] :: Fz F W :: cs)) rfl (fun w_ h => h.onil none 3 1) ?_
  refine fin_conv (l' := [(2, sl none ([] : List Int) 0)]) (M' := Mem w0 (ow none ([] : List Int) 0 3 1 [] :: Fz F W :: cs)) rfl (fun _ h => h) ?_
  have hq_ := Option.some.inj hp
  have hr0_ := hq_
  subst hr0_
  refine fin_ret [.tmp 2] [sl none ([] : List Int) 0] rfl rfl (fun w_ hM => (.tmp rfl .nil)) (fun w_ hM => ?_)
  exact ⟨none, 0, [], (RepL.nil (R := (Rep.int .i64))), rfl, hM⟩
 ·
  clear hz2
  refine oQ [oF 1] [(4, .bool false), (3, sl (some ad1) s c_s), (0, sl (some ad1) s c_s)] (by kernel_rfl) ?_
  refine ops_nil (fin_then (st_false rfl (st_skip (fin_then (st_seq (st_region [oF 0, oF 1, oF 2, oF 3] (by rfl) ?_))))))
  have h3 : RepL (Rep.int .i64) F W ([] : List Int) ([]) := RepL.nil
  refine ops_new (d := some 5) (o := .cells ([] : List Value).toArray 3) (v := fun g4 => sl (sa g4) ([] : List Int) 0) (M' := fun g4 => Mem w0 (ow (sa g4) ([] : List Int) 0 3 1 [] :: Fz F W :: cs)) (fun g4 => ⟨by kernel_rfl⟩) (fun w_ hM hS => ⟨hM.onew [] 3 0 1 rfl (by decide), trivial⟩) (fun g4 => ?_)
  refine oQ [oF 1] [(6, sl (some ad1) s c_s), (5, sl (sa g4) ([] : List Int) 0)] (by kernel_rfl) ?_
  obtain ⟨l5, hv6, hp⟩ := obind hp
  obtain ⟨he7, hb8⟩ := app_some hv6
  obtain ⟨y12, h13, hs14⟩ := RdS.src h_s
  obtain ⟨y9, hy10⟩ : ∃ y_, [] ++ y12 = y_ := ⟨_, rfl⟩
  have h11 : RepL (Rep.int .i64) F W l5 y9 := by rw [he7, ← hy10]; exact RepL.app h3 h13
  refine ops_appendO (x := (Go.Operand.tmp 5)) (y := (Go.Operand.tmp 6)) (t := 23) (e := 3) (d := some 7) (n' := l5.length) (z := 1) (m := s.length) (bytes := 8) (xs' := y9) (news := y12) (zv := vI 0) 0 ⟨by kernel_rfl⟩ rfl rfl Try.underlying23 (by kernel_rfl) (by rfl) rfl (fun w_ hM => hM.srcS 1 rfl h13 hs14) h13.len h13.one hb8 (by have z_ := congrArg List.length he7; rw [List.length_append] at z_; exact z_.symm) hy10 (fun _ _ _ _ hS h' => trivial) ?_
  rintro ⟨A15, c16⟩
  refine oQ [oF 3] [(2, sl A15 l5 c16)] (by kernel_rfl) ?_
  refine ops_nil (fin_then (st_ret ?_))
  have hq_ := Option.some.inj hp
  have hr0_ := hq_
  subst hr0_
  refine fin_ret [.tmp 2] [sl A15 l5 c16] rfl rfl (fun w_ hM => (.tmp rfl .nil)) (fun w_ hM => ?_)
  exact ⟨A15, c16, y9, h11, rfl, hM⟩
theorem sets_Set_Minus_1_ok (w0 w : World) (cs : List Chunk) (F : Nat → Prop) (W : World) (x : Int) (y : Int) (hM0 : Mem w0 (Fz F W :: cs) w) (i9001 : Int) (hp : sets_Set_Minus_1 x y = some i9001) : Calls Try.prog 75 #[vU x, vU y] w fun e w' => (True) ∧ e = .returned (vU i9001) ∧ Mem w0 (Fz F W :: cs) w' := by
 unfold sets_Set_Minus_1 at hp
 refine sx_calls Try.func75 rfl (n := 8) (by kernel_rfl) (l := [(0, vU x), (1, vU y)]) rfl (by rfl) hM0 ?_
 refine st_seq (st_region [oF 0] (by rfl) ?_)
 refine oQ [oF 0] [(0, vU x), (1, vU y)] (by kernel_rfl) ?_
 refine ops_nil (fin_then (st_seq (st_region [oF 0, oF 1, oF 2, oF 3] (by rfl) ?_)))
 refine oQ [oF 0, oF 1, oF 2, oF 3] [(4, vU (Go.bits .andNot .u64 x y))] (by kernel_rfl) ?_
 refine ops_nil (fin_then (st_ret ?_))
 have hq_ := Option.some.inj hp
 have hr0_ := hq_
 subst hr0_
 refine fin_ret [.tmp 4] [vU (Go.bits .andNot .u64 x y)] rfl rfl (fun w_ hM => (.tmp rfl .nil)) (fun w_ hM => ?_)
 exact ⟨trivial, rfl, hM⟩
theorem sets_join_v3_ok (w0 w : World) (cs : List Chunk) (F : Nat → Prop) (W : World) (A_a : Option Addr) (c_a : Nat) (a : List Int) (A_b : Option Addr) (c_b : Nat) (b : List Int) (hM0 : Mem w0 (Fz F W :: cs) w) (h_a : RdS (Rep.int .u64) F W A_a c_a a) (h_b : RdS (Rep.int .u64) F W A_b c_b b) (l9003 : List Int) (hp : sets_join_v3 a b = some l9003) : Calls Try.prog 67 #[sl A_a a c_a, sl A_b b c_b, .func (.func 75) #[] #[]] w fun e w' => ∃ (A9001 : Option Addr), ∃ (c9002 : Nat), ∃ (y9004 : List Value), ((RepL (Rep.int .u64) F W l9003 y9004)) ∧ e = .returned (sl A9001 l9003 c9002) ∧ Mem w0 (ow A9001 l9003 c9002 52 1 y9004 :: Fz F W :: cs) w' := by
 unfold sets_join_v3 at hp
 refine sx_calls Try.func67 rfl (n := 48) (by kernel_rfl) (l := [(0, sl A_a a c_a), (1, sl A_b b c_b), (2, .func (.func 75) #[] #[])]) rfl (by rfl) hM0 ?_
 refine st_seq (st_region [oF 0] (by rfl) ?_)
 refine oQ [oF 0] [(0, sl A_a a c_a), (1, sl A_b b c_b), (2, .func (.func 75) #[] #[])] (by kernel_rfl) ?_
 refine ops_nil (fin_then (st_seq (st_region [oF 0] (by rfl) ?_)))
 refine oQ [oF 0] [(7, .slice none 0 0), (0, sl A_a a c_a), (1, sl A_b b c_b), (2, .func (.func 75) #[] #[])] (by kernel_rfl) ?_
 refine ops_nil (fin_then ?_)
 refine st_join1 (σ := (Option Addr) × Nat × (List Int) × (List Value)) (L := fun x_ => match x_ with | (A1, c2, l3, y4) => [(7, sl A1 l3 c2)]) (N := fun x_ => match x_ with | (A1, c2, l3, y4) => Mem w0 (ow A1 l3 c2 52 1 y4 :: Fz F W :: cs)) (I := fun x_ => match x_ with | (A1, c2, l3, y4) => (sets_join_v3_j1 l3 = some l9003) ∧ (RepL (Rep.int .u64) F W l3 y4)) ?_ ?_
 ·
  rintro ⟨A1, c2, l3, y4⟩ ⟨hp, h5⟩
  unfold sets_join_v3_j1 at hp
  refine st_join1 (σ := (List Int) × (List Value)) (L := fun x_ => match x_ with | (l6, y7) => [(7, sl A1 l6 c2)]) (N := fun x_ => match x_ with | (l6, y7) => Mem w0 (ow A1 l6 c2 52 1 y7 :: Fz F W :: cs)) (I := fun x_ => match x_ with | (l6, y7) => (sets_join_v3_j2 l6 = some l9003) ∧ (RepL (Rep.int .u64) F W l6 y7)) ?_ ?_
  ·
   rintro ⟨l6, y7⟩ ⟨hp, h8⟩
   unfold sets_join_v3_j2 at hp
   refine st_seq (st_region [oF 0, oF 1] (by rfl) ?_)
   refine oQ [oF 0, oF 1] [(6, sl A1 l6 c2)] (by kernel_rfl) ?_
   refine ops_nil (fin_then (st_ret ?_))
   have hq_ := Option.some.inj hp
   have hr0_ := hq_
   subst hr0_
   refine fin_ret [.tmp 6] [sl A1 l6 c2] rfl rfl (fun w_ hM => (.tmp rfl .nil)) (fun w_ hM => ?_)
   exact ⟨A1, c2, y7, h8, rfl, hM⟩
  ·
   intro HJ2
   refine st_seq (st_block ?_)
   obtain ⟨r3, hl3, hk3⟩ := obind hp
   refine st_loopP (σ := (List Int)) (ρ := (List Int)) (γ := (List Value)) hl3 y4 (fun s_ g_ => match s_, g_ with | l9, y10 => [(7, sl A1 l9 c2)]) (fun s_ g_ => match s_, g_ with | l9, y10 => Mem w0 (ow A1 l9 c2 52 1 y10 :: Fz F W :: cs)) (fun s_ g_ => match s_, g_ with | l9, y10 => (RepL (Rep.int .u64) F W l9 y10)) h5 (look_has ⟨rfl, trivial⟩) (fun w_ hM => hM) ?_
   rintro l9 y10 o3 h11 hs_ hd3
   have hp : sets_join_v3_l3 l9 = some o3 := hs_
   clear hs_
   unfold sets_join_v3_l3 at hp
   refine st_seq (st_seq (st_region [oF 0, oF 1, oF 2, oF 3, oF 4, oF 5, oF 6, oF 7, oF 8, oF 9, oF 10, oF 11] (by rfl) ?_))
   refine oQ [oF 0, oF 1, oF 2, oF 3] [(33, .bool (decide (0 < (l9.length : Int)))), (7, sl A1 l9 c2)] (by kernel_rfl) ?_
   refine ops_bool (t := decide (0 < (l9.length : Int))) (l1 := [(33, .bool true), (7, sl A1 l9 c2)]) (l2 := [(33, .bool false), (7, sl A1 l9 c2)]) (fun h => by rw [h]) (fun h => by rw [h]) (fun hc12 => ?_) (fun hc12 => ?_)
   ·
    have hp := cnd_t hc12 hp
    refine oQ [oF 4, oF 5, oF 6, oF 7] [(37, vI (IntKind.i64.wrap ((l9.length : Int) - 1))), (34, sl A1 l9 c2), (33, .bool true), (7, sl A1 l9 c2)] (by kernel_rfl) ?_
    obtain ⟨x13, hv14, hp⟩ := obind hp
    obtain ⟨m15, hm16, hx17⟩ := idx_some hv14
    have hl20 := (List.getElem?_eq_some_iff.1 hx17).1
    refine ops_fact (fun w_ hM => hM.orowSome 0 rfl (Nat.lt_of_le_of_lt (Nat.zero_le _) hl20)) ?_
    rintro ⟨g21, rfl, -⟩
    obtain ⟨vs18, hr19, hq22⟩ := h11.at_ m15 x13 hx17
    obtain rfl := hr19
    refine ops_val (op := (.indexAddr 51 (.tmp 34) (.tmp 37))) (d := some 38) (v := vP g21 (m15 * 1)) ⟨by kernel_rfl⟩ (run_indexRow Try.underlying51 (z := 1) (by kernel_rfl) rfl rfl hm16 hl20 rfl) ?_
    refine ops_mem (d := some 39) (an := [.v (vU x13)]) (evs := [.load ⟨g21, m15 * 1, none⟩ (vU x13)]) (v := vU x13) ⟨by kernel_rfl⟩ (fun w_ hM hS => ⟨w_, ⟨hM.ocell 0 rfl (hq22 0 _ rfl), rfl⟩, hM, trivial⟩) ?_
    refine oQ [oF 10, oF 11] [(41, .bool (x13 == 0)), (7, sl (sa g21) l9 c2)] (by kernel_rfl) ?_
    refine ops_nil (fin_then ?_)
    refine st_if (b := (x13 == 0)) rfl (fun hc23 => ?_) (fun hc23 => ?_)
    ·
     have hp := cnd_t hc23 hp
     refine st_skip (fin_then (st_block (st_region [oF 0, oF 1, oF 2, oF 3, oF 4, oF 5] (by rfl) ?_)))
     refine oQ [oF 0, oF 1, oF 2, oF 3] [(45, vI (IntKind.i64.wrap ((l9.length : Int) - 1))), (42, sl (sa g21) l9 c2), (7, sl (sa g21) l9 c2)] (by kernel_rfl) ?_
     obtain ⟨l24, hv25, hp⟩ := obind hp
     obtain ⟨m26, n27, hm28, hn29, h30, h31, he32⟩ := cut_some hv25
     have hl33 := cut_len he32 h30 h31
     obtain rfl : m26 = 0 := by omega
     refine ops_fact (fun w_ hM => (hM.rowCap 0 rfl).1) (fun hc35 => ?_)
     obtain ⟨y36, hy37⟩ : ∃ y_, y10.take (l24.length * 1) = y_ := ⟨_, rfl⟩
     have h34 : RepL (Rep.int .u64) F W l24 y36 := by rw [← hy37, hl33, he32, List.drop_zero, Nat.sub_zero]; exact h11.take _
     refine ops_val (op := (.slice 51 (.tmp 42) none (some (.tmp 45)) none)) (d := some 46) (v := sl (sa g21) l24 c2) ⟨by kernel_rfl⟩ (run_cutH0 (by kernel_rfl) (z := 1) (by kernel_rfl) rfl rfl hn29 (Nat.le_trans h31 hc35) (by omega)) ?_
     refine ops_conv (l' := [(46, sl (sa g21) l24 c2), (45, vI (IntKind.i64.wrap ((l9.length : Int) - 1))), (42, sl (sa g21) l9 c2), (7, sl (sa g21) l9 c2)]) (M' := Mem w0 (ow (sa g21) l24 c2 52 1 y36 :: Fz F W :: cs)) rfl (fun w_ h => h.otake' 0 rfl (by omega) hy37) ?_
     refine oQ [oF 5] [(7, sl (sa g21) l24 c2)] (by kernel_rfl) ?_
     refine ops_nil (fin_block ?_)
     exact fin_again l24 y36 (Option.some.inj hp).symm h34 (look_has ⟨rfl, trivial⟩) (fun w_ hM => hM)
    ·
     have hp := cnd_f hc23 hp
     refine st_exit (fin_exit_then (fin_exit_then (fin_exit ?_)))
     obtain hq_ := Option.some.inj hp
     subst hq_
     obtain hq_ := hd3 _ rfl
     subst hq_
     have hp : sets_join_v3_j2 l9 = some l9003 := hk3
     exact fin_join HJ2 (l9, y10) ⟨hp, h11⟩ (look_has ⟨rfl, trivial⟩) (fun w_ hM => hM)
   ·
    have hp := cnd_f hc12 hp
    refine oQ [oF 4, oF 5, oF 6, oF 7, oF 8, oF 9, oF 10, oF 11] [(41, .bool false), (7, sl A1 l9 c2)] (by kernel_rfl) ?_
    refine ops_nil (fin_then (st_false rfl (st_exit (fin_exit_then (fin_exit_then (fin_exit ?_))))))
    obtain hq_ := Option.some.inj hp
    subst hq_
    obtain hq_ := hd3 _ rfl
    subst hq_
    have hp : sets_join_v3_j2 l9 = some l9003 := hk3
    exact fin_join HJ2 (l9, y10) ⟨hp, h11⟩ (look_has ⟨rfl, trivial⟩) (fun w_ hM => hM)
 ·
  intro HJ1
  refine st_seq (st_seq (st_region [oF 0, oF 1, oF 2, oF 3, oF 4, oF 5, oF 6] (by rfl) ?_))
  refine oQ [oF 0, oF 1, oF 2, oF 3] [(12, vI (b.length : Int)), (10, vI (a.length : Int)), (7, .slice none 0 0), (0, sl A_a a c_a), (1, sl A_b b c_b), (2, .func (.func 75) #[] #[])] (by kernel_rfl) ?_
  refine ops_val (op := (.call { callee := (Go.Callee.builtin Go.Builtin.max), args := #[(.tmp 10), (.tmp 12)], argTypes := #[3, 3] })) (d := some 13) (v := vI (max (a.length : Int) (b.length : Int))) ⟨by kernel_rfl⟩ (run_max rfl rfl) ?_
  refine ops_val (op := (.call { callee := (Go.Callee.builtin Go.Builtin.min), args := #[(.tmp 13), (.const (Go.Value.int Go.IntKind.i64 64))], argTypes := #[3, 3] })) (d := some 14) (v := vI (min (max (a.length : Int) (b.length : Int)) 64)) ⟨by kernel_rfl⟩ (run_min rfl rfl) ?_
  refine oQ [oF 6] [(15, vI 0), (14, vI (min (max (a.length : Int) (b.length : Int)) 64)), (7, .slice none 0 0), (0, sl A_a a c_a), (1, sl A_b b c_b), (2, .func (.func 75) #[] #[])] (by kernel_rfl) ?_
  refine ops_nil (fin_then (st_block ?_))
  refine st_conv (l' := [(15, vI 0), (14, vI (min (max (a.length : Int) (b.length : Int)) 64)), (7, .slice none 0 0), (0, sl A_a a c_a), (1, sl A_b b c_b), (2, .func (.func 75) #[] #[])]) (M' := Mem w0 (ow none ([] : List Int) 0 52 1 [] :: Fz F W :: cs)) rfl (fun w_ h => h.onil none 52 1) ?_
  obtain ⟨r4, hl4, hk4⟩ := obind hp
  refine st_loopP (σ := (List Int) × Int) (ρ := (List Int)) (γ := (Option Addr) × Nat × (List Value)) hl4 (none, 0, []) (fun s_ g_ => match s_, g_ with | (l40, i43), (A38, c39, y41) => [(0, sl A_a a c_a), (1, sl A_b b c_b), (2, .func (.func 75) #[] #[]), (7, sl A38 l40 c39), (14, vI (min (max (a.length : Int) (b.length : Int)) 64)), (15, vI i43)]) (fun s_ g_ => match s_, g_ with | (l40, i43), (A38, c39, y41) => Mem w0 (ow A38 l40 c39 52 1 y41 :: Fz F W :: cs)) (fun s_ g_ => match s_, g_ with | (l40, i43), (A38, c39, y41) => (RepL (Rep.int .u64) F W l40 y41)) (RepL.nil (R := (Rep.int .u64))) (look_has ⟨rfl, rfl, rfl, rfl, rfl, rfl, trivial⟩) (fun w_ hM => hM) ?_
  rintro ⟨l40, i43⟩ ⟨A38, c39, y41⟩ o4 h42 hs_ hd4
  have hp : (sets_join_v3_l4 a b) l40 i43 = some o4 := hs_
  clear hs_
  unfold sets_join_v3_l4 at hp
  refine st_seq (st_region [oF 0] (by rfl) ?_)
  refine oQ [oF 0] [(16, .bool (decide (i43 < min (max (a.length : Int) (b.length : Int)) 64))), (0, sl A_a a c_a), (1, sl A_b b c_b), (2, .func (.func 75) #[] #[]), (7, sl A38 l40 c39), (14, vI (min (max (a.length : Int) (b.length : Int)) 64)), (15, vI i43)] (by kernel_rfl) ?_
  refine ops_nil (fin_then (st_seq ?_))
  refine st_if (b := decide (i43 < min (max (a.length : Int) (b.length : Int)) 64)) rfl (fun hc44 => ?_) (fun hc44 => ?_)
  ·
   have hp := cnd_t hc44 hp
   refine st_skip (fin_then (st_seq (st_block (st_seq (st_region [oF 0, oF 1] (by rfl) ?_)))))
   refine oQ [oF 0, oF 1] [(8, vI i43), (0, sl A_a a c_a), (1, sl A_b b c_b), (2, .func (.func 75) #[] #[]), (7, sl A38 l40 c39), (14, vI (min (max (a.length : Int) (b.length : Int)) 64)), (15, vI i43)] (by kernel_rfl) ?_
   refine ops_nil (fin_then (st_region [oF 0, oF 1, oF 2, oF 3, oF 4, oF 5, oF 6, oF 7, oF 8, oF 9, oF 10, oF 11] (by rfl) ?_))
   refine oQ [oF 0, oF 1, oF 2, oF 3] [(21, vI i43), (20, sl A_a a c_a), (19, .func (.func 75) #[] #[]), (18, sl A38 l40 c39), (8, vI i43), (0, sl A_a a c_a), (1, sl A_b b c_b), (2, .func (.func 75) #[] #[]), (7, sl A38 l40 c39), (14, vI (min (max (a.length : Int) (b.length : Int)) 64)), (15, vI i43)] (by kernel_rfl) ?_
   obtain ⟨x45, hv46, hp⟩ := obind hp
   refine ops_callI (σ := Unit) (d := some 22) (f := 70) (args := #[sl A_a a c_a, vI i43]) (v := (fun _ => vU x45)) (I := (fun _ => True)) (M' := (fun _ => Mem w0 (ow A38 l40 c39 52 1 y41 :: Fz F W :: cs))) ⟨by kernel_rfl⟩ (fun w_ hM hS => (sets_Set_word_ok w0 w_ (ow A38 l40 c39 52 1 y41 :: cs) F W A_a c_a a i43 (hM.pick 2 [1, 0] (by kernel_rfl) (by decide) rfl) h_a x45 hv46).mono (by rintro e w' ⟨-, rfl, h'⟩; have h' : Mem w0 (ow A38 l40 c39 52 1 y41 :: Fz F W :: cs) w' := (h'.pick 2 [1, 0] (by kernel_rfl) (by decide) rfl); exact ⟨(), trivial, rfl, h', trivial⟩)) ?_
   rintro _ -
   refine oQ [oF 5, oF 6] [(24, vI i43), (23, sl A_b b c_b), (22, vU x45), (19, .func (.func 75) #[] #[]), (18, sl A38 l40 c39), (0, sl A_a a c_a), (1, sl A_b b c_b), (2, .func (.func 75) #[] #[]), (7, sl A38 l40 c39), (14, vI (min (max (a.length : Int) (b.length : Int)) 64)), (15, vI i43)] (by kernel_rfl) ?_
   obtain ⟨x47, hv48, hp⟩ := obind hp
   refine ops_callI (σ := Unit) (d := some 25) (f := 70) (args := #[sl A_b b c_b, vI i43]) (v := (fun _ => vU x47)) (I := (fun _ => True)) (M' := (fun _ => Mem w0 (ow A38 l40 c39 52 1 y41 :: Fz F W :: cs))) ⟨by kernel_rfl⟩ (fun w_ hM hS => (sets_Set_word_ok w0 w_ (ow A38 l40 c39 52 1 y41 :: cs) F W A_b c_b b i43 (hM.pick 2 [1, 0] (by kernel_rfl) (by decide) rfl) h_b x47 hv48).mono (by rintro e w' ⟨-, rfl, h'⟩; have h' : Mem w0 (ow A38 l40 c39 52 1 y41 :: Fz F W :: cs) w' := (h'.pick 2 [1, 0] (by kernel_rfl) (by decide) rfl); exact ⟨(), trivial, rfl, h', trivial⟩)) ?_
   rintro _ -
   obtain ⟨x49, hv50, hp⟩ := obind hp
   refine ops_callI (σ := Unit) (d := some 26) (f := 75) (args := #[vU x45, vU x47]) (v := (fun _ => vU x49)) (I := (fun _ => True)) (M' := (fun _ => Mem w0 (ow A38 l40 c39 52 1 y41 :: Fz F W :: cs))) ⟨by kernel_rfl⟩ (fun w_ hM hS => (sets_Set_Minus_1_ok w0 w_ (ow A38 l40 c39 52 1 y41 :: cs) F W x45 x47 (hM.pick 2 [1, 0] (by kernel_rfl) (by decide) rfl)  x49 hv50).mono (by rintro e w' ⟨-, rfl, h'⟩; have h' : Mem w0 (ow A38 l40 c39 52 1 y41 :: Fz F W :: cs) w' := (h'.pick 2 [1, 0] (by kernel_rfl) (by decide) rfl); exact ⟨(), trivial, rfl, h', trivial⟩)) ?_
   rintro _ -
   have h51 : RepL (Rep.int .u64) F W ([x49] : List Int) ([vU x49]) := (RepL.cons (R := (Rep.int .u64)) (F := F) (w := W) (vs := [vU x49]) (ys := []) rfl RepL.nil)
   refine ops_new (d := some 27) (o := .cells ([vU x49] : List Value).toArray 52) (v := fun g52 => .slice (sa g52) ([x49] : List Int).length 1) (M' := fun g52 => Mem w0 (orow (sa g52) ([x49] : List Int).length 1 52 1 ([vU x49]) :: ow A38 l40 c39 52 1 y41 :: Fz F W :: cs)) (fun g52 => ⟨by kernel_rfl⟩) (fun w_ hM hS => ⟨hM.onew [vU x49] 52 1 1 rfl (by decide), trivial⟩) (fun g52 => ?_)
   obtain ⟨l53, hv54, hp⟩ := obind hp
   obtain ⟨he55, hb56⟩ := app_some hv54
   obtain ⟨y57, hy58⟩ : ∃ y_, y41 ++ ([vU x49]) = y_ := ⟨_, rfl⟩
   have h59 : RepL (Rep.int .u64) F W l53 y57 := by rw [he55, ← hy58]; exact RepL.app h42 h51
   refine ops_appendO (x := (Go.Operand.tmp 18)) (y := (Go.Operand.tmp 27)) (t := 51) (e := 52) (d := some 28) (n' := l53.length) (z := 1) (m := ([x49] : List Int).length) (bytes := 8) (xs' := y57) (news := ([vU x49])) (zv := vU 0) 1 ⟨by kernel_rfl⟩ rfl rfl Try.underlying51 (by kernel_rfl) (by rfl) rfl (fun w_ hM => hM.srcO 0 rfl) h51.len h51.one hb56 (by have z_ := congrArg List.length he55; rw [List.length_append] at z_; exact z_.symm) hy58 (fun _ _ _ _ hS h' => trivial) ?_
   rintro ⟨A60, c61⟩
   refine oQ [oF 11] [(7, sl A60 l53 c61), (0, sl A_a a c_a), (1, sl A_b b c_b), (2, .func (.func 75) #[] #[]), (14, vI (min (max (a.length : Int) (b.length : Int)) 64)), (15, vI i43)] (by kernel_rfl) ?_
   refine ops_nil (fin_block (fin_then (st_region [oF 0, oF 1] (by rfl) ?_)))
   refine oQ [oF 0, oF 1] [(15, vI (IntKind.i64.wrap (i43 + 1))), (7, sl A60 l53 c61), (0, sl A_a a c_a), (1, sl A_b b c_b), (2, .func (.func 75) #[] #[]), (14, vI (min (max (a.length : Int) (b.length : Int)) 64))] (by kernel_rfl) ?_
   refine ops_nil ?_
   exact fin_again (l53, IntKind.i64.wrap (i43 + 1)) (A60, c61, y57) (Option.some.inj hp).symm h59 (look_has ⟨rfl, rfl, rfl, rfl, rfl, rfl, trivial⟩) (fun w_ hM => hM.pick 3 [1, 2] (by kernel_rfl) (by decide) rfl)
  ·
   have hp := cnd_f hc44 hp
   refine st_exit (fin_exit_then (fin_exit_then (fin_exit ?_)))
   obtain hq_ := Option.some.inj hp
   subst hq_
   obtain hq_ := hd4 _ rfl
   subst hq_
   have hp : sets_join_v3_j1 l40 = some l9003 := hk4
   exact fin_join HJ1 (A38, c39, l40, y41) ⟨hp, h42⟩ (look_has ⟨rfl, trivial⟩) (fun w_ hM => hM)
theorem sets_Set_Minus_ok (w0 w : World) (cs : List Chunk) (F : Nat → Prop) (W : World) (A_s : Option Addr) (c_s : Nat) (s : List Int) (A_o : Option Addr) (c_o : Nat) (o : List Int) (hM0 : Mem w0 (Fz F W :: cs) w) (h_s : RdS (Rep.int .u64) F W A_s c_s s) (h_o : RdS (Rep.int .u64) F W A_o c_o o) (l9003 : List Int) (hp : sets_Set_Minus s o = some l9003) : Calls Try.prog 37 #[sl A_s s c_s, sl A_o o c_o] w fun e w' => ∃ (A9001 : Option Addr), ∃ (c9002 : Nat), ∃ (y9004 : List Value), ((RepL (Rep.int .u64) F W l9003 y9004)) ∧ e = .returned (sl A9001 l9003 c9002) ∧ Mem w0 (ow A9001 l9003 c9002 52 1 y9004 :: Fz F W :: cs) w' := by
 unfold sets_Set_Minus at hp
 refine sx_calls Try.func37 rfl (n := 8) (by kernel_rfl) (l := [(0, sl A_s s c_s), (1, sl A_o o c_o)]) rfl (by rfl) hM0 ?_
 refine st_seq (st_region [oF 0] (by rfl) ?_)
 refine oQ [oF 0] [(0, sl A_s s c_s), (1, sl A_o o c_o)] (by kernel_rfl) ?_
 refine ops_nil (fin_then (st_seq (st_region [oF 0, oF 1, oF 2, oF 3] (by rfl) ?_)))
 refine oQ [oF 0, oF 1] [(6, sl A_o o c_o), (5, sl A_s s c_s)] (by kernel_rfl) ?_
 obtain ⟨x1, hv2, hp⟩ := obind hp
 refine ops_callI (σ := (Option Addr) × Nat × (List Value)) (d := some 7) (f := 67) (args := #[sl A_s s c_s, sl A_o o c_o, .func (.func 75) #[] #[]]) (v := (fun x_ => match x_ with | (A3, c4, y5) => sl A3 x1 c4)) (I := (fun x_ => match x_ with | (A3, c4, y5) => (RepL (Rep.int .u64) F W x1 y5))) (M' := (fun x_ => match x_ with | (A3, c4, y5) => Mem w0 (ow A3 x1 c4 52 1 y5 :: Fz F W :: cs))) ⟨by kernel_rfl⟩ (fun w_ hM hS => (sets_join_v3_ok w0 w_ (cs) F W A_s c_s s A_o c_o o hM h_s h_o x1 hv2).mono (by rintro e w' ⟨A3, c4, y5, h6, rfl, h'⟩; have h' : Mem w0 (ow A3 x1 c4 52 1 y5 :: Fz F W :: cs) w' := h'; exact ⟨(A3, c4, y5), h6, rfl, h', trivial⟩)) ?_
 rintro ⟨A3, c4, y5⟩ h6
 refine oQ [oF 3] [(4, sl A3 x1 c4)] (by kernel_rfl) ?_
 refine ops_nil (fin_then (st_ret ?_))
 have hq_ := Option.some.inj hp
 have hr0_ := hq_
 subst hr0_
 refine fin_ret [.tmp 4] [sl A3 x1 c4] rfl rfl (fun w_ hM => (.tmp rfl .nil)) (fun w_ hM => ?_)
 exact ⟨A3, c4, y5, h6, rfl, hM⟩
theorem sets_Set_Without_ok (w0 w : World) (cs : List Chunk) (F : Nat → Prop) (W : World) (A_s : Option Addr) (c_s : Nat) (s : List Int) (i : Int) (hM0 : Mem w0 (Fz F W :: cs) w) (h_s : RdS (Rep.int .u64) F W A_s c_s s) (l9003 : List Int) (hp : sets_Set_Without s i = some l9003) : Calls Try.prog 32 #[sl A_s s c_s, vI i] w fun e w' => ∃ (A9001 : Option Addr), ∃ (c9002 : Nat), ∃ (y9004 : List Value), ((RepL (Rep.int .u64) F W l9003 y9004)) ∧ e = .returned (sl A9001 l9003 c9002) ∧ Mem w0 (ow A9001 l9003 c9002 52 1 y9004 :: Fz F W :: cs) w' := by
 unfold sets_Set_Without at hp
 refine sx_calls Try.func32 rfl (n := 9) (by kernel_rfl) (l := [(0, sl A_s s c_s), (1, vI i)]) rfl (by rfl) hM0 ?_
 refine st_seq (st_region [oF 0] (by rfl) ?_)
 refine oQ [oF 0] [(0, sl A_s s c_s), (1, vI i)] (by kernel_rfl) ?_
 refine ops_nil (fin_then (st_seq (st_region [oF 0, oF 1, oF 2, oF 3, oF 4] (by rfl) ?_)))
 refine oQ [oF 0, oF 1] [(6, vI i), (5, sl A_s s c_s)] (by kernel_rfl) ?_
 obtain ⟨x1, hv2, hp⟩ := obind hp
 refine ops_callI (σ := (Option Addr) × Nat × (List Value)) (d := some 7) (f := 71) (args := #[vI i]) (v := (fun x_ => match x_ with | (A3, c4, y5) => sl A3 x1 c4)) (I := (fun x_ => match x_ with | (A3, c4, y5) => (RepL (Rep.int .u64) F W x1 y5))) (M' := (fun x_ => match x_ with | (A3, c4, y5) => Mem w0 (ow A3 x1 c4 52 1 y5 :: Fz F W :: cs))) ⟨by kernel_rfl⟩ (fun w_ hM hS => (sets_one_ok w0 w_ (cs) F W i hM  x1 hv2).mono (by rintro e w' ⟨A3, c4, y5, h6, rfl, h'⟩; have h' : Mem w0 (ow A3 x1 c4 52 1 y5 :: Fz F W :: cs) w' := h'; exact ⟨(A3, c4, y5), h6, rfl, h', trivial⟩)) ?_
 rintro ⟨A3, c4, y5⟩ h6
 obtain ⟨x7, hv8, hp⟩ := obind hp
 refine ops_callI (σ := (Option Addr) × Nat × (List Value)) (d := some 8) (f := 37) (args := #[sl A_s s c_s, sl A3 x1 c4]) (v := (fun x_ => match x_ with | (A9, c10, y11) => sl A9 x7 c10)) (I := (fun x_ => match x_ with | (A9, c10, y11) => (RepL (Rep.int .u64) F W x7 y11))) (M' := (fun x_ => match x_ with | (A9, c10, y11) => Mem w0 (ow A9 x7 c10 52 1 y11 :: ow A3 x1 c4 52 1 y5 :: Fz F W :: cs))) ⟨by kernel_rfl⟩ (fun w_ hM hS => (sets_Set_Minus_ok w_ w_ [] (fun b => b < w_.heap.size) w_ A_s c_s s A3 c4 x1 (Mem.fz0 w_) (hM.now 1 rfl h_s) (hM.ordS 0 1 rfl rfl h6 rfl rfl) x7 hv8).mono (by rintro e w' ⟨A9, c10, y11, h12, rfl, h'⟩; have h' : Mem w_ [ow A9 x7 c10 52 1 y11] w' := h'.pick 2 [0] (by kernel_rfl) (by decide) rfl; exact ⟨(A9, c10, y11), (RepL.move' (fun h => h) h12), rfl, hM.join h' rfl, trivial⟩)) ?_
 rintro ⟨A9, c10, y11⟩ h12
 refine oQ [oF 4] [(4, sl A9 x7 c10)] (by kernel_rfl) ?_
 refine ops_nil (fin_then (st_ret ?_))
 have hq_ := Option.some.inj hp
 have hr0_ := hq_
 subst hr0_
 refine fin_ret [.tmp 4] [sl A9 x7 c10] rfl rfl (fun w_ hM => (.tmp rfl .nil)) (fun w_ hM => ?_)
 exact ⟨A9, c10, y11, h12, rfl, hM.pick 3 [0, 2] (by kernel_rfl) (by decide) rfl⟩
theorem tourlaw1_SetsTells_5_ok (w0 w : World) (cs : List Chunk) (F : Nat → Prop) (W : World) (n : Int) (b_p1 : Nat) (p1_0 : Int) (hM0 : Mem w0 (.blk b_p1 [vI p1_0] 3 :: Fz F W :: cs) w) (t9001 : Bool) (hp : tourlaw1_SetsTells_5 n p1_0 = some t9001) : Calls Try.prog 33 #[vI n, vP b_p1 0] w fun e w' => (True) ∧ e = .returned (.bool t9001) ∧ Mem w0 (.blk b_p1 [vI p1_0] 3 :: Fz F W :: cs) w' := by
 unfold tourlaw1_SetsTells_5 at hp
 refine sx_calls Try.func33 rfl (n := 7) (by kernel_rfl) (l := [(0, vI n), (1, vP b_p1 0)]) rfl (by rfl) hM0 ?_
 refine st_seq (st_region [oF 0] (by rfl) ?_)
 refine oQ [oF 0] [(0, vI n), (1, vP b_p1 0)] (by kernel_rfl) ?_
 refine ops_nil (fin_then (st_seq (st_region [oF 0, oF 1, oF 2, oF 3] (by rfl) ?_)))
 refine oQ [oF 0] [(4, vI n), (1, vP b_p1 0)] (by kernel_rfl) ?_
 refine ops_mem (d := some 5) (an := [.v (vI p1_0)]) (evs := [ld b_p1 0 (vI p1_0)]) (v := vI p1_0) ⟨by kernel_rfl⟩ (fun w_ hM hS => ⟨w_, ⟨hM.cell 0 rfl rfl, rfl⟩, hM, trivial⟩) ?_
 refine oQ [oF 2, oF 3] [(3, .bool (!(n == p1_0)))] (by kernel_rfl) ?_
 refine ops_nil (fin_then (st_ret ?_))
 have hq_ := Option.some.inj hp
 have hr0_ := hq_
 subst hr0_
 refine fin_ret [.tmp 3] [.bool (!(n == p1_0))] rfl rfl (fun w_ hM => (.tmp rfl .nil)) (fun w_ hM => ?_)
 exact ⟨trivial, rfl, hM⟩
theorem tourlaw1_SetsTells_3_ok (w0 w : World) (cs : List Chunk) (F : Nat → Prop) (W : World) (A_l : Option Addr) (c_l : Nat) (l : List Int) (b_is_c0 : Nat) (is_c0_0 : Int) (hM0 : Mem w0 (.blk b_is_c0 [vI is_c0_0] 3 :: Fz F W :: cs) w) (h_l : RdS (Rep.int .i64) F W A_l c_l l) (l9003 : List Int) (hp : tourlaw1_SetsTells_3 l is_c0_0 = some l9003) : Calls Try.prog 24 #[sl A_l l c_l, .func (.func 33) #[] #[vP b_is_c0 0]] w fun e w' => ∃ (A9001 : Option Addr), ∃ (c9002 : Nat), ∃ (y9004 : List Value), ((RepL (Rep.int .i64) F W l9003 y9004)) ∧ e = .returned (sl A9001 l9003 c9002) ∧ Mem w0 (ow A9001 l9003 c9002 3 1 y9004 :: .blk b_is_c0 [vI is_c0_0] 3 :: Fz F W :: cs) w' := by
 unfold tourlaw1_SetsTells_3 at hp
 refine sx_calls Try.func24 rfl (n := 23) (by kernel_rfl) (l := [(0, sl A_l l c_l), (1, .func (.func 33) #[] #[vP b_is_c0 0])]) rfl (by rfl) hM0 ?_
 refine st_seq (st_region [oF 0] (by rfl) ?_)
 refine oQ [oF 0] [(0, sl A_l l c_l), (1, .func (.func 33) #[] #[vP b_is_c0 0])] (by kernel_rfl) ?_
 refine ops_nil (fin_then (st_seq (st_region [oF 0] (by rfl) ?_)))
 refine oQ [oF 0] [(5, .slice none 0 0), (0, sl A_l l c_l), (1, .func (.func 33) #[] #[vP b_is_c0 0])] (by kernel_rfl) ?_
 refine ops_nil (fin_then ?_)
 refine st_join1 (σ := (Option Addr) × Nat × (List Int) × (List Value)) (L := fun x_ => match x_ with | (A1, c2, l3, y4) => [(5, sl A1 l3 c2)]) (N := fun x_ => match x_ with | (A1, c2, l3, y4) => Mem w0 (ow A1 l3 c2 3 1 y4 :: .blk b_is_c0 [vI is_c0_0] 3 :: Fz F W :: cs)) (I := fun x_ => match x_ with | (A1, c2, l3, y4) => (tourlaw1_SetsTells_3_j1 l3 = some l9003) ∧ (RepL (Rep.int .i64) F W l3 y4)) ?_ ?_
 ·
  rintro ⟨A1, c2, l3, y4⟩ ⟨hp, h5⟩
  unfold tourlaw1_SetsTells_3_j1 at hp
  refine st_seq (st_region [oF 0, oF 1] (by rfl) ?_)
  refine oQ [oF 0, oF 1] [(4, sl A1 l3 c2)] (by kernel_rfl) ?_
  refine ops_nil (fin_then (st_ret ?_))
  have hq_ := Option.some.inj hp
  have hr0_ := hq_
  subst hr0_
  refine fin_ret [.tmp 4] [sl A1 l3 c2] rfl rfl (fun w_ hM => (.tmp rfl .nil)) (fun w_ hM => ?_)
  exact ⟨A1, c2, y4, h5, rfl, hM⟩
 ·
  intro HJ1
  refine st_seq (st_seq (st_region [oF 0, oF 1, oF 2] (by rfl) ?_))
  refine oQ [oF 0, oF 1, oF 2] [(10, vI 0), (9, vI (l.length : Int)), (8, sl A_l l c_l), (5, .slice none 0 0), (1, .func (.func 33) #[] #[vP b_is_c0 0])] (by kernel_rfl) ?_
  refine ops_nil (fin_then (st_block ?_))
  refine st_conv (l' := [(10, vI 0), (9, vI (l.length : Int)), (8, sl A_l l c_l), (5, .slice none 0 0), (1, .func (.func 33) #[] #[vP b_is_c0 0])]) (M' := Mem w0 (ow none ([] : List Int) 0 3 1 [] :: .blk b_is_c0 [vI is_c0_0] 3 :: Fz F W :: cs)) rfl (fun w_ h => h.onil none 3 1) ?_
  obtain ⟨r2, hl2, hk2⟩ := obind hp
  refine st_loopP (σ := (List Int) × Int) (ρ := (List Int)) (γ := (Option Addr) × Nat × (List Value)) hl2 (none, 0, []) (fun s_ g_ => match s_, g_ with | (l8, i11), (A6, c7, y9) => [(1, .func (.func 33) #[] #[vP b_is_c0 0]), (5, sl A6 l8 c7), (8, sl A_l l c_l), (9, vI (l.length : Int)), (10, vI i11)]) (fun s_ g_ => match s_, g_ with | (l8, i11), (A6, c7, y9) => Mem w0 (.blk b_is_c0 [vI is_c0_0] 3 :: ow A6 l8 c7 3 1 y9 :: Fz F W :: cs)) (fun s_ g_ => match s_, g_ with | (l8, i11), (A6, c7, y9) => (RepL (Rep.int .i64) F W l8 y9)) (RepL.nil (R := (Rep.int .i64))) (look_has ⟨rfl, rfl, rfl, rfl, rfl, trivial⟩) (fun w_ hM => hM.pick 3 [1, 0, 2] (by kernel_rfl) (by decide) rfl) ?_
  rintro ⟨l8, i11⟩ ⟨A6, c7, y9⟩ o2 h10 hs_ hd2
  have hp : (tourlaw1_SetsTells_3_l2 l is_c0_0) l8 i11 = some o2 := hs_
  clear hs_
  unfold tourlaw1_SetsTells_3_l2 at hp
  refine st_seq (st_region [oF 0] (by rfl) ?_)
  refine oQ [oF 0] [(11, .bool (decide (i11 < (l.length : Int)))), (1, .func (.func 33) #[] #[vP b_is_c0 0]), (5, sl A6 l8 c7), (8, sl A_l l c_l), (9, vI (l.length : Int)), (10, vI i11)] (by kernel_rfl) ?_
  refine ops_nil (fin_then (st_seq ?_))
  refine st_if (b := decide (i11 < (l.length : Int))) rfl (fun hc12 => ?_) (fun hc12 => ?_)
  ·
   have hp := cnd_t hc12 hp
   refine st_skip (fin_then ?_)
   refine st_join1 (σ := (Option Addr) × Nat × (List Int) × (List Value)) (L := fun x_ => match x_ with | (A13, c14, l15, y16) => [(1, .func (.func 33) #[] #[vP b_is_c0 0]), (5, sl A13 l15 c14), (8, sl A_l l c_l), (9, vI (l.length : Int)), (10, vI i11)]) (N := fun x_ => match x_ with | (A13, c14, l15, y16) => Mem w0 (.blk b_is_c0 [vI is_c0_0] 3 :: ow A13 l15 c14 3 1 y16 :: Fz F W :: cs)) (I := fun x_ => match x_ with | (A13, c14, l15, y16) => ((tourlaw1_SetsTells_3_j3 i11) l15 = some o2) ∧ (RepL (Rep.int .i64) F W l15 y16)) ?_ ?_
   ·
    rintro ⟨A13, c14, l15, y16⟩ ⟨hp, h17⟩
    unfold tourlaw1_SetsTells_3_j3 at hp
    refine st_region [oF 0, oF 1] (by rfl) ?_
    refine oQ [oF 0, oF 1] [(10, vI (IntKind.i64.wrap (i11 + 1))), (1, .func (.func 33) #[] #[vP b_is_c0 0]), (5, sl A13 l15 c14), (8, sl A_l l c_l), (9, vI (l.length : Int))] (by kernel_rfl) ?_
    refine ops_nil ?_
    exact fin_again (l15, IntKind.i64.wrap (i11 + 1)) (A13, c14, y16) (Option.some.inj hp).symm h17 (look_has ⟨rfl, rfl, rfl, rfl, rfl, trivial⟩) (fun w_ hM => hM)
   ·
    intro HJ3
    refine st_seq (st_block (st_seq (st_region [oF 0, oF 1, oF 2] (by rfl) ?_)))
    obtain ⟨x18, hv19, hp⟩ := obind hp
    obtain ⟨m20, hm21, hx22⟩ := idx_some hv19
    have hl25 := (List.getElem?_eq_some_iff.1 hx22).1
    obtain ⟨ad26, vs23, hA27, hr24, hq28⟩ := RdS.el h_l hx22
    obtain rfl := hr24
    refine ops_val (op := (.indexAddr 23 (.tmp 8) (.tmp 10))) (d := some 12) (v := .pointer (some (ad26.add (m20 * 1)))) ⟨by kernel_rfl⟩ (run_indexA hA27 Try.underlying23 (z := 1) (by kernel_rfl) rfl rfl hm21 hl25) ?_
    refine ops_mem (d := some 13) (an := [.v (vI x18)]) (evs := [.load (ad26.add (m20 * 1)) (vI x18)]) (v := vI x18) ⟨by kernel_rfl⟩ (fun w_ hM hS => ⟨w_, ⟨hM.elcell 2 rfl hq28 0 rfl, rfl⟩, hM, trivial⟩) ?_
    refine oQ [oF 2] [(7, vI x18), (1, .func (.func 33) #[] #[vP b_is_c0 0]), (5, sl A6 l8 c7), (8, sl A_l l c_l), (9, vI (l.length : Int)), (10, vI i11)] (by kernel_rfl) ?_
    refine ops_nil (fin_then (st_seq (st_region [oF 0, oF 1, oF 2] (by rfl) ?_)))
    refine oQ [oF 0, oF 1] [(15, vI x18), (14, .func (.func 33) #[] #[vP b_is_c0 0]), (7, vI x18), (1, .func (.func 33) #[] #[vP b_is_c0 0]), (5, sl A6 l8 c7), (8, sl A_l l c_l), (9, vI (l.length : Int)), (10, vI i11)] (by kernel_rfl) ?_
    obtain ⟨x29, hv30, hp⟩ := obind hp
    refine ops_callI (σ := Unit) (d := some 16) (f := 33) (args := #[vI x18, vP b_is_c0 0]) (v := (fun _ => .bool x29)) (I := (fun _ => True)) (M' := (fun _ => Mem w0 (.blk b_is_c0 [vI is_c0_0] 3 :: ow A6 l8 c7 3 1 y9 :: Fz F W :: cs))) ⟨by kernel_rfl⟩ (fun w_ hM hS => (tourlaw1_SetsTells_5_ok w0 w_ (ow A6 l8 c7 3 1 y9 :: cs) F W x18 b_is_c0 is_c0_0 (hM.pick 3 [0, 2, 1] (by kernel_rfl) (by decide) rfl)  x29 hv30).mono (by rintro e w' ⟨-, rfl, h'⟩; have h' : Mem w0 (.blk b_is_c0 [vI is_c0_0] 3 :: ow A6 l8 c7 3 1 y9 :: Fz F W :: cs) w' := (h'.pick 3 [0, 2, 1] (by kernel_rfl) (by decide) rfl); exact ⟨(), trivial, rfl, h', trivial⟩)) ?_
    rintro _ -
    refine ops_nil (fin_then ?_)
    refine st_if (b := x29) rfl (fun hc31 => ?_) (fun hc31 => ?_)
    ·
     have hp := cnd_t hc31 hp
     refine st_region [oF 0, oF 1, oF 2, oF 3, oF 4] (by rfl) ?_
     refine oQ [oF 0, oF 1] [(18, vI x18), (17, sl A6 l8 c7), (1, .func (.func 33) #[] #[vP b_is_c0 0]), (5, sl A6 l8 c7), (8, sl A_l l c_l), (9, vI (l.length : Int)), (10, vI i11)] (by kernel_rfl) ?_
     have h32 : RepL (Rep.int .i64) F W ([x18] : List Int) ([vI x18]) := (RepL.cons (R := (Rep.int .i64)) (F := F) (w := W) (vs := [vI x18]) (ys := []) rfl RepL.nil)
     refine ops_new (d := some 19) (o := .cells ([vI x18] : List Value).toArray 3) (v := fun g33 => .slice (sa g33) ([x18] : List Int).length 1) (M' := fun g33 => Mem w0 (orow (sa g33) ([x18] : List Int).length 1 3 1 ([vI x18]) :: .blk b_is_c0 [vI is_c0_0] 3 :: ow A6 l8 c7 3 1 y9 :: Fz F W :: cs)) (fun g33 => ⟨by kernel_rfl⟩) (fun w_ hM hS => ⟨hM.onew [vI x18] 3 1 1 rfl (by decide), trivial⟩) (fun g33 => ?_)
     obtain ⟨l34, hv35, hp⟩ := obind hp
     obtain ⟨he36, hb37⟩ := app_some hv35
     obtain ⟨y38, hy39⟩ : ∃ y_, y9 ++ ([vI x18]) = y_ := ⟨_, rfl⟩
     have h40 : RepL (Rep.int .i64) F W l34 y38 := by rw [he36, ← hy39]; exact RepL.app h10 h32
     refine ops_appendO (x := (Go.Operand.tmp 17)) (y := (Go.Operand.tmp 19)) (t := 23) (e := 3) (d := some 20) (n' := l34.length) (z := 1) (m := ([x18] : List Int).length) (bytes := 8) (xs' := y38) (news := ([vI x18])) (zv := vI 0) 2 ⟨by kernel_rfl⟩ rfl rfl Try.underlying23 (by kernel_rfl) (by rfl) rfl (fun w_ hM => hM.srcO 0 rfl) h32.len h32.one hb37 (by have z_ := congrArg List.length he36; rw [List.length_append] at z_; exact z_.symm) hy39 (fun _ _ _ _ hS h' => trivial) ?_
     rintro ⟨A41, c42⟩
     refine oQ [oF 4] [(5, sl A41 l34 c42), (1, .func (.func 33) #[] #[vP b_is_c0 0]), (8, sl A_l l c_l), (9, vI (l.length : Int)), (10, vI i11)] (by kernel_rfl) ?_
     refine ops_nil (fin_block ?_)
     exact fin_join HJ3 (A41, c42, l34, y38) ⟨hp, h40⟩ (look_has ⟨rfl, rfl, rfl, rfl, rfl, trivial⟩) (fun w_ hM => hM.pick 4 [1, 2, 3] (by kernel_rfl) (by decide) rfl)
    ·
     have hp := cnd_f hc31 hp
     refine st_skip (fin_block ?_)
     exact fin_join HJ3 (A6, c7, l8, y9) ⟨hp, h10⟩ (look_has ⟨rfl, rfl, rfl, rfl, rfl, trivial⟩) (fun w_ hM => hM)
  ·
   have hp := cnd_f hc12 hp
   refine st_exit (fin_exit_then (fin_exit_then (fin_exit ?_)))
   obtain hq_ := Option.some.inj hp
   subst hq_
   obtain hq_ := hd2 _ rfl
   subst hq_
   have hp : tourlaw1_SetsTells_3_j1 l8 = some l9003 := hk2
   exact fin_join HJ1 (A6, c7, l8, y9) ⟨hp, h10⟩ (look_has ⟨rfl, trivial⟩) (fun w_ hM => hM.pick 3 [1, 0, 2] (by kernel_rfl) (by decide) rfl)
end Go.Proofs.Ythcniadbdjoecaa.S
