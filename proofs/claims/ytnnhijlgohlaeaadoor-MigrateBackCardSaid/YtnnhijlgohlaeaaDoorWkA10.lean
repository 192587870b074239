/- The Go functions come to what the plain functions tell. No condition. -/
import Derived.Test.YtnnhijlgohlaeaaDoorProg
import Derived.Test.YtnnhijlgohlaeaaDoorFnA
import Derived.Test.YtnnhijlgohlaeaaDoorWkA7
import Derived.Test.YtnnhijlgohlaeaaDoorWkA9
import Derived.Test.YtnnhijlgohlaeaaDoorExOwnM
namespace Go.Proofs.YtnnhijlgohlaeaaDoor.A
open Go Go.RowKit Go.Proofs.YtnnhijlgohlaeaaDoor.Sx
set_option linter.unusedVariables false
set_option maxHeartbeats 4000000
set_option maxRecDepth 100000
theorem tourref3_After_ok (w0 w : World) (cs : List Chunk) (F : Nat → Prop) (W : World) (A_k : Option Addr) (c_k : Nat) (k : List api_Kind) (A_l : Option Addr) (c_l : Nat) (l : List migrate_Move) (hM0 : Mem w0 (Fz F W :: cs) w) (h_k : RdS R_api_Kind F W A_k c_k k) (h_l : RdS R_migrate_Move F W A_l c_l l) (l9003 : List api_Kind) (i9005 : Int) (hp : tourref3_After k l = some (l9003, i9005)) : Calls Tryd.prog 11 #[sl A_k k c_k, sl A_l l c_l] w fun e w' => ∃ (A9001 : Option Addr), ∃ (c9002 : Nat), ∃ (F9006 : Nat → Prop), ∃ (W9007 : World), ((RdS R_api_Kind F9006 W9007 A9001 c9002 l9003) ∧ (Ext w0 F W F9006 W9007)) ∧ e = .returned (.tuple #[sl A9001 l9003 c9002, vI i9005]) ∧ Mem w0 (Fz F9006 W9007 :: cs) w' := by
 unfold tourref3_After at hp
 refine sx_calls Tryd.func11 rfl (n := 37) (by kernel_rfl) (l := [(0, sl A_k k c_k), (1, sl A_l l c_l)]) rfl (by rfl) hM0 ?_
 refine st_seq (st_region [oF 0, oF 1] (by rfl) ?_)
 refine oQ [oF 0, oF 1] [(0, sl A_k k c_k), (1, sl A_l l c_l)] (by kernel_rfl) ?_
 refine ops_nil (fin_then (st_seq (st_seq (st_region [oF 0, oF 1, oF 2] (by rfl) ?_))))
 refine oQ [oF 0] [(11, sl A_k k c_k), (0, sl A_k k c_k), (1, sl A_l l c_l)] (by kernel_rfl) ?_
 obtain ⟨x1, hv2, hp⟩ := obind hp
 refine ops_callI (σ := Unit) (d := some 12) (f := 46) (args := #[sl A_k k c_k]) (v := (fun _ => vI x1)) (I := (fun _ => True)) (M' := (fun _ => Mem w0 (Fz F W :: cs))) ⟨by kernel_rfl⟩ (fun w_ hM hS => (tourref3_KindsError_ok w0 w_ (cs) F W A_k c_k k hM h_k x1 hv2).mono (by rintro e w' ⟨-, rfl, h'⟩; have h' : Mem w0 (Fz F W :: cs) w' := h'; exact ⟨(), trivial, rfl, h', trivial⟩)) ?_
 rintro _ -
 refine oQ [oF 2] [(6, vI x1), (0, sl A_k k c_k), (1, sl A_l l c_l)] (by kernel_rfl) ?_
 refine ops_nil (fin_then (st_seq (st_region [oF 0, oF 1] (by rfl) ?_)))
 refine oQ [oF 0, oF 1] [(14, .bool (!(x1 == 0))), (6, vI x1), (0, sl A_k k c_k), (1, sl A_l l c_l)] (by kernel_rfl) ?_
 refine ops_nil (fin_then ?_)
 refine st_if (b := !(x1 == 0)) rfl (fun hc3 => ?_) (fun hc3 => ?_)
 ·
  have hp := cnd_t hc3 hp
  refine st_seq (st_region [oF 0, oF 1, oF 2] (by rfl) ?_)
  refine oQ [oF 0, oF 1, oF 2] [(5, vI x1), (4, .slice none 0 0)] (by kernel_rfl) ?_
  refine ops_nil (fin_then (st_ret (fin_ret_then ?_)))
  have hq_ := Option.some.inj hp
  obtain ⟨hr0_, hq_⟩ := Prod.mk.inj hq_
  have hr1_ := hq_
  subst hr0_
  subst hr1_
  refine fin_ret [.tmp 4, .tmp 5] [.slice none 0 0, vI x1] rfl rfl (fun w_ hM => (.tmp rfl (.tmp rfl .nil))) (fun w_ hM => ?_)
  exact ⟨none, 0, F, W, ⟨(RdS.empty _), (Ext.refl _ _ _)⟩, rfl, hM⟩
 ·
  have hp := cnd_f hc3 hp
  refine st_skip (fin_then (st_seq (st_seq (st_region [oF 0, oF 1, oF 2] (by rfl) ?_))))
  refine oQ [oF 0, oF 1, oF 2] [(18, .bool (decide (100 < (l.length : Int)))), (0, sl A_k k c_k), (1, sl A_l l c_l)] (by kernel_rfl) ?_
  refine ops_nil (fin_then ?_)
  refine st_if (b := decide (100 < (l.length : Int))) rfl (fun hc4 => ?_) (fun hc4 => ?_)
  ·
   have hp := cnd_t hc4 hp
   refine st_seq (st_region [oF 0, oF 1] (by rfl) ?_)
   refine oQ [oF 0, oF 1] [(5, vI 2), (4, .slice none 0 0)] (by kernel_rfl) ?_
   refine ops_nil (fin_then (st_ret (fin_ret_then ?_)))
   have hq_ := Option.some.inj hp
   obtain ⟨hr0_, hq_⟩ := Prod.mk.inj hq_
   have hr1_ := hq_
   subst hr0_
   subst hr1_
   refine fin_ret [.tmp 4, .tmp 5] [.slice none 0 0, vI 2] rfl rfl (fun w_ hM => (.tmp rfl (.tmp rfl .nil))) (fun w_ hM => ?_)
   exact ⟨none, 0, F, W, ⟨(RdS.empty _), (Ext.refl _ _ _)⟩, rfl, hM⟩
  ·
   have hp := cnd_f hc4 hp
   refine st_skip (fin_then ?_)
   refine st_join1 (σ := (Option Addr) × Nat × (List api_Kind) × (Nat → Prop) × World) (L := fun x_ => match x_ with | (A5, c6, l7, F9, W10) => [(0, sl A5 l7 c6)]) (N := fun x_ => match x_ with | (A5, c6, l7, F9, W10) => Mem w0 (Fz F9 W10 :: cs)) (I := fun x_ => match x_ with | (A5, c6, l7, F9, W10) => (tourref3_After_j1 l7 = some (l9003, i9005)) ∧ (RdS R_api_Kind F9 W10 A5 c6 l7) ∧ (Ext w0 F W F9 W10)) ?_ ?_
   ·
    rintro ⟨A5, c6, l7, F9, W10⟩ ⟨hp, h8, hx1⟩
    unfold tourref3_After_j1 at hp
    refine st_seq (st_region [oF 0, oF 1, oF 2] (by rfl) ?_)
    refine oQ [oF 0, oF 1, oF 2] [(5, vI 0), (4, sl A5 l7 c6)] (by kernel_rfl) ?_
    refine ops_nil (fin_then (st_ret ?_))
    have hq_ := Option.some.inj hp
    obtain ⟨hr0_, hq_⟩ := Prod.mk.inj hq_
    have hr1_ := hq_
    subst hr0_
    subst hr1_
    refine fin_ret [.tmp 4, .tmp 5] [sl A5 l7 c6, vI 0] rfl rfl (fun w_ hM => (.tmp rfl (.tmp rfl .nil))) (fun w_ hM => ?_)
    exact ⟨A5, c6, F9, W10, ⟨h8, hx1⟩, rfl, hM⟩
   ·
    intro HJ1
    refine st_seq (st_seq (st_region [oF 0, oF 1, oF 2] (by rfl) ?_))
    refine oQ [oF 0, oF 1, oF 2] [(21, vI 0), (20, vI (l.length : Int)), (19, sl A_l l c_l), (0, sl A_k k c_k)] (by kernel_rfl) ?_
    refine ops_nil (fin_then (st_block ?_))
    obtain ⟨r2, hl2, hk2⟩ := obind hp
    refine st_loopP (σ := (List api_Kind) × Int) (ρ := (((List api_Kind) × Int) ⊕ (List api_Kind))) (γ := (Option Addr) × Nat × (Nat → Prop) × World) hl2 (A_k, c_k, F, W) (fun s_ g_ => match s_, g_ with | (l13, i15), (A11, c12, F16, W17) => [(0, sl A11 l13 c12), (19, sl A_l l c_l), (20, vI (l.length : Int)), (21, vI i15)]) (fun s_ g_ => match s_, g_ with | (l13, i15), (A11, c12, F16, W17) => Mem w0 (Fz F16 W17 :: cs)) (fun s_ g_ => match s_, g_ with | (l13, i15), (A11, c12, F16, W17) => (RdS R_api_Kind F16 W17 A11 c12 l13) ∧ (Ext w0 F W F16 W17)) ⟨h_k, (Ext.refl _ _ _)⟩ (look_has ⟨rfl, rfl, rfl, rfl, trivial⟩) (fun w_ hM => hM) ?_
    rintro ⟨l13, i15⟩ ⟨A11, c12, F16, W17⟩ o2 ⟨h14, hx2⟩ hs_ hd2
    have hp : (tourref3_After_l2 l) l13 i15 = some o2 := hs_
    clear hs_
    unfold tourref3_After_l2 at hp
    have h_l := h_l.ext hx2
    refine st_seq (st_region [oF 0] (by rfl) ?_)
    refine oQ [oF 0] [(22, .bool (decide (i15 < (l.length : Int)))), (0, sl A11 l13 c12), (19, sl A_l l c_l), (20, vI (l.length : Int)), (21, vI i15)] (by kernel_rfl) ?_
    refine ops_nil (fin_then (st_seq ?_))
    refine st_if (b := decide (i15 < (l.length : Int))) rfl (fun hc18 => ?_) (fun hc18 => ?_)
    ·
     have hp := cnd_t hc18 hp
     refine st_skip (fin_then (st_seq (st_block (st_seq (st_region [oF 0, oF 1, oF 2, oF 3] (by rfl) ?_)))))
     obtain ⟨x19, hv20, hp⟩ := obind hp
     obtain ⟨m21, hm22, hx23⟩ := idx_some hv20
     have hl26 := (List.getElem?_eq_some_iff.1 hx23).1
     obtain ⟨ad27, vs24, hA28, hr25, hq29⟩ := RdS.el h_l hx23
     obtain ⟨A30, c31, rfl, h32⟩ := dec_migrate_Move hr25
     refine ops_val (op := (.indexAddr 23 (.tmp 19) (.tmp 21))) (d := some 23) (v := .pointer (some (ad27.add (m21 * 10)))) ⟨by kernel_rfl⟩ (run_indexA hA28 Tryd.underlying23 (z := 10) (by kernel_rfl) rfl rfl hm22 hl26) ?_
     refine ops_mem (d := some 24) (an := [.v (vI x19.Do), .v (.string x19.Kind), .v (.string x19.Field), .v (.string x19.Name), .v (vI x19.Value), .v (.string x19.New.Name), .v (vI x19.New.Bits), .v (vI x19.New.Low), .v (.string x19.Whole.Name), .v (sl A30 x19.Whole.Fields c31)]) (evs := [.load (ad27.add (m21 * 10)) (vI x19.Do), .load ((ad27.add (m21 * 10)).add 1) (.string x19.Kind), .load ((ad27.add (m21 * 10)).add 2) (.string x19.Field), .load ((ad27.add (m21 * 10)).add 3) (.string x19.Name), .load ((ad27.add (m21 * 10)).add 4) (vI x19.Value), .load ((ad27.add (m21 * 10)).add 5) (.string x19.New.Name), .load ((ad27.add (m21 * 10)).add 6) (vI x19.New.Bits), .load ((ad27.add (m21 * 10)).add 7) (vI x19.New.Low), .load ((ad27.add (m21 * 10)).add 8) (.string x19.Whole.Name), .load ((ad27.add (m21 * 10)).add 9) (sl A30 x19.Whole.Fields c31)]) (v := .agg #[vI x19.Do, .string x19.Kind, .string x19.Field, .string x19.Name, vI x19.Value, .string x19.New.Name, vI x19.New.Bits, vI x19.New.Low, .string x19.Whole.Name, sl A30 x19.Whole.Fields c31]) ⟨by kernel_rfl⟩ (fun w_ hM hS => ⟨w_, ⟨hM.elcell 0 rfl hq29 0 rfl, hM.elcell 0 rfl hq29 1 rfl, hM.elcell 0 rfl hq29 2 rfl, hM.elcell 0 rfl hq29 3 rfl, hM.elcell 0 rfl hq29 4 rfl, hM.elcell 0 rfl hq29 5 rfl, hM.elcell 0 rfl hq29 6 rfl, hM.elcell 0 rfl hq29 7 rfl, hM.elcell 0 rfl hq29 8 rfl, hM.elcell 0 rfl hq29 9 rfl, rfl⟩, hM, trivial⟩) ?_
     refine ops_newB (d := some 8) [vI 0, .string ByteArray.empty, .string ByteArray.empty, .string ByteArray.empty, vI 0, .string ByteArray.empty, vI 0, vI 0, .string ByteArray.empty, .slice none 0 0] 37 (fun b33 => ⟨by kernel_rfl⟩) (fun w_ hM hS => trivial) (fun b33 => ?_)
     refine ops_store (an := []) (evs := [sr b33 0 (vI x19.Do), sr b33 1 (.string x19.Kind), sr b33 2 (.string x19.Field), sr b33 3 (.string x19.Name), sr b33 4 (vI x19.Value), sr b33 5 (.string x19.New.Name), sr b33 6 (vI x19.New.Bits), sr b33 7 (vI x19.New.Low), sr b33 8 (.string x19.Whole.Name), sr b33 9 (sl A30 x19.Whole.Fields c31)]) ⟨by kernel_rfl⟩ (fun w_ hM hS => let ⟨w', he, h'⟩ := hM.evs_stores [vI x19.Do, .string x19.Kind, .string x19.Field, .string x19.Name, vI x19.Value, .string x19.New.Name, vI x19.New.Bits, vI x19.New.Low, .string x19.Whole.Name, sl A30 x19.Whole.Fields c31] 0 rfl 0 (Nat.le_of_ble_eq_true rfl); ⟨w', he, h', trivial⟩) ?_
     refine ops_nil (fin_then (st_seq (st_region [oF 0, oF 1, oF 2, oF 3, oF 4, oF 5, oF 6, oF 7] (by rfl) ?_)))
     refine oQ [oF 0] [(26, sl A11 l13 c12), (8, vP b33 0), (19, sl A_l l c_l), (20, vI (l.length : Int)), (21, vI i15)] (by kernel_rfl) ?_
     refine ops_mem (d := some 27) (an := [.v (vI x19.Do), .v (.string x19.Kind), .v (.string x19.Field), .v (.string x19.Name), .v (vI x19.Value), .v (.string x19.New.Name), .v (vI x19.New.Bits), .v (vI x19.New.Low), .v (.string x19.Whole.Name), .v (sl A30 x19.Whole.Fields c31)]) (evs := [ld b33 0 (vI x19.Do), ld b33 1 (.string x19.Kind), ld b33 2 (.string x19.Field), ld b33 3 (.string x19.Name), ld b33 4 (vI x19.Value), ld b33 5 (.string x19.New.Name), ld b33 6 (vI x19.New.Bits), ld b33 7 (vI x19.New.Low), ld b33 8 (.string x19.Whole.Name), ld b33 9 (sl A30 x19.Whole.Fields c31)]) (v := .agg #[vI x19.Do, .string x19.Kind, .string x19.Field, .string x19.Name, vI x19.Value, .string x19.New.Name, vI x19.New.Bits, vI x19.New.Low, .string x19.Whole.Name, sl A30 x19.Whole.Fields c31]) ⟨by kernel_rfl⟩ (fun w_ hM hS => ⟨w_, ⟨hM.cell 0 rfl rfl, hM.cell 0 rfl rfl, hM.cell 0 rfl rfl, hM.cell 0 rfl rfl, hM.cell 0 rfl rfl, hM.cell 0 rfl rfl, hM.cell 0 rfl rfl, hM.cell 0 rfl rfl, hM.cell 0 rfl rfl, hM.cell 0 rfl rfl, rfl⟩, hM, trivial⟩) ?_
     obtain ⟨x34, x35, hv36, hp⟩ := obind2 hp
     refine ops_callI (σ := (Option Addr) × Nat × (List Value) × (Nat → Prop) × World) (d := some 28) (f := 13) (args := #[sl A11 l13 c12, .agg #[vI x19.Do, .string x19.Kind, .string x19.Field, .string x19.Name, vI x19.Value, .string x19.New.Name, vI x19.New.Bits, vI x19.New.Low, .string x19.Whole.Name, sl A30 x19.Whole.Fields c31]]) (v := (fun x_ => match x_ with | (A37, c38, y39, F40, W41) => .tuple #[sl A37 x34 c38, vI x35])) (I := (fun x_ => match x_ with | (A37, c38, y39, F40, W41) => (RepL R_api_Kind F40 W41 x34 y39) ∧ (Ext w0 F16 W17 F40 W41))) (M' := (fun x_ => match x_ with | (A37, c38, y39, F40, W41) => Mem w0 (ow A37 x34 c38 35 2 y39 :: .blk b33 [vI x19.Do, .string x19.Kind, .string x19.Field, .string x19.Name, vI x19.Value, .string x19.New.Name, vI x19.New.Bits, vI x19.New.Low, .string x19.Whole.Name, sl A30 x19.Whole.Fields c31] 37 :: Fz F40 W41 :: cs))) ⟨by kernel_rfl⟩ (fun w_ hM hS => (tourref3_KindsAfter_ok w0 w_ (.blk b33 [vI x19.Do, .string x19.Kind, .string x19.Field, .string x19.Name, vI x19.Value, .string x19.New.Name, vI x19.New.Bits, vI x19.New.Low, .string x19.Whole.Name, sl A30 x19.Whole.Fields c31] 37 :: cs) F16 W17 A11 c12 l13 x19.Do x19.Kind x19.Field x19.Name x19.Value x19.New.Name x19.New.Bits x19.New.Low x19.Whole.Name A30 c31 x19.Whole.Fields (hM.pick 2 [1, 0] (by kernel_rfl) (by decide) rfl) h14 h32 x34 x35 hv36).mono (by rintro e w' ⟨A37, c38, y39, F40, W41, ⟨h42, h43⟩, rfl, h'⟩; have h' : Mem w0 (ow A37 x34 c38 35 2 y39 :: .blk b33 [vI x19.Do, .string x19.Kind, .string x19.Field, .string x19.Name, vI x19.Value, .string x19.New.Name, vI x19.New.Bits, vI x19.New.Low, .string x19.Whole.Name, sl A30 x19.Whole.Fields c31] 37 :: Fz F40 W41 :: cs) w' := (h'.pick 3 [0, 2, 1] (by kernel_rfl) (by decide) rfl); exact ⟨(A37, c38, y39, F40, W41), ⟨h42, h43⟩, rfl, h', trivial⟩)) ?_
     rintro ⟨A37, c38, y39, F40, W41⟩ ⟨h42, h43⟩
     have h32 := h32.ext h43
     have h14 := h14.ext h43
     have h_l := h_l.ext h43
     refine oQ [oF 3, oF 4, oF 5, oF 6, oF 7] [(10, vI x35), (9, sl A37 x34 c38), (19, sl A_l l c_l), (20, vI (l.length : Int)), (21, vI i15)] (by kernel_rfl) ?_
     refine ops_nil (fin_then (st_seq (st_seq (st_region [oF 0, oF 1] (by rfl) ?_))))
     refine oQ [oF 0, oF 1] [(32, .bool (!(x35 == 0))), (10, vI x35), (9, sl A37 x34 c38), (19, sl A_l l c_l), (20, vI (l.length : Int)), (21, vI i15)] (by kernel_rfl) ?_
     refine ops_nil (fin_then ?_)
     refine st_if (b := !(x35 == 0)) rfl (fun hc44 => ?_) (fun hc44 => ?_)
     ·
      have hp := cnd_t hc44 hp
      refine st_seq (st_region [oF 0, oF 1, oF 2] (by rfl) ?_)
      refine oQ [oF 0, oF 1, oF 2] [(5, vI x35), (4, .slice none 0 0)] (by kernel_rfl) ?_
      refine ops_nil (fin_then (st_ret (fin_ret_then (fin_ret_block (fin_ret_then (fin_ret_then (fin_ret_block (fin_ret_then ?_))))))))
      obtain hq_ := Option.some.inj hp
      subst hq_
      obtain hq_ := hd2 _ rfl
      subst hq_
      have hp : some ([], x35) = some (l9003, i9005) := hk2
      have hq_ := Option.some.inj hp
      obtain ⟨hr0_, hq_⟩ := Prod.mk.inj hq_
      have hr1_ := hq_
      subst hr0_
      subst hr1_
      refine fin_ret [.tmp 4, .tmp 5] [.slice none 0 0, vI x35] rfl rfl (fun w_ hM => (.tmp rfl (.tmp rfl .nil))) (fun w_ hM => ?_)
      exact ⟨none, 0, F40, W41, ⟨(RdS.empty _), (hx2.trans h43)⟩, rfl, hM.pick 3 [2] (by kernel_rfl) (by decide) rfl⟩
     ·
      have hp := cnd_f hc44 hp
      refine st_skip (fin_then (st_region [oF 0, oF 1] (by rfl) ?_))
      refine oQ [oF 0, oF 1] [(0, sl A37 x34 c38), (19, sl A_l l c_l), (20, vI (l.length : Int)), (21, vI i15)] (by kernel_rfl) ?_
      refine ops_nil (fin_block (fin_then (st_region [oF 0, oF 1] (by rfl) ?_)))
      refine oQ [oF 0, oF 1] [(21, vI (IntKind.i64.wrap (i15 + 1))), (0, sl A37 x34 c38), (19, sl A_l l c_l), (20, vI (l.length : Int))] (by kernel_rfl) ?_
      refine ops_nil ?_
      refine fin_ex (σ := (Nat → Prop) × World) (I := fun x_ => Ext w0 F40 W41 x_.1 x_.2 ∧ RdS R_api_Kind x_.1 x_.2 A37 c38 x34) (M' := fun x_ => Mem w0 (.blk b33 [vI x19.Do, .string x19.Kind, .string x19.Field, .string x19.Name, vI x19.Value, .string x19.New.Name, vI x19.New.Bits, vI x19.New.Low, .string x19.Whole.Name, sl A30 x19.Whole.Fields c31] 37 :: Fz x_.1 x_.2 :: cs)) (fun w_ hM => ?_) ?_
      · obtain ⟨F_, h1_, h2_, h3_⟩ := (hM.pick 3 [0, 2, 1] (by kernel_rfl) (by decide) rfl : Mem w0 (ow A37 x34 c38 35 2 y39 :: Fz F40 W41 :: .blk b33 [vI x19.Do, .string x19.Kind, .string x19.Field, .string x19.Name, vI x19.Value, .string x19.New.Name, vI x19.New.Bits, vI x19.New.Low, .string x19.Whole.Name, sl A30 x19.Whole.Fields c31] 37 :: cs) w_).freeze (z := 2) h42 rfl rfl
        exact ⟨(F_, w_), ⟨h1_, h2_⟩, h3_.pick 2 [1, 0] (by kernel_rfl) (by decide) rfl⟩
      rintro ⟨F45, W46⟩ ⟨hx47, h48⟩
      have hx47 : Ext w0 F40 W41 F45 W46 := hx47
      have h48 : RdS R_api_Kind F45 W46 A37 c38 x34 := h48
      have h_l := h_l.ext hx47
      have h32 := h32.ext hx47
      refine fin_conv (l' := [(21, vI (IntKind.i64.wrap (i15 + 1))), (0, sl A37 x34 c38), (19, sl A_l l c_l), (20, vI (l.length : Int))]) (M' := Mem w0 (.blk b33 [vI x19.Do, .string x19.Kind, .string x19.Field, .string x19.Name, vI x19.Value, .string x19.New.Name, vI x19.New.Bits, vI x19.New.Low, .string x19.Whole.Name, sl A30 x19.Whole.Fields c31] 37 :: Fz F45 W46 :: cs)) rfl (fun _ h => h) ?_
      refine fin_conv (l' := [(21, vI (IntKind.i64.wrap (i15 + 1))), (0, sl A37 x34 c38), (19, sl A_l l c_l), (20, vI (l.length : Int))]) (M' := Mem w0 (.blk b33 [vI x19.Do, .string x19.Kind, .string x19.Field, .string x19.Name, vI x19.Value, .string x19.New.Name, vI x19.New.Bits, vI x19.New.Low, .string x19.Whole.Name, sl A30 x19.Whole.Fields c31] 37 :: Fz F45 W46 :: cs)) rfl (fun _ h => h) ?_
      exact fin_again (x34, IntKind.i64.wrap (i15 + 1)) (A37, c38, F45, W46) (Option.some.inj hp).symm ⟨h48, ((hx2.trans h43).trans hx47)⟩ (look_has ⟨rfl, rfl, rfl, rfl, trivial⟩) (fun w_ hM => hM.pick 2 [1] (by kernel_rfl) (by decide) rfl)
    ·
     have hp := cnd_f hc18 hp
     refine st_exit (fin_exit_then (fin_exit_then (fin_exit ?_)))
     obtain hq_ := Option.some.inj hp
     subst hq_
     obtain hq_ := hd2 _ rfl
     subst hq_
     have hp : tourref3_After_j1 l13 = some (l9003, i9005) := hk2
     exact fin_join HJ1 (A11, c12, l13, F16, W17) ⟨hp, h14, hx2⟩ (look_has ⟨rfl, trivial⟩) (fun w_ hM => hM)
theorem tourref3_Top_ok (w0 w : World) (cs : List Chunk) (F : Nat → Prop) (W : World) (f_0 : ByteArray) (f_1 : Int) (f_2 : Int) (hM0 : Mem w0 (Fz F W :: cs) w) (i9001 : Int) (hp : tourref3_Top f_0 f_1 f_2 = some i9001) : Calls Tryd.prog 49 #[.agg #[.string f_0, vI f_1, vI f_2]] w fun e w' => (True) ∧ e = .returned (vI i9001) ∧ Mem w0 (Fz F W :: cs) w' := by
 unfold tourref3_Top at hp
 refine sx_calls Tryd.func49 rfl (n := 16) (by kernel_rfl) (l := [(0, .agg #[.string f_0, vI f_1, vI f_2])]) rfl (by rfl) hM0 ?_
 refine st_seq (st_region [oF 0, oF 1] (by rfl) ?_)
 refine ops_newB (d := some 1) [.string f_0, vI f_1, vI f_2] 32 (fun b1 => ⟨by kernel_rfl⟩) (fun w_ hM hS => trivial) (fun b1 => ?_)
 refine oQ [oF 1] [(1, vP b1 0)] (by kernel_rfl) ?_
 refine ops_nil (fin_then (st_seq (st_region [oF 0] (by rfl) ?_)))
 refine oQ [oF 0] [(3, vI 1), (1, vP b1 0)] (by kernel_rfl) ?_
 refine ops_nil (fin_then ?_)
 refine st_join1 (σ := Int) (L := fun x_ => match x_ with | i2 => [(1, vP b1 0), (3, vI i2)]) (N := fun x_ => match x_ with | i2 => Mem w0 (.blk b1 [.string f_0, vI f_1, vI f_2] 32 :: Fz F W :: cs)) (I := fun x_ => match x_ with | i2 => ((tourref3_Top_j1 f_2) i2 = some i9001)) ?_ ?_
 ·
  rintro i2 hp
  unfold tourref3_Top_j1 at hp
  refine st_seq (st_region [oF 0, oF 1, oF 2, oF 3, oF 4, oF 5] (by rfl) ?_)
  refine oQ [oF 0] [(11, vP b1 2), (3, vI i2)] (by kernel_rfl) ?_
  refine ops_mem (d := some 12) (an := [.v (vI f_2)]) (evs := [ld b1 2 (vI f_2)]) (v := vI f_2) ⟨by kernel_rfl⟩ (fun w_ hM hS => ⟨w_, ⟨hM.cell 0 rfl rfl, rfl⟩, hM, trivial⟩) ?_
  refine oQ [oF 2, oF 3, oF 4, oF 5] [(2, vI (IntKind.i64.wrap (IntKind.i64.wrap (f_2 + i2) - 1)))] (by kernel_rfl) ?_
  refine ops_nil (fin_then (st_ret ?_))
  have hq_ := Option.some.inj hp
  have hr0_ := hq_
  subst hr0_
  refine fin_ret [.tmp 2] [vI (IntKind.i64.wrap (IntKind.i64.wrap (f_2 + i2) - 1))] rfl rfl (fun w_ hM => (.tmp rfl .nil)) (fun w_ hM => ?_)
  exact ⟨trivial, rfl, hM.pick 2 [1] (by kernel_rfl) (by decide) rfl⟩
 ·
  intro HJ1
  refine st_seq (st_seq (st_region [oF 0, oF 1, oF 2] (by rfl) ?_))
  refine oQ [oF 0] [(4, vP b1 1), (3, vI 1), (1, vP b1 0)] (by kernel_rfl) ?_
  refine ops_mem (d := some 5) (an := [.v (vI f_1)]) (evs := [ld b1 1 (vI f_1)]) (v := vI f_1) ⟨by kernel_rfl⟩ (fun w_ hM hS => ⟨w_, ⟨hM.cell 0 rfl rfl, rfl⟩, hM, trivial⟩) ?_
  refine oQ [oF 2] [(6, vI 0), (5, vI f_1), (3, vI 1), (1, vP b1 0)] (by kernel_rfl) ?_
  refine ops_nil (fin_then (st_block ?_))
  obtain ⟨r2, hl2, hk2⟩ := obind hp
  refine st_loopP (σ := Int × Int) (ρ := Int) (γ := Unit) hl2 () (fun s_ g_ => match s_, g_ with | (i3, i4), _ => [(1, vP b1 0), (3, vI i3), (5, vI f_1), (6, vI i4)]) (fun s_ g_ => match s_, g_ with | (i3, i4), _ => Mem w0 (.blk b1 [.string f_0, vI f_1, vI f_2] 32 :: Fz F W :: cs)) (fun s_ g_ => match s_, g_ with | (i3, i4), _ => True) trivial (look_has ⟨rfl, rfl, rfl, rfl, trivial⟩) (fun w_ hM => hM) ?_
  rintro ⟨i3, i4⟩ _ o2 - hs_ hd2
  have hp : (tourref3_Top_l2 f_1) i3 i4 = some o2 := hs_
  clear hs_
  unfold tourref3_Top_l2 at hp
  refine st_seq (st_region [oF 0] (by rfl) ?_)
  refine oQ [oF 0] [(7, .bool (decide (i4 < f_1))), (1, vP b1 0), (3, vI i3), (5, vI f_1), (6, vI i4)] (by kernel_rfl) ?_
  refine ops_nil (fin_then (st_seq ?_))
  refine st_if (b := decide (i4 < f_1)) rfl (fun hc5 => ?_) (fun hc5 => ?_)
  ·
   have hp := cnd_t hc5 hp
   refine st_skip (fin_then (st_seq (st_block (st_region [oF 0, oF 1, oF 2] (by rfl) ?_))))
   refine oQ [oF 0, oF 1, oF 2] [(3, vI (IntKind.i64.wrap (i3 * 2))), (1, vP b1 0), (5, vI f_1), (6, vI i4)] (by kernel_rfl) ?_
   refine ops_nil (fin_block (fin_then (st_region [oF 0, oF 1] (by rfl) ?_)))
   refine oQ [oF 0, oF 1] [(6, vI (IntKind.i64.wrap (i4 + 1))), (3, vI (IntKind.i64.wrap (i3 * 2))), (1, vP b1 0), (5, vI f_1)] (by kernel_rfl) ?_
   refine ops_nil ?_
   exact fin_again (IntKind.i64.wrap (i3 * 2), IntKind.i64.wrap (i4 + 1)) () (Option.some.inj hp).symm trivial (look_has ⟨rfl, rfl, rfl, rfl, trivial⟩) (fun w_ hM => hM)
  ·
   have hp := cnd_f hc5 hp
   refine st_exit (fin_exit_then (fin_exit_then (fin_exit ?_)))
   obtain hq_ := Option.some.inj hp
   subst hq_
   obtain hq_ := hd2 _ rfl
   subst hq_
   have hp : (tourref3_Top_j1 f_2) i3 = some i9001 := hk2
   exact fin_join HJ1 i3 hp (look_has ⟨rfl, rfl, trivial⟩) (fun w_ hM => hM)
theorem tourref3_Nearest_ok (w0 w : World) (cs : List Chunk) (F : Nat → Prop) (W : World) (f_0 : ByteArray) (f_1 : Int) (f_2 : Int) (v : Int) (hM0 : Mem w0 (Fz F W :: cs) w) (i9001 : Int) (hp : tourref3_Nearest f_0 f_1 f_2 v = some i9001) : Calls Tryd.prog 48 #[.agg #[.string f_0, vI f_1, vI f_2], vI v] w fun e w' => (True) ∧ e = .returned (vI i9001) ∧ Mem w0 (Fz F W :: cs) w' := by
 unfold tourref3_Nearest at hp
 refine sx_calls Tryd.func48 rfl (n := 24) (by kernel_rfl) (l := [(0, .agg #[.string f_0, vI f_1, vI f_2]), (1, vI v)]) rfl (by rfl) hM0 ?_
 refine st_seq (st_region [oF 0, oF 1] (by rfl) ?_)
 refine ops_newB (d := some 2) [.string f_0, vI f_1, vI f_2] 32 (fun b1 => ⟨by kernel_rfl⟩) (fun w_ hM hS => trivial) (fun b1 => ?_)
 refine oQ [oF 1] [(2, vP b1 0), (1, vI v)] (by kernel_rfl) ?_
 refine ops_nil (fin_then (st_seq (st_block (st_seq (st_region [oF 0, oF 1, oF 2, oF 3] (by rfl) ?_)))))
 refine ops_mem (d := some 6) (an := [.v (.string f_0), .v (vI f_1), .v (vI f_2)]) (evs := [ld b1 0 (.string f_0), ld b1 1 (vI f_1), ld b1 2 (vI f_2)]) (v := .agg #[.string f_0, vI f_1, vI f_2]) ⟨by kernel_rfl⟩ (fun w_ hM hS => ⟨w_, ⟨hM.cell 0 rfl rfl, hM.cell 0 rfl rfl, hM.cell 0 rfl rfl, rfl⟩, hM, trivial⟩) ?_
 obtain ⟨x2, hv3, hp⟩ := obind hp
 refine ops_callI (σ := Unit) (d := some 7) (f := 102) (args := #[.agg #[.string f_0, vI f_1, vI f_2]]) (v := (fun _ => .bool x2)) (I := (fun _ => True)) (M' := (fun _ => Mem w0 (.blk b1 [.string f_0, vI f_1, vI f_2] 32 :: Fz F W :: cs))) ⟨by kernel_rfl⟩ (fun w_ hM hS => (tourref3_FieldOK_ok w0 w_ (.blk b1 [.string f_0, vI f_1, vI f_2] 32 :: cs) F W f_0 f_1 f_2 (hM.pick 2 [1, 0] (by kernel_rfl) (by decide) rfl)  x2 hv3).mono (by rintro e w' ⟨-, rfl, h'⟩; have h' : Mem w0 (.blk b1 [.string f_0, vI f_1, vI f_2] 32 :: Fz F W :: cs) w' := (h'.pick 2 [1, 0] (by kernel_rfl) (by decide) rfl); exact ⟨(), trivial, rfl, h', trivial⟩)) ?_
 rintro _ -
 refine oQ [oF 2, oF 3] [(5, .bool (!x2)), (2, vP b1 0), (1, vI v)] (by kernel_rfl) ?_
 refine ops_nil (fin_then ?_)
 refine st_if (b := !x2) rfl (fun hc4 => ?_) (fun hc4 => ?_)
 ·
  have hp := cnd_t hc4 hp
  refine st_seq (st_region [oF 0] (by rfl) ?_)
  refine oQ [oF 0] [(4, vI 0)] (by kernel_rfl) ?_
  refine ops_nil (fin_then (st_ret (fin_ret_block (fin_ret_then ?_))))
  have hq_ := Option.some.inj hp
  have hr0_ := hq_
  subst hr0_
  refine fin_ret [.tmp 4] [vI 0] rfl rfl (fun w_ hM => (.tmp rfl .nil)) (fun w_ hM => ?_)
  exact ⟨trivial, rfl, hM.pick 2 [1] (by kernel_rfl) (by decide) rfl⟩
 ·
  have hp := cnd_f hc4 hp
  refine st_seq (st_region [oF 0, oF 1, oF 2, oF 3, oF 4] (by rfl) ?_)
  refine oQ [oF 0, oF 1] [(11, vP b1 2), (10, vI v), (2, vP b1 0), (1, vI v)] (by kernel_rfl) ?_
  refine ops_mem (d := some 12) (an := [.v (vI f_2)]) (evs := [ld b1 2 (vI f_2)]) (v := vI f_2) ⟨by kernel_rfl⟩ (fun w_ hM hS => ⟨w_, ⟨hM.cell 0 rfl rfl, rfl⟩, hM, trivial⟩) ?_
  refine oQ [oF 3, oF 4] [(9, .bool (decide (v < f_2))), (2, vP b1 0), (1, vI v)] (by kernel_rfl) ?_
  refine ops_nil (fin_then ?_)
  refine st_if (b := decide (v < f_2)) rfl (fun hc5 => ?_) (fun hc5 => ?_)
  ·
   have hp := cnd_t hc5 hp
   refine st_seq (st_region [oF 0, oF 1, oF 2] (by rfl) ?_)
   refine oQ [oF 0] [(14, vP b1 2)] (by kernel_rfl) ?_
   refine ops_mem (d := some 15) (an := [.v (vI f_2)]) (evs := [ld b1 2 (vI f_2)]) (v := vI f_2) ⟨by kernel_rfl⟩ (fun w_ hM hS => ⟨w_, ⟨hM.cell 0 rfl rfl, rfl⟩, hM, trivial⟩) ?_
   refine oQ [oF 2] [(4, vI f_2)] (by kernel_rfl) ?_
   refine ops_nil (fin_then (st_ret (fin_ret_block (fin_ret_then ?_))))
   have hq_ := Option.some.inj hp
   have hr0_ := hq_
   subst hr0_
   refine fin_ret [.tmp 4] [vI f_2] rfl rfl (fun w_ hM => (.tmp rfl .nil)) (fun w_ hM => ?_)
   exact ⟨trivial, rfl, hM.pick 2 [1] (by kernel_rfl) (by decide) rfl⟩
  ·
   have hp := cnd_f hc5 hp
   refine st_seq (st_region [oF 0, oF 1, oF 2, oF 3, oF 4] (by rfl) ?_)
   refine oQ [oF 0] [(17, vI v), (2, vP b1 0), (1, vI v)] (by kernel_rfl) ?_
   refine ops_mem (d := some 18) (an := [.v (.string f_0), .v (vI f_1), .v (vI f_2)]) (evs := [ld b1 0 (.string f_0), ld b1 1 (vI f_1), ld b1 2 (vI f_2)]) (v := .agg #[.string f_0, vI f_1, vI f_2]) ⟨by kernel_rfl⟩ (fun w_ hM hS => ⟨w_, ⟨hM.cell 0 rfl rfl, hM.cell 0 rfl rfl, hM.cell 0 rfl rfl, rfl⟩, hM, trivial⟩) ?_
   obtain ⟨x6, hv7, hp⟩ := obind hp
   refine ops_callI (σ := Unit) (d := some 19) (f := 49) (args := #[.agg #[.string f_0, vI f_1, vI f_2]]) (v := (fun _ => vI x6)) (I := (fun _ => True)) (M' := (fun _ => Mem w0 (.blk b1 [.string f_0, vI f_1, vI f_2] 32 :: Fz F W :: cs))) ⟨by kernel_rfl⟩ (fun w_ hM hS => (tourref3_Top_ok w0 w_ (.blk b1 [.string f_0, vI f_1, vI f_2] 32 :: cs) F W f_0 f_1 f_2 (hM.pick 2 [1, 0] (by kernel_rfl) (by decide) rfl)  x6 hv7).mono (by rintro e w' ⟨-, rfl, h'⟩; have h' : Mem w0 (.blk b1 [.string f_0, vI f_1, vI f_2] 32 :: Fz F W :: cs) w' := (h'.pick 2 [1, 0] (by kernel_rfl) (by decide) rfl); exact ⟨(), trivial, rfl, h', trivial⟩)) ?_
   rintro _ -
   refine oQ [oF 3, oF 4] [(16, .bool (decide (x6 < v))), (2, vP b1 0), (1, vI v)] (by kernel_rfl) ?_
   refine ops_nil (fin_then ?_)
   refine st_if (b := decide (x6 < v)) rfl (fun hc8 => ?_) (fun hc8 => ?_)
   ·
    have hp := cnd_t hc8 hp
    refine st_seq (st_region [oF 0, oF 1, oF 2] (by rfl) ?_)
    refine ops_mem (d := some 21) (an := [.v (.string f_0), .v (vI f_1), .v (vI f_2)]) (evs := [ld b1 0 (.string f_0), ld b1 1 (vI f_1), ld b1 2 (vI f_2)]) (v := .agg #[.string f_0, vI f_1, vI f_2]) ⟨by kernel_rfl⟩ (fun w_ hM hS => ⟨w_, ⟨hM.cell 0 rfl rfl, hM.cell 0 rfl rfl, hM.cell 0 rfl rfl, rfl⟩, hM, trivial⟩) ?_
    obtain ⟨x9, hv10, hp⟩ := obind hp
    refine ops_callI (σ := Unit) (d := some 22) (f := 49) (args := #[.agg #[.string f_0, vI f_1, vI f_2]]) (v := (fun _ => vI x9)) (I := (fun _ => True)) (M' := (fun _ => Mem w0 (.blk b1 [.string f_0, vI f_1, vI f_2] 32 :: Fz F W :: cs))) ⟨by kernel_rfl⟩ (fun w_ hM hS => (tourref3_Top_ok w0 w_ (.blk b1 [.string f_0, vI f_1, vI f_2] 32 :: cs) F W f_0 f_1 f_2 (hM.pick 2 [1, 0] (by kernel_rfl) (by decide) rfl)  x9 hv10).mono (by rintro e w' ⟨-, rfl, h'⟩; have h' : Mem w0 (.blk b1 [.string f_0, vI f_1, vI f_2] 32 :: Fz F W :: cs) w' := (h'.pick 2 [1, 0] (by kernel_rfl) (by decide) rfl); exact ⟨(), trivial, rfl, h', trivial⟩)) ?_
    rintro _ -
    refine oQ [oF 2] [(4, vI x9)] (by kernel_rfl) ?_
    refine ops_nil (fin_then (st_ret (fin_ret_block (fin_ret_then ?_))))
    have hq_ := Option.some.inj hp
    have hr0_ := hq_
    subst hr0_
    refine fin_ret [.tmp 4] [vI x9] rfl rfl (fun w_ hM => (.tmp rfl .nil)) (fun w_ hM => ?_)
    exact ⟨trivial, rfl, hM.pick 2 [1] (by kernel_rfl) (by decide) rfl⟩
   ·
    have hp := cnd_f hc8 hp
    refine st_skip (fin_block (fin_then (st_seq (st_region [oF 0, oF 1] (by rfl) ?_))))
    refine oQ [oF 0, oF 1] [(4, vI v)] (by kernel_rfl) ?_
    refine ops_nil (fin_then (st_ret ?_))
    have hq_ := Option.some.inj hp
    have hr0_ := hq_
    subst hr0_
    refine fin_ret [.tmp 4] [vI v] rfl rfl (fun w_ hM => (.tmp rfl .nil)) (fun w_ hM => ?_)
    exact ⟨trivial, rfl, hM.pick 2 [1] (by kernel_rfl) (by decide) rfl⟩
end Go.Proofs.YtnnhijlgohlaeaaDoor.A
