/- The Go functions come to what the plain functions tell. No condition. -/
import Derived.Test.YtnnhijlgohlaeaaDoorProg
import Derived.Test.YtnnhijlgohlaeaaDoorFnA
import Derived.Test.YtnnhijlgohlaeaaDoorWkA2
import Derived.Test.YtnnhijlgohlaeaaDoorWkA5
import Derived.Test.YtnnhijlgohlaeaaDoorWkA6
import Derived.Test.YtnnhijlgohlaeaaDoorExOwnM
namespace Go.Proofs.YtnnhijlgohlaeaaDoor.A
open Go Go.RowKit Go.Proofs.YtnnhijlgohlaeaaDoor.Sx
set_option linter.unusedVariables false
set_option maxHeartbeats 4000000
set_option maxRecDepth 100000
theorem migrate_Back_ok (w0 w : World) (cs : List Chunk) (F : Nat → Prop) (W : World) (A_k : Option Addr) (c_k : Nat) (k : List api_Kind) (A_l : Option Addr) (c_l : Nat) (l : List migrate_Move) (hM0 : Mem w0 (Fz F W :: cs) w) (h_k : RdS R_api_Kind F W A_k c_k k) (h_l : RdS R_migrate_Move F W A_l c_l l) (l9003 : List migrate_Move) (i9006 : Int) (hp : migrate_Back k l = some (l9003, i9006)) : Calls Tryd.prog 8 #[sl A_k k c_k, sl A_l l c_l] w fun e w' => ∃ (A9001 : Option Addr), ∃ (c9002 : Nat), ∃ (y9004 : List Value), ∃ (F9007 : Nat → Prop), ∃ (W9008 : World), ((RepL R_migrate_Move F9007 W9008 l9003 y9004) ∧ (Ext w0 F W F9007 W9008)) ∧ e = .returned (.tuple #[sl A9001 l9003 c9002, vI i9006]) ∧ Mem w0 (ow A9001 l9003 c9002 37 10 y9004 :: Fz F9007 W9008 :: cs) w' := by
 unfold migrate_Back at hp
 refine sx_calls Tryd.func8 rfl (n := 50) (by kernel_rfl) (l := [(0, sl A_k k c_k), (1, sl A_l l c_l)]) rfl (by rfl) hM0 ?_
 refine st_seq (st_region [oF 0, oF 1] (by rfl) ?_)
 refine oQ [oF 0, oF 1] [(0, sl A_k k c_k), (1, sl A_l l c_l)] (by kernel_rfl) ?_
 refine ops_nil (fin_then (st_seq (st_seq (st_region [oF 0, oF 1, oF 2, oF 3, oF 4, oF 5, oF 6, oF 7] (by rfl) ?_))))
 refine oQ [oF 0, oF 1] [(15, sl A_l l c_l), (14, sl A_k k c_k), (0, sl A_k k c_k), (1, sl A_l l c_l)] (by kernel_rfl) ?_
 obtain ⟨x1, x2, hv3, hp⟩ := obind2 hp
 refine ops_callI (σ := (Option Addr) × Nat × (List Value) × Chunk × (Nat → Prop) × World) (d := some 16) (f := 16) (args := #[sl A_k k c_k, sl A_l l c_l]) (v := (fun x_ => match x_ with | (A4, c5, y6, K7, F8, W9) => .tuple #[sl A4 x1 c5, vI x2])) (I := (fun x_ => match x_ with | (A4, c5, y6, K7, F8, W9) => (OwL O_api_Kind_rw F8 W9 x1 y6 K7) ∧ (Ext w0 F W F8 W9))) (M' := (fun x_ => match x_ with | (A4, c5, y6, K7, F8, W9) => Mem w0 (ow A4 x1 c5 35 2 y6 :: K7 :: Fz F8 W9 :: cs))) ⟨by kernel_rfl⟩ (fun w_ hM hS => (migrate_Kinds_ok w0 w_ (cs) F W A_k c_k k A_l c_l l hM h_k h_l x1 x2 hv3).mono (by rintro e w' ⟨A4, c5, y6, K7, F8, W9, ⟨h10, h11⟩, rfl, h'⟩; have h' : Mem w0 (ow A4 x1 c5 35 2 y6 :: K7 :: Fz F8 W9 :: cs) w' := h'; exact ⟨(A4, c5, y6, K7, F8, W9), ⟨h10, h11⟩, rfl, h', trivial⟩)) ?_
 rintro ⟨A4, c5, y6, K7, F8, W9⟩ ⟨h10, h11⟩
 have h_l := h_l.ext h11
 have h_k := h_k.ext h11
 refine oQ [oF 3, oF 4, oF 5, oF 6, oF 7] [(7, vI x2), (0, sl A_k k c_k), (1, sl A_l l c_l)] (by kernel_rfl) ?_
 refine ops_nil (fin_then (st_seq (st_region [oF 0, oF 1] (by rfl) ?_)))
 refine oQ [oF 0, oF 1] [(20, .bool (!(x2 == 0))), (7, vI x2), (0, sl A_k k c_k), (1, sl A_l l c_l)] (by kernel_rfl) ?_
 refine ops_nil (fin_then ?_)
 refine st_if (b := !(x2 == 0)) rfl (fun hc12 => ?_) (fun hc12 => ?_)
 ·
  have hp := cnd_t hc12 hp
  refine st_seq (st_region [oF 0, oF 1, oF 2] (by rfl) ?_)
  refine oQ [oF 0, oF 1, oF 2] [(5, vI x2), (4, .slice none 0 0)] (by kernel_rfl) ?_
  refine ops_nil (fin_then (st_ret (fin_ret_then ?_)))
  refine fin_conv (l' := [(5, vI x2), (4, .slice none 0 0)]) (M' := Mem w0 (ow none ([] : List migrate_Move) 0 37 10 [] :: ow A4 x1 c5 35 2 y6 :: K7 :: Fz F8 W9 :: cs)) rfl (fun w_ h => h.onil none 37 10) ?_
  refine fin_conv (l' := [(5, vI x2), (4, sl none ([] : List migrate_Move) 0)]) (M' := Mem w0 (ow none ([] : List migrate_Move) 0 37 10 [] :: ow A4 x1 c5 35 2 y6 :: K7 :: Fz F8 W9 :: cs)) rfl (fun _ h => h) ?_
  have hq_ := Option.some.inj hp
  obtain ⟨hr0_, hq_⟩ := Prod.mk.inj hq_
  have hr1_ := hq_
  subst hr0_
  subst hr1_
  refine fin_ret [.tmp 4, .tmp 5] [sl none ([] : List migrate_Move) 0, vI x2] rfl rfl (fun w_ hM => (.tmp rfl (.tmp rfl .nil))) (fun w_ hM => ?_)
  exact ⟨none, 0, [], F8, W9, ⟨(RepL.nil (R := R_migrate_Move)), h11⟩, rfl, hM.pick 4 [0, 3] (by kernel_rfl) (by decide) rfl⟩
 ·
  have hp := cnd_f hc12 hp
  refine st_skip (fin_then (st_seq (st_region [oF 0] (by rfl) ?_)))
  refine oQ [oF 0] [(8, .slice none 0 0), (0, sl A_k k c_k), (1, sl A_l l c_l)] (by kernel_rfl) ?_
  refine ops_nil (fin_then ?_)
  refine st_join1 (σ := (Option Addr) × Nat × (List migrate_Move) × (List Value) × (Nat → Prop) × World) (L := fun x_ => match x_ with | (A13, c14, l15, y16, F18, W19) => [(8, sl A13 l15 c14)]) (N := fun x_ => match x_ with | (A13, c14, l15, y16, F18, W19) => Mem w0 (ow A13 l15 c14 37 10 y16 :: Fz F18 W19 :: cs)) (I := fun x_ => match x_ with | (A13, c14, l15, y16, F18, W19) => (migrate_Back_j1 l15 = some (l9003, i9006)) ∧ (RepL R_migrate_Move F18 W19 l15 y16) ∧ (Ext w0 F8 W9 F18 W19)) ?_ ?_
  ·
   rintro ⟨A13, c14, l15, y16, F18, W19⟩ ⟨hp, h17, hx1⟩
   unfold migrate_Back_j1 at hp
   refine st_seq (st_region [oF 0, oF 1] (by rfl) ?_)
   refine oQ [oF 0] [(47, sl A13 l15 c14), (8, sl A13 l15 c14)] (by kernel_rfl) ?_
   obtain ⟨x20, hv21, hp⟩ := obind hp
   refine ops_callI (σ := (List Value)) (d := some 48) (f := 45) (args := #[sl A13 l15 c14]) (v := (fun x_ => match x_ with | y22 => .tuple #[])) (I := (fun x_ => match x_ with | y22 => (RepL R_migrate_Move F18 W19 x20 y22) ∧ (x20.length = l15.length))) (M' := (fun x_ => match x_ with | y22 => Mem w0 (ow A13 x20 c14 37 10 y22 :: Fz F18 W19 :: cs))) ⟨by kernel_rfl⟩ (fun w_ hM hS => (slices_Reverse_migrate_Move_migrate_Move_ok w0 w_ (cs) F18 W19 A13 c14 l15 y16 hM h17 x20 hv21).mono (by rintro e w' ⟨y22, ⟨h23, h24⟩, rfl, h'⟩; have h' : Mem w0 (ow A13 x20 c14 37 10 y22 :: Fz F18 W19 :: cs) w' := h'; exact ⟨y22, ⟨h23, h24⟩, rfl, h', trivial⟩)) ?_
   rintro y22 ⟨h23, h24⟩
   refine ops_conv (l' := [(48, .tuple #[]), (47, sl A13 x20 c14), (8, sl A13 x20 c14)]) (M' := Mem w0 (ow A13 x20 c14 37 10 y22 :: Fz F18 W19 :: cs)) (by first | rfl | ((try dsimp only [sl, ow]); rw [h24]; done) | ((try dsimp only [sl, ow]); rw [h24]; rfl)) (fun _ h => h) ?_
   refine ops_nil (fin_then (st_seq (st_region [oF 0, oF 1, oF 2] (by rfl) ?_)))
   refine oQ [oF 0, oF 1, oF 2] [(5, vI 0), (4, sl A13 x20 c14)] (by kernel_rfl) ?_
   refine ops_nil (fin_then (st_ret ?_))
   have hq_ := Option.some.inj hp
   obtain ⟨hr0_, hq_⟩ := Prod.mk.inj hq_
   have hr1_ := hq_
   subst hr0_
   subst hr1_
   refine fin_ret [.tmp 4, .tmp 5] [sl A13 x20 c14, vI 0] rfl rfl (fun w_ hM => (.tmp rfl (.tmp rfl .nil))) (fun w_ hM => ?_)
   exact ⟨A13, c14, y22, F18, W19, ⟨h23, (h11.trans hx1)⟩, rfl, hM⟩
  ·
   intro HJ1
   refine st_seq (st_seq (st_region [oF 0, oF 1, oF 2] (by rfl) ?_))
   refine oQ [oF 0, oF 1, oF 2] [(24, vI 0), (23, vI (l.length : Int)), (22, sl A_l l c_l), (8, .slice none 0 0), (0, sl A_k k c_k)] (by kernel_rfl) ?_
   refine ops_nil (fin_then (st_block ?_))
   refine st_conv (l' := [(24, vI 0), (23, vI (l.length : Int)), (22, sl A_l l c_l), (8, .slice none 0 0), (0, sl A_k k c_k)]) (M' := Mem w0 (ow none ([] : List migrate_Move) 0 37 10 [] :: ow A4 x1 c5 35 2 y6 :: K7 :: Fz F8 W9 :: cs)) rfl (fun w_ h => h.onil none 37 10) ?_
   obtain ⟨r2, hl2, hk2⟩ := obind hp
   refine st_loopP (σ := (List api_Kind) × (List migrate_Move) × Int) (ρ := (((List migrate_Move) × Int) ⊕ (List migrate_Move))) (γ := (Option Addr) × Nat × (Option Addr) × Nat × (List Value) × (Nat → Prop) × World) hl2 (A_k, c_k, none, 0, [], F8, W9) (fun s_ g_ => match s_, g_ with | (l27, l31, i34), (A25, c26, A29, c30, y32, F35, W36) => [(0, sl A25 l27 c26), (8, sl A29 l31 c30), (22, sl A_l l c_l), (23, vI (l.length : Int)), (24, vI i34)]) (fun s_ g_ => match s_, g_ with | (l27, l31, i34), (A25, c26, A29, c30, y32, F35, W36) => Mem w0 (ow A29 l31 c30 37 10 y32 :: Fz F35 W36 :: cs)) (fun s_ g_ => match s_, g_ with | (l27, l31, i34), (A25, c26, A29, c30, y32, F35, W36) => (RdS R_api_Kind F35 W36 A25 c26 l27) ∧ (RepL R_migrate_Move F35 W36 l31 y32) ∧ (Ext w0 F8 W9 F35 W36)) ⟨h_k, (RepL.nil (R := R_migrate_Move)), (Ext.refl _ _ _)⟩ (look_has ⟨rfl, rfl, rfl, rfl, rfl, trivial⟩) (fun w_ hM => hM.pick 4 [0, 3] (by kernel_rfl) (by decide) rfl) ?_
   rintro ⟨l27, l31, i34⟩ ⟨A25, c26, A29, c30, y32, F35, W36⟩ o2 ⟨h28, h33, hx2⟩ hs_ hd2
   have hp : (migrate_Back_l2 l) l27 l31 i34 = some o2 := hs_
   clear hs_
   unfold migrate_Back_l2 at hp
   have h_l := h_l.ext hx2
   refine st_seq (st_region [oF 0] (by rfl) ?_)
   refine oQ [oF 0] [(25, .bool (decide (i34 < (l.length : Int)))), (0, sl A25 l27 c26), (8, sl A29 l31 c30), (22, sl A_l l c_l), (23, vI (l.length : Int)), (24, vI i34)] (by kernel_rfl) ?_
   refine ops_nil (fin_then (st_seq ?_))
   refine st_if (b := decide (i34 < (l.length : Int))) rfl (fun hc37 => ?_) (fun hc37 => ?_)
   ·
    have hp := cnd_t hc37 hp
    refine st_skip (fin_then (st_seq (st_block (st_seq (st_region [oF 0, oF 1, oF 2, oF 3] (by rfl) ?_)))))
    obtain ⟨x38, hv39, hp⟩ := obind hp
    obtain ⟨m40, hm41, hx42⟩ := idx_some hv39
    have hl45 := (List.getElem?_eq_some_iff.1 hx42).1
    obtain ⟨ad46, vs43, hA47, hr44, hq48⟩ := RdS.el h_l hx42
    obtain ⟨A49, c50, rfl, h51⟩ := dec_migrate_Move hr44
    refine ops_val (op := (.indexAddr 23 (.tmp 22) (.tmp 24))) (d := some 26) (v := .pointer (some (ad46.add (m40 * 10)))) ⟨by kernel_rfl⟩ (run_indexA hA47 Tryd.underlying23 (z := 10) (by kernel_rfl) rfl rfl hm41 hl45) ?_
    refine ops_mem (d := some 27) (an := [.v (vI x38.Do), .v (.string x38.Kind), .v (.string x38.Field), .v (.string x38.Name), .v (vI x38.Value), .v (.string x38.New.Name), .v (vI x38.New.Bits), .v (vI x38.New.Low), .v (.string x38.Whole.Name), .v (sl A49 x38.Whole.Fields c50)]) (evs := [.load (ad46.add (m40 * 10)) (vI x38.Do), .load ((ad46.add (m40 * 10)).add 1) (.string x38.Kind), .load ((ad46.add (m40 * 10)).add 2) (.string x38.Field), .load ((ad46.add (m40 * 10)).add 3) (.string x38.Name), .load ((ad46.add (m40 * 10)).add 4) (vI x38.Value), .load ((ad46.add (m40 * 10)).add 5) (.string x38.New.Name), .load ((ad46.add (m40 * 10)).add 6) (vI x38.New.Bits), .load ((ad46.add (m40 * 10)).add 7) (vI x38.New.Low), .load ((ad46.add (m40 * 10)).add 8) (.string x38.Whole.Name), .load ((ad46.add (m40 * 10)).add 9) (sl A49 x38.Whole.Fields c50)]) (v := .agg #[vI x38.Do, .string x38.Kind, .string x38.Field, .string x38.Name, vI x38.Value, .string x38.New.Name, vI x38.New.Bits, vI x38.New.Low, .string x38.Whole.Name, sl A49 x38.Whole.Fields c50]) ⟨by kernel_rfl⟩ (fun w_ hM hS => ⟨w_, ⟨hM.elcell 1 rfl hq48 0 rfl, hM.elcell 1 rfl hq48 1 rfl, hM.elcell 1 rfl hq48 2 rfl, hM.elcell 1 rfl hq48 3 rfl, hM.elcell 1 rfl hq48 4 rfl, hM.elcell 1 rfl hq48 5 rfl, hM.elcell 1 rfl hq48 6 rfl, hM.elcell 1 rfl hq48 7 rfl, hM.elcell 1 rfl hq48 8 rfl, hM.elcell 1 rfl hq48 9 rfl, rfl⟩, hM, trivial⟩) ?_
    refine ops_newB (d := some 10) [vI 0, .string ByteArray.empty, .string ByteArray.empty, .string ByteArray.empty, vI 0, .string ByteArray.empty, vI 0, vI 0, .string ByteArray.empty, .slice none 0 0] 37 (fun b52 => ⟨by kernel_rfl⟩) (fun w_ hM hS => trivial) (fun b52 => ?_)
    refine ops_store (an := []) (evs := [sr b52 0 (vI x38.Do), sr b52 1 (.string x38.Kind), sr b52 2 (.string x38.Field), sr b52 3 (.string x38.Name), sr b52 4 (vI x38.Value), sr b52 5 (.string x38.New.Name), sr b52 6 (vI x38.New.Bits), sr b52 7 (vI x38.New.Low), sr b52 8 (.string x38.Whole.Name), sr b52 9 (sl A49 x38.Whole.Fields c50)]) ⟨by kernel_rfl⟩ (fun w_ hM hS => let ⟨w', he, h'⟩ := hM.evs_stores [vI x38.Do, .string x38.Kind, .string x38.Field, .string x38.Name, vI x38.Value, .string x38.New.Name, vI x38.New.Bits, vI x38.New.Low, .string x38.Whole.Name, sl A49 x38.Whole.Fields c50] 0 rfl 0 (Nat.le_of_ble_eq_true rfl); ⟨w', he, h', trivial⟩) ?_
    refine ops_nil (fin_then (st_seq (st_region [oF 0, oF 1, oF 2, oF 3, oF 4, oF 5, oF 6, oF 7, oF 8] (by rfl) ?_)))
    refine oQ [oF 0] [(29, sl A25 l27 c26), (10, vP b52 0), (0, sl A25 l27 c26), (8, sl A29 l31 c30), (22, sl A_l l c_l), (23, vI (l.length : Int)), (24, vI i34)] (by kernel_rfl) ?_
    refine ops_mem (d := some 30) (an := [.v (vI x38.Do), .v (.string x38.Kind), .v (.string x38.Field), .v (.string x38.Name), .v (vI x38.Value), .v (.string x38.New.Name), .v (vI x38.New.Bits), .v (vI x38.New.Low), .v (.string x38.Whole.Name), .v (sl A49 x38.Whole.Fields c50)]) (evs := [ld b52 0 (vI x38.Do), ld b52 1 (.string x38.Kind), ld b52 2 (.string x38.Field), ld b52 3 (.string x38.Name), ld b52 4 (vI x38.Value), ld b52 5 (.string x38.New.Name), ld b52 6 (vI x38.New.Bits), ld b52 7 (vI x38.New.Low), ld b52 8 (.string x38.Whole.Name), ld b52 9 (sl A49 x38.Whole.Fields c50)]) (v := .agg #[vI x38.Do, .string x38.Kind, .string x38.Field, .string x38.Name, vI x38.Value, .string x38.New.Name, vI x38.New.Bits, vI x38.New.Low, .string x38.Whole.Name, sl A49 x38.Whole.Fields c50]) ⟨by kernel_rfl⟩ (fun w_ hM hS => ⟨w_, ⟨hM.cell 0 rfl rfl, hM.cell 0 rfl rfl, hM.cell 0 rfl rfl, hM.cell 0 rfl rfl, hM.cell 0 rfl rfl, hM.cell 0 rfl rfl, hM.cell 0 rfl rfl, hM.cell 0 rfl rfl, hM.cell 0 rfl rfl, hM.cell 0 rfl rfl, rfl⟩, hM, trivial⟩) ?_
    obtain ⟨x53, x54, x55, x56, x57, x58, x59, x60, hv61, hp⟩ := obind8 hp
    refine ops_callI (σ := (Option Addr) × Nat × (List Value)) (d := some 31) (f := 43) (args := #[sl A25 l27 c26, .agg #[vI x38.Do, .string x38.Kind, .string x38.Field, .string x38.Name, vI x38.Value, .string x38.New.Name, vI x38.New.Bits, vI x38.New.Low, .string x38.Whole.Name, sl A49 x38.Whole.Fields c50]]) (v := (fun x_ => match x_ with | (A62, c63, y64) => .tuple #[.agg #[vI x53, .string x54, .string x55, .string x56, vI 0, .string ByteArray.empty, vI x57, vI x58, .string ByteArray.empty, sl A62 x59 c63], .bool x60])) (I := (fun x_ => match x_ with | (A62, c63, y64) => (RepL R_api_Field F35 W36 x59 y64))) (M' := (fun x_ => match x_ with | (A62, c63, y64) => Mem w0 (ow A62 x59 c63 32 3 y64 :: .blk b52 [vI x38.Do, .string x38.Kind, .string x38.Field, .string x38.Name, vI x38.Value, .string x38.New.Name, vI x38.New.Bits, vI x38.New.Low, .string x38.Whole.Name, sl A49 x38.Whole.Fields c50] 37 :: ow A29 l31 c30 37 10 y32 :: Fz F35 W36 :: cs))) ⟨by kernel_rfl⟩ (fun w_ hM hS => (migrate_inverse_ok w0 w_ (.blk b52 [vI x38.Do, .string x38.Kind, .string x38.Field, .string x38.Name, vI x38.Value, .string x38.New.Name, vI x38.New.Bits, vI x38.New.Low, .string x38.Whole.Name, sl A49 x38.Whole.Fields c50] 37 :: ow A29 l31 c30 37 10 y32 :: cs) F35 W36 A25 c26 l27 x38.Do x38.Kind x38.Field x38.Name x38.Value x38.New.Name x38.New.Bits x38.New.Low x38.Whole.Name A49 c50 x38.Whole.Fields (hM.pick 3 [2, 0, 1] (by kernel_rfl) (by decide) rfl) h28 h51 x53 x54 x55 x56 x57 x58 x59 x60 hv61).mono (by rintro e w' ⟨A62, c63, y64, h65, rfl, h'⟩; have h' : Mem w0 (ow A62 x59 c63 32 3 y64 :: .blk b52 [vI x38.Do, .string x38.Kind, .string x38.Field, .string x38.Name, vI x38.Value, .string x38.New.Name, vI x38.New.Bits, vI x38.New.Low, .string x38.Whole.Name, sl A49 x38.Whole.Fields c50] 37 :: ow A29 l31 c30 37 10 y32 :: Fz F35 W36 :: cs) w' := (h'.pick 4 [0, 2, 3, 1] (by kernel_rfl) (by decide) rfl); exact ⟨(A62, c63, y64), h65, rfl, h', trivial⟩)) ?_
    rintro ⟨A62, c63, y64⟩ h65
    refine oQ [oF 3, oF 4, oF 5] [(33, .bool x60), (32, .agg #[vI x53, .string x54, .string x55, .string x56, vI 0, .string ByteArray.empty, vI x57, vI x58, .string ByteArray.empty, sl A62 x59 c63]), (10, vP b52 0), (0, sl A25 l27 c26), (8, sl A29 l31 c30), (22, sl A_l l c_l), (23, vI (l.length : Int)), (24, vI i34)] (by kernel_rfl) ?_
    refine ops_newB (d := some 11) [vI 0, .string ByteArray.empty, .string ByteArray.empty, .string ByteArray.empty, vI 0, .string ByteArray.empty, vI 0, vI 0, .string ByteArray.empty, .slice none 0 0] 37 (fun b66 => ⟨by kernel_rfl⟩) (fun w_ hM hS => trivial) (fun b66 => ?_)
    refine ops_store (an := []) (evs := [sr b66 0 (vI x53), sr b66 1 (.string x54), sr b66 2 (.string x55), sr b66 3 (.string x56), sr b66 4 (vI 0), sr b66 5 (.string ByteArray.empty), sr b66 6 (vI x57), sr b66 7 (vI x58), sr b66 8 (.string ByteArray.empty), sr b66 9 (sl A62 x59 c63)]) ⟨by kernel_rfl⟩ (fun w_ hM hS => let ⟨w', he, h'⟩ := hM.evs_stores [vI x53, .string x54, .string x55, .string x56, vI 0, .string ByteArray.empty, vI x57, vI x58, .string ByteArray.empty, sl A62 x59 c63] 0 rfl 0 (Nat.le_of_ble_eq_true rfl); ⟨w', he, h', trivial⟩) ?_
    refine oQ [oF 8] [(12, .bool x60), (11, vP b66 0), (10, vP b52 0), (0, sl A25 l27 c26), (8, sl A29 l31 c30), (22, sl A_l l c_l), (23, vI (l.length : Int)), (24, vI i34)] (by kernel_rfl) ?_
    refine ops_nil (fin_then (st_seq (st_seq (st_region [oF 0, oF 1] (by rfl) ?_))))
    refine oQ [oF 0, oF 1] [(35, .bool (!x60)), (11, vP b66 0), (10, vP b52 0), (0, sl A25 l27 c26), (8, sl A29 l31 c30), (22, sl A_l l c_l), (23, vI (l.length : Int)), (24, vI i34)] (by kernel_rfl) ?_
    refine ops_nil (fin_then ?_)
    refine st_if (b := !x60) rfl (fun hc67 => ?_) (fun hc67 => ?_)
    ·
     have hp := cnd_t hc67 hp
     refine st_seq (st_region [oF 0, oF 1] (by rfl) ?_)
     refine oQ [oF 0, oF 1] [(5, vI 4), (4, .slice none 0 0)] (by kernel_rfl) ?_
     refine ops_nil (fin_then (st_ret (fin_ret_then (fin_ret_block (fin_ret_then (fin_ret_then (fin_ret_block (fin_ret_then ?_))))))))
     refine fin_conv (l' := [(5, vI 4), (4, .slice none 0 0)]) (M' := Mem w0 (ow none ([] : List migrate_Move) 0 37 10 [] :: .blk b66 [vI x53, .string x54, .string x55, .string x56, vI 0, .string ByteArray.empty, vI x57, vI x58, .string ByteArray.empty, sl A62 x59 c63] 37 :: ow A62 x59 c63 32 3 y64 :: .blk b52 [vI x38.Do, .string x38.Kind, .string x38.Field, .string x38.Name, vI x38.Value, .string x38.New.Name, vI x38.New.Bits, vI x38.New.Low, .string x38.Whole.Name, sl A49 x38.Whole.Fields c50] 37 :: ow A29 l31 c30 37 10 y32 :: Fz F35 W36 :: cs)) rfl (fun w_ h => h.onil none 37 10) ?_
     refine fin_conv (l' := [(5, vI 4), (4, sl none ([] : List migrate_Move) 0)]) (M' := Mem w0 (ow none ([] : List migrate_Move) 0 37 10 [] :: .blk b66 [vI x53, .string x54, .string x55, .string x56, vI 0, .string ByteArray.empty, vI x57, vI x58, .string ByteArray.empty, sl A62 x59 c63] 37 :: ow A62 x59 c63 32 3 y64 :: .blk b52 [vI x38.Do, .string x38.Kind, .string x38.Field, .string x38.Name, vI x38.Value, .string x38.New.Name, vI x38.New.Bits, vI x38.New.Low, .string x38.Whole.Name, sl A49 x38.Whole.Fields c50] 37 :: ow A29 l31 c30 37 10 y32 :: Fz F35 W36 :: cs)) rfl (fun _ h => h) ?_
     obtain hq_ := Option.some.inj hp
     subst hq_
     obtain hq_ := hd2 _ rfl
     subst hq_
     have hp : some (([] : List migrate_Move), 4) = some (l9003, i9006) := hk2
     have hq_ := Option.some.inj hp
     obtain ⟨hr0_, hq_⟩ := Prod.mk.inj hq_
     have hr1_ := hq_
     subst hr0_
     subst hr1_
     refine fin_ret [.tmp 4, .tmp 5] [sl none ([] : List migrate_Move) 0, vI 4] rfl rfl (fun w_ hM => (.tmp rfl (.tmp rfl .nil))) (fun w_ hM => ?_)
     exact ⟨none, 0, [], F35, W36, ⟨(RepL.nil (R := R_migrate_Move)), (h11.trans hx2)⟩, rfl, hM.pick 6 [0, 5] (by kernel_rfl) (by decide) rfl⟩
    ·
     have hp := cnd_f hc67 hp
     refine st_skip (fin_then (st_seq (st_region [oF 0, oF 1, oF 2, oF 3, oF 4] (by rfl) ?_)))
     refine oQ [oF 0] [(36, sl A29 l31 c30), (11, vP b66 0), (10, vP b52 0), (0, sl A25 l27 c26), (8, sl A29 l31 c30), (22, sl A_l l c_l), (23, vI (l.length : Int)), (24, vI i34)] (by kernel_rfl) ?_
     refine ops_mem (d := some 37) (an := [.v (vI x53), .v (.string x54), .v (.string x55), .v (.string x56), .v (vI 0), .v (.string ByteArray.empty), .v (vI x57), .v (vI x58), .v (.string ByteArray.empty), .v (sl A62 x59 c63)]) (evs := [ld b66 0 (vI x53), ld b66 1 (.string x54), ld b66 2 (.string x55), ld b66 3 (.string x56), ld b66 4 (vI 0), ld b66 5 (.string ByteArray.empty), ld b66 6 (vI x57), ld b66 7 (vI x58), ld b66 8 (.string ByteArray.empty), ld b66 9 (sl A62 x59 c63)]) (v := .agg #[vI x53, .string x54, .string x55, .string x56, vI 0, .string ByteArray.empty, vI x57, vI x58, .string ByteArray.empty, sl A62 x59 c63]) ⟨by kernel_rfl⟩ (fun w_ hM hS => ⟨w_, ⟨hM.cell 0 rfl rfl, hM.cell 0 rfl rfl, hM.cell 0 rfl rfl, hM.cell 0 rfl rfl, hM.cell 0 rfl rfl, hM.cell 0 rfl rfl, hM.cell 0 rfl rfl, hM.cell 0 rfl rfl, hM.cell 0 rfl rfl, hM.cell 0 rfl rfl, rfl⟩, hM, trivial⟩) ?_
     refine ops_ex (σ := (Nat → Prop) × World) (I := fun x_ => Ext w0 F35 W36 x_.1 x_.2 ∧ RdS R_api_Field x_.1 x_.2 A62 c63 x59) (M' := fun x_ => Mem w0 (.blk b66 [vI x53, .string x54, .string x55, .string x56, vI 0, .string ByteArray.empty, vI x57, vI x58, .string ByteArray.empty, sl A62 x59 c63] 37 :: .blk b52 [vI x38.Do, .string x38.Kind, .string x38.Field, .string x38.Name, vI x38.Value, .string x38.New.Name, vI x38.New.Bits, vI x38.New.Low, .string x38.Whole.Name, sl A49 x38.Whole.Fields c50] 37 :: ow A29 l31 c30 37 10 y32 :: Fz x_.1 x_.2 :: cs)) (fun w_ hM => ?_) ?_
     · obtain ⟨F_, h1_, h2_, h3_⟩ := (hM.pick 5 [1, 4, 0, 2, 3] (by kernel_rfl) (by decide) rfl : Mem w0 (ow A62 x59 c63 32 3 y64 :: Fz F35 W36 :: .blk b66 [vI x53, .string x54, .string x55, .string x56, vI 0, .string ByteArray.empty, vI x57, vI x58, .string ByteArray.empty, sl A62 x59 c63] 37 :: .blk b52 [vI x38.Do, .string x38.Kind, .string x38.Field, .string x38.Name, vI x38.Value, .string x38.New.Name, vI x38.New.Bits, vI x38.New.Low, .string x38.Whole.Name, sl A49 x38.Whole.Fields c50] 37 :: ow A29 l31 c30 37 10 y32 :: cs) w_).freeze (z := 3) h65 rfl rfl
       exact ⟨(F_, w_), ⟨h1_, h2_⟩, h3_.pick 4 [1, 2, 3, 0] (by kernel_rfl) (by decide) rfl⟩
     rintro ⟨F68, W69⟩ ⟨hx70, h71⟩
     have hx70 : Ext w0 F35 W36 F68 W69 := hx70
     have h71 : RdS R_api_Field F68 W69 A62 c63 x59 := h71
     have h28 := h28.ext hx70
     have h_l := h_l.ext hx70
     have h51 := h51.ext hx70
     have h33 := h33.ext hx70
     have h72 : RepL R_migrate_Move F68 W69 ([(migrate_Move.mk x53 x54 x55 x56 0 (api_Field.mk ByteArray.empty x57 x58) (api_Kind.mk ByteArray.empty x59))] : List migrate_Move) ([vI x53, .string x54, .string x55, .string x56, vI 0, .string ByteArray.empty, vI x57, vI x58, .string ByteArray.empty, sl A62 x59 c63]) := (RepL.cons (R := R_migrate_Move) (F := F68) (w := W69) (vs := [vI x53, .string x54, .string x55, .string x56, vI 0, .string ByteArray.empty, vI x57, vI x58, .string ByteArray.empty, sl A62 x59 c63]) (ys := []) (enc_migrate_Move h71) RepL.nil)
     refine ops_new (d := some 38) (o := .cells ([vI x53, .string x54, .string x55, .string x56, vI 0, .string ByteArray.empty, vI x57, vI x58, .string ByteArray.empty, sl A62 x59 c63]).toArray 37) (v := fun g73 => .slice (sa g73) ([(migrate_Move.mk x53 x54 x55 x56 0 (api_Field.mk ByteArray.empty x57 x58) (api_Kind.mk ByteArray.empty x59))] : List migrate_Move).length 1) (M' := fun g73 => Mem w0 (orow (sa g73) ([(migrate_Move.mk x53 x54 x55 x56 0 (api_Field.mk ByteArray.empty x57 x58) (api_Kind.mk ByteArray.empty x59))] : List migrate_Move).length 1 37 10 ([vI x53, .string x54, .string x55, .string x56, vI 0, .string ByteArray.empty, vI x57, vI x58, .string ByteArray.empty, sl A62 x59 c63]) :: .blk b66 [vI x53, .string x54, .string x55, .string x56, vI 0, .string ByteArray.empty, vI x57, vI x58, .string ByteArray.empty, sl A62 x59 c63] 37 :: .blk b52 [vI x38.Do, .string x38.Kind, .string x38.Field, .string x38.Name, vI x38.Value, .string x38.New.Name, vI x38.New.Bits, vI x38.New.Low, .string x38.Whole.Name, sl A49 x38.Whole.Fields c50] 37 :: ow A29 l31 c30 37 10 y32 :: Fz F68 W69 :: cs)) (fun g73 => ⟨by kernel_rfl⟩) (fun w_ hM hS => ⟨hM.onew [vI x53, .string x54, .string x55, .string x56, vI 0, .string ByteArray.empty, vI x57, vI x58, .string ByteArray.empty, sl A62 x59 c63] 37 1 10 rfl (by decide), trivial⟩) (fun g73 => ?_)
     obtain ⟨l74, hv75, hp⟩ := obind hp
     obtain ⟨he76, hb77⟩ := app_some hv75
     obtain ⟨y78, hy79⟩ : ∃ y_, y32 ++ ([vI x53, .string x54, .string x55, .string x56, vI 0, .string ByteArray.empty, vI x57, vI x58, .string ByteArray.empty, sl A62 x59 c63]) = y_ := ⟨_, rfl⟩
     have h80 : RepL R_migrate_Move F68 W69 l74 y78 := by rw [he76, ← hy79]; exact RepL.app h33 h72
     refine ops_appendO (x := (Go.Operand.tmp 36)) (y := (Go.Operand.tmp 38)) (t := 23) (e := 37) (d := some 39) (n' := l74.length) (z := 10) (m := ([(migrate_Move.mk x53 x54 x55 x56 0 (api_Field.mk ByteArray.empty x57 x58) (api_Kind.mk ByteArray.empty x59))] : List migrate_Move).length) (bytes := 136) (xs' := y78) (news := ([vI x53, .string x54, .string x55, .string x56, vI 0, .string ByteArray.empty, vI x57, vI x58, .string ByteArray.empty, sl A62 x59 c63])) (zv := .agg #[vI 0, .string ByteArray.empty, .string ByteArray.empty, .string ByteArray.empty, vI 0, .string ByteArray.empty, vI 0, vI 0, .string ByteArray.empty, .slice none 0 0]) 3 ⟨by kernel_rfl⟩ rfl rfl Tryd.underlying23 (by kernel_rfl) (by rfl) rfl (fun w_ hM => hM.srcO 0 rfl) h72.len h72.one hb77 (by have z_ := congrArg List.length he76; rw [List.length_append] at z_; exact z_.symm) hy79 (fun _ _ _ _ hS h' => trivial) ?_
     rintro ⟨A81, c82⟩
     refine oQ [oF 4] [(8, sl A81 l74 c82), (10, vP b52 0), (0, sl A25 l27 c26), (22, sl A_l l c_l), (23, vI (l.length : Int)), (24, vI i34)] (by kernel_rfl) ?_
     refine ops_nil (fin_then (st_region [oF 0, oF 1, oF 2, oF 3, oF 4, oF 5, oF 6] (by rfl) ?_))
     refine oQ [oF 0] [(41, sl A25 l27 c26), (8, sl A81 l74 c82), (10, vP b52 0), (0, sl A25 l27 c26), (22, sl A_l l c_l), (23, vI (l.length : Int)), (24, vI i34)] (by kernel_rfl) ?_
     refine ops_mem (d := some 42) (an := [.v (vI x38.Do), .v (.string x38.Kind), .v (.string x38.Field), .v (.string x38.Name), .v (vI x38.Value), .v (.string x38.New.Name), .v (vI x38.New.Bits), .v (vI x38.New.Low), .v (.string x38.Whole.Name), .v (sl A49 x38.Whole.Fields c50)]) (evs := [ld b52 0 (vI x38.Do), ld b52 1 (.string x38.Kind), ld b52 2 (.string x38.Field), ld b52 3 (.string x38.Name), ld b52 4 (vI x38.Value), ld b52 5 (.string x38.New.Name), ld b52 6 (vI x38.New.Bits), ld b52 7 (vI x38.New.Low), ld b52 8 (.string x38.Whole.Name), ld b52 9 (sl A49 x38.Whole.Fields c50)]) (v := .agg #[vI x38.Do, .string x38.Kind, .string x38.Field, .string x38.Name, vI x38.Value, .string x38.New.Name, vI x38.New.Bits, vI x38.New.Low, .string x38.Whole.Name, sl A49 x38.Whole.Fields c50]) ⟨by kernel_rfl⟩ (fun w_ hM hS => ⟨w_, ⟨hM.cell 2 rfl rfl, hM.cell 2 rfl rfl, hM.cell 2 rfl rfl, hM.cell 2 rfl rfl, hM.cell 2 rfl rfl, hM.cell 2 rfl rfl, hM.cell 2 rfl rfl, hM.cell 2 rfl rfl, hM.cell 2 rfl rfl, hM.cell 2 rfl rfl, rfl⟩, hM, trivial⟩) ?_
     obtain ⟨x83, x84, hv85, hp⟩ := obind2 hp
     refine ops_callI (σ := (Option Addr) × Nat × (List Value) × Chunk × (Nat → Prop) × World) (d := some 43) (f := 44) (args := #[sl A25 l27 c26, .agg #[vI x38.Do, .string x38.Kind, .string x38.Field, .string x38.Name, vI x38.Value, .string x38.New.Name, vI x38.New.Bits, vI x38.New.Low, .string x38.Whole.Name, sl A49 x38.Whole.Fields c50]]) (v := (fun x_ => match x_ with | (A86, c87, y88, K89, F90, W91) => .tuple #[sl A86 x83 c87, vI x84])) (I := (fun x_ => match x_ with | (A86, c87, y88, K89, F90, W91) => (OwL O_api_Kind_rw F90 W91 x83 y88 K89) ∧ (Ext w0 F68 W69 F90 W91))) (M' := (fun x_ => match x_ with | (A86, c87, y88, K89, F90, W91) => Mem w0 (ow A86 x83 c87 35 2 y88 :: K89 :: orow (sa g73) ([(migrate_Move.mk x53 x54 x55 x56 0 (api_Field.mk ByteArray.empty x57 x58) (api_Kind.mk ByteArray.empty x59))] : List migrate_Move).length 1 37 10 ([vI x53, .string x54, .string x55, .string x56, vI 0, .string ByteArray.empty, vI x57, vI x58, .string ByteArray.empty, sl A62 x59 c63]) :: .blk b66 [vI x53, .string x54, .string x55, .string x56, vI 0, .string ByteArray.empty, vI x57, vI x58, .string ByteArray.empty, sl A62 x59 c63] 37 :: .blk b52 [vI x38.Do, .string x38.Kind, .string x38.Field, .string x38.Name, vI x38.Value, .string x38.New.Name, vI x38.New.Bits, vI x38.New.Low, .string x38.Whole.Name, sl A49 x38.Whole.Fields c50] 37 :: ow A81 l74 c82 37 10 y78 :: Fz F90 W91 :: cs))) ⟨by kernel_rfl⟩ (fun w_ hM hS => (migrate_one_ok w0 w_ (orow (sa g73) ([(migrate_Move.mk x53 x54 x55 x56 0 (api_Field.mk ByteArray.empty x57 x58) (api_Kind.mk ByteArray.empty x59))] : List migrate_Move).length 1 37 10 ([vI x53, .string x54, .string x55, .string x56, vI 0, .string ByteArray.empty, vI x57, vI x58, .string ByteArray.empty, sl A62 x59 c63]) :: .blk b66 [vI x53, .string x54, .string x55, .string x56, vI 0, .string ByteArray.empty, vI x57, vI x58, .string ByteArray.empty, sl A62 x59 c63] 37 :: .blk b52 [vI x38.Do, .string x38.Kind, .string x38.Field, .string x38.Name, vI x38.Value, .string x38.New.Name, vI x38.New.Bits, vI x38.New.Low, .string x38.Whole.Name, sl A49 x38.Whole.Fields c50] 37 :: ow A81 l74 c82 37 10 y78 :: cs) F68 W69 A25 c26 l27 x38.Do x38.Kind x38.Field x38.Name x38.Value x38.New.Name x38.New.Bits x38.New.Low x38.Whole.Name A49 c50 x38.Whole.Fields (hM.pick 5 [4, 0, 1, 2, 3] (by kernel_rfl) (by decide) rfl) h28 h51 x83 x84 hv85).mono (by rintro e w' ⟨A86, c87, y88, K89, F90, W91, ⟨h92, h93⟩, rfl, h'⟩; have h' : Mem w0 (ow A86 x83 c87 35 2 y88 :: K89 :: orow (sa g73) ([(migrate_Move.mk x53 x54 x55 x56 0 (api_Field.mk ByteArray.empty x57 x58) (api_Kind.mk ByteArray.empty x59))] : List migrate_Move).length 1 37 10 ([vI x53, .string x54, .string x55, .string x56, vI 0, .string ByteArray.empty, vI x57, vI x58, .string ByteArray.empty, sl A62 x59 c63]) :: .blk b66 [vI x53, .string x54, .string x55, .string x56, vI 0, .string ByteArray.empty, vI x57, vI x58, .string ByteArray.empty, sl A62 x59 c63] 37 :: .blk b52 [vI x38.Do, .string x38.Kind, .string x38.Field, .string x38.Name, vI x38.Value, .string x38.New.Name, vI x38.New.Bits, vI x38.New.Low, .string x38.Whole.Name, sl A49 x38.Whole.Fields c50] 37 :: ow A81 l74 c82 37 10 y78 :: Fz F90 W91 :: cs) w' := (h'.pick 7 [0, 1, 3, 4, 5, 6, 2] (by kernel_rfl) (by decide) rfl); exact ⟨(A86, c87, y88, K89, F90, W91), ⟨h92, h93⟩, rfl, h', trivial⟩)) ?_
     rintro ⟨A86, c87, y88, K89, F90, W91⟩ ⟨h92, h93⟩
     have h51 := h51.ext h93
     have h28 := h28.ext h93
     have h_l := h_l.ext h93
     have h72 := h72.ext h93
     have h71 := h71.ext h93
     have h80 := h80.ext h93
     refine oQ [oF 3, oF 4, oF 5, oF 6] [(0, sl A86 x83 c87), (8, sl A81 l74 c82), (22, sl A_l l c_l), (23, vI (l.length : Int)), (24, vI i34)] (by kernel_rfl) ?_
     refine ops_nil (fin_block (fin_then (st_region [oF 0, oF 1] (by rfl) ?_)))
     refine oQ [oF 0, oF 1] [(24, vI (IntKind.i64.wrap (i34 + 1))), (0, sl A86 x83 c87), (8, sl A81 l74 c82), (22, sl A_l l c_l), (23, vI (l.length : Int))] (by kernel_rfl) ?_
     refine ops_nil ?_
     refine fin_ex (σ := (Nat → Prop) × World) (I := fun x_ => Ext w0 F90 W91 x_.1 x_.2 ∧ RdS R_api_Kind x_.1 x_.2 A86 c87 x83) (M' := fun x_ => Mem w0 (orow (sa g73) ([(migrate_Move.mk x53 x54 x55 x56 0 (api_Field.mk ByteArray.empty x57 x58) (api_Kind.mk ByteArray.empty x59))] : List migrate_Move).length 1 37 10 ([vI x53, .string x54, .string x55, .string x56, vI 0, .string ByteArray.empty, vI x57, vI x58, .string ByteArray.empty, sl A62 x59 c63]) :: .blk b66 [vI x53, .string x54, .string x55, .string x56, vI 0, .string ByteArray.empty, vI x57, vI x58, .string ByteArray.empty, sl A62 x59 c63] 37 :: .blk b52 [vI x38.Do, .string x38.Kind, .string x38.Field, .string x38.Name, vI x38.Value, .string x38.New.Name, vI x38.New.Bits, vI x38.New.Low, .string x38.Whole.Name, sl A49 x38.Whole.Fields c50] 37 :: ow A81 l74 c82 37 10 y78 :: Fz x_.1 x_.2 :: cs)) (fun w_ hM => ?_) ?_
     · obtain ⟨F_, h1_, h2_, h3_⟩ := (hM.pick 7 [0, 1, 6, 2, 3, 4, 5] (by kernel_rfl) (by decide) rfl : Mem w0 (ow A86 x83 c87 35 2 y88 :: K89 :: Fz F90 W91 :: orow (sa g73) ([(migrate_Move.mk x53 x54 x55 x56 0 (api_Field.mk ByteArray.empty x57 x58) (api_Kind.mk ByteArray.empty x59))] : List migrate_Move).length 1 37 10 ([vI x53, .string x54, .string x55, .string x56, vI 0, .string ByteArray.empty, vI x57, vI x58, .string ByteArray.empty, sl A62 x59 c63]) :: .blk b66 [vI x53, .string x54, .string x55, .string x56, vI 0, .string ByteArray.empty, vI x57, vI x58, .string ByteArray.empty, sl A62 x59 c63] 37 :: .blk b52 [vI x38.Do, .string x38.Kind, .string x38.Field, .string x38.Name, vI x38.Value, .string x38.New.Name, vI x38.New.Bits, vI x38.New.Low, .string x38.Whole.Name, sl A49 x38.Whole.Fields c50] 37 :: ow A81 l74 c82 37 10 y78 :: cs) w_).freezeOwn (z := 2) h92 rfl rfl
       exact ⟨(F_, w_), ⟨h1_, h2_⟩, h3_.pick 5 [1, 2, 3, 4, 0] (by kernel_rfl) (by decide) rfl⟩
     rintro ⟨F94, W95⟩ ⟨hx96, h97⟩
     have hx96 : Ext w0 F90 W91 F94 W95 := hx96
     have h97 : RdS R_api_Kind F94 W95 A86 c87 x83 := h97
     have h_l := h_l.ext hx96
     have h72 := h72.ext hx96
     have h71 := h71.ext hx96
     have h51 := h51.ext hx96
     have h80 := h80.ext hx96
     refine fin_conv (l' := [(24, vI (IntKind.i64.wrap (i34 + 1))), (0, sl A86 x83 c87), (8, sl A81 l74 c82), (22, sl A_l l c_l), (23, vI (l.length : Int))]) (M' := Mem w0 (orow (sa g73) ([(migrate_Move.mk x53 x54 x55 x56 0 (api_Field.mk ByteArray.empty x57 x58) (api_Kind.mk ByteArray.empty x59))] : List migrate_Move).length 1 37 10 ([vI x53, .string x54, .string x55, .string x56, vI 0, .string ByteArray.empty, vI x57, vI x58, .string ByteArray.empty, sl A62 x59 c63]) :: .blk b66 [vI x53, .string x54, .string x55, .string x56, vI 0, .string ByteArray.empty, vI x57, vI x58, .string ByteArray.empty, sl A62 x59 c63] 37 :: .blk b52 [vI x38.Do, .string x38.Kind, .string x38.Field, .string x38.Name, vI x38.Value, .string x38.New.Name, vI x38.New.Bits, vI x38.New.Low, .string x38.Whole.Name, sl A49 x38.Whole.Fields c50] 37 :: ow A81 l74 c82 37 10 y78 :: Fz F94 W95 :: cs)) rfl (fun _ h => h) ?_
     refine fin_conv (l' := [(24, vI (IntKind.i64.wrap (i34 + 1))), (0, sl A86 x83 c87), (8, sl A81 l74 c82), (22, sl A_l l c_l), (23, vI (l.length : Int))]) (M' := Mem w0 (orow (sa g73) ([(migrate_Move.mk x53 x54 x55 x56 0 (api_Field.mk ByteArray.empty x57 x58) (api_Kind.mk ByteArray.empty x59))] : List migrate_Move).length 1 37 10 ([vI x53, .string x54, .string x55, .string x56, vI 0, .string ByteArray.empty, vI x57, vI x58, .string ByteArray.empty, sl A62 x59 c63]) :: .blk b66 [vI x53, .string x54, .string x55, .string x56, vI 0, .string ByteArray.empty, vI x57, vI x58, .string ByteArray.empty, sl A62 x59 c63] 37 :: .blk b52 [vI x38.Do, .string x38.Kind, .string x38.Field, .string x38.Name, vI x38.Value, .string x38.New.Name, vI x38.New.Bits, vI x38.New.Low, .string x38.Whole.Name, sl A49 x38.Whole.Fields c50] 37 :: ow A81 l74 c82 37 10 y78 :: Fz F94 W95 :: cs)) rfl (fun _ h => h) ?_
     exact fin_again (x83, l74, IntKind.i64.wrap (i34 + 1)) (A86, c87, A81, c82, y78, F94, W95) (Option.some.inj hp).symm ⟨h97, h80, (((hx2.trans hx70).trans h93).trans hx96)⟩ (look_has ⟨rfl, rfl, rfl, rfl, rfl, trivial⟩) (fun w_ hM => hM.pick 5 [3, 4] (by kernel_rfl) (by decide) rfl)
   ·
    have hp := cnd_f hc37 hp
    refine st_exit (fin_exit_then (fin_exit_then (fin_exit ?_)))
    obtain hq_ := Option.some.inj hp
    subst hq_
    obtain hq_ := hd2 _ rfl
    subst hq_
    have hp : migrate_Back_j1 l31 = some (l9003, i9006) := hk2
    exact fin_join HJ1 (A29, c30, l31, y32, F35, W36) ⟨hp, h33, hx2⟩ (look_has ⟨rfl, trivial⟩) (fun w_ hM => hM)
theorem tourref3_IsName_ok (w0 w : World) (cs : List Chunk) (F : Nat → Prop) (W : World) (s : ByteArray) (hM0 : Mem w0 (Fz F W :: cs) w) (t9001 : Bool) (hp : tourref3_IsName s = some t9001) : Calls Tryd.prog 95 #[.string s] w fun e w' => (True) ∧ e = .returned (.bool t9001) ∧ Mem w0 (Fz F W :: cs) w' := by
 unfold tourref3_IsName at hp
 refine sx_calls Tryd.func95 rfl (n := 20) (by kernel_rfl) (l := [(0, .string s)]) rfl (by rfl) hM0 ?_
 refine st_seq (st_region [oF 0] (by rfl) ?_)
 refine oQ [oF 0] [(0, .string s)] (by kernel_rfl) ?_
 refine ops_nil (fin_then ?_)
 refine st_join1 (σ := Bool) (L := fun x_ => match x_ with | t1 => [(2, .bool t1)]) (N := fun x_ => match x_ with | t1 => Mem w0 (Fz F W :: cs)) (I := fun x_ => match x_ with | t1 => (tourref3_IsName_j1 t1 = some t9001)) ?_ ?_
 ·
  rintro t1 hp
  unfold tourref3_IsName_j1 at hp
  refine st_ret ?_
  have hq_ := Option.some.inj hp
  have hr0_ := hq_
  subst hr0_
  refine fin_ret [.tmp 2] [.bool t1] rfl rfl (fun w_ hM => (.tmp rfl .nil)) (fun w_ hM => ?_)
  exact ⟨trivial, rfl, hM⟩
 ·
  intro HJ1
  refine st_seq (st_region [oF 0, oF 1, oF 2, oF 3, oF 4, oF 5, oF 6, oF 7, oF 8, oF 9, oF 10, oF 11, oF 12, oF 13, oF 14, oF 15, oF 16, oF 17] (by rfl) ?_)
  refine oQ [oF 0, oF 1, oF 2] [(5, .bool (!(s.toList == (⟨#[]⟩ : ByteArray).toList))), (0, .string s)] (by kernel_rfl) ?_
  refine ops_bool (t := !(s.toList == (⟨#[]⟩ : ByteArray).toList)) (l1 := [(5, .bool true), (0, .string s)]) (l2 := [(5, .bool false), (0, .string s)]) (fun h => by rw [h]) (fun h => by rw [h]) (fun hc2 => ?_) (fun hc2 => ?_)
  ·
   have hp := cnd_t hc2 hp
   refine oQ [oF 3, oF 4, oF 5, oF 6, oF 7] [(10, .bool (decide ((s.size : Int) < 17))), (0, .string s)] (by kernel_rfl) ?_
   refine ops_bool (t := decide ((s.size : Int) < 17)) (l1 := [(10, .bool true), (0, .string s)]) (l2 := [(10, .bool false), (0, .string s)]) (fun h => by rw [h]) (fun h => by rw [h]) (fun hc3 => ?_) (fun hc3 => ?_)
   ·
    have hp := cnd_t hc3 hp
    refine oQ [oF 8] [(11, .string s), (10, .bool true), (0, .string s)] (by kernel_rfl) ?_
    obtain ⟨x4, hv5, hp⟩ := obind hp
    refine ops_callI (σ := Unit) (d := some 12) (f := 137) (args := #[.string s, .string (⟨#[97, 98, 99, 100, 101, 102, 103, 104, 105, 106, 107, 108, 109, 110, 111, 112, 113, 114, 115, 116, 117, 118, 119, 120, 121, 122, 48, 49, 50, 51, 52, 53, 54, 55, 56, 57]⟩)]) (v := (fun _ => .string x4)) (I := (fun _ => True)) (M' := (fun _ => Mem w0 (Fz F W :: cs))) ⟨by kernel_rfl⟩ (fun w_ hM hS => (strings_Trim_ok w0 w_ (cs) F W s hM  x4 hv5).mono (by rintro e w' ⟨-, rfl, h'⟩; have h' : Mem w0 (Fz F W :: cs) w' := h'; exact ⟨(), trivial, rfl, h', trivial⟩)) ?_
    rintro _ -
    refine oQ [oF 10, oF 11, oF 12] [(15, .bool (x4.toList == (⟨#[]⟩ : ByteArray).toList)), (0, .string s)] (by kernel_rfl) ?_
    refine ops_bool (t := (x4.toList == (⟨#[]⟩ : ByteArray).toList)) (l1 := [(15, .bool true), (0, .string s)]) (l2 := [(15, .bool false), (0, .string s)]) (fun h => by rw [h]) (fun h => by rw [h]) (fun hc6 => ?_) (fun hc6 => ?_)
    ·
     have hp := cnd_t hc6 hp
     refine oQ [oF 13] [(16, .string s), (15, .bool true)] (by kernel_rfl) ?_
     obtain ⟨x7, hv8, hp⟩ := obind hp
     refine ops_val (op := (.index 9 (.tmp 16) (.const (Go.Value.int Go.IntKind.i64 0)))) (d := some 17) (v := .int .u8 x7) ⟨by kernel_rfl⟩ (run_strIdx Tryd.underlying9 rfl rfl hv8) ?_
     refine oQ [oF 15, oF 16, oF 17] [(2, .bool (decide (57 < x7)))] (by kernel_rfl) ?_
     refine ops_nil ?_
     exact fin_join HJ1 (decide (57 < x7)) hp (look_has ⟨rfl, trivial⟩) (fun w_ hM => hM)
    ·
     have hp := cnd_f hc6 hp
     refine oQ [oF 13, oF 14, oF 15, oF 16, oF 17] [(2, .bool false)] (by kernel_rfl) ?_
     refine ops_nil ?_
     exact fin_join HJ1 false hp (look_has ⟨rfl, trivial⟩) (fun w_ hM => hM)
   ·
    have hp := cnd_f hc3 hp
    refine oQ [oF 8, oF 9, oF 10, oF 11, oF 12, oF 13, oF 14, oF 15, oF 16, oF 17] [(2, .bool false)] (by kernel_rfl) ?_
    refine ops_nil ?_
    exact fin_join HJ1 false hp (look_has ⟨rfl, trivial⟩) (fun w_ hM => hM)
  ·
   have hp := cnd_f hc2 hp
   refine oQ [oF 3, oF 4, oF 5, oF 6, oF 7, oF 8, oF 9, oF 10, oF 11, oF 12, oF 13, oF 14, oF 15, oF 16, oF 17] [(2, .bool false)] (by kernel_rfl) ?_
   refine ops_nil ?_
   exact fin_join HJ1 false hp (look_has ⟨rfl, trivial⟩) (fun w_ hM => hM)
theorem tourref3_FieldOK_ok (w0 w : World) (cs : List Chunk) (F : Nat → Prop) (W : World) (f_0 : ByteArray) (f_1 : Int) (f_2 : Int) (hM0 : Mem w0 (Fz F W :: cs) w) (t9001 : Bool) (hp : tourref3_FieldOK f_0 f_1 f_2 = some t9001) : Calls Tryd.prog 102 #[.agg #[.string f_0, vI f_1, vI f_2]] w fun e w' => (True) ∧ e = .returned (.bool t9001) ∧ Mem w0 (Fz F W :: cs) w' := by
 unfold tourref3_FieldOK at hp
 refine sx_calls Tryd.func102 rfl (n := 26) (by kernel_rfl) (l := [(0, .agg #[.string f_0, vI f_1, vI f_2])]) rfl (by rfl) hM0 ?_
 refine st_seq (st_region [oF 0, oF 1] (by rfl) ?_)
 refine ops_newB (d := some 1) [.string f_0, vI f_1, vI f_2] 32 (fun b1 => ⟨by kernel_rfl⟩) (fun w_ hM hS => trivial) (fun b1 => ?_)
 refine oQ [oF 1] [(1, vP b1 0)] (by kernel_rfl) ?_
 refine ops_nil (fin_then ?_)
 refine st_join1 (σ := Bool) (L := fun x_ => match x_ with | t2 => [(2, .bool t2)]) (N := fun x_ => match x_ with | t2 => Mem w0 (Fz F W :: cs)) (I := fun x_ => match x_ with | t2 => (tourref3_FieldOK_j1 t2 = some t9001)) ?_ ?_
 ·
  rintro t2 hp
  unfold tourref3_FieldOK_j1 at hp
  refine st_ret ?_
  have hq_ := Option.some.inj hp
  have hr0_ := hq_
  subst hr0_
  refine fin_ret [.tmp 2] [.bool t2] rfl rfl (fun w_ hM => (.tmp rfl .nil)) (fun w_ hM => ?_)
  exact ⟨trivial, rfl, hM⟩
 ·
  intro HJ1
  refine st_seq (st_region [oF 0, oF 1, oF 2, oF 3, oF 4, oF 5, oF 6, oF 7, oF 8, oF 9, oF 10, oF 11, oF 12, oF 13, oF 14, oF 15, oF 16, oF 17, oF 18, oF 19, oF 20, oF 21, oF 22, oF 23] (by rfl) ?_)
  refine oQ [oF 0] [(3, vP b1 0), (1, vP b1 0)] (by kernel_rfl) ?_
  refine ops_mem (d := some 4) (an := [.v (.string f_0)]) (evs := [ld b1 0 (.string f_0)]) (v := .string f_0) ⟨by kernel_rfl⟩ (fun w_ hM hS => ⟨w_, ⟨hM.cell 0 rfl rfl, rfl⟩, hM, trivial⟩) ?_
  obtain ⟨x3, hv4, hp⟩ := obind hp
  refine ops_callI (σ := Unit) (d := some 5) (f := 95) (args := #[.string f_0]) (v := (fun _ => .bool x3)) (I := (fun _ => True)) (M' := (fun _ => Mem w0 (.blk b1 [.string f_0, vI f_1, vI f_2] 32 :: Fz F W :: cs))) ⟨by kernel_rfl⟩ (fun w_ hM hS => (tourref3_IsName_ok w0 w_ (.blk b1 [.string f_0, vI f_1, vI f_2] 32 :: cs) F W f_0 (hM.pick 2 [1, 0] (by kernel_rfl) (by decide) rfl)  x3 hv4).mono (by rintro e w' ⟨-, rfl, h'⟩; have h' : Mem w0 (.blk b1 [.string f_0, vI f_1, vI f_2] 32 :: Fz F W :: cs) w' := (h'.pick 2 [1, 0] (by kernel_rfl) (by decide) rfl); exact ⟨(), trivial, rfl, h', trivial⟩)) ?_
  rintro _ -
  refine oQ [oF 3] [(6, .bool x3), (1, vP b1 0)] (by kernel_rfl) ?_
  refine ops_bool (t := x3) (l1 := [(6, .bool true), (1, vP b1 0)]) (l2 := [(6, .bool false), (1, vP b1 0)]) (fun h => by rw [h]) (fun h => by rw [h]) (fun hc5 => ?_) (fun hc5 => ?_)
  ·
   have hp := cnd_t hc5 hp
   refine oQ [oF 4] [(7, vP b1 1), (6, .bool true), (1, vP b1 0)] (by kernel_rfl) ?_
   refine ops_mem (d := some 8) (an := [.v (vI f_1)]) (evs := [ld b1 1 (vI f_1)]) (v := vI f_1) ⟨by kernel_rfl⟩ (fun w_ hM hS => ⟨w_, ⟨hM.cell 0 rfl rfl, rfl⟩, hM, trivial⟩) ?_
   refine oQ [oF 6, oF 7, oF 8] [(11, .bool (decide (0 < f_1))), (1, vP b1 0)] (by kernel_rfl) ?_
   refine ops_bool (t := decide (0 < f_1)) (l1 := [(11, .bool true), (1, vP b1 0)]) (l2 := [(11, .bool false), (1, vP b1 0)]) (fun h => by rw [h]) (fun h => by rw [h]) (fun hc6 => ?_) (fun hc6 => ?_)
   ·
    have hp := cnd_t hc6 hp
    refine oQ [oF 9] [(12, vP b1 1), (11, .bool true), (1, vP b1 0)] (by kernel_rfl) ?_
    refine ops_mem (d := some 13) (an := [.v (vI f_1)]) (evs := [ld b1 1 (vI f_1)]) (v := vI f_1) ⟨by kernel_rfl⟩ (fun w_ hM hS => ⟨w_, ⟨hM.cell 0 rfl rfl, rfl⟩, hM, trivial⟩) ?_
    refine oQ [oF 11, oF 12, oF 13] [(16, .bool (decide (f_1 < 33))), (1, vP b1 0)] (by kernel_rfl) ?_
    refine ops_bool (t := decide (f_1 < 33)) (l1 := [(16, .bool true), (1, vP b1 0)]) (l2 := [(16, .bool false), (1, vP b1 0)]) (fun h => by rw [h]) (fun h => by rw [h]) (fun hc7 => ?_) (fun hc7 => ?_)
    ·
     have hp := cnd_t hc7 hp
     refine oQ [oF 14] [(17, vP b1 2), (16, .bool true), (1, vP b1 0)] (by kernel_rfl) ?_
     refine ops_mem (d := some 18) (an := [.v (vI f_2)]) (evs := [ld b1 2 (vI f_2)]) (v := vI f_2) ⟨by kernel_rfl⟩ (fun w_ hM hS => ⟨w_, ⟨hM.cell 0 rfl rfl, rfl⟩, hM, trivial⟩) ?_
     refine oQ [oF 16, oF 17, oF 18] [(21, .bool (decide ((-4294967296) ≤ f_2))), (1, vP b1 0)] (by kernel_rfl) ?_
     refine ops_bool (t := decide ((-4294967296) ≤ f_2)) (l1 := [(21, .bool true), (1, vP b1 0)]) (l2 := [(21, .bool false), (1, vP b1 0)]) (fun h => by rw [h]) (fun h => by rw [h]) (fun hc8 => ?_) (fun hc8 => ?_)
     ·
      have hp := cnd_t hc8 hp
      refine oQ [oF 19] [(22, vP b1 2), (21, .bool true)] (by kernel_rfl) ?_
      refine ops_mem (d := some 23) (an := [.v (vI f_2)]) (evs := [ld b1 2 (vI f_2)]) (v := vI f_2) ⟨by kernel_rfl⟩ (fun w_ hM hS => ⟨w_, ⟨hM.cell 0 rfl rfl, rfl⟩, hM, trivial⟩) ?_
      refine oQ [oF 21, oF 22, oF 23] [(2, .bool (decide (f_2 ≤ 4294967296)))] (by kernel_rfl) ?_
      refine ops_nil ?_
      exact fin_join HJ1 (decide (f_2 ≤ 4294967296)) hp (look_has ⟨rfl, trivial⟩) (fun w_ hM => hM.pick 2 [1] (by kernel_rfl) (by decide) rfl)
     ·
      have hp := cnd_f hc8 hp
      refine oQ [oF 19, oF 20, oF 21, oF 22, oF 23] [(2, .bool false)] (by kernel_rfl) ?_
      refine ops_nil ?_
      exact fin_join HJ1 false hp (look_has ⟨rfl, trivial⟩) (fun w_ hM => hM.pick 2 [1] (by kernel_rfl) (by decide) rfl)
    ·
     have hp := cnd_f hc7 hp
     refine oQ [oF 14, oF 15, oF 16, oF 17, oF 18, oF 19, oF 20, oF 21, oF 22, oF 23] [(2, .bool false)] (by kernel_rfl) ?_
     refine ops_nil ?_
     exact fin_join HJ1 false hp (look_has ⟨rfl, trivial⟩) (fun w_ hM => hM.pick 2 [1] (by kernel_rfl) (by decide) rfl)
   ·
    have hp := cnd_f hc6 hp
    refine oQ [oF 9, oF 10, oF 11, oF 12, oF 13, oF 14, oF 15, oF 16, oF 17, oF 18, oF 19, oF 20, oF 21, oF 22, oF 23] [(2, .bool false)] (by kernel_rfl) ?_
    refine ops_nil ?_
    exact fin_join HJ1 false hp (look_has ⟨rfl, trivial⟩) (fun w_ hM => hM.pick 2 [1] (by kernel_rfl) (by decide) rfl)
  ·
   have hp := cnd_f hc5 hp
   refine oQ [oF 4, oF 5, oF 6, oF 7, oF 8, oF 9, oF 10, oF 11, oF 12, oF 13, oF 14, oF 15, oF 16, oF 17, oF 18, oF 19, oF 20, oF 21, oF 22, oF 23] [(2, .bool false)] (by kernel_rfl) ?_
   refine ops_nil ?_
   exact fin_join HJ1 false hp (look_has ⟨rfl, trivial⟩) (fun w_ hM => hM.pick 2 [1] (by kernel_rfl) (by decide) rfl)
theorem slices_Index_string_string_ok (w0 w : World) (cs : List Chunk) (F : Nat → Prop) (W : World) (A_s : Option Addr) (c_s : Nat) (s : List ByteArray) (v : ByteArray) (hM0 : Mem w0 (Fz F W :: cs) w) (h_s : RdS Rep.str F W A_s c_s s) (i9001 : Int) (hp : slices_Index_string_string s v = some i9001) : Calls Tryd.prog 164 #[sl A_s s c_s, .string v] w fun e w' => (True) ∧ e = .returned (vI i9001) ∧ Mem w0 (Fz F W :: cs) w' := by
 unfold slices_Index_string_string at hp
 refine sx_calls Tryd.func164 rfl (n := 19) (by kernel_rfl) (l := [(0, sl A_s s c_s), (1, .string v)]) rfl (by rfl) hM0 ?_
 refine st_seq (st_region [oF 0] (by rfl) ?_)
 refine oQ [oF 0] [(0, sl A_s s c_s), (1, .string v)] (by kernel_rfl) ?_
 refine ops_nil (fin_then ?_)
 refine st_join1 (σ := Unit) (L := fun _ => []) (N := fun _ => Mem w0 (Fz F W :: cs)) (I := fun _ => (slices_Index_string_string_j1 = some i9001)) ?_ ?_
 ·
  rintro _ hp
  unfold slices_Index_string_string_j1 at hp
  refine st_seq (st_region [oF 0] (by rfl) ?_)
  refine oQ [oF 0] [(4, vI (-1))] (by kernel_rfl) ?_
  refine ops_nil (fin_then (st_ret ?_))
  have hq_ := Option.some.inj hp
  have hr0_ := hq_
  subst hr0_
  refine fin_ret [.tmp 4] [vI (-1)] rfl rfl (fun w_ hM => (.tmp rfl .nil)) (fun w_ hM => ?_)
  exact ⟨trivial, rfl, hM⟩
 ·
  intro HJ1
  refine st_seq (st_seq (st_region [oF 0, oF 1, oF 2] (by rfl) ?_))
  refine oQ [oF 0, oF 1, oF 2] [(8, vI 0), (7, vI (s.length : Int)), (0, sl A_s s c_s), (1, .string v)] (by kernel_rfl) ?_
  refine ops_nil (fin_then (st_block ?_))
  obtain ⟨r2, hl2, hk2⟩ := obind hp
  refine st_loopP (σ := Int) (ρ := (Int ⊕ Unit)) (γ := Unit) hl2 () (fun s_ g_ => match s_, g_ with | i1, _ => [(0, sl A_s s c_s), (1, .string v), (7, vI (s.length : Int)), (8, vI i1)]) (fun s_ g_ => match s_, g_ with | i1, _ => Mem w0 (Fz F W :: cs)) (fun s_ g_ => match s_, g_ with | i1, _ => True) trivial (look_has ⟨rfl, rfl, rfl, rfl, trivial⟩) (fun w_ hM => hM) ?_
  rintro i1 _ o2 - hs_ hd2
  have hp : (slices_Index_string_string_l2 s v) i1 = some o2 := hs_
  clear hs_
  unfold slices_Index_string_string_l2 at hp
  refine st_seq (st_region [oF 0] (by rfl) ?_)
  refine oQ [oF 0] [(9, .bool (decide (i1 < (s.length : Int)))), (0, sl A_s s c_s), (1, .string v), (7, vI (s.length : Int)), (8, vI i1)] (by kernel_rfl) ?_
  refine ops_nil (fin_then (st_seq ?_))
  refine st_if (b := decide (i1 < (s.length : Int))) rfl (fun hc2 => ?_) (fun hc2 => ?_)
  ·
   have hp := cnd_t hc2 hp
   refine st_skip (fin_then (st_seq (st_block (st_seq (st_region [oF 0, oF 1] (by rfl) ?_)))))
   refine oQ [oF 0, oF 1] [(5, vI i1), (0, sl A_s s c_s), (1, .string v), (7, vI (s.length : Int)), (8, vI i1)] (by kernel_rfl) ?_
   refine ops_nil (fin_then (st_seq (st_region [oF 0, oF 1, oF 2, oF 3, oF 4, oF 5] (by rfl) ?_)))
   refine oQ [oF 0, oF 1, oF 2] [(13, vI i1), (12, sl A_s s c_s), (11, .string v), (5, vI i1), (0, sl A_s s c_s), (1, .string v), (7, vI (s.length : Int)), (8, vI i1)] (by kernel_rfl) ?_
   obtain ⟨x3, hv4, hp⟩ := obind hp
   obtain ⟨m5, hm6, hx7⟩ := idx_some hv4
   have hl10 := (List.getElem?_eq_some_iff.1 hx7).1
   obtain ⟨ad11, vs8, hA12, hr9, hq13⟩ := RdS.el h_s hx7
   obtain rfl := hr9
   refine ops_val (op := (.indexAddr 185 (.tmp 12) (.tmp 13))) (d := some 14) (v := .pointer (some (ad11.add (m5 * 1)))) ⟨by kernel_rfl⟩ (run_indexA hA12 Tryd.underlying185 (z := 1) (by kernel_rfl) rfl rfl hm6 hl10) ?_
   refine ops_mem (d := some 15) (an := [.v (.string x3)]) (evs := [.load (ad11.add (m5 * 1)) (.string x3)]) (v := .string x3) ⟨by kernel_rfl⟩ (fun w_ hM hS => ⟨w_, ⟨hM.elcell 0 rfl hq13 0 rfl, rfl⟩, hM, trivial⟩) ?_
   refine oQ [oF 5] [(16, .bool (v.toList == x3.toList)), (5, vI i1), (0, sl A_s s c_s), (1, .string v), (7, vI (s.length : Int)), (8, vI i1)] (by kernel_rfl) ?_
   refine ops_nil (fin_then ?_)
   refine st_if (b := (v.toList == x3.toList)) rfl (fun hc14 => ?_) (fun hc14 => ?_)
   ·
    have hp := cnd_t hc14 hp
    refine st_seq (st_region [oF 0, oF 1] (by rfl) ?_)
    refine oQ [oF 0, oF 1] [(4, vI i1)] (by kernel_rfl) ?_
    refine ops_nil (fin_then (st_ret (fin_ret_block (fin_ret_then (fin_ret_then (fin_ret_block (fin_ret_then ?_)))))))
    obtain hq_ := Option.some.inj hp
    subst hq_
    obtain hq_ := hd2 _ rfl
    subst hq_
    have hp : some i1 = some i9001 := hk2
    have hq_ := Option.some.inj hp
    have hr0_ := hq_
    subst hr0_
    refine fin_ret [.tmp 4] [vI i1] rfl rfl (fun w_ hM => (.tmp rfl .nil)) (fun w_ hM => ?_)
    exact ⟨trivial, rfl, hM⟩
   ·
    have hp := cnd_f hc14 hp
    refine st_skip (fin_block (fin_then (st_region [oF 0, oF 1] (by rfl) ?_)))
    refine oQ [oF 0, oF 1] [(8, vI (IntKind.i64.wrap (i1 + 1))), (0, sl A_s s c_s), (1, .string v), (7, vI (s.length : Int))] (by kernel_rfl) ?_
    refine ops_nil ?_
    exact fin_again (IntKind.i64.wrap (i1 + 1)) () (Option.some.inj hp).symm trivial (look_has ⟨rfl, rfl, rfl, rfl, trivial⟩) (fun w_ hM => hM)
  ·
   have hp := cnd_f hc2 hp
   refine st_exit (fin_exit_then (fin_exit_then (fin_exit ?_)))
   obtain hq_ := Option.some.inj hp
   subst hq_
   obtain hq_ := hd2 _ rfl
   subst hq_
   have hp : slices_Index_string_string_j1 = some i9001 := hk2
   exact fin_join HJ1 () hp (look_has trivial) (fun w_ hM => hM)
theorem slices_Contains_string_string_ok (w0 w : World) (cs : List Chunk) (F : Nat → Prop) (W : World) (A_s : Option Addr) (c_s : Nat) (s : List ByteArray) (v : ByteArray) (hM0 : Mem w0 (Fz F W :: cs) w) (h_s : RdS Rep.str F W A_s c_s s) (t9001 : Bool) (hp : slices_Contains_string_string s v = some t9001) : Calls Tryd.prog 141 #[sl A_s s c_s, .string v] w fun e w' => (True) ∧ e = .returned (.bool t9001) ∧ Mem w0 (Fz F W :: cs) w' := by
 unfold slices_Contains_string_string at hp
 refine sx_calls Tryd.func141 rfl (n := 9) (by kernel_rfl) (l := [(0, sl A_s s c_s), (1, .string v)]) rfl (by rfl) hM0 ?_
 refine st_seq (st_region [oF 0] (by rfl) ?_)
 refine oQ [oF 0] [(0, sl A_s s c_s), (1, .string v)] (by kernel_rfl) ?_
 refine ops_nil (fin_then (st_seq (st_region [oF 0, oF 1, oF 2, oF 3, oF 4] (by rfl) ?_)))
 refine oQ [oF 0, oF 1] [(6, .string v), (5, sl A_s s c_s)] (by kernel_rfl) ?_
 obtain ⟨x1, hv2, hp⟩ := obind hp
 refine ops_callI (σ := Unit) (d := some 7) (f := 164) (args := #[sl A_s s c_s, .string v]) (v := (fun _ => vI x1)) (I := (fun _ => True)) (M' := (fun _ => Mem w0 (Fz F W :: cs))) ⟨by kernel_rfl⟩ (fun w_ hM hS => (slices_Index_string_string_ok w0 w_ (cs) F W A_s c_s s v hM h_s x1 hv2).mono (by rintro e w' ⟨-, rfl, h'⟩; have h' : Mem w0 (Fz F W :: cs) w' := h'; exact ⟨(), trivial, rfl, h', trivial⟩)) ?_
 rintro _ -
 refine oQ [oF 3, oF 4] [(4, .bool (decide (0 ≤ x1)))] (by kernel_rfl) ?_
 refine ops_nil (fin_then (st_ret ?_))
 have hq_ := Option.some.inj hp
 have hr0_ := hq_
 subst hr0_
 refine fin_ret [.tmp 4] [.bool (decide (0 ≤ x1))] rfl rfl (fun w_ hM => (.tmp rfl .nil)) (fun w_ hM => ?_)
 exact ⟨trivial, rfl, hM⟩
theorem tourref3_twice_ok (w0 w : World) (cs : List Chunk) (F : Nat → Prop) (W : World) (A_l : Option Addr) (c_l : Nat) (l : List ByteArray) (s : ByteArray) (hM0 : Mem w0 (Fz F W :: cs) w) (h_l : RdS Rep.str F W A_l c_l l) (t9001 : Bool) (hp : tourref3_twice l s = some t9001) : Calls Tryd.prog 101 #[sl A_l l c_l, .string s] w fun e w' => (True) ∧ e = .returned (.bool t9001) ∧ Mem w0 (Fz F W :: cs) w' := by
 unfold tourref3_twice at hp
 refine sx_calls Tryd.func101 rfl (n := 8) (by kernel_rfl) (l := [(0, sl A_l l c_l), (1, .string s)]) rfl (by rfl) hM0 ?_
 refine st_seq (st_region [oF 0] (by rfl) ?_)
 refine oQ [oF 0] [(0, sl A_l l c_l), (1, .string s)] (by kernel_rfl) ?_
 refine ops_nil (fin_then (st_seq (st_region [oF 0, oF 1, oF 2, oF 3] (by rfl) ?_)))
 refine oQ [oF 0, oF 1] [(6, .string s), (5, sl A_l l c_l)] (by kernel_rfl) ?_
 obtain ⟨x1, hv2, hp⟩ := obind hp
 refine ops_callI (σ := Unit) (d := some 7) (f := 141) (args := #[sl A_l l c_l, .string s]) (v := (fun _ => .bool x1)) (I := (fun _ => True)) (M' := (fun _ => Mem w0 (Fz F W :: cs))) ⟨by kernel_rfl⟩ (fun w_ hM hS => (slices_Contains_string_string_ok w0 w_ (cs) F W A_l c_l l s hM h_l x1 hv2).mono (by rintro e w' ⟨-, rfl, h'⟩; have h' : Mem w0 (Fz F W :: cs) w' := h'; exact ⟨(), trivial, rfl, h', trivial⟩)) ?_
 rintro _ -
 refine oQ [oF 3] [(4, .bool x1)] (by kernel_rfl) ?_
 refine ops_nil (fin_then (st_ret ?_))
 have hq_ := Option.some.inj hp
 have hr0_ := hq_
 subst hr0_
 refine fin_ret [.tmp 4] [.bool x1] rfl rfl (fun w_ hM => (.tmp rfl .nil)) (fun w_ hM => ?_)
 exact ⟨trivial, rfl, hM⟩
theorem tourref3_KindError_ok (w0 w : World) (cs : List Chunk) (F : Nat → Prop) (W : World) (k_0 : ByteArray) (A_k_1 : Option Addr) (c_k_1 : Nat) (k_1 : List api_Field) (hM0 : Mem w0 (Fz F W :: cs) w) (h_k_1 : RdS R_api_Field F W A_k_1 c_k_1 k_1) (i9001 : Int) (hp : tourref3_KindError k_0 k_1 = some i9001) : Calls Tryd.prog 100 #[.agg #[.string k_0, sl A_k_1 k_1 c_k_1]] w fun e w' => (True) ∧ e = .returned (vI i9001) ∧ Mem w0 (Fz F W :: cs) w' := by
 unfold tourref3_KindError at hp
 refine sx_calls Tryd.func100 rfl (n := 34) (by kernel_rfl) (l := [(0, .agg #[.string k_0, sl A_k_1 k_1 c_k_1])]) rfl (by rfl) hM0 ?_
 refine st_seq (st_region [oF 0, oF 1] (by rfl) ?_)
 refine ops_newB (d := some 1) [.string k_0, sl A_k_1 k_1 c_k_1] 35 (fun b1 => ⟨by kernel_rfl⟩) (fun w_ hM hS => trivial) (fun b1 => ?_)
 refine oQ [oF 1] [(1, vP b1 0)] (by kernel_rfl) ?_
 refine ops_nil (fin_then (st_seq (st_seq (st_region [oF 0, oF 1, oF 2, oF 3] (by rfl) ?_))))
 refine oQ [oF 0] [(6, vP b1 0), (1, vP b1 0)] (by kernel_rfl) ?_
 refine ops_mem (d := some 7) (an := [.v (.string k_0)]) (evs := [ld b1 0 (.string k_0)]) (v := .string k_0) ⟨by kernel_rfl⟩ (fun w_ hM hS => ⟨w_, ⟨hM.cell 0 rfl rfl, rfl⟩, hM, trivial⟩) ?_
 obtain ⟨x2, hv3, hp⟩ := obind hp
 refine ops_callI (σ := Unit) (d := some 8) (f := 95) (args := #[.string k_0]) (v := (fun _ => .bool x2)) (I := (fun _ => True)) (M' := (fun _ => Mem w0 (.blk b1 [.string k_0, sl A_k_1 k_1 c_k_1] 35 :: Fz F W :: cs))) ⟨by kernel_rfl⟩ (fun w_ hM hS => (tourref3_IsName_ok w0 w_ (.blk b1 [.string k_0, sl A_k_1 k_1 c_k_1] 35 :: cs) F W k_0 (hM.pick 2 [1, 0] (by kernel_rfl) (by decide) rfl)  x2 hv3).mono (by rintro e w' ⟨-, rfl, h'⟩; have h' : Mem w0 (.blk b1 [.string k_0, sl A_k_1 k_1 c_k_1] 35 :: Fz F W :: cs) w' := (h'.pick 2 [1, 0] (by kernel_rfl) (by decide) rfl); exact ⟨(), trivial, rfl, h', trivial⟩)) ?_
 rintro _ -
 refine oQ [oF 3] [(9, .bool (!x2)), (1, vP b1 0)] (by kernel_rfl) ?_
 refine ops_nil (fin_then ?_)
 refine st_if (b := !x2) rfl (fun hc4 => ?_) (fun hc4 => ?_)
 ·
  have hp := cnd_t hc4 hp
  refine st_seq (st_region [oF 0] (by rfl) ?_)
  refine oQ [oF 0] [(2, vI 3)] (by kernel_rfl) ?_
  refine ops_nil (fin_then (st_ret (fin_ret_then ?_)))
  have hq_ := Option.some.inj hp
  have hr0_ := hq_
  subst hr0_
  refine fin_ret [.tmp 2] [vI 3] rfl rfl (fun w_ hM => (.tmp rfl .nil)) (fun w_ hM => ?_)
  exact ⟨trivial, rfl, hM.pick 2 [1] (by kernel_rfl) (by decide) rfl⟩
 ·
  have hp := cnd_f hc4 hp
  refine st_skip (fin_then (st_seq (st_seq (st_region [oF 0, oF 1, oF 2, oF 3] (by rfl) ?_))))
  refine oQ [oF 0] [(10, vP b1 1), (1, vP b1 0)] (by kernel_rfl) ?_
  refine ops_mem (d := some 11) (an := [.v (sl A_k_1 k_1 c_k_1)]) (evs := [ld b1 1 (sl A_k_1 k_1 c_k_1)]) (v := sl A_k_1 k_1 c_k_1) ⟨by kernel_rfl⟩ (fun w_ hM hS => ⟨w_, ⟨hM.cell 0 rfl rfl, rfl⟩, hM, trivial⟩) ?_
  refine oQ [oF 2, oF 3] [(13, .bool (decide (8 < (k_1.length : Int)))), (1, vP b1 0)] (by kernel_rfl) ?_
  refine ops_nil (fin_then ?_)
  refine st_if (b := decide (8 < (k_1.length : Int))) rfl (fun hc5 => ?_) (fun hc5 => ?_)
  ·
   have hp := cnd_t hc5 hp
   refine st_seq (st_region [oF 0] (by rfl) ?_)
   refine oQ [oF 0] [(2, vI 2)] (by kernel_rfl) ?_
   refine ops_nil (fin_then (st_ret (fin_ret_then ?_)))
   have hq_ := Option.some.inj hp
   have hr0_ := hq_
   subst hr0_
   refine fin_ret [.tmp 2] [vI 2] rfl rfl (fun w_ hM => (.tmp rfl .nil)) (fun w_ hM => ?_)
   exact ⟨trivial, rfl, hM.pick 2 [1] (by kernel_rfl) (by decide) rfl⟩
  ·
   have hp := cnd_f hc5 hp
   refine st_skip (fin_then (st_seq (st_region [oF 0] (by rfl) ?_)))
   refine oQ [oF 0] [(3, .slice none 0 0), (1, vP b1 0)] (by kernel_rfl) ?_
   refine ops_nil (fin_then ?_)
   refine st_join1 (σ := Unit) (L := fun _ => []) (N := fun _ => Mem w0 (Fz F W :: cs)) (I := fun _ => (tourref3_KindError_j1 = some i9001)) ?_ ?_
   ·
    rintro _ hp
    unfold tourref3_KindError_j1 at hp
    refine st_seq (st_region [oF 0] (by rfl) ?_)
    refine oQ [oF 0] [(2, vI 0)] (by kernel_rfl) ?_
    refine ops_nil (fin_then (st_ret ?_))
    have hq_ := Option.some.inj hp
    have hr0_ := hq_
    subst hr0_
    refine fin_ret [.tmp 2] [vI 0] rfl rfl (fun w_ hM => (.tmp rfl .nil)) (fun w_ hM => ?_)
    exact ⟨trivial, rfl, hM⟩
   ·
    intro HJ1
    refine st_seq (st_seq (st_region [oF 0, oF 1, oF 2, oF 3] (by rfl) ?_))
    refine oQ [oF 0] [(14, vP b1 1), (3, .slice none 0 0)] (by kernel_rfl) ?_
    refine ops_mem (d := some 15) (an := [.v (sl A_k_1 k_1 c_k_1)]) (evs := [ld b1 1 (sl A_k_1 k_1 c_k_1)]) (v := sl A_k_1 k_1 c_k_1) ⟨by kernel_rfl⟩ (fun w_ hM hS => ⟨w_, ⟨hM.cell 0 rfl rfl, rfl⟩, hM, trivial⟩) ?_
    refine oQ [oF 2, oF 3] [(17, vI 0), (16, vI (k_1.length : Int)), (15, sl A_k_1 k_1 c_k_1), (3, .slice none 0 0)] (by kernel_rfl) ?_
    refine ops_nil (fin_then (st_block ?_))
    refine st_conv (l' := [(17, vI 0), (16, vI (k_1.length : Int)), (15, sl A_k_1 k_1 c_k_1), (3, .slice none 0 0)]) (M' := Mem w0 (ow none ([] : List ByteArray) 0 9 1 [] :: .blk b1 [.string k_0, sl A_k_1 k_1 c_k_1] 35 :: Fz F W :: cs)) rfl (fun w_ h => h.onil none 9 1) ?_
    obtain ⟨r2, hl2, hk2⟩ := obind hp
    refine st_loopP (σ := (List ByteArray) × Int) (ρ := (Int ⊕ Unit)) (γ := (Option Addr) × Nat × (List Value)) hl2 (none, 0, []) (fun s_ g_ => match s_, g_ with | (l8, i11), (A6, c7, y9) => [(3, sl A6 l8 c7), (15, sl A_k_1 k_1 c_k_1), (16, vI (k_1.length : Int)), (17, vI i11)]) (fun s_ g_ => match s_, g_ with | (l8, i11), (A6, c7, y9) => Mem w0 (ow A6 l8 c7 9 1 y9 :: Fz F W :: cs)) (fun s_ g_ => match s_, g_ with | (l8, i11), (A6, c7, y9) => (RepL Rep.str F W l8 y9)) (RepL.nil (R := Rep.str)) (look_has ⟨rfl, rfl, rfl, rfl, trivial⟩) (fun w_ hM => hM.pick 3 [0, 2] (by kernel_rfl) (by decide) rfl) ?_
    rintro ⟨l8, i11⟩ ⟨A6, c7, y9⟩ o2 h10 hs_ hd2
    have hp : (tourref3_KindError_l2 k_1) l8 i11 = some o2 := hs_
    clear hs_
    unfold tourref3_KindError_l2 at hp
    refine st_seq (st_region [oF 0] (by rfl) ?_)
    refine oQ [oF 0] [(18, .bool (decide (i11 < (k_1.length : Int)))), (3, sl A6 l8 c7), (15, sl A_k_1 k_1 c_k_1), (16, vI (k_1.length : Int)), (17, vI i11)] (by kernel_rfl) ?_
    refine ops_nil (fin_then (st_seq ?_))
    refine st_if (b := decide (i11 < (k_1.length : Int))) rfl (fun hc12 => ?_) (fun hc12 => ?_)
    ·
     have hp := cnd_t hc12 hp
     refine st_skip (fin_then (st_seq (st_block (st_seq (st_region [oF 0, oF 1, oF 2, oF 3] (by rfl) ?_)))))
     obtain ⟨x13, hv14, hp⟩ := obind hp
     obtain ⟨m15, hm16, hx17⟩ := idx_some hv14
     have hl20 := (List.getElem?_eq_some_iff.1 hx17).1
     obtain ⟨ad21, vs18, hA22, hr19, hq23⟩ := RdS.el h_k_1 hx17
     obtain rfl := dec_api_Field hr19
     refine ops_val (op := (.indexAddr 33 (.tmp 15) (.tmp 17))) (d := some 19) (v := .pointer (some (ad21.add (m15 * 3)))) ⟨by kernel_rfl⟩ (run_indexA hA22 Tryd.underlying33 (z := 3) (by kernel_rfl) rfl rfl hm16 hl20) ?_
     refine ops_mem (d := some 20) (an := [.v (.string x13.Name), .v (vI x13.Bits), .v (vI x13.Low)]) (evs := [.load (ad21.add (m15 * 3)) (.string x13.Name), .load ((ad21.add (m15 * 3)).add 1) (vI x13.Bits), .load ((ad21.add (m15 * 3)).add 2) (vI x13.Low)]) (v := .agg #[.string x13.Name, vI x13.Bits, vI x13.Low]) ⟨by kernel_rfl⟩ (fun w_ hM hS => ⟨w_, ⟨hM.elcell 1 rfl hq23 0 rfl, hM.elcell 1 rfl hq23 1 rfl, hM.elcell 1 rfl hq23 2 rfl, rfl⟩, hM, trivial⟩) ?_
     refine ops_newB (d := some 5) [.string ByteArray.empty, vI 0, vI 0] 32 (fun b24 => ⟨by kernel_rfl⟩) (fun w_ hM hS => trivial) (fun b24 => ?_)
     refine ops_store (an := []) (evs := [sr b24 0 (.string x13.Name), sr b24 1 (vI x13.Bits), sr b24 2 (vI x13.Low)]) ⟨by kernel_rfl⟩ (fun w_ hM hS => let ⟨w', he, h'⟩ := hM.evs_stores [.string x13.Name, vI x13.Bits, vI x13.Low] 0 rfl 0 (Nat.le_of_ble_eq_true rfl); ⟨w', he, h', trivial⟩) ?_
     refine ops_nil (fin_then (st_seq (st_seq (st_region [oF 0, oF 1, oF 2] (by rfl) ?_))))
     refine ops_mem (d := some 21) (an := [.v (.string x13.Name), .v (vI x13.Bits), .v (vI x13.Low)]) (evs := [ld b24 0 (.string x13.Name), ld b24 1 (vI x13.Bits), ld b24 2 (vI x13.Low)]) (v := .agg #[.string x13.Name, vI x13.Bits, vI x13.Low]) ⟨by kernel_rfl⟩ (fun w_ hM hS => ⟨w_, ⟨hM.cell 0 rfl rfl, hM.cell 0 rfl rfl, hM.cell 0 rfl rfl, rfl⟩, hM, trivial⟩) ?_
     obtain ⟨x25, hv26, hp⟩ := obind hp
     refine ops_callI (σ := Unit) (d := some 22) (f := 102) (args := #[.agg #[.string x13.Name, vI x13.Bits, vI x13.Low]]) (v := (fun _ => .bool x25)) (I := (fun _ => True)) (M' := (fun _ => Mem w0 (.blk b24 [.string x13.Name, vI x13.Bits, vI x13.Low] 32 :: ow A6 l8 c7 9 1 y9 :: Fz F W :: cs))) ⟨by kernel_rfl⟩ (fun w_ hM hS => (tourref3_FieldOK_ok w0 w_ (.blk b24 [.string x13.Name, vI x13.Bits, vI x13.Low] 32 :: ow A6 l8 c7 9 1 y9 :: cs) F W x13.Name x13.Bits x13.Low (hM.pick 3 [2, 0, 1] (by kernel_rfl) (by decide) rfl)  x25 hv26).mono (by rintro e w' ⟨-, rfl, h'⟩; have h' : Mem w0 (.blk b24 [.string x13.Name, vI x13.Bits, vI x13.Low] 32 :: ow A6 l8 c7 9 1 y9 :: Fz F W :: cs) w' := (h'.pick 3 [1, 2, 0] (by kernel_rfl) (by decide) rfl); exact ⟨(), trivial, rfl, h', trivial⟩)) ?_
     rintro _ -
     refine oQ [oF 2] [(23, .bool (!x25)), (5, vP b24 0), (3, sl A6 l8 c7), (15, sl A_k_1 k_1 c_k_1), (16, vI (k_1.length : Int)), (17, vI i11)] (by kernel_rfl) ?_
     refine ops_nil (fin_then ?_)
     refine st_if (b := !x25) rfl (fun hc27 => ?_) (fun hc27 => ?_)
     ·
      have hp := cnd_t hc27 hp
      refine st_seq (st_region [oF 0] (by rfl) ?_)
      refine oQ [oF 0] [(2, vI 3)] (by kernel_rfl) ?_
      refine ops_nil (fin_then (st_ret (fin_ret_then (fin_ret_block (fin_ret_then (fin_ret_then (fin_ret_block (fin_ret_then ?_))))))))
      obtain hq_ := Option.some.inj hp
      subst hq_
      obtain hq_ := hd2 _ rfl
      subst hq_
      have hp : some 3 = some i9001 := hk2
      have hq_ := Option.some.inj hp
      have hr0_ := hq_
      subst hr0_
      refine fin_ret [.tmp 2] [vI 3] rfl rfl (fun w_ hM => (.tmp rfl .nil)) (fun w_ hM => ?_)
      exact ⟨trivial, rfl, hM.pick 3 [2] (by kernel_rfl) (by decide) rfl⟩
     ·
      have hp := cnd_f hc27 hp
      refine st_skip (fin_then (st_seq (st_seq (st_region [oF 0, oF 1, oF 2, oF 3] (by rfl) ?_))))
      refine oQ [oF 0, oF 1] [(25, vP b24 0), (24, sl A6 l8 c7), (5, vP b24 0), (3, sl A6 l8 c7), (15, sl A_k_1 k_1 c_k_1), (16, vI (k_1.length : Int)), (17, vI i11)] (by kernel_rfl) ?_
      refine ops_mem (d := some 26) (an := [.v (.string x13.Name)]) (evs := [ld b24 0 (.string x13.Name)]) (v := .string x13.Name) ⟨by kernel_rfl⟩ (fun w_ hM hS => ⟨w_, ⟨hM.cell 0 rfl rfl, rfl⟩, hM, trivial⟩) ?_
      obtain ⟨x28, hv29, hp⟩ := obind hp
      refine ops_callI (σ := Unit) (d := some 27) (f := 101) (args := #[sl A6 l8 c7, .string x13.Name]) (v := (fun _ => .bool x28)) (I := (fun _ => True)) (M' := (fun _ => Mem w0 (.blk b24 [.string x13.Name, vI x13.Bits, vI x13.Low] 32 :: ow A6 l8 c7 9 1 y9 :: Fz F W :: cs))) ⟨by kernel_rfl⟩ (fun w_ hM hS => (tourref3_twice_ok w_ w_ [] (fun b => b < w_.heap.size) w_ A6 c7 l8 x13.Name (Mem.fz0 w_) (hM.ordS 1 2 rfl rfl h10 rfl rfl) x28 hv29).mono (by rintro e w' ⟨-, rfl, h'⟩; have h' : Mem w_ [] w' := h'.pick 1 [] (by kernel_rfl) (by decide) rfl; exact ⟨(), trivial, rfl, hM.join h' rfl, trivial⟩)) ?_
      rintro _ -
      refine ops_nil (fin_then ?_)
      refine st_if (b := x28) rfl (fun hc30 => ?_) (fun hc30 => ?_)
      ·
       have hp := cnd_t hc30 hp
       refine st_seq (st_region [oF 0] (by rfl) ?_)
       refine oQ [oF 0] [(2, vI 5)] (by kernel_rfl) ?_
       refine ops_nil (fin_then (st_ret (fin_ret_then (fin_ret_block (fin_ret_then (fin_ret_then (fin_ret_block (fin_ret_then ?_))))))))
       obtain hq_ := Option.some.inj hp
       subst hq_
       obtain hq_ := hd2 _ rfl
       subst hq_
       have hp : some 5 = some i9001 := hk2
       have hq_ := Option.some.inj hp
       have hr0_ := hq_
       subst hr0_
       refine fin_ret [.tmp 2] [vI 5] rfl rfl (fun w_ hM => (.tmp rfl .nil)) (fun w_ hM => ?_)
       exact ⟨trivial, rfl, hM.pick 3 [2] (by kernel_rfl) (by decide) rfl⟩
      ·
       have hp := cnd_f hc30 hp
       refine st_skip (fin_then (st_region [oF 0, oF 1, oF 2, oF 3, oF 4, oF 5] (by rfl) ?_))
       refine oQ [oF 0, oF 1] [(29, vP b24 0), (28, sl A6 l8 c7), (3, sl A6 l8 c7), (15, sl A_k_1 k_1 c_k_1), (16, vI (k_1.length : Int)), (17, vI i11)] (by kernel_rfl) ?_
       refine ops_mem (d := some 30) (an := [.v (.string x13.Name)]) (evs := [ld b24 0 (.string x13.Name)]) (v := .string x13.Name) ⟨by kernel_rfl⟩ (fun w_ hM hS => ⟨w_, ⟨hM.cell 0 rfl rfl, rfl⟩, hM, trivial⟩) ?_
       have h31 : RepL Rep.str F W ([x13.Name] : List ByteArray) ([.string x13.Name]) := (RepL.cons (R := Rep.str) (F := F) (w := W) (vs := [.string x13.Name]) (ys := []) rfl RepL.nil)
       refine ops_new (d := some 31) (o := .cells ([.string x13.Name]).toArray 9) (v := fun g32 => .slice (sa g32) ([x13.Name] : List ByteArray).length 1) (M' := fun g32 => Mem w0 (orow (sa g32) ([x13.Name] : List ByteArray).length 1 9 1 ([.string x13.Name]) :: .blk b24 [.string x13.Name, vI x13.Bits, vI x13.Low] 32 :: ow A6 l8 c7 9 1 y9 :: Fz F W :: cs)) (fun g32 => ⟨by kernel_rfl⟩) (fun w_ hM hS => ⟨hM.onew [.string x13.Name] 9 1 1 rfl (by decide), trivial⟩) (fun g32 => ?_)
       obtain ⟨l33, hv34, hp⟩ := obind hp
       obtain ⟨he35, hb36⟩ := app_some hv34
       obtain ⟨y37, hy38⟩ : ∃ y_, y9 ++ ([.string x13.Name]) = y_ := ⟨_, rfl⟩
       have h39 : RepL Rep.str F W l33 y37 := by rw [he35, ← hy38]; exact RepL.app h10 h31
       refine ops_appendO (x := (Go.Operand.tmp 28)) (y := (Go.Operand.tmp 31)) (t := 185) (e := 9) (d := some 32) (n' := l33.length) (z := 1) (m := ([x13.Name] : List ByteArray).length) (bytes := 16) (xs' := y37) (news := ([.string x13.Name])) (zv := .string ByteArray.empty) 2 ⟨by kernel_rfl⟩ rfl rfl Tryd.underlying185 (by kernel_rfl) (by rfl) rfl (fun w_ hM => hM.srcO 0 rfl) h31.len h31.one hb36 (by have z_ := congrArg List.length he35; rw [List.length_append] at z_; exact z_.symm) hy38 (fun _ _ _ _ hS h' => trivial) ?_
       rintro ⟨A40, c41⟩
       refine oQ [oF 5] [(3, sl A40 l33 c41), (15, sl A_k_1 k_1 c_k_1), (16, vI (k_1.length : Int)), (17, vI i11)] (by kernel_rfl) ?_
       refine ops_nil (fin_block (fin_then (st_region [oF 0, oF 1] (by rfl) ?_)))
       refine oQ [oF 0, oF 1] [(17, vI (IntKind.i64.wrap (i11 + 1))), (3, sl A40 l33 c41), (15, sl A_k_1 k_1 c_k_1), (16, vI (k_1.length : Int))] (by kernel_rfl) ?_
       refine ops_nil ?_
       exact fin_again (l33, IntKind.i64.wrap (i11 + 1)) (A40, c41, y37) (Option.some.inj hp).symm h39 (look_has ⟨rfl, rfl, rfl, rfl, trivial⟩) (fun w_ hM => hM.pick 4 [2, 3] (by kernel_rfl) (by decide) rfl)
    ·
     have hp := cnd_f hc12 hp
     refine st_exit (fin_exit_then (fin_exit_then (fin_exit ?_)))
     obtain hq_ := Option.some.inj hp
     subst hq_
     obtain hq_ := hd2 _ rfl
     subst hq_
     have hp : tourref3_KindError_j1 = some i9001 := hk2
     exact fin_join HJ1 () hp (look_has trivial) (fun w_ hM => hM.pick 2 [1] (by kernel_rfl) (by decide) rfl)
theorem tourref3_KindsError_ok (w0 w : World) (cs : List Chunk) (F : Nat → Prop) (W : World) (A_l : Option Addr) (c_l : Nat) (l : List api_Kind) (hM0 : Mem w0 (Fz F W :: cs) w) (h_l : RdS R_api_Kind F W A_l c_l l) (i9001 : Int) (hp : tourref3_KindsError l = some i9001) : Calls Tryd.prog 46 #[sl A_l l c_l] w fun e w' => (True) ∧ e = .returned (vI i9001) ∧ Mem w0 (Fz F W :: cs) w' := by
 unfold tourref3_KindsError at hp
 refine sx_calls Tryd.func46 rfl (n := 31) (by kernel_rfl) (l := [(0, sl A_l l c_l)]) rfl (by rfl) hM0 ?_
 refine st_seq (st_region [oF 0] (by rfl) ?_)
 refine oQ [oF 0] [(0, sl A_l l c_l)] (by kernel_rfl) ?_
 refine ops_nil (fin_then (st_seq (st_seq (st_region [oF 0, oF 1, oF 2] (by rfl) ?_))))
 refine oQ [oF 0, oF 1, oF 2] [(9, .bool (decide (16 < (l.length : Int)))), (0, sl A_l l c_l)] (by kernel_rfl) ?_
 refine ops_nil (fin_then ?_)
 refine st_if (b := decide (16 < (l.length : Int))) rfl (fun hc1 => ?_) (fun hc1 => ?_)
 ·
  have hp := cnd_t hc1 hp
  refine st_seq (st_region [oF 0] (by rfl) ?_)
  refine oQ [oF 0] [(2, vI 2)] (by kernel_rfl) ?_
  refine ops_nil (fin_then (st_ret (fin_ret_then ?_)))
  have hq_ := Option.some.inj hp
  have hr0_ := hq_
  subst hr0_
  refine fin_ret [.tmp 2] [vI 2] rfl rfl (fun w_ hM => (.tmp rfl .nil)) (fun w_ hM => ?_)
  exact ⟨trivial, rfl, hM⟩
 ·
  have hp := cnd_f hc1 hp
  refine st_skip (fin_then (st_seq (st_region [oF 0] (by rfl) ?_)))
  refine oQ [oF 0] [(3, .slice none 0 0), (0, sl A_l l c_l)] (by kernel_rfl) ?_
  refine ops_nil (fin_then ?_)
  refine st_join1 (σ := Unit) (L := fun _ => []) (N := fun _ => Mem w0 (Fz F W :: cs)) (I := fun _ => (tourref3_KindsError_j1 = some i9001)) ?_ ?_
  ·
   rintro _ hp
   unfold tourref3_KindsError_j1 at hp
   refine st_seq (st_region [oF 0] (by rfl) ?_)
   refine oQ [oF 0] [(2, vI 0)] (by kernel_rfl) ?_
   refine ops_nil (fin_then (st_ret ?_))
   have hq_ := Option.some.inj hp
   have hr0_ := hq_
   subst hr0_
   refine fin_ret [.tmp 2] [vI 0] rfl rfl (fun w_ hM => (.tmp rfl .nil)) (fun w_ hM => ?_)
   exact ⟨trivial, rfl, hM⟩
  ·
   intro HJ1
   refine st_seq (st_seq (st_region [oF 0, oF 1, oF 2] (by rfl) ?_))
   refine oQ [oF 0, oF 1, oF 2] [(12, vI 0), (11, vI (l.length : Int)), (10, sl A_l l c_l), (3, .slice none 0 0)] (by kernel_rfl) ?_
   refine ops_nil (fin_then (st_block ?_))
   refine st_conv (l' := [(12, vI 0), (11, vI (l.length : Int)), (10, sl A_l l c_l), (3, .slice none 0 0)]) (M' := Mem w0 (ow none ([] : List ByteArray) 0 9 1 [] :: Fz F W :: cs)) rfl (fun w_ h => h.onil none 9 1) ?_
   obtain ⟨r2, hl2, hk2⟩ := obind hp
   refine st_loopP (σ := (List ByteArray) × Int) (ρ := (Int ⊕ Unit)) (γ := (Option Addr) × Nat × (List Value)) hl2 (none, 0, []) (fun s_ g_ => match s_, g_ with | (l4, i7), (A2, c3, y5) => [(3, sl A2 l4 c3), (10, sl A_l l c_l), (11, vI (l.length : Int)), (12, vI i7)]) (fun s_ g_ => match s_, g_ with | (l4, i7), (A2, c3, y5) => Mem w0 (ow A2 l4 c3 9 1 y5 :: Fz F W :: cs)) (fun s_ g_ => match s_, g_ with | (l4, i7), (A2, c3, y5) => (RepL Rep.str F W l4 y5)) (RepL.nil (R := Rep.str)) (look_has ⟨rfl, rfl, rfl, rfl, trivial⟩) (fun w_ hM => hM) ?_
   rintro ⟨l4, i7⟩ ⟨A2, c3, y5⟩ o2 h6 hs_ hd2
   have hp : (tourref3_KindsError_l2 l) l4 i7 = some o2 := hs_
   clear hs_
   unfold tourref3_KindsError_l2 at hp
   refine st_seq (st_region [oF 0] (by rfl) ?_)
   refine oQ [oF 0] [(13, .bool (decide (i7 < (l.length : Int)))), (3, sl A2 l4 c3), (10, sl A_l l c_l), (11, vI (l.length : Int)), (12, vI i7)] (by kernel_rfl) ?_
   refine ops_nil (fin_then (st_seq ?_))
   refine st_if (b := decide (i7 < (l.length : Int))) rfl (fun hc8 => ?_) (fun hc8 => ?_)
   ·
    have hp := cnd_t hc8 hp
    refine st_skip (fin_then (st_seq (st_block (st_seq (st_region [oF 0, oF 1, oF 2, oF 3] (by rfl) ?_)))))
    obtain ⟨x9, hv10, hp⟩ := obind hp
    obtain ⟨m11, hm12, hx13⟩ := idx_some hv10
    have hl16 := (List.getElem?_eq_some_iff.1 hx13).1
    obtain ⟨ad17, vs14, hA18, hr15, hq19⟩ := RdS.el h_l hx13
    obtain ⟨A20, c21, rfl, h22⟩ := dec_api_Kind hr15
    refine ops_val (op := (.indexAddr 22 (.tmp 10) (.tmp 12))) (d := some 14) (v := .pointer (some (ad17.add (m11 * 2)))) ⟨by kernel_rfl⟩ (run_indexA hA18 Tryd.underlying22 (z := 2) (by kernel_rfl) rfl rfl hm12 hl16) ?_
    refine ops_mem (d := some 15) (an := [.v (.string x9.Name), .v (sl A20 x9.Fields c21)]) (evs := [.load (ad17.add (m11 * 2)) (.string x9.Name), .load ((ad17.add (m11 * 2)).add 1) (sl A20 x9.Fields c21)]) (v := .agg #[.string x9.Name, sl A20 x9.Fields c21]) ⟨by kernel_rfl⟩ (fun w_ hM hS => ⟨w_, ⟨hM.elcell 1 rfl hq19 0 rfl, hM.elcell 1 rfl hq19 1 rfl, rfl⟩, hM, trivial⟩) ?_
    refine ops_newB (d := some 5) [.string ByteArray.empty, .slice none 0 0] 35 (fun b23 => ⟨by kernel_rfl⟩) (fun w_ hM hS => trivial) (fun b23 => ?_)
    refine ops_store (an := []) (evs := [sr b23 0 (.string x9.Name), sr b23 1 (sl A20 x9.Fields c21)]) ⟨by kernel_rfl⟩ (fun w_ hM hS => let ⟨w', he, h'⟩ := hM.evs_stores [.string x9.Name, sl A20 x9.Fields c21] 0 rfl 0 (Nat.le_of_ble_eq_true rfl); ⟨w', he, h', trivial⟩) ?_
    refine ops_nil (fin_then (st_seq (st_seq (st_region [oF 0, oF 1, oF 2] (by rfl) ?_))))
    refine ops_mem (d := some 16) (an := [.v (.string x9.Name), .v (sl A20 x9.Fields c21)]) (evs := [ld b23 0 (.string x9.Name), ld b23 1 (sl A20 x9.Fields c21)]) (v := .agg #[.string x9.Name, sl A20 x9.Fields c21]) ⟨by kernel_rfl⟩ (fun w_ hM hS => ⟨w_, ⟨hM.cell 0 rfl rfl, hM.cell 0 rfl rfl, rfl⟩, hM, trivial⟩) ?_
    obtain ⟨x24, hv25, hp⟩ := obind hp
    refine ops_callI (σ := Unit) (d := some 17) (f := 100) (args := #[.agg #[.string x9.Name, sl A20 x9.Fields c21]]) (v := (fun _ => vI x24)) (I := (fun _ => True)) (M' := (fun _ => Mem w0 (.blk b23 [.string x9.Name, sl A20 x9.Fields c21] 35 :: ow A2 l4 c3 9 1 y5 :: Fz F W :: cs))) ⟨by kernel_rfl⟩ (fun w_ hM hS => (tourref3_KindError_ok w0 w_ (.blk b23 [.string x9.Name, sl A20 x9.Fields c21] 35 :: ow A2 l4 c3 9 1 y5 :: cs) F W x9.Name A20 c21 x9.Fields (hM.pick 3 [2, 0, 1] (by kernel_rfl) (by decide) rfl) h22 x24 hv25).mono (by rintro e w' ⟨-, rfl, h'⟩; have h' : Mem w0 (.blk b23 [.string x9.Name, sl A20 x9.Fields c21] 35 :: ow A2 l4 c3 9 1 y5 :: Fz F W :: cs) w' := (h'.pick 3 [1, 2, 0] (by kernel_rfl) (by decide) rfl); exact ⟨(), trivial, rfl, h', trivial⟩)) ?_
    rintro _ -
    refine oQ [oF 2] [(6, vI x24), (5, vP b23 0), (3, sl A2 l4 c3), (10, sl A_l l c_l), (11, vI (l.length : Int)), (12, vI i7)] (by kernel_rfl) ?_
    refine ops_nil (fin_then (st_seq (st_region [oF 0, oF 1] (by rfl) ?_)))
    refine oQ [oF 0, oF 1] [(19, .bool (!(x24 == 0))), (6, vI x24), (5, vP b23 0), (3, sl A2 l4 c3), (10, sl A_l l c_l), (11, vI (l.length : Int)), (12, vI i7)] (by kernel_rfl) ?_
    refine ops_nil (fin_then ?_)
    refine st_if (b := !(x24 == 0)) rfl (fun hc26 => ?_) (fun hc26 => ?_)
    ·
     have hp := cnd_t hc26 hp
     refine st_seq (st_region [oF 0, oF 1] (by rfl) ?_)
     refine oQ [oF 0, oF 1] [(2, vI x24)] (by kernel_rfl) ?_
     refine ops_nil (fin_then (st_ret (fin_ret_then (fin_ret_block (fin_ret_then (fin_ret_then (fin_ret_block (fin_ret_then ?_))))))))
     obtain hq_ := Option.some.inj hp
     subst hq_
     obtain hq_ := hd2 _ rfl
     subst hq_
     have hp : some x24 = some i9001 := hk2
     have hq_ := Option.some.inj hp
     have hr0_ := hq_
     subst hr0_
     refine fin_ret [.tmp 2] [vI x24] rfl rfl (fun w_ hM => (.tmp rfl .nil)) (fun w_ hM => ?_)
     exact ⟨trivial, rfl, hM.pick 3 [2] (by kernel_rfl) (by decide) rfl⟩
    ·
     have hp := cnd_f hc26 hp
     refine st_skip (fin_then (st_seq (st_seq (st_region [oF 0, oF 1, oF 2, oF 3] (by rfl) ?_))))
     refine oQ [oF 0, oF 1] [(22, vP b23 0), (21, sl A2 l4 c3), (5, vP b23 0), (3, sl A2 l4 c3), (10, sl A_l l c_l), (11, vI (l.length : Int)), (12, vI i7)] (by kernel_rfl) ?_
     refine ops_mem (d := some 23) (an := [.v (.string x9.Name)]) (evs := [ld b23 0 (.string x9.Name)]) (v := .string x9.Name) ⟨by kernel_rfl⟩ (fun w_ hM hS => ⟨w_, ⟨hM.cell 0 rfl rfl, rfl⟩, hM, trivial⟩) ?_
     obtain ⟨x27, hv28, hp⟩ := obind hp
     refine ops_callI (σ := Unit) (d := some 24) (f := 101) (args := #[sl A2 l4 c3, .string x9.Name]) (v := (fun _ => .bool x27)) (I := (fun _ => True)) (M' := (fun _ => Mem w0 (.blk b23 [.string x9.Name, sl A20 x9.Fields c21] 35 :: ow A2 l4 c3 9 1 y5 :: Fz F W :: cs))) ⟨by kernel_rfl⟩ (fun w_ hM hS => (tourref3_twice_ok w_ w_ [] (fun b => b < w_.heap.size) w_ A2 c3 l4 x9.Name (Mem.fz0 w_) (hM.ordS 1 2 rfl rfl h6 rfl rfl) x27 hv28).mono (by rintro e w' ⟨-, rfl, h'⟩; have h' : Mem w_ [] w' := h'.pick 1 [] (by kernel_rfl) (by decide) rfl; exact ⟨(), trivial, rfl, hM.join h' rfl, trivial⟩)) ?_
     rintro _ -
     refine ops_nil (fin_then ?_)
     refine st_if (b := x27) rfl (fun hc29 => ?_) (fun hc29 => ?_)
     ·
      have hp := cnd_t hc29 hp
      refine st_seq (st_region [oF 0] (by rfl) ?_)
      refine oQ [oF 0] [(2, vI 5)] (by kernel_rfl) ?_
      refine ops_nil (fin_then (st_ret (fin_ret_then (fin_ret_block (fin_ret_then (fin_ret_then (fin_ret_block (fin_ret_then ?_))))))))
      obtain hq_ := Option.some.inj hp
      subst hq_
      obtain hq_ := hd2 _ rfl
      subst hq_
      have hp : some 5 = some i9001 := hk2
      have hq_ := Option.some.inj hp
      have hr0_ := hq_
      subst hr0_
      refine fin_ret [.tmp 2] [vI 5] rfl rfl (fun w_ hM => (.tmp rfl .nil)) (fun w_ hM => ?_)
      exact ⟨trivial, rfl, hM.pick 3 [2] (by kernel_rfl) (by decide) rfl⟩
     ·
      have hp := cnd_f hc29 hp
      refine st_skip (fin_then (st_region [oF 0, oF 1, oF 2, oF 3, oF 4, oF 5] (by rfl) ?_))
      refine oQ [oF 0, oF 1] [(26, vP b23 0), (25, sl A2 l4 c3), (3, sl A2 l4 c3), (10, sl A_l l c_l), (11, vI (l.length : Int)), (12, vI i7)] (by kernel_rfl) ?_
      refine ops_mem (d := some 27) (an := [.v (.string x9.Name)]) (evs := [ld b23 0 (.string x9.Name)]) (v := .string x9.Name) ⟨by kernel_rfl⟩ (fun w_ hM hS => ⟨w_, ⟨hM.cell 0 rfl rfl, rfl⟩, hM, trivial⟩) ?_
      have h30 : RepL Rep.str F W ([x9.Name] : List ByteArray) ([.string x9.Name]) := (RepL.cons (R := Rep.str) (F := F) (w := W) (vs := [.string x9.Name]) (ys := []) rfl RepL.nil)
      refine ops_new (d := some 28) (o := .cells ([.string x9.Name]).toArray 9) (v := fun g31 => .slice (sa g31) ([x9.Name] : List ByteArray).length 1) (M' := fun g31 => Mem w0 (orow (sa g31) ([x9.Name] : List ByteArray).length 1 9 1 ([.string x9.Name]) :: .blk b23 [.string x9.Name, sl A20 x9.Fields c21] 35 :: ow A2 l4 c3 9 1 y5 :: Fz F W :: cs)) (fun g31 => ⟨by kernel_rfl⟩) (fun w_ hM hS => ⟨hM.onew [.string x9.Name] 9 1 1 rfl (by decide), trivial⟩) (fun g31 => ?_)
      obtain ⟨l32, hv33, hp⟩ := obind hp
      obtain ⟨he34, hb35⟩ := app_some hv33
      obtain ⟨y36, hy37⟩ : ∃ y_, y5 ++ ([.string x9.Name]) = y_ := ⟨_, rfl⟩
      have h38 : RepL Rep.str F W l32 y36 := by rw [he34, ← hy37]; exact RepL.app h6 h30
      refine ops_appendO (x := (Go.Operand.tmp 25)) (y := (Go.Operand.tmp 28)) (t := 185) (e := 9) (d := some 29) (n' := l32.length) (z := 1) (m := ([x9.Name] : List ByteArray).length) (bytes := 16) (xs' := y36) (news := ([.string x9.Name])) (zv := .string ByteArray.empty) 2 ⟨by kernel_rfl⟩ rfl rfl Tryd.underlying185 (by kernel_rfl) (by rfl) rfl (fun w_ hM => hM.srcO 0 rfl) h30.len h30.one hb35 (by have z_ := congrArg List.length he34; rw [List.length_append] at z_; exact z_.symm) hy37 (fun _ _ _ _ hS h' => trivial) ?_
      rintro ⟨A39, c40⟩
      refine oQ [oF 5] [(3, sl A39 l32 c40), (10, sl A_l l c_l), (11, vI (l.length : Int)), (12, vI i7)] (by kernel_rfl) ?_
      refine ops_nil (fin_block (fin_then (st_region [oF 0, oF 1] (by rfl) ?_)))
      refine oQ [oF 0, oF 1] [(12, vI (IntKind.i64.wrap (i7 + 1))), (3, sl A39 l32 c40), (10, sl A_l l c_l), (11, vI (l.length : Int))] (by kernel_rfl) ?_
      refine ops_nil ?_
      exact fin_again (l32, IntKind.i64.wrap (i7 + 1)) (A39, c40, y36) (Option.some.inj hp).symm h38 (look_has ⟨rfl, rfl, rfl, rfl, trivial⟩) (fun w_ hM => hM.pick 4 [2, 3] (by kernel_rfl) (by decide) rfl)
   ·
    have hp := cnd_f hc8 hp
    refine st_exit (fin_exit_then (fin_exit_then (fin_exit ?_)))
    obtain hq_ := Option.some.inj hp
    subst hq_
    obtain hq_ := hd2 _ rfl
    subst hq_
    have hp : tourref3_KindsError_j1 = some i9001 := hk2
    exact fin_join HJ1 () hp (look_has trivial) (fun w_ hM => hM.pick 2 [1] (by kernel_rfl) (by decide) rfl)
end Go.Proofs.YtnnhijlgohlaeaaDoor.A
