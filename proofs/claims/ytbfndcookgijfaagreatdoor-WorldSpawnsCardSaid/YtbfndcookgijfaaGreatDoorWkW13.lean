/- The Go functions come to what the plain functions tell. No condition. -/
import Derived.Test.YtbfndcookgijfaaGreatDoorProg
import Derived.Test.YtbfndcookgijfaaGreatDoorFnW
import Derived.Test.YtbfndcookgijfaaGreatDoorWkW8
import Derived.Test.YtbfndcookgijfaaGreatDoorWkW10
import Derived.Test.YtbfndcookgijfaaGreatDoorWkW11
import Derived.Test.YtbfndcookgijfaaGreatDoorExMap
namespace Go.Proofs.YtbfndcookgijfaaGreatDoor.W
open Go Go.RowKit Go.Proofs.YtbfndcookgijfaaGreatDoor.Sx
set_option linter.unusedVariables false
set_option maxHeartbeats 4000000
set_option maxRecDepth 100000
theorem tourref3_Flat_Room_ok (w0 w : World) (cs : List Chunk) (F : Nat → Prop) (W : World) (b_f : Nat) (A_f_0 : Option Addr) (c_f_0 : Nat) (f_0 : List api_Kind) (A_f_1 : Option Addr) (c_f_1 : Nat) (f_1 : List Int) (y_f_1 : List Value) (b_f_2 : Nat) (es_f_2 : Array MapEntry) (ck_f_2 : Nat) (f_2 : List (Int × (Option (List (Int × (List Int)))))) (hM0 : Mem w0 (.blk b_f [sl A_f_0 f_0 c_f_0, sl A_f_1 f_1 c_f_1, .map (some b_f_2)] 96 :: ow A_f_1 f_1 c_f_1 3 1 y_f_1 :: .obj b_f_2 (.map es_f_2 ck_f_2) :: Fz F W :: cs) w) (h_f_0 : RdS R_api_Kind F W A_f_0 c_f_0 f_0) (h_f_1 : RepL (Rep.int .i64) F W f_1 y_f_1) (h_f_2 : MapOK (fun x_ : Int => Value.int .i64 x_) (Rep.map (fun x_ : Int => Value.int .i64 x_) (Rep.sl (Rep.int .i64)) false) false F W f_2 es_f_2 ck_f_2) (i9001 : Int) (t9002 : Bool) (hp : tourref3_Flat_Room f_0 f_1 f_2 = some (i9001, t9002)) : Calls Tryz.prog 16 #[vP b_f 0] w fun e w' => ∃ (y9004 : List Value), ∃ (es9006 : Array MapEntry), ∃ (ck9007 : Nat), ((RdS R_api_Kind F W A_f_0 c_f_0 f_0) ∧ (RepL (Rep.int .i64) F W f_1 y9004) ∧ (MapOK (fun x_ : Int => Value.int .i64 x_) (Rep.map (fun x_ : Int => Value.int .i64 x_) (Rep.sl (Rep.int .i64)) false) false F W f_2 es9006 ck9007)) ∧ e = .returned (.tuple #[vI i9001, .bool t9002]) ∧ Mem w0 (.blk b_f [sl A_f_0 f_0 c_f_0, sl A_f_1 f_1 c_f_1, .map (some b_f_2)] 96 :: ow A_f_1 f_1 c_f_1 3 1 y9004 :: .obj b_f_2 (.map es9006 ck9007) :: Fz F W :: cs) w' := by
 unfold tourref3_Flat_Room at hp
 refine sx_calls Tryz.func16 rfl (n := 41) (by kernel_rfl) (l := [(0, vP b_f 0)]) rfl (by rfl) hM0 ?_
 refine st_seq (st_region [oF 0, oF 1] (by rfl) ?_)
 refine oQ [oF 0, oF 1] [(0, vP b_f 0)] (by kernel_rfl) ?_
 refine ops_nil (fin_then ?_)
 refine st_join1 (σ := Unit) (L := fun _ => [(0, vP b_f 0)]) (N := fun _ => Mem w0 (.blk b_f [sl A_f_0 f_0 c_f_0, sl A_f_1 f_1 c_f_1, .map (some b_f_2)] 96 :: ow A_f_1 f_1 c_f_1 3 1 y_f_1 :: .obj b_f_2 (.map es_f_2 ck_f_2) :: Fz F W :: cs)) (I := fun _ => ((tourref3_Flat_Room_j1 f_1) = some (i9001, t9002))) ?_ ?_
 ·
  rintro _ hp
  unfold tourref3_Flat_Room_j1 at hp
  refine st_seq (st_region [oF 0, oF 1, oF 2, oF 3, oF 4, oF 5, oF 6] (by rfl) ?_)
  refine oQ [oF 0, oF 1, oF 2] [(38, vP b_f 1)] (by kernel_rfl) ?_
  refine ops_mem (d := some 39) (an := [.v (sl A_f_1 f_1 c_f_1)]) (evs := [ld b_f 1 (sl A_f_1 f_1 c_f_1)]) (v := sl A_f_1 f_1 c_f_1) ⟨by kernel_rfl⟩ (fun w_ hM hS => ⟨w_, ⟨hM.cell 0 rfl rfl, rfl⟩, hM, trivial⟩) ?_
  refine oQ [oF 4, oF 5, oF 6] [(3, .bool false), (2, vI (f_1.length : Int))] (by kernel_rfl) ?_
  refine ops_nil (fin_then (st_ret ?_))
  have hq_ := Option.some.inj hp
  obtain ⟨hr0_, hq_⟩ := Prod.mk.inj hq_
  have hr1_ := hq_
  subst hr0_
  subst hr1_
  refine fin_ret [.tmp 2, .tmp 3] [vI (f_1.length : Int), .bool false] rfl rfl (fun w_ hM => (.tmp rfl (.tmp rfl .nil))) (fun w_ hM => ?_)
  exact ⟨y_f_1, es_f_2, ck_f_2, ⟨h_f_0, h_f_1, h_f_2⟩, rfl, hM⟩
 ·
  intro HJ1
  refine st_seq (st_seq (st_region [oF 0] (by rfl) ?_))
  refine oQ [oF 0] [(5, vI 0), (0, vP b_f 0)] (by kernel_rfl) ?_
  refine ops_nil (fin_then (st_block ?_))
  obtain ⟨r2, hl2, hk2⟩ := obind hp
  refine st_loopP (σ := Int) (ρ := ((Int × Bool) ⊕ Unit)) (γ := Unit) hl2 () (fun s_ g_ => match s_, g_ with | i1, _ => [(0, vP b_f 0), (5, vI i1)]) (fun s_ g_ => match s_, g_ with | i1, _ => Mem w0 (.blk b_f [sl A_f_0 f_0 c_f_0, sl A_f_1 f_1 c_f_1, .map (some b_f_2)] 96 :: ow A_f_1 f_1 c_f_1 3 1 y_f_1 :: .obj b_f_2 (.map es_f_2 ck_f_2) :: Fz F W :: cs)) (fun s_ g_ => match s_, g_ with | i1, _ => True) trivial (look_has ⟨rfl, rfl, trivial⟩) (fun w_ hM => hM) ?_
  rintro i1 _ o2 - hs_ hd2
  have hp : (tourref3_Flat_Room_l2 f_1 f_2) i1 = some o2 := hs_
  clear hs_
  unfold tourref3_Flat_Room_l2 at hp
  refine st_seq (st_region [oF 0] (by rfl) ?_)
  refine oQ [oF 0] [(6, .bool (decide (i1 < 256))), (0, vP b_f 0), (5, vI i1)] (by kernel_rfl) ?_
  refine ops_nil (fin_then (st_seq ?_))
  refine st_if (b := decide (i1 < 256)) rfl (fun hc2 => ?_) (fun hc2 => ?_)
  ·
   have hp := cnd_t hc2 hp
   refine st_skip (fin_then ?_)
   refine st_join1 (σ := Unit) (L := fun _ => [(0, vP b_f 0), (5, vI i1)]) (N := fun _ => Mem w0 (.blk b_f [sl A_f_0 f_0 c_f_0, sl A_f_1 f_1 c_f_1, .map (some b_f_2)] 96 :: ow A_f_1 f_1 c_f_1 3 1 y_f_1 :: .obj b_f_2 (.map es_f_2 ck_f_2) :: Fz F W :: cs)) (I := fun _ => ((tourref3_Flat_Room_j3 i1) = some o2)) ?_ ?_
   ·
    rintro _ hp
    unfold tourref3_Flat_Room_j3 at hp
    refine st_region [oF 0, oF 1] (by rfl) ?_
    refine oQ [oF 0, oF 1] [(5, vI (IntKind.i64.wrap (i1 + 1))), (0, vP b_f 0)] (by kernel_rfl) ?_
    refine ops_nil ?_
    exact fin_again (IntKind.i64.wrap (i1 + 1)) () (Option.some.inj hp).symm trivial (look_has ⟨rfl, rfl, trivial⟩) (fun w_ hM => hM)
   ·
    intro HJ3
    refine st_seq (st_block (st_seq (st_region [oF 0, oF 1] (by rfl) ?_)))
    refine oQ [oF 0, oF 1] [(4, vI i1), (0, vP b_f 0), (5, vI i1)] (by kernel_rfl) ?_
    refine ops_nil (fin_then (st_seq (st_region [oF 0, oF 1, oF 2, oF 3, oF 4, oF 5, oF 6, oF 7, oF 8, oF 9, oF 10, oF 11, oF 12, oF 13, oF 14, oF 15, oF 16, oF 17, oF 18, oF 19, oF 20, oF 21, oF 22, oF 23, oF 24, oF 25] (by rfl) ?_)))
    refine oQ [oF 0, oF 1, oF 2, oF 3] [(11, vP b_f 1), (8, vI i1), (4, vI i1), (0, vP b_f 0), (5, vI i1)] (by kernel_rfl) ?_
    refine ops_mem (d := some 12) (an := [.v (sl A_f_1 f_1 c_f_1)]) (evs := [ld b_f 1 (sl A_f_1 f_1 c_f_1)]) (v := sl A_f_1 f_1 c_f_1) ⟨by kernel_rfl⟩ (fun w_ hM hS => ⟨w_, ⟨hM.cell 0 rfl rfl, rfl⟩, hM, trivial⟩) ?_
    refine oQ [oF 5, oF 6, oF 7] [(15, .bool (decide ((f_1.length : Int) ≤ i1))), (4, vI i1), (0, vP b_f 0), (5, vI i1)] (by kernel_rfl) ?_
    refine ops_bool (t := decide ((f_1.length : Int) ≤ i1)) (l1 := [(15, .bool true), (4, vI i1), (0, vP b_f 0), (5, vI i1)]) (l2 := [(15, .bool false), (4, vI i1), (0, vP b_f 0), (5, vI i1)]) (fun h => by rw [h]) (fun h => by rw [h]) (fun hc3 => ?_) (fun hc3 => ?_)
    ·
     have hp := cnd_t hc3 hp
     refine oQ [oF 8, oF 9, oF 10, oF 11, oF 12, oF 13, oF 14, oF 15, oF 16, oF 17, oF 18, oF 19, oF 20, oF 21, oF 22, oF 23, oF 24, oF 25] [(33, .bool true), (4, vI i1), (0, vP b_f 0), (5, vI i1)] (by kernel_rfl) ?_
     refine ops_nil (fin_then (st_true rfl (st_seq (st_region [oF 0, oF 1, oF 2] (by rfl) ?_))))
     refine oQ [oF 0, oF 1, oF 2] [(3, .bool true), (2, vI i1)] (by kernel_rfl) ?_
     refine ops_nil (fin_then (st_ret (fin_ret_block (fin_ret_then (fin_ret_then (fin_ret_block (fin_ret_then ?_)))))))
     obtain hq_ := Option.some.inj hp
     subst hq_
     obtain hq_ := hd2 _ rfl
     subst hq_
     have hp : some (i1, true) = some (i9001, t9002) := hk2
     have hq_ := Option.some.inj hp
     obtain ⟨hr0_, hq_⟩ := Prod.mk.inj hq_
     have hr1_ := hq_
     subst hr0_
     subst hr1_
     refine fin_ret [.tmp 2, .tmp 3] [vI i1, .bool true] rfl rfl (fun w_ hM => (.tmp rfl (.tmp rfl .nil))) (fun w_ hM => ?_)
     exact ⟨y_f_1, es_f_2, ck_f_2, ⟨h_f_0, h_f_1, h_f_2⟩, rfl, hM⟩
    ·
     have hp := cnd_f hc3 hp
     refine oQ [oF 8, oF 9, oF 10] [(18, vP b_f 2), (15, .bool false), (4, vI i1), (0, vP b_f 0), (5, vI i1)] (by kernel_rfl) ?_
     refine ops_mem (d := some 19) (an := [.v (.map (some b_f_2))]) (evs := [ld b_f 2 (.map (some b_f_2))]) (v := .map (some b_f_2)) ⟨by kernel_rfl⟩ (fun w_ hM hS => ⟨w_, ⟨hM.cell 0 rfl rfl, rfl⟩, hM, trivial⟩) ?_
     refine oQ [oF 12] [(20, vI i1), (19, .map (some b_f_2)), (15, .bool false), (4, vI i1), (0, vP b_f 0), (5, vI i1)] (by kernel_rfl) ?_
     obtain ⟨x4, hv5, hp⟩ := obind hp
     obtain ⟨vs6, hr7, hrun8⟩ := h_f_2.get (KeyLaw.int Tryz.underlying3) Tryz.underlying94 i1 none (⟨none, rfl, rfl⟩) (fun u_ => Tryz.zeroValue37 u_)
     have hr7 : (Rep.map (fun x_ : Int => Value.int .i64 x_) (Rep.sl (Rep.int .i64)) false).rd F W x4 vs6 := by rw [← Option.some.inj hv5]; exact hr7
     obtain ⟨B9, rfl, h10⟩ := hr7
     refine ops_law (op := (.lookup 94 (.tmp 19) (.tmp 20) false)) (d := some 21) (σ := Unit) (v := fun _ => .map B9) (M' := fun _ => Mem w0 (.blk b_f [sl A_f_0 f_0 c_f_0, sl A_f_1 f_1 c_f_1, .map (some b_f_2)] 96 :: ow A_f_1 f_1 c_f_1 3 1 y_f_1 :: .obj b_f_2 (.map es_f_2 ck_f_2) :: Fz F W :: cs)) ⟨by kernel_rfl⟩ (fun o_ w_ ho_ hM hS => ⟨(), w_, run_lookupV rfl rfl (hrun8 false b_f_2 w_ (hM.mapAt 2 rfl)) o_ ho_, hM, trivial⟩) (fun _ => ?_)
     refine ops_val (op := (.binOp Go.BinOp.eql 37 (.tmp 21) (.const (Go.Value.map none)) 37)) (d := some 22) (v := .bool x4.isNone) ⟨by kernel_rfl⟩ (by rw [← RdM.none_iff h10]; exact run_eqMap Tryz.underlying37 rfl rfl) ?_
     refine oQ [oF 15] [(23, .bool x4.isNone), (15, .bool false), (4, vI i1), (0, vP b_f 0), (5, vI i1)] (by kernel_rfl) ?_
     refine ops_bool (t := x4.isNone) (l1 := [(23, .bool true), (15, .bool false), (4, vI i1), (0, vP b_f 0), (5, vI i1)]) (l2 := [(23, .bool false), (15, .bool false), (4, vI i1), (0, vP b_f 0), (5, vI i1)]) (fun h => by rw [h]) (fun h => by rw [h]) (fun hc11 => ?_) (fun hc11 => ?_)
     ·
      have hp := cnd_t hc11 hp
      refine oQ [oF 16, oF 17, oF 18] [(26, vP b_f 1), (23, .bool true), (15, .bool false), (4, vI i1), (0, vP b_f 0), (5, vI i1)] (by kernel_rfl) ?_
      refine ops_mem (d := some 27) (an := [.v (sl A_f_1 f_1 c_f_1)]) (evs := [ld b_f 1 (sl A_f_1 f_1 c_f_1)]) (v := sl A_f_1 f_1 c_f_1) ⟨by kernel_rfl⟩ (fun w_ hM hS => ⟨w_, ⟨hM.cell 0 rfl rfl, rfl⟩, hM, trivial⟩) ?_
      refine oQ [oF 20] [(28, vI i1), (27, sl A_f_1 f_1 c_f_1), (23, .bool true), (15, .bool false), (4, vI i1), (0, vP b_f 0), (5, vI i1)] (by kernel_rfl) ?_
      obtain ⟨x12, hv13, hp⟩ := obind hp
      obtain ⟨m14, hm15, hx16⟩ := idx_some hv13
      have hl19 := (List.getElem?_eq_some_iff.1 hx16).1
      refine ops_fact (fun w_ hM => hM.orowSome 1 rfl (Nat.lt_of_le_of_lt (Nat.zero_le _) hl19)) ?_
      rintro ⟨g20, rfl, -⟩
      obtain ⟨vs17, hr18, hq21⟩ := h_f_1.at_ m14 x12 hx16
      obtain rfl := hr18
      refine ops_val (op := (.indexAddr 23 (.tmp 27) (.tmp 28))) (d := some 29) (v := vP g20 (m14 * 1)) ⟨by kernel_rfl⟩ (run_indexRow Tryz.underlying23 (z := 1) (by kernel_rfl) rfl rfl hm15 hl19 rfl) ?_
      refine ops_mem (d := some 30) (an := [.v (vI x12)]) (evs := [.load ⟨g20, m14 * 1, none⟩ (vI x12)]) (v := vI x12) ⟨by kernel_rfl⟩ (fun w_ hM hS => ⟨w_, ⟨hM.ocell 1 rfl (hq21 0 _ rfl), rfl⟩, hM, trivial⟩) ?_
      refine oQ [oF 23, oF 24, oF 25] [(33, .bool (decide (x12 < 1073741824))), (4, vI i1), (0, vP b_f 0), (5, vI i1)] (by kernel_rfl) ?_
      refine ops_nil (fin_then ?_)
      refine st_if (b := decide (x12 < 1073741824)) rfl (fun hc22 => ?_) (fun hc22 => ?_)
      ·
       have hp := cnd_t hc22 hp
       refine st_seq (st_region [oF 0, oF 1, oF 2] (by rfl) ?_)
       refine oQ [oF 0, oF 1, oF 2] [(3, .bool true), (2, vI i1)] (by kernel_rfl) ?_
       refine ops_nil (fin_then (st_ret (fin_ret_block (fin_ret_then (fin_ret_then (fin_ret_block (fin_ret_then ?_)))))))
       obtain hq_ := Option.some.inj hp
       subst hq_
       obtain hq_ := hd2 _ rfl
       subst hq_
       have hp : some (i1, true) = some (i9001, t9002) := hk2
       have hq_ := Option.some.inj hp
       obtain ⟨hr0_, hq_⟩ := Prod.mk.inj hq_
       have hr1_ := hq_
       subst hr0_
       subst hr1_
       refine fin_ret [.tmp 2, .tmp 3] [vI i1, .bool true] rfl rfl (fun w_ hM => (.tmp rfl (.tmp rfl .nil))) (fun w_ hM => ?_)
       exact ⟨y_f_1, es_f_2, ck_f_2, ⟨h_f_0, h_f_1, h_f_2⟩, rfl, hM⟩
      ·
       have hp := cnd_f hc22 hp
       refine st_skip (fin_block ?_)
       exact fin_join HJ3 () hp (look_has ⟨rfl, rfl, trivial⟩) (fun w_ hM => hM)
     ·
      have hp := cnd_f hc11 hp
      refine oQ [oF 16, oF 17, oF 18, oF 19, oF 20, oF 21, oF 22, oF 23, oF 24, oF 25] [(33, .bool false), (4, vI i1), (0, vP b_f 0), (5, vI i1)] (by kernel_rfl) ?_
      refine ops_nil (fin_then (st_false rfl (st_skip (fin_block ?_))))
      exact fin_join HJ3 () hp (look_has ⟨rfl, rfl, trivial⟩) (fun w_ hM => hM)
  ·
   have hp := cnd_f hc2 hp
   refine st_exit (fin_exit_then (fin_exit_then (fin_exit ?_)))
   obtain hq_ := Option.some.inj hp
   subst hq_
   obtain hq_ := hd2 _ rfl
   subst hq_
   have hp : (tourref3_Flat_Room_j1 f_1) = some (i9001, t9002) := hk2
   exact fin_join HJ1 () hp (look_has ⟨rfl, trivial⟩) (fun w_ hM => hM)
theorem tourref3_Flat_Spawn_ok (w0 w : World) (cs : List Chunk) (F : Nat → Prop) (W : World) (b_f : Nat) (A_f_0 : Option Addr) (c_f_0 : Nat) (f_0 : List api_Kind) (A_f_1 : Option Addr) (c_f_1 : Nat) (f_1 : List Int) (y_f_1 : List Value) (b_f_2 : Nat) (es_f_2 : Array MapEntry) (ck_f_2 : Nat) (f_2 : List (Int × (Option (List (Int × (List Int)))))) (A_l : Option Addr) (c_l : Nat) (l : List api_Comp) (hM0 : Mem w0 (.blk b_f [sl A_f_0 f_0 c_f_0, sl A_f_1 f_1 c_f_1, .map (some b_f_2)] 96 :: ow A_f_1 f_1 c_f_1 3 1 y_f_1 :: .obj b_f_2 (.map es_f_2 ck_f_2) :: Fz F W :: cs) w) (h_f_0 : RdS R_api_Kind F W A_f_0 c_f_0 f_0) (h_f_1 : RepL (Rep.int .i64) F W f_1 y_f_1) (h_f_2 : MapOK (fun x_ : Int => Value.int .i64 x_) (Rep.map (fun x_ : Int => Value.int .i64 x_) (Rep.sl (Rep.int .i64)) false) false F W f_2 es_f_2 ck_f_2) (h_l : RdS R_api_Comp F W A_l c_l l) (i9001 : Int) (i9002 : Int) (i9003 : Int) (l9007 : List Int) (l9012 : List (Int × (Option (List (Int × (List Int)))))) (hp : tourref3_Flat_Spawn f_0 f_1 f_2 l = some (i9001, i9002, i9003, l9007, l9012)) : Calls Tryz.prog 17 #[vP b_f 0, sl A_l l c_l] w fun e w' => ∃ (A9005 : Option Addr), ∃ (c9006 : Nat), ∃ (y9008 : List Value), ∃ (es9010 : Array MapEntry), ∃ (ck9011 : Nat), ∃ (F9014 : Nat → Prop), ∃ (W9015 : World), ((RdS R_api_Kind F9014 W9015 A_f_0 c_f_0 f_0) ∧ (RepL (Rep.int .i64) F9014 W9015 l9007 y9008) ∧ (MapOK (fun x_ : Int => Value.int .i64 x_) (Rep.map (fun x_ : Int => Value.int .i64 x_) (Rep.sl (Rep.int .i64)) false) false F9014 W9015 l9012 es9010 ck9011) ∧ (Ext w0 F W F9014 W9015)) ∧ e = .returned (.tuple #[.agg #[vI i9001, vI i9002], vI i9003]) ∧ Mem w0 (.blk b_f [sl A_f_0 f_0 c_f_0, sl A9005 l9007 c9006, .map (some b_f_2)] 96 :: ow A9005 l9007 c9006 3 1 y9008 :: .obj b_f_2 (.map es9010 ck9011) :: Fz F9014 W9015 :: cs) w' := by
 unfold tourref3_Flat_Spawn at hp
 refine sx_calls Tryz.func17 rfl (n := 62) (by kernel_rfl) (l := [(0, vP b_f 0), (1, sl A_l l c_l)]) rfl (by rfl) hM0 ?_
 refine st_seq (st_region [oF 0, oF 1] (by rfl) ?_)
 refine ops_newB (d := some 4) [vI 0, vI 0] 29 (fun b1 => ⟨by kernel_rfl⟩) (fun w_ hM hS => trivial) (fun b1 => ?_)
 refine oQ [oF 1] [(4, vP b1 0), (0, vP b_f 0), (1, sl A_l l c_l)] (by kernel_rfl) ?_
 refine ops_nil (fin_then (st_seq (st_region [oF 0, oF 1, oF 2, oF 3, oF 4, oF 5, oF 6, oF 7, oF 8, oF 9, oF 10] (by rfl) ?_)))
 refine oQ [oF 0, oF 1, oF 2] [(13, vP b_f 0), (4, vP b1 0), (0, vP b_f 0), (1, sl A_l l c_l)] (by kernel_rfl) ?_
 refine ops_mem (d := some 14) (an := [.v (sl A_f_0 f_0 c_f_0)]) (evs := [ld b_f 0 (sl A_f_0 f_0 c_f_0)]) (v := sl A_f_0 f_0 c_f_0) ⟨by kernel_rfl⟩ (fun w_ hM hS => ⟨w_, ⟨hM.cell 1 rfl rfl, rfl⟩, hM, trivial⟩) ?_
 refine oQ [oF 4] [(15, sl A_l l c_l), (14, sl A_f_0 f_0 c_f_0), (4, vP b1 0), (0, vP b_f 0)] (by kernel_rfl) ?_
 obtain ⟨x2, x3, hv4, hp⟩ := obind2 hp
 refine ops_callI (σ := (Option Nat) × (Nat → Prop) × World) (d := some 16) (f := 9) (args := #[sl A_f_0 f_0 c_f_0, sl A_l l c_l]) (v := (fun x_ => match x_ with | (B5, F6, W7) => .tuple #[.map B5, vI x3])) (I := (fun x_ => match x_ with | (B5, F6, W7) => (RdM (fun x_ : Int => Value.int .i64 x_) (Rep.sl (Rep.int .i64)) false F6 W7 B5 x2) ∧ (Ext w0 F W F6 W7))) (M' := (fun x_ => match x_ with | (B5, F6, W7) => Mem w0 (.blk b1 [vI 0, vI 0] 29 :: .blk b_f [sl A_f_0 f_0 c_f_0, sl A_f_1 f_1 c_f_1, .map (some b_f_2)] 96 :: ow A_f_1 f_1 c_f_1 3 1 y_f_1 :: .obj b_f_2 (.map es_f_2 ck_f_2) :: Fz F6 W7 :: cs))) ⟨by kernel_rfl⟩ (fun w_ hM hS => (tourref3_FittedAll_ok w0 w_ (.blk b1 [vI 0, vI 0] 29 :: .blk b_f [sl A_f_0 f_0 c_f_0, sl A_f_1 f_1 c_f_1, .map (some b_f_2)] 96 :: ow A_f_1 f_1 c_f_1 3 1 y_f_1 :: .obj b_f_2 (.map es_f_2 ck_f_2) :: cs) F W A_f_0 c_f_0 f_0 A_l c_l l (hM.pick 5 [4, 0, 1, 2, 3] (by kernel_rfl) (by decide) rfl) h_f_0 h_l x2 x3 hv4).mono (by rintro e w' ⟨B5, F6, W7, ⟨h8, h9⟩, rfl, h'⟩; have h' : Mem w0 (.blk b1 [vI 0, vI 0] 29 :: .blk b_f [sl A_f_0 f_0 c_f_0, sl A_f_1 f_1 c_f_1, .map (some b_f_2)] 96 :: ow A_f_1 f_1 c_f_1 3 1 y_f_1 :: .obj b_f_2 (.map es_f_2 ck_f_2) :: Fz F6 W7 :: cs) w' := (h'.pick 5 [1, 2, 3, 4, 0] (by kernel_rfl) (by decide) rfl); exact ⟨(B5, F6, W7), ⟨h8, h9⟩, rfl, h', trivial⟩)) ?_
 rintro ⟨B5, F6, W7⟩ ⟨h8, h9⟩
 have h_l := h_l.ext h9
 have h_f_0 := h_f_0.ext h9
 have h_f_1 := h_f_1.ext h9
 have h_f_2 := h_f_2.ext h9
 refine oQ [oF 6, oF 7, oF 8, oF 9, oF 10] [(7, vI x3), (6, .map B5), (4, vP b1 0), (0, vP b_f 0)] (by kernel_rfl) ?_
 refine ops_nil (fin_then (st_seq (st_seq (st_region [oF 0, oF 1] (by rfl) ?_))))
 refine oQ [oF 0, oF 1] [(20, .bool (!(x3 == 0))), (7, vI x3), (6, .map B5), (4, vP b1 0), (0, vP b_f 0)] (by kernel_rfl) ?_
 refine ops_nil (fin_then ?_)
 refine st_if (b := !(x3 == 0)) rfl (fun hc10 => ?_) (fun hc10 => ?_)
 ·
  have hp := cnd_t hc10 hp
  refine st_seq (st_region [oF 0, oF 1, oF 2, oF 3] (by rfl) ?_)
  refine oQ [oF 0, oF 1] [(22, vI x3), (21, .agg #[vI 0, vI 0]), (4, vP b1 0)] (by kernel_rfl) ?_
  refine ops_store (an := []) (evs := [sr b1 0 (vI 0), sr b1 1 (vI 0)]) ⟨by kernel_rfl⟩ (fun w_ hM hS => let ⟨w', he, h'⟩ := hM.evs_stores [vI 0, vI 0] 0 rfl 0 (Nat.le_of_ble_eq_true rfl); ⟨w', he, h', trivial⟩) ?_
  refine oQ [oF 3] [(5, vI x3), (4, vP b1 0)] (by kernel_rfl) ?_
  refine ops_nil (fin_then (st_ret (fin_ret_then ?_)))
  have hq_ := Option.some.inj hp
  obtain ⟨hr0_, hq_⟩ := Prod.mk.inj hq_
  obtain ⟨hr1_, hq_⟩ := Prod.mk.inj hq_
  obtain ⟨hr2_, hq_⟩ := Prod.mk.inj hq_
  obtain ⟨hr3_, hq_⟩ := Prod.mk.inj hq_
  have hr4_ := hq_
  subst hr0_
  subst hr1_
  subst hr2_
  subst hr3_
  subst hr4_
  refine fin_ret [.cell 4 29, .tmp 5] [.agg #[vI 0, vI 0], vI x3] rfl rfl (fun w_ hM => (.cell rfl (tr_run _ [.v (vI 0), .v (vI 0)] [ld b1 0 (vI 0), ld b1 1 (vI 0)] (.agg #[vI 0, vI 0] : Value) _ _ (by kernel_rfl) ⟨hM.cell 0 rfl rfl, hM.cell 0 rfl rfl, rfl⟩) (.tmp rfl .nil))) (fun w_ hM => ?_)
  exact ⟨A_f_1, c_f_1, y_f_1, es_f_2, ck_f_2, F6, W7, ⟨h_f_0, h_f_1, h_f_2, h9⟩, rfl, hM.pick 5 [1, 2, 3, 4] (by kernel_rfl) (by decide) rfl⟩
 ·
  have hp := cnd_f hc10 hp
  refine st_skip (fin_then (st_seq (st_region [oF 0, oF 1, oF 2, oF 3, oF 4, oF 5, oF 6] (by rfl) ?_)))
  refine oQ [oF 0] [(24, vP b_f 0), (6, .map B5), (4, vP b1 0), (0, vP b_f 0)] (by kernel_rfl) ?_
  obtain ⟨x11, x12, hv13, hp⟩ := obind2 hp
  refine ops_callI (σ := (List Value) × (Array MapEntry) × Nat) (d := some 25) (f := 16) (args := #[vP b_f 0]) (v := (fun x_ => match x_ with | (y14, es15, ck16) => .tuple #[vI x11, .bool x12])) (I := (fun x_ => match x_ with | (y14, es15, ck16) => (RdS R_api_Kind F6 W7 A_f_0 c_f_0 f_0) ∧ (RepL (Rep.int .i64) F6 W7 f_1 y14) ∧ (MapOK (fun x_ : Int => Value.int .i64 x_) (Rep.map (fun x_ : Int => Value.int .i64 x_) (Rep.sl (Rep.int .i64)) false) false F6 W7 f_2 es15 ck16))) (M' := (fun x_ => match x_ with | (y14, es15, ck16) => Mem w0 (.blk b1 [vI 0, vI 0] 29 :: .blk b_f [sl A_f_0 f_0 c_f_0, sl A_f_1 f_1 c_f_1, .map (some b_f_2)] 96 :: ow A_f_1 f_1 c_f_1 3 1 y14 :: .obj b_f_2 (.map es15 ck16) :: Fz F6 W7 :: cs))) ⟨by kernel_rfl⟩ (fun w_ hM hS => (tourref3_Flat_Room_ok w0 w_ (.blk b1 [vI 0, vI 0] 29 :: cs) F6 W7 b_f A_f_0 c_f_0 f_0 A_f_1 c_f_1 f_1 y_f_1 b_f_2 es_f_2 ck_f_2 f_2 (hM.pick 5 [1, 2, 3, 4, 0] (by kernel_rfl) (by decide) rfl) h_f_0 h_f_1 h_f_2 x11 x12 hv13).mono (by rintro e w' ⟨y14, es15, ck16, ⟨h17, h18, h19⟩, rfl, h'⟩; have h' : Mem w0 (.blk b1 [vI 0, vI 0] 29 :: .blk b_f [sl A_f_0 f_0 c_f_0, sl A_f_1 f_1 c_f_1, .map (some b_f_2)] 96 :: ow A_f_1 f_1 c_f_1 3 1 y14 :: .obj b_f_2 (.map es15 ck16) :: Fz F6 W7 :: cs) w' := (h'.pick 5 [4, 0, 1, 2, 3] (by kernel_rfl) (by decide) rfl); exact ⟨(y14, es15, ck16), ⟨h17, h18, h19⟩, rfl, h', trivial⟩)) ?_
  rintro ⟨y14, es15, ck16⟩ ⟨h17, h18, h19⟩
  refine oQ [oF 2, oF 3, oF 4, oF 5, oF 6] [(9, .bool x12), (8, vI x11), (6, .map B5), (4, vP b1 0), (0, vP b_f 0)] (by kernel_rfl) ?_
  refine ops_nil (fin_then (st_seq (st_seq (st_region [oF 0, oF 1] (by rfl) ?_))))
  refine oQ [oF 0, oF 1] [(29, .bool (!x12)), (8, vI x11), (6, .map B5), (4, vP b1 0), (0, vP b_f 0)] (by kernel_rfl) ?_
  refine ops_nil (fin_then ?_)
  refine st_if (b := !x12) rfl (fun hc20 => ?_) (fun hc20 => ?_)
  ·
   have hp := cnd_t hc20 hp
   refine st_seq (st_region [oF 0, oF 1, oF 2] (by rfl) ?_)
   refine oQ [oF 0] [(30, .agg #[vI 0, vI 0]), (4, vP b1 0)] (by kernel_rfl) ?_
   refine ops_store (an := []) (evs := [sr b1 0 (vI 0), sr b1 1 (vI 0)]) ⟨by kernel_rfl⟩ (fun w_ hM hS => let ⟨w', he, h'⟩ := hM.evs_stores [vI 0, vI 0] 0 rfl 0 (Nat.le_of_ble_eq_true rfl); ⟨w', he, h', trivial⟩) ?_
   refine oQ [oF 2] [(5, vI 6), (4, vP b1 0)] (by kernel_rfl) ?_
   refine ops_nil (fin_then (st_ret (fin_ret_then ?_)))
   have hq_ := Option.some.inj hp
   obtain ⟨hr0_, hq_⟩ := Prod.mk.inj hq_
   obtain ⟨hr1_, hq_⟩ := Prod.mk.inj hq_
   obtain ⟨hr2_, hq_⟩ := Prod.mk.inj hq_
   obtain ⟨hr3_, hq_⟩ := Prod.mk.inj hq_
   have hr4_ := hq_
   subst hr0_
   subst hr1_
   subst hr2_
   subst hr3_
   subst hr4_
   refine fin_ret [.cell 4 29, .tmp 5] [.agg #[vI 0, vI 0], vI 6] rfl rfl (fun w_ hM => (.cell rfl (tr_run _ [.v (vI 0), .v (vI 0)] [ld b1 0 (vI 0), ld b1 1 (vI 0)] (.agg #[vI 0, vI 0] : Value) _ _ (by kernel_rfl) ⟨hM.cell 0 rfl rfl, hM.cell 0 rfl rfl, rfl⟩) (.tmp rfl .nil))) (fun w_ hM => ?_)
   exact ⟨A_f_1, c_f_1, y14, es15, ck16, F6, W7, ⟨h17, h18, h19, h9⟩, rfl, hM.pick 5 [1, 2, 3, 4] (by kernel_rfl) (by decide) rfl⟩
  ·
   have hp := cnd_f hc20 hp
   refine st_skip (fin_then ?_)
   refine st_join1 (σ := (Option Addr) × Nat × (List Int) × (List Value)) (L := fun x_ => match x_ with | (A21, c22, l23, y24) => [(0, vP b_f 0), (4, vP b1 0), (6, .map B5), (8, vI x11)]) (N := fun x_ => match x_ with | (A21, c22, l23, y24) => Mem w0 (.blk b_f [sl A_f_0 f_0 c_f_0, sl A21 l23 c22, .map (some b_f_2)] 96 :: ow A21 l23 c22 3 1 y24 :: .obj b_f_2 (.map es15 ck16) :: .blk b1 [vI 0, vI 0] 29 :: Fz F6 W7 :: cs)) (I := fun x_ => match x_ with | (A21, c22, l23, y24) => ((tourref3_Flat_Spawn_j1 f_2 x11 x2) l23 = some (i9001, i9002, i9003, l9007, l9012)) ∧ (RepL (Rep.int .i64) F6 W7 l23 y24)) ?_ ?_
   ·
    rintro ⟨A21, c22, l23, y24⟩ ⟨hp, h25⟩
    unfold tourref3_Flat_Spawn_j1 at hp
    refine st_seq (st_region [oF 0, oF 1, oF 2, oF 3, oF 4, oF 5, oF 6] (by rfl) ?_)
    refine oQ [oF 0, oF 1, oF 2] [(49, vP b_f 2), (0, vP b_f 0), (4, vP b1 0), (6, .map B5), (8, vI x11)] (by kernel_rfl) ?_
    refine ops_mem (d := some 50) (an := [.v (.map (some b_f_2))]) (evs := [ld b_f 2 (.map (some b_f_2))]) (v := .map (some b_f_2)) ⟨by kernel_rfl⟩ (fun w_ hM hS => ⟨w_, ⟨hM.cell 0 rfl rfl, rfl⟩, hM, trivial⟩) ?_
    refine oQ [oF 4, oF 5] [(52, .map B5), (51, vI x11), (50, .map (some b_f_2)), (0, vP b_f 0), (4, vP b1 0), (8, vI x11)] (by kernel_rfl) ?_
    obtain ⟨l26, hv27, hp⟩ := obind hp
    obtain ⟨es28, ck29, h30, hrun31⟩ := MapOK.update h19 (KeyLaw.int Tryz.underlying3) Tryz.underlying94 x11 (v := x2) (vs := [.map B5]) (⟨_, rfl, h8⟩)
    rw [Option.some.inj hv27] at h30
    refine ops_unit (op := (.mapUpdate 94 (.tmp 50) (.tmp 51) (.tmp 52))) (σ := Unit) (M' := fun _ => Mem w0 (.blk b_f [sl A_f_0 f_0 c_f_0, sl A21 l23 c22, .map (some b_f_2)] 96 :: ow A21 l23 c22 3 1 y24 :: .obj b_f_2 (.map es28 ck29) :: .blk b1 [vI 0, vI 0] 29 :: Fz F6 W7 :: cs)) ⟨by kernel_rfl⟩ (fun o_ w_ ho_ hM hS => have h' := hM.setObj 2 rfl _; ⟨(), _, run_updateV rfl rfl rfl (hrun31 b_f_2 w_ (hM.mapAt 2 rfl)) o_ ho_, h', trivial⟩) (fun _ => ?_)
    refine ops_nil (fin_then (st_seq (st_region [oF 0, oF 1, oF 2, oF 3, oF 4, oF 5, oF 6, oF 7, oF 8, oF 9, oF 10] (by rfl) ?_)))
    refine oQ [oF 0, oF 1, oF 2, oF 3] [(56, vP b_f 1), (53, vI x11), (4, vP b1 0), (8, vI x11)] (by kernel_rfl) ?_
    refine ops_mem (d := some 57) (an := [.v (sl A21 l23 c22)]) (evs := [ld b_f 1 (sl A21 l23 c22)]) (v := sl A21 l23 c22) ⟨by kernel_rfl⟩ (fun w_ hM hS => ⟨w_, ⟨hM.cell 0 rfl rfl, rfl⟩, hM, trivial⟩) ?_
    refine oQ [oF 5] [(58, vI x11), (57, sl A21 l23 c22), (53, vI x11), (4, vP b1 0)] (by kernel_rfl) ?_
    obtain ⟨x32, hv33, hp⟩ := obind hp
    obtain ⟨m34, hm35, hx36⟩ := idx_some hv33
    have hl39 := (List.getElem?_eq_some_iff.1 hx36).1
    refine ops_fact (fun w_ hM => hM.orowSome 1 rfl (Nat.lt_of_le_of_lt (Nat.zero_le _) hl39)) ?_
    rintro ⟨g40, rfl, -⟩
    obtain ⟨vs37, hr38, hq41⟩ := h25.at_ m34 x32 hx36
    obtain rfl := hr38
    refine ops_val (op := (.indexAddr 23 (.tmp 57) (.tmp 58))) (d := some 59) (v := vP g40 (m34 * 1)) ⟨by kernel_rfl⟩ (run_indexRow Tryz.underlying23 (z := 1) (by kernel_rfl) rfl rfl hm35 hl39 rfl) ?_
    refine ops_mem (d := some 60) (an := [.v (vI x32)]) (evs := [.load ⟨g40, m34 * 1, none⟩ (vI x32)]) (v := vI x32) ⟨by kernel_rfl⟩ (fun w_ hM hS => ⟨w_, ⟨hM.ocell 1 rfl (hq41 0 _ rfl), rfl⟩, hM, trivial⟩) ?_
    refine oQ [oF 8] [(61, .agg #[vI x11, vI x32]), (4, vP b1 0)] (by kernel_rfl) ?_
    refine ops_store (an := []) (evs := [sr b1 0 (vI x11), sr b1 1 (vI x32)]) ⟨by kernel_rfl⟩ (fun w_ hM hS => let ⟨w', he, h'⟩ := hM.evs_stores [vI x11, vI x32] 3 rfl 0 (Nat.le_of_ble_eq_true rfl); ⟨w', he, h', trivial⟩) ?_
    refine oQ [oF 10] [(5, vI 0), (4, vP b1 0)] (by kernel_rfl) ?_
    refine ops_nil (fin_then (st_ret ?_))
    have hq_ := Option.some.inj hp
    obtain ⟨hr0_, hq_⟩ := Prod.mk.inj hq_
    obtain ⟨hr1_, hq_⟩ := Prod.mk.inj hq_
    obtain ⟨hr2_, hq_⟩ := Prod.mk.inj hq_
    obtain ⟨hr3_, hq_⟩ := Prod.mk.inj hq_
    have hr4_ := hq_
    subst hr0_
    subst hr1_
    subst hr2_
    subst hr3_
    subst hr4_
    refine fin_ret [.cell 4 29, .tmp 5] [.agg #[vI x11, vI x32], vI 0] rfl rfl (fun w_ hM => (.cell rfl (tr_run _ [.v (vI x11), .v (vI x32)] [ld b1 0 (vI x11), ld b1 1 (vI x32)] (.agg #[vI x11, vI x32] : Value) _ _ (by kernel_rfl) ⟨hM.cell 3 rfl rfl, hM.cell 3 rfl rfl, rfl⟩) (.tmp rfl .nil))) (fun w_ hM => ?_)
    exact ⟨(sa g40), c22, y24, es28, ck29, F6, W7, ⟨h17, h25, h30, h9⟩, rfl, hM.pick 5 [0, 1, 2, 4] (by kernel_rfl) (by decide) rfl⟩
   ·
    intro HJ1
    refine st_seq (st_seq (st_region [oF 0, oF 1, oF 2, oF 3, oF 4, oF 5, oF 6] (by rfl) ?_))
    refine oQ [oF 0, oF 1, oF 2, oF 3] [(34, vP b_f 1), (31, vI x11), (8, vI x11), (6, .map B5), (4, vP b1 0), (0, vP b_f 0)] (by kernel_rfl) ?_
    refine ops_mem (d := some 35) (an := [.v (sl A_f_1 f_1 c_f_1)]) (evs := [ld b_f 1 (sl A_f_1 f_1 c_f_1)]) (v := sl A_f_1 f_1 c_f_1) ⟨by kernel_rfl⟩ (fun w_ hM hS => ⟨w_, ⟨hM.cell 1 rfl rfl, rfl⟩, hM, trivial⟩) ?_
    refine oQ [oF 5, oF 6] [(37, .bool (x11 == (f_1.length : Int))), (8, vI x11), (6, .map B5), (4, vP b1 0), (0, vP b_f 0)] (by kernel_rfl) ?_
    refine ops_nil (fin_then ?_)
    refine st_if (b := (x11 == (f_1.length : Int))) rfl (fun hc42 => ?_) (fun hc42 => ?_)
    ·
     have hp := cnd_t hc42 hp
     refine st_region [oF 0, oF 1, oF 2, oF 3, oF 4, oF 5, oF 6, oF 7, oF 8, oF 9] (by rfl) ?_
     refine oQ [oF 0, oF 1, oF 2, oF 3] [(41, vP b_f 1), (38, vP b_f 0), (8, vI x11), (6, .map B5), (4, vP b1 0), (0, vP b_f 0)] (by kernel_rfl) ?_
     refine ops_mem (d := some 42) (an := [.v (sl A_f_1 f_1 c_f_1)]) (evs := [ld b_f 1 (sl A_f_1 f_1 c_f_1)]) (v := sl A_f_1 f_1 c_f_1) ⟨by kernel_rfl⟩ (fun w_ hM hS => ⟨w_, ⟨hM.cell 1 rfl rfl, rfl⟩, hM, trivial⟩) ?_
     have h43 : RepL (Rep.int .i64) F6 W7 ([0] : List Int) ([vI 0]) := (RepL.cons (R := (Rep.int .i64)) (F := F6) (w := W7) (vs := [vI 0]) (ys := []) rfl RepL.nil)
     refine ops_new (d := some 43) (o := .cells ([vI 0] : List Value).toArray 3) (v := fun g44 => .slice (sa g44) ([0] : List Int).length 1) (M' := fun g44 => Mem w0 (orow (sa g44) ([0] : List Int).length 1 3 1 ([vI 0]) :: .blk b1 [vI 0, vI 0] 29 :: .blk b_f [sl A_f_0 f_0 c_f_0, sl A_f_1 f_1 c_f_1, .map (some b_f_2)] 96 :: ow A_f_1 f_1 c_f_1 3 1 y14 :: .obj b_f_2 (.map es15 ck16) :: Fz F6 W7 :: cs)) (fun g44 => ⟨by kernel_rfl⟩) (fun w_ hM hS => ⟨hM.onew [vI 0] 3 1 1 rfl (by decide), trivial⟩) (fun g44 => ?_)
     obtain ⟨l45, hv46, hp⟩ := obind hp
     obtain ⟨he47, hb48⟩ := app_some hv46
     obtain ⟨y49, hy50⟩ : ∃ y_, y14 ++ ([vI 0]) = y_ := ⟨_, rfl⟩
     have h51 : RepL (Rep.int .i64) F6 W7 l45 y49 := by rw [he47, ← hy50]; exact RepL.app h18 h43
     refine ops_appendO (x := (Go.Operand.tmp 42)) (y := (Go.Operand.tmp 43)) (t := 23) (e := 3) (d := some 44) (n' := l45.length) (z := 1) (m := ([0] : List Int).length) (bytes := 8) (xs' := y49) (news := ([vI 0])) (zv := vI 0) 3 ⟨by kernel_rfl⟩ rfl rfl Tryz.underlying23 (by kernel_rfl) (by rfl) rfl (fun w_ hM => hM.srcO 0 rfl) h43.len h43.one hb48 (by have z_ := congrArg List.length he47; rw [List.length_append] at z_; exact z_.symm) hy50 (fun _ _ _ _ hS h' => trivial) ?_
     rintro ⟨A52, c53⟩
     refine oQ [oF 7, oF 8] [(46, vP b_f 1), (44, sl A52 l45 c53), (8, vI x11), (6, .map B5), (4, vP b1 0), (0, vP b_f 0)] (by kernel_rfl) ?_
     refine ops_store (an := []) (evs := [sr b_f 1 (sl A52 l45 c53)]) ⟨by kernel_rfl⟩ (fun w_ hM hS => let ⟨w', he, h'⟩ := hM.evs_stores [sl A52 l45 c53] 2 rfl 1 (Nat.le_of_ble_eq_true rfl); ⟨w', he, h', trivial⟩) ?_
     refine ops_nil ?_
     exact fin_join HJ1 (A52, c53, l45, y49) ⟨hp, h51⟩ (look_has ⟨rfl, rfl, rfl, rfl, trivial⟩) (fun w_ hM => hM.pick 6 [2, 3, 4, 1, 5] (by kernel_rfl) (by decide) rfl)
    ·
     have hp := cnd_f hc42 hp
     refine st_skip ?_
     exact fin_join HJ1 (A_f_1, c_f_1, f_1, y14) ⟨hp, h18⟩ (look_has ⟨rfl, rfl, rfl, rfl, trivial⟩) (fun w_ hM => hM.pick 5 [1, 2, 3, 0, 4] (by kernel_rfl) (by decide) rfl)
theorem tourlaw3_same_v2_ok (w0 w : World) (cs : List Chunk) (F : Nat → Prop) (W : World) (A_w_0 : Option Addr) (c_w_0 : Nat) (w_0 : List api_Kind) (A_w_1 : Option Addr) (c_w_1 : Nat) (w_1 : List Int) (A_w_2 : Option Addr) (c_w_2 : Nat) (w_2 : List api_Item) (b_f : Nat) (A_f_0 : Option Addr) (c_f_0 : Nat) (f_0 : List api_Kind) (A_f_1 : Option Addr) (c_f_1 : Nat) (f_1 : List Int) (y_f_1 : List Value) (b_f_2 : Nat) (es_f_2 : Array MapEntry) (ck_f_2 : Nat) (f_2 : List (Int × (Option (List (Int × (List Int)))))) (e_1 : Int) (hM0 : Mem w0 (.blk b_f [sl A_f_0 f_0 c_f_0, sl A_f_1 f_1 c_f_1, .map (some b_f_2)] 96 :: ow A_f_1 f_1 c_f_1 3 1 y_f_1 :: .obj b_f_2 (.map es_f_2 ck_f_2) :: Fz F W :: cs) w) (h_w_0 : RdS R_api_Kind F W A_w_0 c_w_0 w_0) (h_w_1 : RdS (Rep.int .i64) F W A_w_1 c_w_1 w_1) (h_w_2 : RdS R_api_Item F W A_w_2 c_w_2 w_2) (h_f_0 : RdS R_api_Kind F W A_f_0 c_f_0 f_0) (h_f_1 : RepL (Rep.int .i64) F W f_1 y_f_1) (h_f_2 : MapOK (fun x_ : Int => Value.int .i64 x_) (Rep.map (fun x_ : Int => Value.int .i64 x_) (Rep.sl (Rep.int .i64)) false) false F W f_2 es_f_2 ck_f_2) (t9001 : Bool) (hp : tourlaw3_same_v2 w_0 w_1 w_2 f_0 f_1 f_2 e_1 = some t9001) : Calls Tryz.prog 14 #[.agg #[sl A_w_0 w_0 c_w_0, sl A_w_1 w_1 c_w_1, sl A_w_2 w_2 c_w_2], vP b_f 0, vI e_1] w fun e w' => ∃ (y9003 : List Value), ∃ (es9005 : Array MapEntry), ∃ (ck9006 : Nat), ∃ (F9008 : Nat → Prop), ∃ (W9009 : World), ((RdS R_api_Kind F9008 W9009 A_f_0 c_f_0 f_0) ∧ (RepL (Rep.int .i64) F9008 W9009 f_1 y9003) ∧ (MapOK (fun x_ : Int => Value.int .i64 x_) (Rep.map (fun x_ : Int => Value.int .i64 x_) (Rep.sl (Rep.int .i64)) false) false F9008 W9009 f_2 es9005 ck9006) ∧ (Ext w0 F W F9008 W9009)) ∧ e = .returned (.bool t9001) ∧ Mem w0 (.blk b_f [sl A_f_0 f_0 c_f_0, sl A_f_1 f_1 c_f_1, .map (some b_f_2)] 96 :: ow A_f_1 f_1 c_f_1 3 1 y9003 :: .obj b_f_2 (.map es9005 ck9006) :: Fz F9008 W9009 :: cs) w' := by
 unfold tourlaw3_same_v2 at hp
 refine sx_calls Tryz.func14 rfl (n := 16) (by kernel_rfl) (l := [(0, .agg #[sl A_w_0 w_0 c_w_0, sl A_w_1 w_1 c_w_1, sl A_w_2 w_2 c_w_2]), (1, vP b_f 0), (2, vI e_1)]) rfl (by rfl) hM0 ?_
 refine st_seq (st_region [oF 0, oF 1] (by rfl) ?_)
 refine ops_newB (d := some 3) [sl A_w_0 w_0 c_w_0, sl A_w_1 w_1 c_w_1, sl A_w_2 w_2 c_w_2] 26 (fun b1 => ⟨by kernel_rfl⟩) (fun w_ hM hS => trivial) (fun b1 => ?_)
 refine oQ [oF 1] [(3, vP b1 0), (1, vP b_f 0), (2, vI e_1)] (by kernel_rfl) ?_
 refine ops_nil (fin_then (st_seq (st_seq (st_region [oF 0, oF 1] (by rfl) ?_))))
 refine oQ [oF 0, oF 1] [(8, .bool (!(e_1 == 0))), (3, vP b1 0), (1, vP b_f 0)] (by kernel_rfl) ?_
 refine ops_nil (fin_then ?_)
 refine st_if (b := !(e_1 == 0)) rfl (fun hc2 => ?_) (fun hc2 => ?_)
 ·
  have hp := cnd_t hc2 hp
  refine st_seq (st_region [oF 0, oF 1, oF 2, oF 3] (by rfl) ?_)
  refine ops_mem (d := some 9) (an := [.v (sl A_w_0 w_0 c_w_0), .v (sl A_w_1 w_1 c_w_1), .v (sl A_w_2 w_2 c_w_2)]) (evs := [ld b1 0 (sl A_w_0 w_0 c_w_0), ld b1 1 (sl A_w_1 w_1 c_w_1), ld b1 2 (sl A_w_2 w_2 c_w_2)]) (v := .agg #[sl A_w_0 w_0 c_w_0, sl A_w_1 w_1 c_w_1, sl A_w_2 w_2 c_w_2]) ⟨by kernel_rfl⟩ (fun w_ hM hS => ⟨w_, ⟨hM.cell 0 rfl rfl, hM.cell 0 rfl rfl, hM.cell 0 rfl rfl, rfl⟩, hM, trivial⟩) ?_
  refine oQ [oF 1] [(10, .agg #[.slice none 0 0, .slice none 0 0, .slice none 0 0]), (9, .agg #[sl A_w_0 w_0 c_w_0, sl A_w_1 w_1 c_w_1, sl A_w_2 w_2 c_w_2])] (by kernel_rfl) ?_
  obtain ⟨x3, hv4, hp⟩ := obind hp
  refine ops_callI (σ := Unit) (d := some 11) (f := 51) (args := #[.agg #[sl A_w_0 w_0 c_w_0, sl A_w_1 w_1 c_w_1, sl A_w_2 w_2 c_w_2], .agg #[.slice none 0 0, .slice none 0 0, .slice none 0 0]]) (v := (fun _ => .bool x3)) (I := (fun _ => True)) (M' := (fun _ => Mem w0 (.blk b1 [sl A_w_0 w_0 c_w_0, sl A_w_1 w_1 c_w_1, sl A_w_2 w_2 c_w_2] 26 :: .blk b_f [sl A_f_0 f_0 c_f_0, sl A_f_1 f_1 c_f_1, .map (some b_f_2)] 96 :: ow A_f_1 f_1 c_f_1 3 1 y_f_1 :: .obj b_f_2 (.map es_f_2 ck_f_2) :: Fz F W :: cs))) ⟨by kernel_rfl⟩ (fun w_ hM hS => (tourref3_SameWorld_ok w0 w_ (.blk b1 [sl A_w_0 w_0 c_w_0, sl A_w_1 w_1 c_w_1, sl A_w_2 w_2 c_w_2] 26 :: .blk b_f [sl A_f_0 f_0 c_f_0, sl A_f_1 f_1 c_f_1, .map (some b_f_2)] 96 :: ow A_f_1 f_1 c_f_1 3 1 y_f_1 :: .obj b_f_2 (.map es_f_2 ck_f_2) :: cs) F W A_w_0 c_w_0 w_0 A_w_1 c_w_1 w_1 A_w_2 c_w_2 w_2 none 0 [] none 0 [] none 0 [] (hM.pick 5 [4, 0, 1, 2, 3] (by kernel_rfl) (by decide) rfl) h_w_0 h_w_1 h_w_2 (RdS.empty _) (RdS.empty _) (RdS.empty _) x3 hv4).mono (by rintro e w' ⟨-, rfl, h'⟩; have h' : Mem w0 (.blk b1 [sl A_w_0 w_0 c_w_0, sl A_w_1 w_1 c_w_1, sl A_w_2 w_2 c_w_2] 26 :: .blk b_f [sl A_f_0 f_0 c_f_0, sl A_f_1 f_1 c_f_1, .map (some b_f_2)] 96 :: ow A_f_1 f_1 c_f_1 3 1 y_f_1 :: .obj b_f_2 (.map es_f_2 ck_f_2) :: Fz F W :: cs) w' := (h'.pick 5 [1, 2, 3, 4, 0] (by kernel_rfl) (by decide) rfl); exact ⟨(), trivial, rfl, h', trivial⟩)) ?_
  rintro _ -
  refine oQ [oF 3] [(6, .bool x3)] (by kernel_rfl) ?_
  refine ops_nil (fin_then (st_ret (fin_ret_then ?_)))
  have hq_ := Option.some.inj hp
  have hr0_ := hq_
  subst hr0_
  refine fin_ret [.tmp 6] [.bool x3] rfl rfl (fun w_ hM => (.tmp rfl .nil)) (fun w_ hM => ?_)
  exact ⟨y_f_1, es_f_2, ck_f_2, F, W, ⟨h_f_0, h_f_1, h_f_2, (Ext.refl _ _ _)⟩, rfl, hM.pick 5 [1, 2, 3, 4] (by kernel_rfl) (by decide) rfl⟩
 ·
  have hp := cnd_f hc2 hp
  refine st_skip (fin_then (st_seq ?_))
  refine st_region_draw [oT 0, oT 1, oF 2, oF 3, oT 4] (Mem w0 (.blk b1 [sl A_w_0 w_0 c_w_0, sl A_w_1 w_1 c_w_1, sl A_w_2 w_2 c_w_2] 26 :: Fz F W :: cs)) (by kernel_rfl) (by kernel_rfl) (by kernel_rfl) (fun _ d _ _ _ h => by cases d <;> exact h) (M' := Mem w0 (.blk b1 [sl A_w_0 w_0 c_w_0, sl A_w_1 w_1 c_w_1, sl A_w_2 w_2 c_w_2] 26 :: .blk b_f [sl A_f_0 f_0 c_f_0, sl A_f_1 f_1 c_f_1, .map (some b_f_2)] 96 :: ow A_f_1 f_1 c_f_1 3 1 y_f_1 :: .obj b_f_2 (.map es_f_2 ck_f_2) :: Fz F W :: cs)) (fun w_ hM => ⟨hM.drew, hM.drew.sub (.cons_cons _ (.cons _ (.cons _ (.cons _ (.cons_cons _ (.refl _))))))⟩) ?_
  refine ops_load (d := some 12) (an := [.v (sl A_w_0 w_0 c_w_0), .v (sl A_w_1 w_1 c_w_1), .v (sl A_w_2 w_2 c_w_2)]) (evs := [ld b1 0 (sl A_w_0 w_0 c_w_0), ld b1 1 (sl A_w_1 w_1 c_w_1), ld b1 2 (sl A_w_2 w_2 c_w_2)]) (v := .agg #[sl A_w_0 w_0 c_w_0, sl A_w_1 w_1 c_w_1, sl A_w_2 w_2 c_w_2]) ⟨by kernel_rfl⟩ (fun w_ hM => ⟨hM.cell 0 rfl rfl, hM.cell 0 rfl rfl, hM.cell 0 rfl rfl, rfl⟩) ?_
  refine oQ [oT 1] [(13, vP b_f 0), (12, .agg #[sl A_w_0 w_0 c_w_0, sl A_w_1 w_1 c_w_1, sl A_w_2 w_2 c_w_2])] (by kernel_rfl) ?_
  obtain ⟨x5, x6, x7, hv8, hp⟩ := obind3 hp
  refine ops_callI (σ := (Option Addr) × Nat × (List Value) × (Option Addr) × Nat × (List Value) × (Option Addr) × Nat × (List Value) × (List Value) × (Array MapEntry) × Nat × (Nat → Prop) × World) (d := some 14) (f := 52) (args := #[vP b_f 0]) (v := (fun x_ => match x_ with | (A9, c10, y11, A12, c13, y14, A15, c16, y17, y18, es19, ck20, F21, W22) => .agg #[sl A9 x5 c10, sl A12 x6 c13, sl A15 x7 c16])) (I := (fun x_ => match x_ with | (A9, c10, y11, A12, c13, y14, A15, c16, y17, y18, es19, ck20, F21, W22) => (RepL R_api_Kind F21 W22 x5 y11) ∧ (RepL (Rep.int .i64) F21 W22 x6 y14) ∧ (RepL R_api_Item F21 W22 x7 y17) ∧ (RdS R_api_Kind F21 W22 A_f_0 c_f_0 f_0) ∧ (RepL (Rep.int .i64) F21 W22 f_1 y18) ∧ (MapOK (fun x_ : Int => Value.int .i64 x_) (Rep.map (fun x_ : Int => Value.int .i64 x_) (Rep.sl (Rep.int .i64)) false) false F21 W22 f_2 es19 ck20) ∧ (Ext w0 F W F21 W22))) (M' := (fun x_ => match x_ with | (A9, c10, y11, A12, c13, y14, A15, c16, y17, y18, es19, ck20, F21, W22) => Mem w0 (ow A9 x5 c10 86 2 y11 :: ow A12 x6 c13 3 1 y14 :: ow A15 x7 c16 61 3 y17 :: .blk b1 [sl A_w_0 w_0 c_w_0, sl A_w_1 w_1 c_w_1, sl A_w_2 w_2 c_w_2] 26 :: .blk b_f [sl A_f_0 f_0 c_f_0, sl A_f_1 f_1 c_f_1, .map (some b_f_2)] 96 :: ow A_f_1 f_1 c_f_1 3 1 y18 :: .obj b_f_2 (.map es19 ck20) :: Fz F21 W22 :: cs))) ⟨by kernel_rfl⟩ (fun w_ hM hS => (tourref3_Flat_Close_ok w0 w_ (.blk b1 [sl A_w_0 w_0 c_w_0, sl A_w_1 w_1 c_w_1, sl A_w_2 w_2 c_w_2] 26 :: cs) F W b_f A_f_0 c_f_0 f_0 A_f_1 c_f_1 f_1 y_f_1 b_f_2 es_f_2 ck_f_2 f_2 (hM.pick 5 [1, 2, 3, 4, 0] (by kernel_rfl) (by decide) rfl) h_f_0 h_f_1 h_f_2 x5 x6 x7 hv8).mono (by rintro e w' ⟨A9, c10, y11, A12, c13, y14, A15, c16, y17, y18, es19, ck20, F21, W22, ⟨h23, h24, h25, h26, h27, h28, h29⟩, rfl, h'⟩; have h' : Mem w0 (ow A9 x5 c10 86 2 y11 :: ow A12 x6 c13 3 1 y14 :: ow A15 x7 c16 61 3 y17 :: .blk b1 [sl A_w_0 w_0 c_w_0, sl A_w_1 w_1 c_w_1, sl A_w_2 w_2 c_w_2] 26 :: .blk b_f [sl A_f_0 f_0 c_f_0, sl A_f_1 f_1 c_f_1, .map (some b_f_2)] 96 :: ow A_f_1 f_1 c_f_1 3 1 y18 :: .obj b_f_2 (.map es19 ck20) :: Fz F21 W22 :: cs) w' := (h'.pick 8 [0, 1, 2, 7, 3, 4, 5, 6] (by kernel_rfl) (by decide) rfl); exact ⟨(A9, c10, y11, A12, c13, y14, A15, c16, y17, y18, es19, ck20, F21, W22), ⟨h23, h24, h25, h26, h27, h28, h29⟩, rfl, h', (by first | exact (Mem.fzback h' 7 rfl h29).sub (.cons _ (.cons _ (.cons _ (.cons_cons _ (.cons _ (.cons _ (.cons _ (.cons_cons _ (.refl _))))))))))⟩)) ?_
  rintro ⟨A9, c10, y11, A12, c13, y14, A15, c16, y17, y18, es19, ck20, F21, W22⟩ ⟨h23, h24, h25, h26, h27, h28, h29⟩
  have h_w_0 := h_w_0.ext h29
  have h_w_1 := h_w_1.ext h29
  have h_w_2 := h_w_2.ext h29
  obtain ⟨x30, hv31, hp⟩ := obind hp
  refine ops_callI (σ := Unit) (d := some 15) (f := 51) (args := #[.agg #[sl A_w_0 w_0 c_w_0, sl A_w_1 w_1 c_w_1, sl A_w_2 w_2 c_w_2], .agg #[sl A9 x5 c10, sl A12 x6 c13, sl A15 x7 c16]]) (v := (fun _ => .bool x30)) (I := (fun _ => True)) (M' := (fun _ => Mem w0 (ow A9 x5 c10 86 2 y11 :: ow A12 x6 c13 3 1 y14 :: ow A15 x7 c16 61 3 y17 :: .blk b1 [sl A_w_0 w_0 c_w_0, sl A_w_1 w_1 c_w_1, sl A_w_2 w_2 c_w_2] 26 :: .blk b_f [sl A_f_0 f_0 c_f_0, sl A_f_1 f_1 c_f_1, .map (some b_f_2)] 96 :: ow A_f_1 f_1 c_f_1 3 1 y18 :: .obj b_f_2 (.map es19 ck20) :: Fz F21 W22 :: cs))) ⟨by kernel_rfl⟩ (fun w_ hM hS => (tourref3_SameWorld_ok w_ w_ [] (fun b => b < w_.heap.size) w_ A_w_0 c_w_0 w_0 A_w_1 c_w_1 w_1 A_w_2 c_w_2 w_2 A9 c10 x5 A12 c13 x6 A15 c16 x7 (Mem.fz0 w_) (hM.now 7 rfl h_w_0) (hM.now 7 rfl h_w_1) (hM.now 7 rfl h_w_2) (hM.ordS 0 7 rfl rfl h23 rfl rfl) (hM.ordS 1 7 rfl rfl h24 rfl rfl) (hM.ordS 2 7 rfl rfl h25 rfl rfl) x30 hv31).mono (by rintro e w' ⟨-, rfl, h'⟩; have h' : Mem w_ [] w' := h'.pick 1 [] (by kernel_rfl) (by decide) rfl; exact ⟨(), trivial, rfl, hM.join h' rfl, (hS.step h'.below)⟩)) ?_
  rintro _ -
  refine oQ [oT 4] [(6, .bool x30)] (by kernel_rfl) ?_
  refine ops_nil (fin_then (st_ret ?_))
  have hq_ := Option.some.inj hp
  have hr0_ := hq_
  subst hr0_
  refine fin_ret [.tmp 6] [.bool x30] rfl rfl (fun w_ hM => (.tmp rfl .nil)) (fun w_ hM => ?_)
  exact ⟨y18, es19, ck20, F21, W22, ⟨h26, h27, h28, h29⟩, rfl, hM.pick 8 [4, 5, 6, 7] (by kernel_rfl) (by decide) rfl⟩
end Go.Proofs.YtbfndcookgijfaaGreatDoor.W
