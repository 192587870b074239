/- The Go functions come to what the plain functions tell. No condition. -/
import Derived.Test.YtbfndcookgijfaaGreatDoorProg
import Derived.Test.YtbfndcookgijfaaGreatDoorFnW
import Derived.Test.YtbfndcookgijfaaGreatDoorWkW9
import Derived.Test.YtbfndcookgijfaaGreatDoorEqW
namespace Go.Proofs.YtbfndcookgijfaaGreatDoor.W
open Go Go.RowKit Go.Proofs.YtbfndcookgijfaaGreatDoor.Sx
set_option linter.unusedVariables false
set_option maxHeartbeats 4000000
set_option maxRecDepth 100000
theorem slices_Equal_api_Field_api_Field_ok (w0 w : World) (cs : List Chunk) (F : Nat → Prop) (W : World) (A_s1 : Option Addr) (c_s1 : Nat) (s1_1 : List api_Field) (A_s2 : Option Addr) (c_s2 : Nat) (s2_1 : List api_Field) (hM0 : Mem w0 (Fz F W :: cs) w) (h_s1 : RdS R_api_Field F W A_s1 c_s1 s1_1) (h_s2 : RdS R_api_Field F W A_s2 c_s2 s2_1) (t9001 : Bool) (hp : slices_Equal_api_Field_api_Field s1_1 s2_1 = some t9001) : Calls Tryz.prog 102 #[sl A_s1 s1_1 c_s1, sl A_s2 s2_1 c_s2] w fun e w' => (True) ∧ e = .returned (.bool t9001) ∧ Mem w0 (Fz F W :: cs) w' := by
 unfold slices_Equal_api_Field_api_Field at hp
 refine sx_calls Tryz.func102 rfl (n := 26) (by kernel_rfl) (l := [(0, sl A_s1 s1_1 c_s1), (1, sl A_s2 s2_1 c_s2)]) rfl (by rfl) hM0 ?_
 refine st_seq (st_region [oF 0] (by rfl) ?_)
 refine oQ [oF 0] [(0, sl A_s1 s1_1 c_s1), (1, sl A_s2 s2_1 c_s2)] (by kernel_rfl) ?_
 refine ops_nil (fin_then (st_seq (st_seq (st_region [oF 0, oF 1, oF 2, oF 3, oF 4] (by rfl) ?_))))
 refine oQ [oF 0, oF 1, oF 2, oF 3, oF 4] [(10, .bool (!((s1_1.length : Int) == (s2_1.length : Int)))), (0, sl A_s1 s1_1 c_s1), (1, sl A_s2 s2_1 c_s2)] (by kernel_rfl) ?_
 refine ops_nil (fin_then ?_)
 refine st_if (b := !((s1_1.length : Int) == (s2_1.length : Int))) rfl (fun hc1 => ?_) (fun hc1 => ?_)
 ·
  have hp := cnd_t hc1 hp
  refine st_seq (st_region [oF 0] (by rfl) ?_)
  refine oQ [oF 0] [(4, .bool false)] (by kernel_rfl) ?_
  refine ops_nil (fin_then (st_ret (fin_ret_then ?_)))
  have hq_ := Option.some.inj hp
  have hr0_ := hq_
  subst hr0_
  refine fin_ret [.tmp 4] [.bool false] rfl rfl (fun w_ hM => (.tmp rfl .nil)) (fun w_ hM => ?_)
  exact ⟨trivial, rfl, hM⟩
 ·
  have hp := cnd_f hc1 hp
  refine st_skip (fin_then ?_)
  refine st_join1 (σ := Unit) (L := fun _ => []) (N := fun _ => Mem w0 (Fz F W :: cs)) (I := fun _ => (slices_Equal_api_Field_api_Field_j1 = some t9001)) ?_ ?_
  ·
   rintro _ hp
   unfold slices_Equal_api_Field_api_Field_j1 at hp
   refine st_seq (st_region [oF 0] (by rfl) ?_)
   refine oQ [oF 0] [(4, .bool true)] (by kernel_rfl) ?_
   refine ops_nil (fin_then (st_ret ?_))
   have hq_ := Option.some.inj hp
   have hr0_ := hq_
   subst hr0_
   refine fin_ret [.tmp 4] [.bool true] rfl rfl (fun w_ hM => (.tmp rfl .nil)) (fun w_ hM => ?_)
   exact ⟨trivial, rfl, hM⟩
  ·
   intro HJ1
   refine st_seq (st_seq (st_region [oF 0, oF 1, oF 2] (by rfl) ?_))
   refine oQ [oF 0, oF 1, oF 2] [(13, vI 0), (12, vI (s1_1.length : Int)), (0, sl A_s1 s1_1 c_s1), (1, sl A_s2 s2_1 c_s2)] (by kernel_rfl) ?_
   refine ops_nil (fin_then (st_block ?_))
   obtain ⟨r2, hl2, hk2⟩ := obind hp
   refine st_loopP (σ := Int) (ρ := (Bool ⊕ Unit)) (γ := Unit) hl2 () (fun s_ g_ => match s_, g_ with | i2, _ => [(0, sl A_s1 s1_1 c_s1), (1, sl A_s2 s2_1 c_s2), (12, vI (s1_1.length : Int)), (13, vI i2)]) (fun s_ g_ => match s_, g_ with | i2, _ => Mem w0 (Fz F W :: cs)) (fun s_ g_ => match s_, g_ with | i2, _ => True) trivial (look_has ⟨rfl, rfl, rfl, rfl, trivial⟩) (fun w_ hM => hM) ?_
   rintro i2 _ o2 - hs_ hd2
   have hp : (slices_Equal_api_Field_api_Field_l2 s1_1 s2_1) i2 = some o2 := hs_
   clear hs_
   unfold slices_Equal_api_Field_api_Field_l2 at hp
   refine st_seq (st_region [oF 0] (by rfl) ?_)
   refine oQ [oF 0] [(14, .bool (decide (i2 < (s1_1.length : Int)))), (0, sl A_s1 s1_1 c_s1), (1, sl A_s2 s2_1 c_s2), (12, vI (s1_1.length : Int)), (13, vI i2)] (by kernel_rfl) ?_
   refine ops_nil (fin_then (st_seq ?_))
   refine st_if (b := decide (i2 < (s1_1.length : Int))) rfl (fun hc3 => ?_) (fun hc3 => ?_)
   ·
    have hp := cnd_t hc3 hp
    refine st_skip (fin_then (st_seq (st_block (st_seq (st_region [oF 0, oF 1] (by rfl) ?_)))))
    refine oQ [oF 0, oF 1] [(5, vI i2), (0, sl A_s1 s1_1 c_s1), (1, sl A_s2 s2_1 c_s2), (12, vI (s1_1.length : Int)), (13, vI i2)] (by kernel_rfl) ?_
    refine ops_nil (fin_then (st_seq ?_))
    refine st_region_draw [oT 0, oT 1, oT 2, oT 3, oT 4, oT 5, oT 6, oT 7, oT 8] (Mem w0 (Fz F W :: cs)) (by kernel_rfl) (by kernel_rfl) (by kernel_rfl) (fun _ d _ _ _ h => by cases d <;> exact h) (M' := Mem w0 (Fz F W :: cs)) (fun w_ hM => ⟨hM.drew, hM.drew.sub (.cons_cons _ (.refl _))⟩) ?_
    refine oQ [oT 0, oT 1] [(17, vI i2), (16, sl A_s1 s1_1 c_s1), (5, vI i2), (0, sl A_s1 s1_1 c_s1), (1, sl A_s2 s2_1 c_s2), (12, vI (s1_1.length : Int)), (13, vI i2)] (by kernel_rfl) ?_
    obtain ⟨x4, hv5, hp⟩ := obind hp
    obtain ⟨m6, hm7, hx8⟩ := idx_some hv5
    have hl11 := (List.getElem?_eq_some_iff.1 hx8).1
    obtain ⟨ad12, vs9, hA13, hr10, hq14⟩ := RdS.el h_s1 hx8
    obtain rfl := dec_api_Field hr10
    refine ops_val (op := (.indexAddr 84 (.tmp 16) (.tmp 17))) (d := some 18) (v := .pointer (some (ad12.add (m6 * 3)))) ⟨by kernel_rfl⟩ (run_indexA hA13 Tryz.underlying84 (z := 3) (by kernel_rfl) rfl rfl hm7 hl11) ?_
    refine ops_load (d := some 19) (an := [.v (.string x4.Name), .v (vI x4.Bits), .v (vI x4.Low)]) (evs := [.load (ad12.add (m6 * 3)) (.string x4.Name), .load ((ad12.add (m6 * 3)).add 1) (vI x4.Bits), .load ((ad12.add (m6 * 3)).add 2) (vI x4.Low)]) (v := .agg #[.string x4.Name, vI x4.Bits, vI x4.Low]) ⟨by kernel_rfl⟩ (fun w_ hM => ⟨hM.elcell 0 rfl hq14 0 rfl, hM.elcell 0 rfl hq14 1 rfl, hM.elcell 0 rfl hq14 2 rfl, rfl⟩) ?_
    refine oQ [oT 4, oT 5] [(21, vI i2), (20, sl A_s2 s2_1 c_s2), (19, .agg #[.string x4.Name, vI x4.Bits, vI x4.Low]), (0, sl A_s1 s1_1 c_s1), (1, sl A_s2 s2_1 c_s2), (12, vI (s1_1.length : Int)), (13, vI i2)] (by kernel_rfl) ?_
    obtain ⟨x15, hv16, hp⟩ := obind hp
    obtain ⟨m17, hm18, hx19⟩ := idx_some hv16
    have hl22 := (List.getElem?_eq_some_iff.1 hx19).1
    obtain ⟨ad23, vs20, hA24, hr21, hq25⟩ := RdS.el h_s2 hx19
    obtain rfl := dec_api_Field hr21
    refine ops_val (op := (.indexAddr 84 (.tmp 20) (.tmp 21))) (d := some 22) (v := .pointer (some (ad23.add (m17 * 3)))) ⟨by kernel_rfl⟩ (run_indexA hA24 Tryz.underlying84 (z := 3) (by kernel_rfl) rfl rfl hm18 hl22) ?_
    refine ops_load (d := some 23) (an := [.v (.string x15.Name), .v (vI x15.Bits), .v (vI x15.Low)]) (evs := [.load (ad23.add (m17 * 3)) (.string x15.Name), .load ((ad23.add (m17 * 3)).add 1) (vI x15.Bits), .load ((ad23.add (m17 * 3)).add 2) (vI x15.Low)]) (v := .agg #[.string x15.Name, vI x15.Bits, vI x15.Low]) ⟨by kernel_rfl⟩ (fun w_ hM => ⟨hM.elcell 0 rfl hq25 0 rfl, hM.elcell 0 rfl hq25 1 rfl, hM.elcell 0 rfl hq25 2 rfl, rfl⟩) ?_
    refine ops_val (op := (.binOp Go.BinOp.neq 99 (.tmp 19) (.tmp 23) 99)) (d := some 24) (v := .bool (!(x4.Name.toList == x15.Name.toList && (x4.Bits == x15.Bits && (x4.Low == x15.Low))))) ⟨by kernel_rfl⟩ (run_neq_agg (r := x4.Name.toList == x15.Name.toList && (x4.Bits == x15.Bits && (x4.Low == x15.Low))) rfl rfl (by kernel_rfl) (fun w => eqA99 9998 w x4.Name x15.Name x4.Bits x15.Bits x4.Low x15.Low)) ?_
    refine ops_nil (fin_then ?_)
    refine st_if (b := !(x4.Name.toList == x15.Name.toList && (x4.Bits == x15.Bits && (x4.Low == x15.Low)))) rfl (fun hc26 => ?_) (fun hc26 => ?_)
    ·
     have hp := cnd_t hc26 hp
     refine st_seq (st_region [oF 0] (by rfl) ?_)
     refine oQ [oF 0] [(4, .bool false)] (by kernel_rfl) ?_
     refine ops_nil (fin_then (st_ret (fin_ret_block (fin_ret_then (fin_ret_then (fin_ret_block (fin_ret_then ?_)))))))
     obtain hq_ := Option.some.inj hp
     subst hq_
     obtain hq_ := hd2 _ rfl
     subst hq_
     have hp : some false = some t9001 := hk2
     have hq_ := Option.some.inj hp
     have hr0_ := hq_
     subst hr0_
     refine fin_ret [.tmp 4] [.bool false] rfl rfl (fun w_ hM => (.tmp rfl .nil)) (fun w_ hM => ?_)
     exact ⟨trivial, rfl, hM⟩
    ·
     have hp := cnd_f hc26 hp
     refine st_skip (fin_block (fin_then (st_region [oF 0, oF 1] (by rfl) ?_)))
     refine oQ [oF 0, oF 1] [(13, vI (IntKind.i64.wrap (i2 + 1))), (0, sl A_s1 s1_1 c_s1), (1, sl A_s2 s2_1 c_s2), (12, vI (s1_1.length : Int))] (by kernel_rfl) ?_
     refine ops_nil ?_
     exact fin_again (IntKind.i64.wrap (i2 + 1)) () (Option.some.inj hp).symm trivial (look_has ⟨rfl, rfl, rfl, rfl, trivial⟩) (fun w_ hM => hM)
   ·
    have hp := cnd_f hc3 hp
    refine st_exit (fin_exit_then (fin_exit_then (fin_exit ?_)))
    obtain hq_ := Option.some.inj hp
    subst hq_
    obtain hq_ := hd2 _ rfl
    subst hq_
    have hp : slices_Equal_api_Field_api_Field_j1 = some t9001 := hk2
    exact fin_join HJ1 () hp (look_has trivial) (fun w_ hM => hM)
theorem tourref3_SameKind_ok (w0 w : World) (cs : List Chunk) (F : Nat → Prop) (W : World) (a_0 : ByteArray) (A_a_1 : Option Addr) (c_a_1 : Nat) (a_1 : List api_Field) (b_0 : ByteArray) (A_b_1 : Option Addr) (c_b_1 : Nat) (b_1 : List api_Field) (hM0 : Mem w0 (Fz F W :: cs) w) (h_a_1 : RdS R_api_Field F W A_a_1 c_a_1 a_1) (h_b_1 : RdS R_api_Field F W A_b_1 c_b_1 b_1) (t9001 : Bool) (hp : tourref3_SameKind a_0 a_1 b_0 b_1 = some t9001) : Calls Tryz.prog 77 #[.agg #[.string a_0, sl A_a_1 a_1 c_a_1], .agg #[.string b_0, sl A_b_1 b_1 c_b_1]] w fun e w' => (True) ∧ e = .returned (.bool t9001) ∧ Mem w0 (Fz F W :: cs) w' := by
 unfold tourref3_SameKind at hp
 refine sx_calls Tryz.func77 rfl (n := 17) (by kernel_rfl) (l := [(0, .agg #[.string a_0, sl A_a_1 a_1 c_a_1]), (1, .agg #[.string b_0, sl A_b_1 b_1 c_b_1])]) rfl (by rfl) hM0 ?_
 refine st_seq (st_region [oF 0, oF 1, oF 2] (by rfl) ?_)
 refine ops_newB (d := some 2) [.string a_0, sl A_a_1 a_1 c_a_1] 86 (fun b1 => ⟨by kernel_rfl⟩) (fun w_ hM hS => trivial) (fun b1 => ?_)
 refine ops_newB (d := some 3) [.string b_0, sl A_b_1 b_1 c_b_1] 86 (fun b2 => ⟨by kernel_rfl⟩) (fun w_ hM hS => trivial) (fun b2 => ?_)
 refine oQ [oF 2] [(3, vP b2 0), (2, vP b1 0)] (by kernel_rfl) ?_
 refine ops_nil (fin_then ?_)
 refine st_join1 (σ := Bool) (L := fun x_ => match x_ with | t3 => [(4, .bool t3)]) (N := fun x_ => match x_ with | t3 => Mem w0 (Fz F W :: cs)) (I := fun x_ => match x_ with | t3 => (tourref3_SameKind_j1 t3 = some t9001)) ?_ ?_
 ·
  rintro t3 hp
  unfold tourref3_SameKind_j1 at hp
  refine st_ret ?_
  have hq_ := Option.some.inj hp
  have hr0_ := hq_
  subst hr0_
  refine fin_ret [.tmp 4] [.bool t3] rfl rfl (fun w_ hM => (.tmp rfl .nil)) (fun w_ hM => ?_)
  exact ⟨trivial, rfl, hM⟩
 ·
  intro HJ1
  refine st_seq (st_region [oF 0, oF 1, oF 2, oF 3, oF 4, oF 5, oF 6, oF 7, oF 8, oF 9, oF 10, oF 11, oF 12] (by rfl) ?_)
  refine oQ [oF 0] [(5, vP b1 0), (3, vP b2 0), (2, vP b1 0)] (by kernel_rfl) ?_
  refine ops_mem (d := some 6) (an := [.v (.string a_0)]) (evs := [ld b1 0 (.string a_0)]) (v := .string a_0) ⟨by kernel_rfl⟩ (fun w_ hM hS => ⟨w_, ⟨hM.cell 1 rfl rfl, rfl⟩, hM, trivial⟩) ?_
  refine oQ [oF 2] [(7, vP b2 0), (6, .string a_0), (3, vP b2 0), (2, vP b1 0)] (by kernel_rfl) ?_
  refine ops_mem (d := some 8) (an := [.v (.string b_0)]) (evs := [ld b2 0 (.string b_0)]) (v := .string b_0) ⟨by kernel_rfl⟩ (fun w_ hM hS => ⟨w_, ⟨hM.cell 0 rfl rfl, rfl⟩, hM, trivial⟩) ?_
  refine oQ [oF 4, oF 5] [(10, .bool (a_0.toList == b_0.toList)), (3, vP b2 0), (2, vP b1 0)] (by kernel_rfl) ?_
  refine ops_bool (t := (a_0.toList == b_0.toList)) (l1 := [(10, .bool true), (3, vP b2 0), (2, vP b1 0)]) (l2 := [(10, .bool false), (3, vP b2 0), (2, vP b1 0)]) (fun h => by rw [h]) (fun h => by rw [h]) (fun hc4 => ?_) (fun hc4 => ?_)
  ·
   have hp := cnd_t hc4 hp
   refine oQ [oF 6] [(11, vP b1 1), (10, .bool true), (3, vP b2 0)] (by kernel_rfl) ?_
   refine ops_mem (d := some 12) (an := [.v (sl A_a_1 a_1 c_a_1)]) (evs := [ld b1 1 (sl A_a_1 a_1 c_a_1)]) (v := sl A_a_1 a_1 c_a_1) ⟨by kernel_rfl⟩ (fun w_ hM hS => ⟨w_, ⟨hM.cell 1 rfl rfl, rfl⟩, hM, trivial⟩) ?_
   refine oQ [oF 8] [(13, vP b2 1), (12, sl A_a_1 a_1 c_a_1), (10, .bool true)] (by kernel_rfl) ?_
   refine ops_mem (d := some 14) (an := [.v (sl A_b_1 b_1 c_b_1)]) (evs := [ld b2 1 (sl A_b_1 b_1 c_b_1)]) (v := sl A_b_1 b_1 c_b_1) ⟨by kernel_rfl⟩ (fun w_ hM hS => ⟨w_, ⟨hM.cell 0 rfl rfl, rfl⟩, hM, trivial⟩) ?_
   obtain ⟨x5, hv6, hp⟩ := obind hp
   refine ops_callI (σ := Unit) (d := some 15) (f := 102) (args := #[sl A_a_1 a_1 c_a_1, sl A_b_1 b_1 c_b_1]) (v := (fun _ => .bool x5)) (I := (fun _ => True)) (M' := (fun _ => Mem w0 (.blk b2 [.string b_0, sl A_b_1 b_1 c_b_1] 86 :: .blk b1 [.string a_0, sl A_a_1 a_1 c_a_1] 86 :: Fz F W :: cs))) ⟨by kernel_rfl⟩ (fun w_ hM hS => (slices_Equal_api_Field_api_Field_ok w0 w_ (.blk b2 [.string b_0, sl A_b_1 b_1 c_b_1] 86 :: .blk b1 [.string a_0, sl A_a_1 a_1 c_a_1] 86 :: cs) F W A_a_1 c_a_1 a_1 A_b_1 c_b_1 b_1 (hM.pick 3 [2, 0, 1] (by kernel_rfl) (by decide) rfl) h_a_1 h_b_1 x5 hv6).mono (by rintro e w' ⟨-, rfl, h'⟩; have h' : Mem w0 (.blk b2 [.string b_0, sl A_b_1 b_1 c_b_1] 86 :: .blk b1 [.string a_0, sl A_a_1 a_1 c_a_1] 86 :: Fz F W :: cs) w' := (h'.pick 3 [1, 2, 0] (by kernel_rfl) (by decide) rfl); exact ⟨(), trivial, rfl, h', trivial⟩)) ?_
   rintro _ -
   refine oQ [oF 11, oF 12] [(4, .bool x5)] (by kernel_rfl) ?_
   refine ops_nil ?_
   exact fin_join HJ1 x5 hp (look_has ⟨rfl, trivial⟩) (fun w_ hM => hM.pick 3 [2] (by kernel_rfl) (by decide) rfl)
  ·
   have hp := cnd_f hc4 hp
   refine oQ [oF 6, oF 7, oF 8, oF 9, oF 10, oF 11, oF 12] [(4, .bool false)] (by kernel_rfl) ?_
   refine ops_nil ?_
   exact fin_join HJ1 false hp (look_has ⟨rfl, trivial⟩) (fun w_ hM => hM.pick 3 [2] (by kernel_rfl) (by decide) rfl)
theorem slices_EqualFunc_api_Kind_api_Kind_api_Kind_api_Kind_ok (w0 w : World) (cs : List Chunk) (F : Nat → Prop) (W : World) (A_s1 : Option Addr) (c_s1 : Nat) (s1_1 : List api_Kind) (A_s2 : Option Addr) (c_s2 : Nat) (s2_1 : List api_Kind) (hM0 : Mem w0 (Fz F W :: cs) w) (h_s1 : RdS R_api_Kind F W A_s1 c_s1 s1_1) (h_s2 : RdS R_api_Kind F W A_s2 c_s2 s2_1) (t9001 : Bool) (hp : slices_EqualFunc_api_Kind_api_Kind_api_Kind_api_Kind s1_1 s2_1 = some t9001) : Calls Tryz.prog 76 #[sl A_s1 s1_1 c_s1, sl A_s2 s2_1 c_s2, .func (.func 77) #[] #[]] w fun e w' => (True) ∧ e = .returned (.bool t9001) ∧ Mem w0 (Fz F W :: cs) w' := by
 unfold slices_EqualFunc_api_Kind_api_Kind_api_Kind_api_Kind at hp
 refine sx_calls Tryz.func76 rfl (n := 32) (by kernel_rfl) (l := [(0, sl A_s1 s1_1 c_s1), (1, sl A_s2 s2_1 c_s2), (2, .func (.func 77) #[] #[])]) rfl (by rfl) hM0 ?_
 refine st_seq (st_region [oF 0] (by rfl) ?_)
 refine oQ [oF 0] [(0, sl A_s1 s1_1 c_s1), (1, sl A_s2 s2_1 c_s2), (2, .func (.func 77) #[] #[])] (by kernel_rfl) ?_
 refine ops_nil (fin_then (st_seq (st_seq (st_region [oF 0, oF 1, oF 2, oF 3, oF 4] (by rfl) ?_))))
 refine oQ [oF 0, oF 1, oF 2, oF 3, oF 4] [(14, .bool (!((s1_1.length : Int) == (s2_1.length : Int)))), (0, sl A_s1 s1_1 c_s1), (1, sl A_s2 s2_1 c_s2), (2, .func (.func 77) #[] #[])] (by kernel_rfl) ?_
 refine ops_nil (fin_then ?_)
 refine st_if (b := !((s1_1.length : Int) == (s2_1.length : Int))) rfl (fun hc1 => ?_) (fun hc1 => ?_)
 ·
  have hp := cnd_t hc1 hp
  refine st_seq (st_region [oF 0] (by rfl) ?_)
  refine oQ [oF 0] [(6, .bool false)] (by kernel_rfl) ?_
  refine ops_nil (fin_then (st_ret (fin_ret_then ?_)))
  have hq_ := Option.some.inj hp
  have hr0_ := hq_
  subst hr0_
  refine fin_ret [.tmp 6] [.bool false] rfl rfl (fun w_ hM => (.tmp rfl .nil)) (fun w_ hM => ?_)
  exact ⟨trivial, rfl, hM⟩
 ·
  have hp := cnd_f hc1 hp
  refine st_skip (fin_then ?_)
  refine st_join1 (σ := Unit) (L := fun _ => []) (N := fun _ => Mem w0 (Fz F W :: cs)) (I := fun _ => (slices_EqualFunc_api_Kind_api_Kind_api_Kind_api_Kind_j1 = some t9001)) ?_ ?_
  ·
   rintro _ hp
   unfold slices_EqualFunc_api_Kind_api_Kind_api_Kind_api_Kind_j1 at hp
   refine st_seq (st_region [oF 0] (by rfl) ?_)
   refine oQ [oF 0] [(6, .bool true)] (by kernel_rfl) ?_
   refine ops_nil (fin_then (st_ret ?_))
   have hq_ := Option.some.inj hp
   have hr0_ := hq_
   subst hr0_
   refine fin_ret [.tmp 6] [.bool true] rfl rfl (fun w_ hM => (.tmp rfl .nil)) (fun w_ hM => ?_)
   exact ⟨trivial, rfl, hM⟩
  ·
   intro HJ1
   refine st_seq (st_seq (st_region [oF 0, oF 1, oF 2] (by rfl) ?_))
   refine oQ [oF 0, oF 1, oF 2] [(17, vI 0), (16, vI (s1_1.length : Int)), (15, sl A_s1 s1_1 c_s1), (1, sl A_s2 s2_1 c_s2), (2, .func (.func 77) #[] #[])] (by kernel_rfl) ?_
   refine ops_nil (fin_then (st_block ?_))
   obtain ⟨r2, hl2, hk2⟩ := obind hp
   refine st_loopP (σ := Int) (ρ := (Bool ⊕ Unit)) (γ := Unit) hl2 () (fun s_ g_ => match s_, g_ with | i2, _ => [(1, sl A_s2 s2_1 c_s2), (2, .func (.func 77) #[] #[]), (15, sl A_s1 s1_1 c_s1), (16, vI (s1_1.length : Int)), (17, vI i2)]) (fun s_ g_ => match s_, g_ with | i2, _ => Mem w0 (Fz F W :: cs)) (fun s_ g_ => match s_, g_ with | i2, _ => True) trivial (look_has ⟨rfl, rfl, rfl, rfl, rfl, trivial⟩) (fun w_ hM => hM) ?_
   rintro i2 _ o2 - hs_ hd2
   have hp : (slices_EqualFunc_api_Kind_api_Kind_api_Kind_api_Kind_l2 s1_1 s2_1) i2 = some o2 := hs_
   clear hs_
   unfold slices_EqualFunc_api_Kind_api_Kind_api_Kind_api_Kind_l2 at hp
   refine st_seq (st_region [oF 0] (by rfl) ?_)
   refine oQ [oF 0] [(18, .bool (decide (i2 < (s1_1.length : Int)))), (1, sl A_s2 s2_1 c_s2), (2, .func (.func 77) #[] #[]), (15, sl A_s1 s1_1 c_s1), (16, vI (s1_1.length : Int)), (17, vI i2)] (by kernel_rfl) ?_
   refine ops_nil (fin_then (st_seq ?_))
   refine st_if (b := decide (i2 < (s1_1.length : Int))) rfl (fun hc3 => ?_) (fun hc3 => ?_)
   ·
    have hp := cnd_t hc3 hp
    refine st_skip (fin_then (st_seq (st_block (st_seq (st_region [oF 0, oF 1, oF 2, oF 3, oF 4, oF 5] (by rfl) ?_)))))
    refine oQ [oF 0] [(19, vI i2), (1, sl A_s2 s2_1 c_s2), (2, .func (.func 77) #[] #[]), (15, sl A_s1 s1_1 c_s1), (16, vI (s1_1.length : Int)), (17, vI i2)] (by kernel_rfl) ?_
    obtain ⟨x4, hv5, hp⟩ := obind hp
    obtain ⟨m6, hm7, hx8⟩ := idx_some hv5
    have hl11 := (List.getElem?_eq_some_iff.1 hx8).1
    obtain ⟨ad12, vs9, hA13, hr10, hq14⟩ := RdS.el h_s1 hx8
    obtain ⟨A15, c16, rfl, h17⟩ := dec_api_Kind hr10
    refine ops_val (op := (.indexAddr 22 (.tmp 15) (.tmp 17))) (d := some 20) (v := .pointer (some (ad12.add (m6 * 2)))) ⟨by kernel_rfl⟩ (run_indexA hA13 Tryz.underlying22 (z := 2) (by kernel_rfl) rfl rfl hm7 hl11) ?_
    refine ops_mem (d := some 21) (an := [.v (.string x4.Name), .v (sl A15 x4.Fields c16)]) (evs := [.load (ad12.add (m6 * 2)) (.string x4.Name), .load ((ad12.add (m6 * 2)).add 1) (sl A15 x4.Fields c16)]) (v := .agg #[.string x4.Name, sl A15 x4.Fields c16]) ⟨by kernel_rfl⟩ (fun w_ hM hS => ⟨w_, ⟨hM.elcell 0 rfl hq14 0 rfl, hM.elcell 0 rfl hq14 1 rfl, rfl⟩, hM, trivial⟩) ?_
    refine ops_newB (d := some 8) [.string ByteArray.empty, .slice none 0 0] 86 (fun b18 => ⟨by kernel_rfl⟩) (fun w_ hM hS => trivial) (fun b18 => ?_)
    refine oQ [oF 4] [(7, vI i2), (8, vP b18 0), (21, .agg #[.string x4.Name, sl A15 x4.Fields c16]), (1, sl A_s2 s2_1 c_s2), (2, .func (.func 77) #[] #[]), (15, sl A_s1 s1_1 c_s1), (16, vI (s1_1.length : Int)), (17, vI i2)] (by kernel_rfl) ?_
    refine ops_store (an := []) (evs := [sr b18 0 (.string x4.Name), sr b18 1 (sl A15 x4.Fields c16)]) ⟨by kernel_rfl⟩ (fun w_ hM hS => let ⟨w', he, h'⟩ := hM.evs_stores [.string x4.Name, sl A15 x4.Fields c16] 0 rfl 0 (Nat.le_of_ble_eq_true rfl); ⟨w', he, h', trivial⟩) ?_
    refine ops_nil (fin_then (st_seq (st_region [oF 0, oF 1, oF 2, oF 3, oF 4, oF 5] (by rfl) ?_)))
    refine oQ [oF 0, oF 1] [(23, vI i2), (22, sl A_s2 s2_1 c_s2), (8, vP b18 0), (1, sl A_s2 s2_1 c_s2), (2, .func (.func 77) #[] #[]), (15, sl A_s1 s1_1 c_s1), (16, vI (s1_1.length : Int)), (17, vI i2)] (by kernel_rfl) ?_
    obtain ⟨x19, hv20, hp⟩ := obind hp
    obtain ⟨m21, hm22, hx23⟩ := idx_some hv20
    have hl26 := (List.getElem?_eq_some_iff.1 hx23).1
    obtain ⟨ad27, vs24, hA28, hr25, hq29⟩ := RdS.el h_s2 hx23
    obtain ⟨A30, c31, rfl, h32⟩ := dec_api_Kind hr25
    refine ops_val (op := (.indexAddr 22 (.tmp 22) (.tmp 23))) (d := some 24) (v := .pointer (some (ad27.add (m21 * 2)))) ⟨by kernel_rfl⟩ (run_indexA hA28 Tryz.underlying22 (z := 2) (by kernel_rfl) rfl rfl hm22 hl26) ?_
    refine ops_mem (d := some 25) (an := [.v (.string x19.Name), .v (sl A30 x19.Fields c31)]) (evs := [.load (ad27.add (m21 * 2)) (.string x19.Name), .load ((ad27.add (m21 * 2)).add 1) (sl A30 x19.Fields c31)]) (v := .agg #[.string x19.Name, sl A30 x19.Fields c31]) ⟨by kernel_rfl⟩ (fun w_ hM hS => ⟨w_, ⟨hM.elcell 1 rfl hq29 0 rfl, hM.elcell 1 rfl hq29 1 rfl, rfl⟩, hM, trivial⟩) ?_
    refine ops_newB (d := some 9) [.string ByteArray.empty, .slice none 0 0] 86 (fun b33 => ⟨by kernel_rfl⟩) (fun w_ hM hS => trivial) (fun b33 => ?_)
    refine ops_store (an := []) (evs := [sr b33 0 (.string x19.Name), sr b33 1 (sl A30 x19.Fields c31)]) ⟨by kernel_rfl⟩ (fun w_ hM hS => let ⟨w', he, h'⟩ := hM.evs_stores [.string x19.Name, sl A30 x19.Fields c31] 0 rfl 0 (Nat.le_of_ble_eq_true rfl); ⟨w', he, h', trivial⟩) ?_
    refine ops_nil (fin_then (st_seq (st_region [oF 0, oF 1, oF 2, oF 3, oF 4] (by rfl) ?_)))
    refine oQ [oF 0] [(26, .func (.func 77) #[] #[]), (9, vP b33 0), (8, vP b18 0), (1, sl A_s2 s2_1 c_s2), (2, .func (.func 77) #[] #[]), (15, sl A_s1 s1_1 c_s1), (16, vI (s1_1.length : Int)), (17, vI i2)] (by kernel_rfl) ?_
    refine ops_mem (d := some 27) (an := [.v (.string x4.Name), .v (sl A15 x4.Fields c16)]) (evs := [ld b18 0 (.string x4.Name), ld b18 1 (sl A15 x4.Fields c16)]) (v := .agg #[.string x4.Name, sl A15 x4.Fields c16]) ⟨by kernel_rfl⟩ (fun w_ hM hS => ⟨w_, ⟨hM.cell 1 rfl rfl, hM.cell 1 rfl rfl, rfl⟩, hM, trivial⟩) ?_
    refine ops_mem (d := some 28) (an := [.v (.string x19.Name), .v (sl A30 x19.Fields c31)]) (evs := [ld b33 0 (.string x19.Name), ld b33 1 (sl A30 x19.Fields c31)]) (v := .agg #[.string x19.Name, sl A30 x19.Fields c31]) ⟨by kernel_rfl⟩ (fun w_ hM hS => ⟨w_, ⟨hM.cell 0 rfl rfl, hM.cell 0 rfl rfl, rfl⟩, hM, trivial⟩) ?_
    obtain ⟨x34, hv35, hp⟩ := obind hp
    refine ops_callI (σ := Unit) (d := some 29) (f := 77) (args := #[.agg #[.string x4.Name, sl A15 x4.Fields c16], .agg #[.string x19.Name, sl A30 x19.Fields c31]]) (v := (fun _ => .bool x34)) (I := (fun _ => True)) (M' := (fun _ => Mem w0 (.blk b33 [.string x19.Name, sl A30 x19.Fields c31] 86 :: .blk b18 [.string x4.Name, sl A15 x4.Fields c16] 86 :: Fz F W :: cs))) ⟨by kernel_rfl⟩ (fun w_ hM hS => (tourref3_SameKind_ok w0 w_ (.blk b33 [.string x19.Name, sl A30 x19.Fields c31] 86 :: .blk b18 [.string x4.Name, sl A15 x4.Fields c16] 86 :: cs) F W x4.Name A15 c16 x4.Fields x19.Name A30 c31 x19.Fields (hM.pick 3 [2, 0, 1] (by kernel_rfl) (by decide) rfl) h17 h32 x34 hv35).mono (by rintro e w' ⟨-, rfl, h'⟩; have h' : Mem w0 (.blk b33 [.string x19.Name, sl A30 x19.Fields c31] 86 :: .blk b18 [.string x4.Name, sl A15 x4.Fields c16] 86 :: Fz F W :: cs) w' := (h'.pick 3 [1, 2, 0] (by kernel_rfl) (by decide) rfl); exact ⟨(), trivial, rfl, h', trivial⟩)) ?_
    rintro _ -
    refine oQ [oF 4] [(30, .bool (!x34)), (1, sl A_s2 s2_1 c_s2), (2, .func (.func 77) #[] #[]), (15, sl A_s1 s1_1 c_s1), (16, vI (s1_1.length : Int)), (17, vI i2)] (by kernel_rfl) ?_
    refine ops_nil (fin_then ?_)
    refine st_if (b := !x34) rfl (fun hc36 => ?_) (fun hc36 => ?_)
    ·
     have hp := cnd_t hc36 hp
     refine st_seq (st_region [oF 0] (by rfl) ?_)
     refine oQ [oF 0] [(6, .bool false)] (by kernel_rfl) ?_
     refine ops_nil (fin_then (st_ret (fin_ret_block (fin_ret_then (fin_ret_then (fin_ret_block (fin_ret_then ?_)))))))
     obtain hq_ := Option.some.inj hp
     subst hq_
     obtain hq_ := hd2 _ rfl
     subst hq_
     have hp : some false = some t9001 := hk2
     have hq_ := Option.some.inj hp
     have hr0_ := hq_
     subst hr0_
     refine fin_ret [.tmp 6] [.bool false] rfl rfl (fun w_ hM => (.tmp rfl .nil)) (fun w_ hM => ?_)
     exact ⟨trivial, rfl, hM.pick 3 [2] (by kernel_rfl) (by decide) rfl⟩
    ·
     have hp := cnd_f hc36 hp
     refine st_skip (fin_block (fin_then (st_region [oF 0, oF 1] (by rfl) ?_)))
     refine oQ [oF 0, oF 1] [(17, vI (IntKind.i64.wrap (i2 + 1))), (1, sl A_s2 s2_1 c_s2), (2, .func (.func 77) #[] #[]), (15, sl A_s1 s1_1 c_s1), (16, vI (s1_1.length : Int))] (by kernel_rfl) ?_
     refine ops_nil ?_
     exact fin_again (IntKind.i64.wrap (i2 + 1)) () (Option.some.inj hp).symm trivial (look_has ⟨rfl, rfl, rfl, rfl, rfl, trivial⟩) (fun w_ hM => hM.pick 3 [2] (by kernel_rfl) (by decide) rfl)
   ·
    have hp := cnd_f hc3 hp
    refine st_exit (fin_exit_then (fin_exit_then (fin_exit ?_)))
    obtain hq_ := Option.some.inj hp
    subst hq_
    obtain hq_ := hd2 _ rfl
    subst hq_
    have hp : slices_EqualFunc_api_Kind_api_Kind_api_Kind_api_Kind_j1 = some t9001 := hk2
    exact fin_join HJ1 () hp (look_has trivial) (fun w_ hM => hM)
theorem tourref3_SameItem_ok (w0 w : World) (cs : List Chunk) (F : Nat → Prop) (W : World) (a_0 : Int) (a_1 : Int) (A_a_2 : Option Addr) (c_a_2 : Nat) (a_2 : List api_Comp) (b_0 : Int) (b_1 : Int) (A_b_2 : Option Addr) (c_b_2 : Nat) (b_2 : List api_Comp) (hM0 : Mem w0 (Fz F W :: cs) w) (h_a_2 : RdS R_api_Comp F W A_a_2 c_a_2 a_2) (h_b_2 : RdS R_api_Comp F W A_b_2 c_b_2 b_2) (t9001 : Bool) (hp : tourref3_SameItem a_0 a_1 a_2 b_0 b_1 b_2 = some t9001) : Calls Tryz.prog 79 #[.agg #[vI a_0, vI a_1, sl A_a_2 a_2 c_a_2], .agg #[vI b_0, vI b_1, sl A_b_2 b_2 c_b_2]] w fun e w' => (True) ∧ e = .returned (.bool t9001) ∧ Mem w0 (Fz F W :: cs) w' := by
 unfold tourref3_SameItem at hp
 refine sx_calls Tryz.func79 rfl (n := 17) (by kernel_rfl) (l := [(0, .agg #[vI a_0, vI a_1, sl A_a_2 a_2 c_a_2]), (1, .agg #[vI b_0, vI b_1, sl A_b_2 b_2 c_b_2])]) rfl (by rfl) hM0 ?_
 refine st_seq (st_region [oF 0, oF 1, oF 2] (by rfl) ?_)
 refine ops_newB (d := some 2) [vI a_0, vI a_1, sl A_a_2 a_2 c_a_2] 61 (fun b1 => ⟨by kernel_rfl⟩) (fun w_ hM hS => trivial) (fun b1 => ?_)
 refine ops_newB (d := some 3) [vI b_0, vI b_1, sl A_b_2 b_2 c_b_2] 61 (fun b2 => ⟨by kernel_rfl⟩) (fun w_ hM hS => trivial) (fun b2 => ?_)
 refine oQ [oF 2] [(3, vP b2 0), (2, vP b1 0)] (by kernel_rfl) ?_
 refine ops_nil (fin_then ?_)
 refine st_join1 (σ := Bool) (L := fun x_ => match x_ with | t3 => [(4, .bool t3)]) (N := fun x_ => match x_ with | t3 => Mem w0 (Fz F W :: cs)) (I := fun x_ => match x_ with | t3 => (tourref3_SameItem_j1 t3 = some t9001)) ?_ ?_
 ·
  rintro t3 hp
  unfold tourref3_SameItem_j1 at hp
  refine st_ret ?_
  have hq_ := Option.some.inj hp
  have hr0_ := hq_
  subst hr0_
  refine fin_ret [.tmp 4] [.bool t3] rfl rfl (fun w_ hM => (.tmp rfl .nil)) (fun w_ hM => ?_)
  exact ⟨trivial, rfl, hM⟩
 ·
  intro HJ1
  refine st_seq (st_region [oF 0, oF 1, oF 2, oF 3, oF 4, oF 5, oF 6, oF 7, oF 8, oF 9, oF 10, oF 11, oF 12] (by rfl) ?_)
  refine oQ [oF 0] [(5, vP b1 0), (3, vP b2 0), (2, vP b1 0)] (by kernel_rfl) ?_
  refine ops_mem (d := some 6) (an := [.v (vI a_0), .v (vI a_1)]) (evs := [ld b1 0 (vI a_0), ld b1 1 (vI a_1)]) (v := .agg #[vI a_0, vI a_1]) ⟨by kernel_rfl⟩ (fun w_ hM hS => ⟨w_, ⟨hM.cell 1 rfl rfl, hM.cell 1 rfl rfl, rfl⟩, hM, trivial⟩) ?_
  refine oQ [oF 2] [(7, vP b2 0), (6, .agg #[vI a_0, vI a_1]), (3, vP b2 0), (2, vP b1 0)] (by kernel_rfl) ?_
  refine ops_mem (d := some 8) (an := [.v (vI b_0), .v (vI b_1)]) (evs := [ld b2 0 (vI b_0), ld b2 1 (vI b_1)]) (v := .agg #[vI b_0, vI b_1]) ⟨by kernel_rfl⟩ (fun w_ hM hS => ⟨w_, ⟨hM.cell 0 rfl rfl, hM.cell 0 rfl rfl, rfl⟩, hM, trivial⟩) ?_
  refine ops_val (op := (.binOp Go.BinOp.eql 29 (.tmp 6) (.tmp 8) 29)) (d := some 9) (v := .bool (a_0 == b_0 && (a_1 == b_1))) ⟨by kernel_rfl⟩ (run_eql_agg (r := a_0 == b_0 && (a_1 == b_1)) rfl rfl (by kernel_rfl) (fun w => eqA29 9998 w a_0 b_0 a_1 b_1)) ?_
  refine oQ [oF 5] [(10, .bool (a_0 == b_0 && (a_1 == b_1))), (3, vP b2 0), (2, vP b1 0)] (by kernel_rfl) ?_
  refine ops_bool (t := a_0 == b_0 && (a_1 == b_1)) (l1 := [(10, .bool true), (3, vP b2 0), (2, vP b1 0)]) (l2 := [(10, .bool false), (3, vP b2 0), (2, vP b1 0)]) (fun h => by rw [h]) (fun h => by rw [h]) (fun hc4 => ?_) (fun hc4 => ?_)
  ·
   have hp := cnd_t hc4 hp
   refine oQ [oF 6] [(11, vP b1 2), (10, .bool true), (3, vP b2 0)] (by kernel_rfl) ?_
   refine ops_mem (d := some 12) (an := [.v (sl A_a_2 a_2 c_a_2)]) (evs := [ld b1 2 (sl A_a_2 a_2 c_a_2)]) (v := sl A_a_2 a_2 c_a_2) ⟨by kernel_rfl⟩ (fun w_ hM hS => ⟨w_, ⟨hM.cell 1 rfl rfl, rfl⟩, hM, trivial⟩) ?_
   refine oQ [oF 8] [(13, vP b2 2), (12, sl A_a_2 a_2 c_a_2), (10, .bool true)] (by kernel_rfl) ?_
   refine ops_mem (d := some 14) (an := [.v (sl A_b_2 b_2 c_b_2)]) (evs := [ld b2 2 (sl A_b_2 b_2 c_b_2)]) (v := sl A_b_2 b_2 c_b_2) ⟨by kernel_rfl⟩ (fun w_ hM hS => ⟨w_, ⟨hM.cell 0 rfl rfl, rfl⟩, hM, trivial⟩) ?_
   obtain ⟨x5, hv6, hp⟩ := obind hp
   refine ops_callI (σ := Unit) (d := some 15) (f := 10) (args := #[sl A_a_2 a_2 c_a_2, sl A_b_2 b_2 c_b_2, .func (.func 12) #[] #[]]) (v := (fun _ => .bool x5)) (I := (fun _ => True)) (M' := (fun _ => Mem w0 (.blk b2 [vI b_0, vI b_1, sl A_b_2 b_2 c_b_2] 61 :: .blk b1 [vI a_0, vI a_1, sl A_a_2 a_2 c_a_2] 61 :: Fz F W :: cs))) ⟨by kernel_rfl⟩ (fun w_ hM hS => (slices_EqualFunc_api_Comp_api_Comp_api_Comp_api_Comp_ok w0 w_ (.blk b2 [vI b_0, vI b_1, sl A_b_2 b_2 c_b_2] 61 :: .blk b1 [vI a_0, vI a_1, sl A_a_2 a_2 c_a_2] 61 :: cs) F W A_a_2 c_a_2 a_2 A_b_2 c_b_2 b_2 (hM.pick 3 [2, 0, 1] (by kernel_rfl) (by decide) rfl) h_a_2 h_b_2 x5 hv6).mono (by rintro e w' ⟨-, rfl, h'⟩; have h' : Mem w0 (.blk b2 [vI b_0, vI b_1, sl A_b_2 b_2 c_b_2] 61 :: .blk b1 [vI a_0, vI a_1, sl A_a_2 a_2 c_a_2] 61 :: Fz F W :: cs) w' := (h'.pick 3 [1, 2, 0] (by kernel_rfl) (by decide) rfl); exact ⟨(), trivial, rfl, h', trivial⟩)) ?_
   rintro _ -
   refine oQ [oF 11, oF 12] [(4, .bool x5)] (by kernel_rfl) ?_
   refine ops_nil ?_
   exact fin_join HJ1 x5 hp (look_has ⟨rfl, trivial⟩) (fun w_ hM => hM.pick 3 [2] (by kernel_rfl) (by decide) rfl)
  ·
   have hp := cnd_f hc4 hp
   refine oQ [oF 6, oF 7, oF 8, oF 9, oF 10, oF 11, oF 12] [(4, .bool false)] (by kernel_rfl) ?_
   refine ops_nil ?_
   exact fin_join HJ1 false hp (look_has ⟨rfl, trivial⟩) (fun w_ hM => hM.pick 3 [2] (by kernel_rfl) (by decide) rfl)
theorem slices_EqualFunc_api_Item_api_Item_api_Item_api_Item_ok (w0 w : World) (cs : List Chunk) (F : Nat → Prop) (W : World) (A_s1 : Option Addr) (c_s1 : Nat) (s1_1 : List api_Item) (A_s2 : Option Addr) (c_s2 : Nat) (s2_1 : List api_Item) (hM0 : Mem w0 (Fz F W :: cs) w) (h_s1 : RdS R_api_Item F W A_s1 c_s1 s1_1) (h_s2 : RdS R_api_Item F W A_s2 c_s2 s2_1) (t9001 : Bool) (hp : slices_EqualFunc_api_Item_api_Item_api_Item_api_Item s1_1 s2_1 = some t9001) : Calls Tryz.prog 78 #[sl A_s1 s1_1 c_s1, sl A_s2 s2_1 c_s2, .func (.func 79) #[] #[]] w fun e w' => (True) ∧ e = .returned (.bool t9001) ∧ Mem w0 (Fz F W :: cs) w' := by
 unfold slices_EqualFunc_api_Item_api_Item_api_Item_api_Item at hp
 refine sx_calls Tryz.func78 rfl (n := 32) (by kernel_rfl) (l := [(0, sl A_s1 s1_1 c_s1), (1, sl A_s2 s2_1 c_s2), (2, .func (.func 79) #[] #[])]) rfl (by rfl) hM0 ?_
 refine st_seq (st_region [oF 0] (by rfl) ?_)
 refine oQ [oF 0] [(0, sl A_s1 s1_1 c_s1), (1, sl A_s2 s2_1 c_s2), (2, .func (.func 79) #[] #[])] (by kernel_rfl) ?_
 refine ops_nil (fin_then (st_seq (st_seq (st_region [oF 0, oF 1, oF 2, oF 3, oF 4] (by rfl) ?_))))
 refine oQ [oF 0, oF 1, oF 2, oF 3, oF 4] [(14, .bool (!((s1_1.length : Int) == (s2_1.length : Int)))), (0, sl A_s1 s1_1 c_s1), (1, sl A_s2 s2_1 c_s2), (2, .func (.func 79) #[] #[])] (by kernel_rfl) ?_
 refine ops_nil (fin_then ?_)
 refine st_if (b := !((s1_1.length : Int) == (s2_1.length : Int))) rfl (fun hc1 => ?_) (fun hc1 => ?_)
 ·
  have hp := cnd_t hc1 hp
  refine st_seq (st_region [oF 0] (by rfl) ?_)
  refine oQ [oF 0] [(6, .bool false)] (by kernel_rfl) ?_
  refine ops_nil (fin_then (st_ret (fin_ret_then ?_)))
  have hq_ := Option.some.inj hp
  have hr0_ := hq_
  subst hr0_
  refine fin_ret [.tmp 6] [.bool false] rfl rfl (fun w_ hM => (.tmp rfl .nil)) (fun w_ hM => ?_)
  exact ⟨trivial, rfl, hM⟩
 ·
  have hp := cnd_f hc1 hp
  refine st_skip (fin_then ?_)
  refine st_join1 (σ := Unit) (L := fun _ => []) (N := fun _ => Mem w0 (Fz F W :: cs)) (I := fun _ => (slices_EqualFunc_api_Item_api_Item_api_Item_api_Item_j1 = some t9001)) ?_ ?_
  ·
   rintro _ hp
   unfold slices_EqualFunc_api_Item_api_Item_api_Item_api_Item_j1 at hp
   refine st_seq (st_region [oF 0] (by rfl) ?_)
   refine oQ [oF 0] [(6, .bool true)] (by kernel_rfl) ?_
   refine ops_nil (fin_then (st_ret ?_))
   have hq_ := Option.some.inj hp
   have hr0_ := hq_
   subst hr0_
   refine fin_ret [.tmp 6] [.bool true] rfl rfl (fun w_ hM => (.tmp rfl .nil)) (fun w_ hM => ?_)
   exact ⟨trivial, rfl, hM⟩
  ·
   intro HJ1
   refine st_seq (st_seq (st_region [oF 0, oF 1, oF 2] (by rfl) ?_))
   refine oQ [oF 0, oF 1, oF 2] [(17, vI 0), (16, vI (s1_1.length : Int)), (15, sl A_s1 s1_1 c_s1), (1, sl A_s2 s2_1 c_s2), (2, .func (.func 79) #[] #[])] (by kernel_rfl) ?_
   refine ops_nil (fin_then (st_block ?_))
   obtain ⟨r2, hl2, hk2⟩ := obind hp
   refine st_loopP (σ := Int) (ρ := (Bool ⊕ Unit)) (γ := Unit) hl2 () (fun s_ g_ => match s_, g_ with | i2, _ => [(1, sl A_s2 s2_1 c_s2), (2, .func (.func 79) #[] #[]), (15, sl A_s1 s1_1 c_s1), (16, vI (s1_1.length : Int)), (17, vI i2)]) (fun s_ g_ => match s_, g_ with | i2, _ => Mem w0 (Fz F W :: cs)) (fun s_ g_ => match s_, g_ with | i2, _ => True) trivial (look_has ⟨rfl, rfl, rfl, rfl, rfl, trivial⟩) (fun w_ hM => hM) ?_
   rintro i2 _ o2 - hs_ hd2
   have hp : (slices_EqualFunc_api_Item_api_Item_api_Item_api_Item_l2 s1_1 s2_1) i2 = some o2 := hs_
   clear hs_
   unfold slices_EqualFunc_api_Item_api_Item_api_Item_api_Item_l2 at hp
   refine st_seq (st_region [oF 0] (by rfl) ?_)
   refine oQ [oF 0] [(18, .bool (decide (i2 < (s1_1.length : Int)))), (1, sl A_s2 s2_1 c_s2), (2, .func (.func 79) #[] #[]), (15, sl A_s1 s1_1 c_s1), (16, vI (s1_1.length : Int)), (17, vI i2)] (by kernel_rfl) ?_
   refine ops_nil (fin_then (st_seq ?_))
   refine st_if (b := decide (i2 < (s1_1.length : Int))) rfl (fun hc3 => ?_) (fun hc3 => ?_)
   ·
    have hp := cnd_t hc3 hp
    refine st_skip (fin_then (st_seq (st_block (st_seq (st_region [oF 0, oF 1, oF 2, oF 3, oF 4, oF 5] (by rfl) ?_)))))
    refine oQ [oF 0] [(19, vI i2), (1, sl A_s2 s2_1 c_s2), (2, .func (.func 79) #[] #[]), (15, sl A_s1 s1_1 c_s1), (16, vI (s1_1.length : Int)), (17, vI i2)] (by kernel_rfl) ?_
    obtain ⟨x4, hv5, hp⟩ := obind hp
    obtain ⟨m6, hm7, hx8⟩ := idx_some hv5
    have hl11 := (List.getElem?_eq_some_iff.1 hx8).1
    obtain ⟨ad12, vs9, hA13, hr10, hq14⟩ := RdS.el h_s1 hx8
    obtain ⟨A15, c16, rfl, h17⟩ := dec_api_Item hr10
    refine ops_val (op := (.indexAddr 24 (.tmp 15) (.tmp 17))) (d := some 20) (v := .pointer (some (ad12.add (m6 * 3)))) ⟨by kernel_rfl⟩ (run_indexA hA13 Tryz.underlying24 (z := 3) (by kernel_rfl) rfl rfl hm7 hl11) ?_
    refine ops_mem (d := some 21) (an := [.v (vI x4.Ent.N), .v (vI x4.Ent.Gen), .v (sl A15 x4.Comps c16)]) (evs := [.load (ad12.add (m6 * 3)) (vI x4.Ent.N), .load ((ad12.add (m6 * 3)).add 1) (vI x4.Ent.Gen), .load ((ad12.add (m6 * 3)).add 2) (sl A15 x4.Comps c16)]) (v := .agg #[vI x4.Ent.N, vI x4.Ent.Gen, sl A15 x4.Comps c16]) ⟨by kernel_rfl⟩ (fun w_ hM hS => ⟨w_, ⟨hM.elcell 0 rfl hq14 0 rfl, hM.elcell 0 rfl hq14 1 rfl, hM.elcell 0 rfl hq14 2 rfl, rfl⟩, hM, trivial⟩) ?_
    refine ops_newB (d := some 8) [vI 0, vI 0, .slice none 0 0] 61 (fun b18 => ⟨by kernel_rfl⟩) (fun w_ hM hS => trivial) (fun b18 => ?_)
    refine oQ [oF 4] [(7, vI i2), (8, vP b18 0), (21, .agg #[vI x4.Ent.N, vI x4.Ent.Gen, sl A15 x4.Comps c16]), (1, sl A_s2 s2_1 c_s2), (2, .func (.func 79) #[] #[]), (15, sl A_s1 s1_1 c_s1), (16, vI (s1_1.length : Int)), (17, vI i2)] (by kernel_rfl) ?_
    refine ops_store (an := []) (evs := [sr b18 0 (vI x4.Ent.N), sr b18 1 (vI x4.Ent.Gen), sr b18 2 (sl A15 x4.Comps c16)]) ⟨by kernel_rfl⟩ (fun w_ hM hS => let ⟨w', he, h'⟩ := hM.evs_stores [vI x4.Ent.N, vI x4.Ent.Gen, sl A15 x4.Comps c16] 0 rfl 0 (Nat.le_of_ble_eq_true rfl); ⟨w', he, h', trivial⟩) ?_
    refine ops_nil (fin_then (st_seq (st_region [oF 0, oF 1, oF 2, oF 3, oF 4, oF 5] (by rfl) ?_)))
    refine oQ [oF 0, oF 1] [(23, vI i2), (22, sl A_s2 s2_1 c_s2), (8, vP b18 0), (1, sl A_s2 s2_1 c_s2), (2, .func (.func 79) #[] #[]), (15, sl A_s1 s1_1 c_s1), (16, vI (s1_1.length : Int)), (17, vI i2)] (by kernel_rfl) ?_
    obtain ⟨x19, hv20, hp⟩ := obind hp
    obtain ⟨m21, hm22, hx23⟩ := idx_some hv20
    have hl26 := (List.getElem?_eq_some_iff.1 hx23).1
    obtain ⟨ad27, vs24, hA28, hr25, hq29⟩ := RdS.el h_s2 hx23
    obtain ⟨A30, c31, rfl, h32⟩ := dec_api_Item hr25
    refine ops_val (op := (.indexAddr 24 (.tmp 22) (.tmp 23))) (d := some 24) (v := .pointer (some (ad27.add (m21 * 3)))) ⟨by kernel_rfl⟩ (run_indexA hA28 Tryz.underlying24 (z := 3) (by kernel_rfl) rfl rfl hm22 hl26) ?_
    refine ops_mem (d := some 25) (an := [.v (vI x19.Ent.N), .v (vI x19.Ent.Gen), .v (sl A30 x19.Comps c31)]) (evs := [.load (ad27.add (m21 * 3)) (vI x19.Ent.N), .load ((ad27.add (m21 * 3)).add 1) (vI x19.Ent.Gen), .load ((ad27.add (m21 * 3)).add 2) (sl A30 x19.Comps c31)]) (v := .agg #[vI x19.Ent.N, vI x19.Ent.Gen, sl A30 x19.Comps c31]) ⟨by kernel_rfl⟩ (fun w_ hM hS => ⟨w_, ⟨hM.elcell 1 rfl hq29 0 rfl, hM.elcell 1 rfl hq29 1 rfl, hM.elcell 1 rfl hq29 2 rfl, rfl⟩, hM, trivial⟩) ?_
    refine ops_newB (d := some 9) [vI 0, vI 0, .slice none 0 0] 61 (fun b33 => ⟨by kernel_rfl⟩) (fun w_ hM hS => trivial) (fun b33 => ?_)
    refine ops_store (an := []) (evs := [sr b33 0 (vI x19.Ent.N), sr b33 1 (vI x19.Ent.Gen), sr b33 2 (sl A30 x19.Comps c31)]) ⟨by kernel_rfl⟩ (fun w_ hM hS => let ⟨w', he, h'⟩ := hM.evs_stores [vI x19.Ent.N, vI x19.Ent.Gen, sl A30 x19.Comps c31] 0 rfl 0 (Nat.le_of_ble_eq_true rfl); ⟨w', he, h', trivial⟩) ?_
    refine ops_nil (fin_then (st_seq (st_region [oF 0, oF 1, oF 2, oF 3, oF 4] (by rfl) ?_)))
    refine oQ [oF 0] [(26, .func (.func 79) #[] #[]), (9, vP b33 0), (8, vP b18 0), (1, sl A_s2 s2_1 c_s2), (2, .func (.func 79) #[] #[]), (15, sl A_s1 s1_1 c_s1), (16, vI (s1_1.length : Int)), (17, vI i2)] (by kernel_rfl) ?_
    refine ops_mem (d := some 27) (an := [.v (vI x4.Ent.N), .v (vI x4.Ent.Gen), .v (sl A15 x4.Comps c16)]) (evs := [ld b18 0 (vI x4.Ent.N), ld b18 1 (vI x4.Ent.Gen), ld b18 2 (sl A15 x4.Comps c16)]) (v := .agg #[vI x4.Ent.N, vI x4.Ent.Gen, sl A15 x4.Comps c16]) ⟨by kernel_rfl⟩ (fun w_ hM hS => ⟨w_, ⟨hM.cell 1 rfl rfl, hM.cell 1 rfl rfl, hM.cell 1 rfl rfl, rfl⟩, hM, trivial⟩) ?_
    refine ops_mem (d := some 28) (an := [.v (vI x19.Ent.N), .v (vI x19.Ent.Gen), .v (sl A30 x19.Comps c31)]) (evs := [ld b33 0 (vI x19.Ent.N), ld b33 1 (vI x19.Ent.Gen), ld b33 2 (sl A30 x19.Comps c31)]) (v := .agg #[vI x19.Ent.N, vI x19.Ent.Gen, sl A30 x19.Comps c31]) ⟨by kernel_rfl⟩ (fun w_ hM hS => ⟨w_, ⟨hM.cell 0 rfl rfl, hM.cell 0 rfl rfl, hM.cell 0 rfl rfl, rfl⟩, hM, trivial⟩) ?_
    obtain ⟨x34, hv35, hp⟩ := obind hp
    refine ops_callI (σ := Unit) (d := some 29) (f := 79) (args := #[.agg #[vI x4.Ent.N, vI x4.Ent.Gen, sl A15 x4.Comps c16], .agg #[vI x19.Ent.N, vI x19.Ent.Gen, sl A30 x19.Comps c31]]) (v := (fun _ => .bool x34)) (I := (fun _ => True)) (M' := (fun _ => Mem w0 (.blk b33 [vI x19.Ent.N, vI x19.Ent.Gen, sl A30 x19.Comps c31] 61 :: .blk b18 [vI x4.Ent.N, vI x4.Ent.Gen, sl A15 x4.Comps c16] 61 :: Fz F W :: cs))) ⟨by kernel_rfl⟩ (fun w_ hM hS => (tourref3_SameItem_ok w0 w_ (.blk b33 [vI x19.Ent.N, vI x19.Ent.Gen, sl A30 x19.Comps c31] 61 :: .blk b18 [vI x4.Ent.N, vI x4.Ent.Gen, sl A15 x4.Comps c16] 61 :: cs) F W x4.Ent.N x4.Ent.Gen A15 c16 x4.Comps x19.Ent.N x19.Ent.Gen A30 c31 x19.Comps (hM.pick 3 [2, 0, 1] (by kernel_rfl) (by decide) rfl) h17 h32 x34 hv35).mono (by rintro e w' ⟨-, rfl, h'⟩; have h' : Mem w0 (.blk b33 [vI x19.Ent.N, vI x19.Ent.Gen, sl A30 x19.Comps c31] 61 :: .blk b18 [vI x4.Ent.N, vI x4.Ent.Gen, sl A15 x4.Comps c16] 61 :: Fz F W :: cs) w' := (h'.pick 3 [1, 2, 0] (by kernel_rfl) (by decide) rfl); exact ⟨(), trivial, rfl, h', trivial⟩)) ?_
    rintro _ -
    refine oQ [oF 4] [(30, .bool (!x34)), (1, sl A_s2 s2_1 c_s2), (2, .func (.func 79) #[] #[]), (15, sl A_s1 s1_1 c_s1), (16, vI (s1_1.length : Int)), (17, vI i2)] (by kernel_rfl) ?_
    refine ops_nil (fin_then ?_)
    refine st_if (b := !x34) rfl (fun hc36 => ?_) (fun hc36 => ?_)
    ·
     have hp := cnd_t hc36 hp
     refine st_seq (st_region [oF 0] (by rfl) ?_)
     refine oQ [oF 0] [(6, .bool false)] (by kernel_rfl) ?_
     refine ops_nil (fin_then (st_ret (fin_ret_block (fin_ret_then (fin_ret_then (fin_ret_block (fin_ret_then ?_)))))))
     obtain hq_ := Option.some.inj hp
     subst hq_
     obtain hq_ := hd2 _ rfl
     subst hq_
     have hp : some false = some t9001 := hk2
     have hq_ := Option.some.inj hp
     have hr0_ := hq_
     subst hr0_
     refine fin_ret [.tmp 6] [.bool false] rfl rfl (fun w_ hM => (.tmp rfl .nil)) (fun w_ hM => ?_)
     exact ⟨trivial, rfl, hM.pick 3 [2] (by kernel_rfl) (by decide) rfl⟩
    ·
     have hp := cnd_f hc36 hp
     refine st_skip (fin_block (fin_then (st_region [oF 0, oF 1] (by rfl) ?_)))
     refine oQ [oF 0, oF 1] [(17, vI (IntKind.i64.wrap (i2 + 1))), (1, sl A_s2 s2_1 c_s2), (2, .func (.func 79) #[] #[]), (15, sl A_s1 s1_1 c_s1), (16, vI (s1_1.length : Int))] (by kernel_rfl) ?_
     refine ops_nil ?_
     exact fin_again (IntKind.i64.wrap (i2 + 1)) () (Option.some.inj hp).symm trivial (look_has ⟨rfl, rfl, rfl, rfl, rfl, trivial⟩) (fun w_ hM => hM.pick 3 [2] (by kernel_rfl) (by decide) rfl)
   ·
    have hp := cnd_f hc3 hp
    refine st_exit (fin_exit_then (fin_exit_then (fin_exit ?_)))
    obtain hq_ := Option.some.inj hp
    subst hq_
    obtain hq_ := hd2 _ rfl
    subst hq_
    have hp : slices_EqualFunc_api_Item_api_Item_api_Item_api_Item_j1 = some t9001 := hk2
    exact fin_join HJ1 () hp (look_has trivial) (fun w_ hM => hM)
theorem tourref3_SameWorld_ok (w0 w : World) (cs : List Chunk) (F : Nat → Prop) (W : World) (A_a_0 : Option Addr) (c_a_0 : Nat) (a_0 : List api_Kind) (A_a_1 : Option Addr) (c_a_1 : Nat) (a_1 : List Int) (A_a_2 : Option Addr) (c_a_2 : Nat) (a_2 : List api_Item) (A_b_0 : Option Addr) (c_b_0 : Nat) (b_0 : List api_Kind) (A_b_1 : Option Addr) (c_b_1 : Nat) (b_1 : List Int) (A_b_2 : Option Addr) (c_b_2 : Nat) (b_2 : List api_Item) (hM0 : Mem w0 (Fz F W :: cs) w) (h_a_0 : RdS R_api_Kind F W A_a_0 c_a_0 a_0) (h_a_1 : RdS (Rep.int .i64) F W A_a_1 c_a_1 a_1) (h_a_2 : RdS R_api_Item F W A_a_2 c_a_2 a_2) (h_b_0 : RdS R_api_Kind F W A_b_0 c_b_0 b_0) (h_b_1 : RdS (Rep.int .i64) F W A_b_1 c_b_1 b_1) (h_b_2 : RdS R_api_Item F W A_b_2 c_b_2 b_2) (t9001 : Bool) (hp : tourref3_SameWorld a_0 a_1 a_2 b_0 b_1 b_2 = some t9001) : Calls Tryz.prog 51 #[.agg #[sl A_a_0 a_0 c_a_0, sl A_a_1 a_1 c_a_1, sl A_a_2 a_2 c_a_2], .agg #[sl A_b_0 b_0 c_b_0, sl A_b_1 b_1 c_b_1, sl A_b_2 b_2 c_b_2]] w fun e w' => (True) ∧ e = .returned (.bool t9001) ∧ Mem w0 (Fz F W :: cs) w' := by
 unfold tourref3_SameWorld at hp
 refine sx_calls Tryz.func51 rfl (n := 24) (by kernel_rfl) (l := [(0, .agg #[sl A_a_0 a_0 c_a_0, sl A_a_1 a_1 c_a_1, sl A_a_2 a_2 c_a_2]), (1, .agg #[sl A_b_0 b_0 c_b_0, sl A_b_1 b_1 c_b_1, sl A_b_2 b_2 c_b_2])]) rfl (by rfl) hM0 ?_
 refine st_seq (st_region [oF 0, oF 1, oF 2] (by rfl) ?_)
 refine ops_newB (d := some 2) [sl A_a_0 a_0 c_a_0, sl A_a_1 a_1 c_a_1, sl A_a_2 a_2 c_a_2] 26 (fun b1 => ⟨by kernel_rfl⟩) (fun w_ hM hS => trivial) (fun b1 => ?_)
 refine ops_newB (d := some 3) [sl A_b_0 b_0 c_b_0, sl A_b_1 b_1 c_b_1, sl A_b_2 b_2 c_b_2] 26 (fun b2 => ⟨by kernel_rfl⟩) (fun w_ hM hS => trivial) (fun b2 => ?_)
 refine oQ [oF 2] [(3, vP b2 0), (2, vP b1 0)] (by kernel_rfl) ?_
 refine ops_nil (fin_then ?_)
 refine st_join1 (σ := Bool) (L := fun x_ => match x_ with | t3 => [(4, .bool t3)]) (N := fun x_ => match x_ with | t3 => Mem w0 (Fz F W :: cs)) (I := fun x_ => match x_ with | t3 => (tourref3_SameWorld_j1 t3 = some t9001)) ?_ ?_
 ·
  rintro t3 hp
  unfold tourref3_SameWorld_j1 at hp
  refine st_ret ?_
  have hq_ := Option.some.inj hp
  have hr0_ := hq_
  subst hr0_
  refine fin_ret [.tmp 4] [.bool t3] rfl rfl (fun w_ hM => (.tmp rfl .nil)) (fun w_ hM => ?_)
  exact ⟨trivial, rfl, hM⟩
 ·
  intro HJ1
  refine st_seq (st_region [oF 0, oF 1, oF 2, oF 3, oF 4, oF 5, oF 6, oF 7, oF 8, oF 9, oF 10, oF 11, oF 12, oF 13, oF 14, oF 15, oF 16, oF 17, oF 18, oF 19] (by rfl) ?_)
  refine oQ [oF 0] [(5, vP b1 0), (3, vP b2 0), (2, vP b1 0)] (by kernel_rfl) ?_
  refine ops_mem (d := some 6) (an := [.v (sl A_a_0 a_0 c_a_0)]) (evs := [ld b1 0 (sl A_a_0 a_0 c_a_0)]) (v := sl A_a_0 a_0 c_a_0) ⟨by kernel_rfl⟩ (fun w_ hM hS => ⟨w_, ⟨hM.cell 1 rfl rfl, rfl⟩, hM, trivial⟩) ?_
  refine oQ [oF 2] [(7, vP b2 0), (6, sl A_a_0 a_0 c_a_0), (3, vP b2 0), (2, vP b1 0)] (by kernel_rfl) ?_
  refine ops_mem (d := some 8) (an := [.v (sl A_b_0 b_0 c_b_0)]) (evs := [ld b2 0 (sl A_b_0 b_0 c_b_0)]) (v := sl A_b_0 b_0 c_b_0) ⟨by kernel_rfl⟩ (fun w_ hM hS => ⟨w_, ⟨hM.cell 0 rfl rfl, rfl⟩, hM, trivial⟩) ?_
  obtain ⟨x4, hv5, hp⟩ := obind hp
  refine ops_callI (σ := Unit) (d := some 9) (f := 76) (args := #[sl A_a_0 a_0 c_a_0, sl A_b_0 b_0 c_b_0, .func (.func 77) #[] #[]]) (v := (fun _ => .bool x4)) (I := (fun _ => True)) (M' := (fun _ => Mem w0 (.blk b2 [sl A_b_0 b_0 c_b_0, sl A_b_1 b_1 c_b_1, sl A_b_2 b_2 c_b_2] 26 :: .blk b1 [sl A_a_0 a_0 c_a_0, sl A_a_1 a_1 c_a_1, sl A_a_2 a_2 c_a_2] 26 :: Fz F W :: cs))) ⟨by kernel_rfl⟩ (fun w_ hM hS => (slices_EqualFunc_api_Kind_api_Kind_api_Kind_api_Kind_ok w0 w_ (.blk b2 [sl A_b_0 b_0 c_b_0, sl A_b_1 b_1 c_b_1, sl A_b_2 b_2 c_b_2] 26 :: .blk b1 [sl A_a_0 a_0 c_a_0, sl A_a_1 a_1 c_a_1, sl A_a_2 a_2 c_a_2] 26 :: cs) F W A_a_0 c_a_0 a_0 A_b_0 c_b_0 b_0 (hM.pick 3 [2, 0, 1] (by kernel_rfl) (by decide) rfl) h_a_0 h_b_0 x4 hv5).mono (by rintro e w' ⟨-, rfl, h'⟩; have h' : Mem w0 (.blk b2 [sl A_b_0 b_0 c_b_0, sl A_b_1 b_1 c_b_1, sl A_b_2 b_2 c_b_2] 26 :: .blk b1 [sl A_a_0 a_0 c_a_0, sl A_a_1 a_1 c_a_1, sl A_a_2 a_2 c_a_2] 26 :: Fz F W :: cs) w' := (h'.pick 3 [1, 2, 0] (by kernel_rfl) (by decide) rfl); exact ⟨(), trivial, rfl, h', trivial⟩)) ?_
  rintro _ -
  refine oQ [oF 5] [(10, .bool x4), (3, vP b2 0), (2, vP b1 0)] (by kernel_rfl) ?_
  refine ops_bool (t := x4) (l1 := [(10, .bool true), (3, vP b2 0), (2, vP b1 0)]) (l2 := [(10, .bool false), (3, vP b2 0), (2, vP b1 0)]) (fun h => by rw [h]) (fun h => by rw [h]) (fun hc6 => ?_) (fun hc6 => ?_)
  ·
   have hp := cnd_t hc6 hp
   refine oQ [oF 6] [(11, vP b1 1), (10, .bool true), (3, vP b2 0), (2, vP b1 0)] (by kernel_rfl) ?_
   refine ops_mem (d := some 12) (an := [.v (sl A_a_1 a_1 c_a_1)]) (evs := [ld b1 1 (sl A_a_1 a_1 c_a_1)]) (v := sl A_a_1 a_1 c_a_1) ⟨by kernel_rfl⟩ (fun w_ hM hS => ⟨w_, ⟨hM.cell 1 rfl rfl, rfl⟩, hM, trivial⟩) ?_
   refine oQ [oF 8] [(13, vP b2 1), (12, sl A_a_1 a_1 c_a_1), (10, .bool true), (3, vP b2 0), (2, vP b1 0)] (by kernel_rfl) ?_
   refine ops_mem (d := some 14) (an := [.v (sl A_b_1 b_1 c_b_1)]) (evs := [ld b2 1 (sl A_b_1 b_1 c_b_1)]) (v := sl A_b_1 b_1 c_b_1) ⟨by kernel_rfl⟩ (fun w_ hM hS => ⟨w_, ⟨hM.cell 0 rfl rfl, rfl⟩, hM, trivial⟩) ?_
   obtain ⟨x7, hv8, hp⟩ := obind hp
   refine ops_callI (σ := Unit) (d := some 15) (f := 19) (args := #[sl A_a_1 a_1 c_a_1, sl A_b_1 b_1 c_b_1]) (v := (fun _ => .bool x7)) (I := (fun _ => True)) (M' := (fun _ => Mem w0 (.blk b2 [sl A_b_0 b_0 c_b_0, sl A_b_1 b_1 c_b_1, sl A_b_2 b_2 c_b_2] 26 :: .blk b1 [sl A_a_0 a_0 c_a_0, sl A_a_1 a_1 c_a_1, sl A_a_2 a_2 c_a_2] 26 :: Fz F W :: cs))) ⟨by kernel_rfl⟩ (fun w_ hM hS => (slices_Equal_int_int_ok w0 w_ (.blk b2 [sl A_b_0 b_0 c_b_0, sl A_b_1 b_1 c_b_1, sl A_b_2 b_2 c_b_2] 26 :: .blk b1 [sl A_a_0 a_0 c_a_0, sl A_a_1 a_1 c_a_1, sl A_a_2 a_2 c_a_2] 26 :: cs) F W A_a_1 c_a_1 a_1 A_b_1 c_b_1 b_1 (hM.pick 3 [2, 0, 1] (by kernel_rfl) (by decide) rfl) h_a_1 h_b_1 x7 hv8).mono (by rintro e w' ⟨-, rfl, h'⟩; have h' : Mem w0 (.blk b2 [sl A_b_0 b_0 c_b_0, sl A_b_1 b_1 c_b_1, sl A_b_2 b_2 c_b_2] 26 :: .blk b1 [sl A_a_0 a_0 c_a_0, sl A_a_1 a_1 c_a_1, sl A_a_2 a_2 c_a_2] 26 :: Fz F W :: cs) w' := (h'.pick 3 [1, 2, 0] (by kernel_rfl) (by decide) rfl); exact ⟨(), trivial, rfl, h', trivial⟩)) ?_
   rintro _ -
   refine oQ [oF 11, oF 12] [(17, .bool x7), (3, vP b2 0), (2, vP b1 0)] (by kernel_rfl) ?_
   refine ops_bool (t := x7) (l1 := [(17, .bool true), (3, vP b2 0), (2, vP b1 0)]) (l2 := [(17, .bool false), (3, vP b2 0), (2, vP b1 0)]) (fun h => by rw [h]) (fun h => by rw [h]) (fun hc9 => ?_) (fun hc9 => ?_)
   ·
    have hp := cnd_t hc9 hp
    refine oQ [oF 13] [(18, vP b1 2), (17, .bool true), (3, vP b2 0)] (by kernel_rfl) ?_
    refine ops_mem (d := some 19) (an := [.v (sl A_a_2 a_2 c_a_2)]) (evs := [ld b1 2 (sl A_a_2 a_2 c_a_2)]) (v := sl A_a_2 a_2 c_a_2) ⟨by kernel_rfl⟩ (fun w_ hM hS => ⟨w_, ⟨hM.cell 1 rfl rfl, rfl⟩, hM, trivial⟩) ?_
    refine oQ [oF 15] [(20, vP b2 2), (19, sl A_a_2 a_2 c_a_2), (17, .bool true)] (by kernel_rfl) ?_
    refine ops_mem (d := some 21) (an := [.v (sl A_b_2 b_2 c_b_2)]) (evs := [ld b2 2 (sl A_b_2 b_2 c_b_2)]) (v := sl A_b_2 b_2 c_b_2) ⟨by kernel_rfl⟩ (fun w_ hM hS => ⟨w_, ⟨hM.cell 0 rfl rfl, rfl⟩, hM, trivial⟩) ?_
    obtain ⟨x10, hv11, hp⟩ := obind hp
    refine ops_callI (σ := Unit) (d := some 22) (f := 78) (args := #[sl A_a_2 a_2 c_a_2, sl A_b_2 b_2 c_b_2, .func (.func 79) #[] #[]]) (v := (fun _ => .bool x10)) (I := (fun _ => True)) (M' := (fun _ => Mem w0 (.blk b2 [sl A_b_0 b_0 c_b_0, sl A_b_1 b_1 c_b_1, sl A_b_2 b_2 c_b_2] 26 :: .blk b1 [sl A_a_0 a_0 c_a_0, sl A_a_1 a_1 c_a_1, sl A_a_2 a_2 c_a_2] 26 :: Fz F W :: cs))) ⟨by kernel_rfl⟩ (fun w_ hM hS => (slices_EqualFunc_api_Item_api_Item_api_Item_api_Item_ok w0 w_ (.blk b2 [sl A_b_0 b_0 c_b_0, sl A_b_1 b_1 c_b_1, sl A_b_2 b_2 c_b_2] 26 :: .blk b1 [sl A_a_0 a_0 c_a_0, sl A_a_1 a_1 c_a_1, sl A_a_2 a_2 c_a_2] 26 :: cs) F W A_a_2 c_a_2 a_2 A_b_2 c_b_2 b_2 (hM.pick 3 [2, 0, 1] (by kernel_rfl) (by decide) rfl) h_a_2 h_b_2 x10 hv11).mono (by rintro e w' ⟨-, rfl, h'⟩; have h' : Mem w0 (.blk b2 [sl A_b_0 b_0 c_b_0, sl A_b_1 b_1 c_b_1, sl A_b_2 b_2 c_b_2] 26 :: .blk b1 [sl A_a_0 a_0 c_a_0, sl A_a_1 a_1 c_a_1, sl A_a_2 a_2 c_a_2] 26 :: Fz F W :: cs) w' := (h'.pick 3 [1, 2, 0] (by kernel_rfl) (by decide) rfl); exact ⟨(), trivial, rfl, h', trivial⟩)) ?_
    rintro _ -
    refine oQ [oF 18, oF 19] [(4, .bool x10)] (by kernel_rfl) ?_
    refine ops_nil ?_
    exact fin_join HJ1 x10 hp (look_has ⟨rfl, trivial⟩) (fun w_ hM => hM.pick 3 [2] (by kernel_rfl) (by decide) rfl)
   ·
    have hp := cnd_f hc9 hp
    refine oQ [oF 13, oF 14, oF 15, oF 16, oF 17, oF 18, oF 19] [(4, .bool false)] (by kernel_rfl) ?_
    refine ops_nil ?_
    exact fin_join HJ1 false hp (look_has ⟨rfl, trivial⟩) (fun w_ hM => hM.pick 3 [2] (by kernel_rfl) (by decide) rfl)
  ·
   have hp := cnd_f hc6 hp
   refine oQ [oF 6, oF 7, oF 8, oF 9, oF 10, oF 11, oF 12, oF 13, oF 14, oF 15, oF 16, oF 17, oF 18, oF 19] [(4, .bool false)] (by kernel_rfl) ?_
   refine ops_nil ?_
   exact fin_join HJ1 false hp (look_has ⟨rfl, trivial⟩) (fun w_ hM => hM.pick 3 [2] (by kernel_rfl) (by decide) rfl)
end Go.Proofs.YtbfndcookgijfaaGreatDoor.W
