/- The Go functions come to what the plain functions tell. No condition. -/
import Derived.Test.YthcbepikeinglaaDoorProg
import Derived.Test.YthcbepikeinglaaDoorFnK
import Derived.Test.YthcbepikeinglaaDoorWkK1
namespace Go.Proofs.YthcbepikeinglaaDoor.K
open Go Go.RowKit Go.Proofs.YthcbepikeinglaaDoor.Sx
set_option linter.unusedVariables false
def tourlaw3_KindRanges__t0 : List Row := [⟨0, 262144, 4⟩, ⟨1, 524288, 262144⟩, ⟨0, 1048576, 32⟩, ⟨6, 2097152, 1572864⟩, ⟨10, 4194304, 2097152⟩, ⟨16, 8388608, 4194308⟩, ⟨16, 16777216, 4194306⟩, ⟨112, 33554432, 29360128⟩, ⟨16, 67108864, 4194308⟩, ⟨16, 134217728, 4194306⟩, ⟨912, 268435456, 205520896⟩, ⟨1168, 536870912, 306184192⟩, ⟨2064, 1073741824, 541065216⟩, ⟨8191, 16, 1073741824⟩]
set_option maxHeartbeats 4000000 in
set_option maxRecDepth 100000 in
theorem tourlaw3_KindRanges_ok (w0 w : World) (cs : List Chunk) (F : Nat → Prop) (W : World) (f_0 : ByteArray) (f_1 : Int) (f_2 : Int) (v : Int) (hM0 : Mem w0 (Fz F W :: cs) w) (t9001 : Bool) (hp : tourlaw3_KindRanges f_0 f_1 f_2 v = some t9001) : Calls Tryd.prog 3 #[.agg #[.string f_0, vI f_1, vI f_2], vI v] w fun e w' => ∃ (F9002 : Nat → Prop), ∃ (W9003 : World), ((Ext w0 F W F9002 W9003)) ∧ e = .returned (.bool t9001) ∧ Mem w0 (Fz F9002 W9003 :: cs) w' := by
 unfold tourlaw3_KindRanges at hp
 refine sx_calls Tryd.func3 rfl (n := 31) (by kernel_rfl) (l := [(0, .agg #[.string f_0, vI f_1, vI f_2]), (1, vI v)]) rfl (by rfl) hM0 ?_
 refine st_seq ?_
 refine st_region [oF 0, oF 1] (by rfl) ?_
 refine ops_new (d := some 2) (o := .cells #[.string f_0, vI f_1, vI f_2] 23) (v := fun b1 => vP b1 0) (M' := fun b1 => Mem w0 (.blk b1 [.string f_0, vI f_1, vI f_2] 23 :: Fz F W :: cs)) (fun b1 => ⟨by kernel_rfl⟩) (fun w_ hM hS => ⟨hM.blk [.string f_0, vI f_1, vI f_2] 23, trivial⟩) (fun b1 => ?_)
 refine oR [oF 1] [(2, vP b1 0), (1, vI v)] [2, 1] (by kernel_rfl) ?_
 refine ops_nil ?_
 refine fin_then ?_
 refine st_seq ?_
 refine st_seq ?_
 refine st_region [oF 0, oF 1, oF 2, oF 3, oF 4, oF 5, oF 6, oF 7] (by rfl) ?_
 obtain ⟨x2, hv3, hp⟩ := obind hp
 refine ops_callI (σ := (Option Addr) × (List Value) × (Nat → Prop) × World) (d := some 6) (f := 9) (args := #[]) (v := (fun x_ => match x_ with | (A4, y5, F6, W7) => .slice A4 x2.length 2)) (I := (fun x_ => match x_ with | (A4, y5, F6, W7) => (RepL R_api_Kind F6 W7 x2 y5) ∧ (Ext w0 F W F6 W7))) (M' := (fun x_ => match x_ with | (A4, y5, F6, W7) => Mem w0 (orow A4 x2.length 2 27 2 y5 :: .blk b1 [.string f_0, vI f_1, vI f_2] 23 :: Fz F6 W7 :: cs))) ⟨by kernel_rfl⟩ (fun w_ hM hS => (tourlaw3_two_ok w0 w_ (.blk b1 [.string f_0, vI f_1, vI f_2] 23 :: cs) F W  (hM.pick 2 [1, 0] (by kernel_rfl) (by decide) rfl)  x2 hv3).mono (by rintro e w' ⟨A4, y5, F6, W7, ⟨h8, h9⟩, rfl, h'⟩; have h' : Mem w0 (orow A4 x2.length 2 27 2 y5 :: .blk b1 [.string f_0, vI f_1, vI f_2] 23 :: Fz F6 W7 :: cs) w' := (h'.pick 3 [0, 2, 1] (by kernel_rfl) (by decide) rfl); exact ⟨(A4, y5, F6, W7), ⟨h8, h9⟩, rfl, h', trivial⟩)) ?_
 rintro ⟨A4, y5, F6, W7⟩ ⟨h8, h9⟩
 refine ops_conv (l' := [(6, .slice A4 x2.length 2), (2, vP b1 0), (1, vI v)]) (M' := Mem w0 (orow A4 x2.length 2 27 2 y5 :: .blk b1 [.string f_0, vI f_1, vI f_2] 23 :: Fz F6 W7 :: cs)) rfl (fun _ h => h) ?_
 obtain ⟨x10, hv11, hp⟩ := obind hp
 obtain ⟨m12, hm13, hx14⟩ := idx_some hv11
 have hl17 := (List.getElem?_eq_some_iff.1 hx14).1
 refine ops_fact (fun w_ hM => hM.orowSome 0 rfl (Nat.lt_of_le_of_lt (Nat.zero_le _) hl17)) ?_
 rintro ⟨g18, rfl, -⟩
 obtain ⟨vs15, hr16, hq19⟩ := h8.at_ m12 x10 hx14
 obtain ⟨A20, c21, rfl, h22⟩ := dec_api_Kind hr16
 refine ops_val (op := (Go.Op.indexAddr 28 (Go.Operand.tmp 6) (Go.Operand.const (Go.Value.int Go.IntKind.i64 0)))) (d := some 7) (v := vP g18 (m12 * 2)) ⟨by kernel_rfl⟩ (run_indexRow Tryd.underlying28 (z := 2) (by kernel_rfl) rfl rfl hm13 hl17 rfl) ?_
 refine oR [oF 2] [(8, vP g18 (m12 * 2 + 1)), (2, vP b1 0), (1, vI v)] [8, 2, 1] (by kernel_rfl) ?_
 refine ops_mem (d := some 9) (an := [.v (.slice A20 x10.Fields.length c21)]) (evs := [.load ⟨g18, m12 * 2 + 1, none⟩ (.slice A20 x10.Fields.length c21)]) (v := .slice A20 x10.Fields.length c21) (M' := Mem w0 (orow (some ⟨g18, 0, none⟩) x2.length 2 27 2 y5 :: .blk b1 [.string f_0, vI f_1, vI f_2] 23 :: Fz F6 W7 :: cs)) ⟨by kernel_rfl⟩ (fun w_ hM hS => ⟨w_, ⟨hM.ocell 0 rfl (hq19 1 _ rfl), rfl⟩, hM, trivial⟩) ?_
 refine oR [] [(9, .slice A20 x10.Fields.length c21), (2, vP b1 0), (1, vI v)] [9, 2, 1] (by kernel_rfl) ?_
 obtain ⟨x23, hv24, hp⟩ := obind hp
 obtain ⟨m25, hm26, hx27⟩ := idx_some hv24
 have hl30 := (List.getElem?_eq_some_iff.1 hx27).1
 obtain ⟨ad31, vs28, hA32, hr29, hq33⟩ := RdS.el h22 hx27
 obtain rfl := dec_api_Field hr29
 refine ops_val (op := (Go.Op.indexAddr 25 (Go.Operand.tmp 9) (Go.Operand.const (Go.Value.int Go.IntKind.i64 0)))) (d := some 10) (v := .pointer (some (ad31.add (m25 * 3)))) ⟨by kernel_rfl⟩ (run_indexA hA32 Tryd.underlying25 (z := 3) (by kernel_rfl) rfl rfl hm26 hl30) ?_
 refine oR [] [(10, .pointer (some (ad31.add (m25 * 3)))), (2, vP b1 0), (1, vI v)] [10, 2, 1] (by kernel_rfl) ?_
 refine ops_mem (d := some 11) (an := [.v (.string x23.Name), .v (vI x23.Bits), .v (vI x23.Low)]) (evs := [.load (ad31.add (m25 * 3)) (.string x23.Name), .load ((ad31.add (m25 * 3)).add 1) (vI x23.Bits), .load ((ad31.add (m25 * 3)).add 2) (vI x23.Low)]) (v := .agg #[.string x23.Name, vI x23.Bits, vI x23.Low]) (M' := Mem w0 (orow (some ⟨g18, 0, none⟩) x2.length 2 27 2 y5 :: .blk b1 [.string f_0, vI f_1, vI f_2] 23 :: Fz F6 W7 :: cs)) ⟨by kernel_rfl⟩ (fun w_ hM hS => ⟨w_, ⟨hM.elcell 2 rfl hq33 0 rfl, hM.elcell 2 rfl hq33 1 rfl, hM.elcell 2 rfl hq33 2 rfl, rfl⟩, hM, trivial⟩) ?_
 refine oR [] [(11, .agg #[.string x23.Name, vI x23.Bits, vI x23.Low]), (2, vP b1 0), (1, vI v)] [11, 2, 1] (by kernel_rfl) ?_
 obtain ⟨x34, hv35, hp⟩ := obind hp
 refine ops_callI (σ := Unit) (d := some 12) (f := 8) (args := #[.agg #[.string x23.Name, vI x23.Bits, vI x23.Low]]) (v := (fun _ => vI x34)) (I := (fun _ => True)) (M' := (fun _ => Mem w0 (orow (some ⟨g18, 0, none⟩) x2.length 2 27 2 y5 :: .blk b1 [.string f_0, vI f_1, vI f_2] 23 :: Fz F6 W7 :: cs))) ⟨by kernel_rfl⟩ (fun w_ hM hS => (kind_High_ok w0 w_ (orow (some ⟨g18, 0, none⟩) x2.length 2 27 2 y5 :: .blk b1 [.string f_0, vI f_1, vI f_2] 23 :: cs) F6 W7 x23.Name x23.Bits x23.Low (hM.pick 3 [2, 0, 1] (by kernel_rfl) (by decide) rfl)  x34 hv35).mono (by rintro e w' ⟨-, rfl, h'⟩; have h' : Mem w0 (orow (some ⟨g18, 0, none⟩) x2.length 2 27 2 y5 :: .blk b1 [.string f_0, vI f_1, vI f_2] 23 :: Fz F6 W7 :: cs) w' := (h'.pick 3 [1, 2, 0] (by kernel_rfl) (by decide) rfl); exact ⟨(), trivial, rfl, h', trivial⟩)) ?_
 rintro _ -
 refine ops_conv (l' := [(12, vI x34), (11, .agg #[.string x23.Name, vI x23.Bits, vI x23.Low]), (2, vP b1 0), (1, vI v)]) (M' := Mem w0 (orow (some ⟨g18, 0, none⟩) x2.length 2 27 2 y5 :: .blk b1 [.string f_0, vI f_1, vI f_2] 23 :: Fz F6 W7 :: cs)) rfl (fun _ h => h) ?_
 refine oR [oF 7] [(13, .bool (!(x34 == 5))), (2, vP b1 0), (1, vI v)] [13, 2, 1] (by kernel_rfl) ?_
 refine ops_nil ?_
 refine fin_then ?_
 refine st_if (b := !(x34 == 5)) rfl (fun hc36 => ?_) (fun hc36 => ?_)
 · --
  have hp := cnd_t hc36 hp
  refine st_seq ?_
  refine st_region [oF 0] (by rfl) ?_
  refine oR [oF 0] [(4, .bool false)] [4] (by kernel_rfl) ?_
  refine ops_nil ?_
  refine fin_then ?_
  refine st_ret ?_
  refine fin_ret_then ?_
  have hq_ := Option.some.inj hp
  have hr0_ := hq_
  subst hr0_
  refine fin_ret [.tmp 4] [.bool false] rfl rfl (fun w_ hM => (.tmp rfl .nil)) (fun w_ hM => ?_)
  exact ⟨F6, W7, h9, rfl, hM.pick 3 [2] (by kernel_rfl) (by decide) rfl⟩
 · --
  have hp := cnd_f hc36 hp
  refine st_skip ?_
  refine fin_then ?_
  refine st_seq ?_
  refine st_region [oF 0] (by rfl) ?_
  refine oR [oF 0] [(5, vI 0), (2, vP b1 0), (1, vI v)] [5, 2, 1] (by kernel_rfl) ?_
  refine ops_nil ?_
  refine fin_then ?_
  refine st_join1 (σ := Int) (L := fun x_ => match x_ with | i37 => [(1, vI v), (2, vP b1 0), (5, vI i37)]) (N := fun x_ => match x_ with | i37 => Mem w0 (.blk b1 [.string f_0, vI f_1, vI f_2] 23 :: Fz F6 W7 :: cs)) (I := fun x_ => match x_ with | i37 => ((tourlaw3_KindRanges_j1 f_0 f_1 f_2 v) i37 = some t9001)) ?_ ?_
  · --
   rintro i37 hp
   refine st_conv (l' := [(1, vI v), (2, vP b1 0), (5, vI i37)]) (M' := Mem w0 (.blk b1 [.string f_0, vI f_1, vI f_2] 23 :: Fz F6 W7 :: cs)) rfl (fun _ h => h) ?_
   unfold tourlaw3_KindRanges_j1 at hp
   refine st_join1 (σ := Bool) (L := fun x_ => match x_ with | t38 => [(4, .bool t38)]) (N := fun x_ => match x_ with | t38 => Mem w0 (Fz F6 W7 :: cs)) (I := fun x_ => match x_ with | t38 => (tourlaw3_KindRanges_j2 t38 = some t9001)) ?_ ?_
   · --
    rintro t38 hp
    refine st_conv (l' := [(4, .bool t38)]) (M' := Mem w0 (Fz F6 W7 :: cs)) rfl (fun _ h => h) ?_
    unfold tourlaw3_KindRanges_j2 at hp
    refine st_ret ?_
    have hq_ := Option.some.inj hp
    have hr0_ := hq_
    subst hr0_
    refine fin_ret [.tmp 4] [.bool t38] rfl rfl (fun w_ hM => (.tmp rfl .nil)) (fun w_ hM => ?_)
    exact ⟨F6, W7, h9, rfl, hM⟩
   · --
    intro HJ2
    refine st_seq ?_
    refine st_region_fast tourlaw3_KindRanges__t0 [oT 0, oT 2, oF 1, oT 3, oT 4, oT 5, oT 6, oT 8, oT 9, oF 7, oF 10, oT 11, oT 12, oT 13] (Mem w0 (.blk b1 [.string f_0, vI f_1, vI f_2] 23 :: Fz F6 W7 :: cs)) (by kernel_rfl) (by kernel_rfl) (by kernel_rfl) (by kernel_rfl) (by kernel_rfl) (fun _ d _ _ _ h => by cases d <;> exact h) (M' := Mem w0 (.blk b1 [.string f_0, vI f_1, vI f_2] 23 :: Fz F6 W7 :: cs)) (fun w_ hM => ⟨hM.drew, hM.drew.sub (.cons_cons _ (.cons_cons _ (.refl _)))⟩) ?_
    refine ops_load (d := some 18) (an := [.v (.string f_0), .v (vI f_1), .v (vI f_2)]) (evs := [.load ⟨b1, 0, none⟩ (.string f_0), .load ⟨b1, 1, none⟩ (vI f_1), .load ⟨b1, 2, none⟩ (vI f_2)]) (v := .agg #[.string f_0, vI f_1, vI f_2]) ⟨by kernel_rfl⟩ (fun w_ hM => ⟨hM.cell 0 rfl rfl, hM.cell 0 rfl rfl, hM.cell 0 rfl rfl, rfl⟩) ?_
    refine oR [oT 2] [(20, vI i37), (18, .agg #[.string f_0, vI f_1, vI f_2]), (1, vI v), (2, vP b1 0)] [20, 18, 1, 2] (by kernel_rfl) ?_
    obtain ⟨x39, hv40, hp⟩ := obind hp
    refine ops_callI (σ := Unit) (d := some 19) (f := 8) (args := #[.agg #[.string f_0, vI f_1, vI f_2]]) (v := (fun _ => vI x39)) (I := (fun _ => True)) (M' := (fun _ => Mem w0 (.blk b1 [.string f_0, vI f_1, vI f_2] 23 :: Fz F6 W7 :: cs))) ⟨by kernel_rfl⟩ (fun w_ hM hS => (kind_High_ok w0 w_ (.blk b1 [.string f_0, vI f_1, vI f_2] 23 :: cs) F6 W7 f_0 f_1 f_2 (hM.pick 2 [1, 0] (by kernel_rfl) (by decide) rfl)  x39 hv40).mono (by rintro e w' ⟨-, rfl, h'⟩; have h' : Mem w0 (.blk b1 [.string f_0, vI f_1, vI f_2] 23 :: Fz F6 W7 :: cs) w' := (h'.pick 2 [1, 0] (by kernel_rfl) (by decide) rfl); exact ⟨(), trivial, rfl, h', (by exact h'.sub (.cons_cons _ (.cons_cons _ (.refl _))))⟩)) ?_
    rintro _ -
    refine ops_conv (l' := [(19, vI x39), (20, vI i37), (18, .agg #[.string f_0, vI f_1, vI f_2]), (1, vI v), (2, vP b1 0)]) (M' := Mem w0 (.blk b1 [.string f_0, vI f_1, vI f_2] 23 :: Fz F6 W7 :: cs)) rfl (fun _ h => h) ?_
    refine oR [oT 3, oT 4] [(22, .bool (x39 == i37)), (1, vI v), (2, vP b1 0)] [22, 1, 2] (by kernel_rfl) ?_
    refine ops_bool (t := (x39 == i37)) (l1 := [(22, .bool true), (1, vI v), (2, vP b1 0)]) (l2 := [(22, .bool false), (1, vI v), (2, vP b1 0)]) (fun h => by rw [h]) (fun h => by rw [h]) (fun hc41 => ?_) (fun hc41 => ?_)
    · --
     have hp := cnd_t hc41 hp
     refine ops_load (d := some 23) (an := [.v (.string f_0), .v (vI f_1), .v (vI f_2)]) (evs := [.load ⟨b1, 0, none⟩ (.string f_0), .load ⟨b1, 1, none⟩ (vI f_1), .load ⟨b1, 2, none⟩ (vI f_2)]) (v := .agg #[.string f_0, vI f_1, vI f_2]) ⟨by kernel_rfl⟩ (fun w_ hM => ⟨hM.cell 0 rfl rfl, hM.cell 0 rfl rfl, hM.cell 0 rfl rfl, rfl⟩) ?_
     refine oR [oT 6] [(24, vI v), (23, .agg #[.string f_0, vI f_1, vI f_2]), (22, .bool true), (1, vI v), (2, vP b1 0)] [24, 23, 22, 1, 2] (by kernel_rfl) ?_
     refine ops_load (d := some 26) (an := [.v (.string f_0), .v (vI f_1), .v (vI f_2)]) (evs := [.load ⟨b1, 0, none⟩ (.string f_0), .load ⟨b1, 1, none⟩ (vI f_1), .load ⟨b1, 2, none⟩ (vI f_2)]) (v := .agg #[.string f_0, vI f_1, vI f_2]) ⟨by kernel_rfl⟩ (fun w_ hM => ⟨hM.cell 0 rfl rfl, hM.cell 0 rfl rfl, hM.cell 0 rfl rfl, rfl⟩) ?_
     refine oR [oT 9] [(27, vI v), (26, .agg #[.string f_0, vI f_1, vI f_2]), (24, vI v), (23, .agg #[.string f_0, vI f_1, vI f_2]), (22, .bool true)] [27, 26, 24, 23, 22] (by kernel_rfl) ?_
     obtain ⟨x42, hv43, hp⟩ := obind hp
     refine ops_callI (σ := Unit) (d := some 25) (f := 12) (args := #[.agg #[.string f_0, vI f_1, vI f_2], vI v]) (v := (fun _ => vI x42)) (I := (fun _ => True)) (M' := (fun _ => Mem w0 (.blk b1 [.string f_0, vI f_1, vI f_2] 23 :: Fz F6 W7 :: cs))) ⟨by kernel_rfl⟩ (fun w_ hM hS => (kind_Near_ok w0 w_ (.blk b1 [.string f_0, vI f_1, vI f_2] 23 :: cs) F6 W7 f_0 f_1 f_2 v (hM.pick 2 [1, 0] (by kernel_rfl) (by decide) rfl)  x42 hv43).mono (by rintro e w' ⟨-, rfl, h'⟩; have h' : Mem w0 (.blk b1 [.string f_0, vI f_1, vI f_2] 23 :: Fz F6 W7 :: cs) w' := (h'.pick 2 [1, 0] (by kernel_rfl) (by decide) rfl); exact ⟨(), trivial, rfl, h', (by exact h'.sub (.cons_cons _ (.cons_cons _ (.refl _))))⟩)) ?_
     rintro _ -
     refine ops_conv (l' := [(25, vI x42), (27, vI v), (26, .agg #[.string f_0, vI f_1, vI f_2]), (24, vI v), (23, .agg #[.string f_0, vI f_1, vI f_2]), (22, .bool true)]) (M' := Mem w0 (.blk b1 [.string f_0, vI f_1, vI f_2] 23 :: Fz F6 W7 :: cs)) rfl (fun _ h => h) ?_
     refine oR [] [(25, vI x42), (27, vI v), (26, .agg #[.string f_0, vI f_1, vI f_2]), (22, .bool true)] [25, 27, 26, 22] (by kernel_rfl) ?_
     obtain ⟨x44, hv45, hp⟩ := obind hp
     refine ops_callI (σ := Unit) (d := some 28) (f := 13) (args := #[.agg #[.string f_0, vI f_1, vI f_2], vI v]) (v := (fun _ => vI x44)) (I := (fun _ => True)) (M' := (fun _ => Mem w0 (.blk b1 [.string f_0, vI f_1, vI f_2] 23 :: Fz F6 W7 :: cs))) ⟨by kernel_rfl⟩ (fun w_ hM hS => (tourref3_Nearest_ok w0 w_ (.blk b1 [.string f_0, vI f_1, vI f_2] 23 :: cs) F6 W7 f_0 f_1 f_2 v (hM.pick 2 [1, 0] (by kernel_rfl) (by decide) rfl)  x44 hv45).mono (by rintro e w' ⟨-, rfl, h'⟩; have h' : Mem w0 (.blk b1 [.string f_0, vI f_1, vI f_2] 23 :: Fz F6 W7 :: cs) w' := (h'.pick 2 [1, 0] (by kernel_rfl) (by decide) rfl); exact ⟨(), trivial, rfl, h', (by exact h'.sub (.cons_cons _ (.cons_cons _ (.refl _))))⟩)) ?_
     rintro _ -
     refine ops_conv (l' := [(28, vI x44), (25, vI x42), (27, vI v), (26, .agg #[.string f_0, vI f_1, vI f_2]), (22, .bool true)]) (M' := Mem w0 (.blk b1 [.string f_0, vI f_1, vI f_2] 23 :: Fz F6 W7 :: cs)) rfl (fun _ h => h) ?_
     refine oR [oT 11, oT 12, oT 13] [(4, .bool (x42 == x44))] [4] (by kernel_rfl) ?_
     refine ops_nil ?_
     exact fin_join HJ2 (x42 == x44) hp (look_has ⟨rfl, trivial⟩) (fun w_ hM => hM.pick 2 [1] (by kernel_rfl) (by decide) rfl)
    · --
     have hp := cnd_f hc41 hp
     refine oR [oT 5, oT 6, oT 8, oT 9, oF 7, oF 10, oT 11, oT 12, oT 13] [(4, .bool false)] [4] (by kernel_rfl) ?_
     refine ops_nil ?_
     exact fin_join HJ2 false hp (look_has ⟨rfl, trivial⟩) (fun w_ hM => hM.pick 2 [1] (by kernel_rfl) (by decide) rfl)
  · --
   intro HJ1
   refine st_seq ?_
   refine st_seq ?_
   refine st_region [oF 0, oF 1] (by rfl) ?_
   refine ops_mem (d := some 14) (an := [.v (.string f_0), .v (vI f_1), .v (vI f_2)]) (evs := [.load ⟨b1, 0, none⟩ (.string f_0), .load ⟨b1, 1, none⟩ (vI f_1), .load ⟨b1, 2, none⟩ (vI f_2)]) (v := .agg #[.string f_0, vI f_1, vI f_2]) (M' := Mem w0 (orow (some ⟨g18, 0, none⟩) x2.length 2 27 2 y5 :: .blk b1 [.string f_0, vI f_1, vI f_2] 23 :: Fz F6 W7 :: cs)) ⟨by kernel_rfl⟩ (fun w_ hM hS => ⟨w_, ⟨hM.cell 1 rfl rfl, hM.cell 1 rfl rfl, hM.cell 1 rfl rfl, rfl⟩, hM, trivial⟩) ?_
   obtain ⟨x46, hv47, hp⟩ := obind hp
   refine ops_callI (σ := Unit) (d := some 15) (f := 10) (args := #[.agg #[.string f_0, vI f_1, vI f_2]]) (v := (fun _ => .bool x46)) (I := (fun _ => True)) (M' := (fun _ => Mem w0 (orow (some ⟨g18, 0, none⟩) x2.length 2 27 2 y5 :: .blk b1 [.string f_0, vI f_1, vI f_2] 23 :: Fz F6 W7 :: cs))) ⟨by kernel_rfl⟩ (fun w_ hM hS => (tourref3_FieldOK_ok w0 w_ (orow (some ⟨g18, 0, none⟩) x2.length 2 27 2 y5 :: .blk b1 [.string f_0, vI f_1, vI f_2] 23 :: cs) F6 W7 f_0 f_1 f_2 (hM.pick 3 [2, 0, 1] (by kernel_rfl) (by decide) rfl)  x46 hv47).mono (by rintro e w' ⟨-, rfl, h'⟩; have h' : Mem w0 (orow (some ⟨g18, 0, none⟩) x2.length 2 27 2 y5 :: .blk b1 [.string f_0, vI f_1, vI f_2] 23 :: Fz F6 W7 :: cs) w' := (h'.pick 3 [1, 2, 0] (by kernel_rfl) (by decide) rfl); exact ⟨(), trivial, rfl, h', trivial⟩)) ?_
   rintro _ -
   refine ops_conv (l' := [(15, .bool x46), (14, .agg #[.string f_0, vI f_1, vI f_2]), (5, vI 0), (2, vP b1 0), (1, vI v)]) (M' := Mem w0 (orow (some ⟨g18, 0, none⟩) x2.length 2 27 2 y5 :: .blk b1 [.string f_0, vI f_1, vI f_2] 23 :: Fz F6 W7 :: cs)) rfl (fun _ h => h) ?_
   refine oR [] [(15, .bool x46), (5, vI 0), (2, vP b1 0), (1, vI v)] [15, 5, 2, 1] (by kernel_rfl) ?_
   refine ops_nil ?_
   refine fin_then ?_
   refine st_if (b := x46) rfl (fun hc48 => ?_) (fun hc48 => ?_)
   · --
    have hp := cnd_t hc48 hp
    refine st_region [oF 0, oF 1, oF 2] (by rfl) ?_
    refine oR [] [(5, vI 0), (2, vP b1 0), (1, vI v)] [5, 2, 1] (by kernel_rfl) ?_
    refine ops_mem (d := some 16) (an := [.v (.string f_0), .v (vI f_1), .v (vI f_2)]) (evs := [.load ⟨b1, 0, none⟩ (.string f_0), .load ⟨b1, 1, none⟩ (vI f_1), .load ⟨b1, 2, none⟩ (vI f_2)]) (v := .agg #[.string f_0, vI f_1, vI f_2]) (M' := Mem w0 (orow (some ⟨g18, 0, none⟩) x2.length 2 27 2 y5 :: .blk b1 [.string f_0, vI f_1, vI f_2] 23 :: Fz F6 W7 :: cs)) ⟨by kernel_rfl⟩ (fun w_ hM hS => ⟨w_, ⟨hM.cell 1 rfl rfl, hM.cell 1 rfl rfl, hM.cell 1 rfl rfl, rfl⟩, hM, trivial⟩) ?_
    obtain ⟨x49, hv50, hp⟩ := obind hp
    refine ops_callI (σ := Unit) (d := some 17) (f := 11) (args := #[.agg #[.string f_0, vI f_1, vI f_2]]) (v := (fun _ => vI x49)) (I := (fun _ => True)) (M' := (fun _ => Mem w0 (orow (some ⟨g18, 0, none⟩) x2.length 2 27 2 y5 :: .blk b1 [.string f_0, vI f_1, vI f_2] 23 :: Fz F6 W7 :: cs))) ⟨by kernel_rfl⟩ (fun w_ hM hS => (tourref3_Top_ok w0 w_ (orow (some ⟨g18, 0, none⟩) x2.length 2 27 2 y5 :: .blk b1 [.string f_0, vI f_1, vI f_2] 23 :: cs) F6 W7 f_0 f_1 f_2 (hM.pick 3 [2, 0, 1] (by kernel_rfl) (by decide) rfl)  x49 hv50).mono (by rintro e w' ⟨-, rfl, h'⟩; have h' : Mem w0 (orow (some ⟨g18, 0, none⟩) x2.length 2 27 2 y5 :: .blk b1 [.string f_0, vI f_1, vI f_2] 23 :: Fz F6 W7 :: cs) w' := (h'.pick 3 [1, 2, 0] (by kernel_rfl) (by decide) rfl); exact ⟨(), trivial, rfl, h', trivial⟩)) ?_
    rintro _ -
    refine ops_conv (l' := [(17, vI x49), (16, .agg #[.string f_0, vI f_1, vI f_2]), (5, vI 0), (2, vP b1 0), (1, vI v)]) (M' := Mem w0 (orow (some ⟨g18, 0, none⟩) x2.length 2 27 2 y5 :: .blk b1 [.string f_0, vI f_1, vI f_2] 23 :: Fz F6 W7 :: cs)) rfl (fun _ h => h) ?_
    refine oR [oF 2] [(5, vI x49), (2, vP b1 0), (1, vI v)] [5, 2, 1] (by kernel_rfl) ?_
    refine ops_nil ?_
    exact fin_join HJ1 x49 hp (look_has ⟨rfl, rfl, rfl, trivial⟩) (fun w_ hM => hM.pick 3 [1, 2] (by kernel_rfl) (by decide) rfl)
   · --
    have hp := cnd_f hc48 hp
    refine st_skip ?_
    exact fin_join HJ1 0 hp (look_has ⟨rfl, rfl, rfl, trivial⟩) (fun w_ hM => hM.pick 3 [1, 2] (by kernel_rfl) (by decide) rfl)
end Go.Proofs.YthcbepikeinglaaDoor.K
