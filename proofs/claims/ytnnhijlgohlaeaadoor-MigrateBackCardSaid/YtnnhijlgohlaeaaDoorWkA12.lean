/- The Go functions come to what the plain functions tell. No condition. -/
import Derived.Test.YtnnhijlgohlaeaaDoorProg
import Derived.Test.YtnnhijlgohlaeaaDoorFnA
import Derived.Test.YtnnhijlgohlaeaaDoorWkA3
import Derived.Test.YtnnhijlgohlaeaaDoorWkA7
import Derived.Test.YtnnhijlgohlaeaaDoorWkA9
import Derived.Test.YtnnhijlgohlaeaaDoorWkA10
import Derived.Test.YtnnhijlgohlaeaaDoorWkA11
import Derived.Test.YtnnhijlgohlaeaaDoorEqA
import Derived.Test.YtnnhijlgohlaeaaDoorExOwnM
namespace Go.Proofs.YtnnhijlgohlaeaaDoor.A
open Go Go.RowKit Go.Proofs.YtnnhijlgohlaeaaDoor.Sx
set_option linter.unusedVariables false
set_option maxHeartbeats 4000000
set_option maxRecDepth 100000
theorem tourref3_SameKind_ok (w0 w : World) (cs : List Chunk) (F : Nat → Prop) (W : World) (a_0 : ByteArray) (A_a_1 : Option Addr) (c_a_1 : Nat) (a_1 : List api_Field) (b_0 : ByteArray) (A_b_1 : Option Addr) (c_b_1 : Nat) (b_1 : List api_Field) (hM0 : Mem w0 (Fz F W :: cs) w) (h_a_1 : RdS R_api_Field F W A_a_1 c_a_1 a_1) (h_b_1 : RdS R_api_Field F W A_b_1 c_b_1 b_1) (t9001 : Bool) (hp : tourref3_SameKind a_0 a_1 b_0 b_1 = some t9001) : Calls Tryd.prog 18 #[.agg #[.string a_0, sl A_a_1 a_1 c_a_1], .agg #[.string b_0, sl A_b_1 b_1 c_b_1]] w fun e w' => (True) ∧ e = .returned (.bool t9001) ∧ Mem w0 (Fz F W :: cs) w' := by
 unfold tourref3_SameKind at hp
 refine sx_calls Tryd.func18 rfl (n := 17) (by kernel_rfl) (l := [(0, .agg #[.string a_0, sl A_a_1 a_1 c_a_1]), (1, .agg #[.string b_0, sl A_b_1 b_1 c_b_1])]) rfl (by rfl) hM0 ?_
 refine st_seq (st_region [oF 0, oF 1, oF 2] (by rfl) ?_)
 refine ops_newB (d := some 2) [.string a_0, sl A_a_1 a_1 c_a_1] 35 (fun b1 => ⟨by kernel_rfl⟩) (fun w_ hM hS => trivial) (fun b1 => ?_)
 refine ops_newB (d := some 3) [.string b_0, sl A_b_1 b_1 c_b_1] 35 (fun b2 => ⟨by kernel_rfl⟩) (fun w_ hM hS => trivial) (fun b2 => ?_)
 refine oQ [oF 2] [(3, vP b2 0), (2, vP b1 0)] (by kernel_rfl) ?_
 refine ops_nil (fin_then ?_)
 refine st_join1 (σ := Bool) (L := fun x_ => match x_ with | t3 => [(4, .bool t3)]) (N := fun x_ => match x_ with | t3 => Mem w0 (Fz F W :: cs)) (I := fun x_ => match x_ with | t3 => (tourref3_SameKind_j1 t3 = some t9001)) ?_ ?_
 ·
  rintro t3 hp
  unfold tourref3_SameKind_j1 at hp
  refine st_ret ?_
  have hq_ := Option.some.inj hp
  have hr0_ := hq_
  subst hr0_
  refine fin_ret [.tmp 4] [.bool t3] rfl rfl (fun w_ hM => (.tmp rfl .nil)) (fun w_ hM => ?_)
  exact ⟨trivial, rfl, hM⟩
 ·
  intro HJ1
  refine st_seq (st_region [oF 0, oF 1, oF 2, oF 3, oF 4, oF 5, oF 6, oF 7, oF 8, oF 9, oF 10, oF 11, oF 12] (by rfl) ?_)
  refine oQ [oF 0] [(5, vP b1 0), (3, vP b2 0), (2, vP b1 0)] (by kernel_rfl) ?_
  refine ops_mem (d := some 6) (an := [.v (.string a_0)]) (evs := [ld b1 0 (.string a_0)]) (v := .string a_0) ⟨by kernel_rfl⟩ (fun w_ hM hS => ⟨w_, ⟨hM.cell 1 rfl rfl, rfl⟩, hM, trivial⟩) ?_
  refine oQ [oF 2] [(7, vP b2 0), (6, .string a_0), (3, vP b2 0), (2, vP b1 0)] (by kernel_rfl) ?_
  refine ops_mem (d := some 8) (an := [.v (.string b_0)]) (evs := [ld b2 0 (.string b_0)]) (v := .string b_0) ⟨by kernel_rfl⟩ (fun w_ hM hS => ⟨w_, ⟨hM.cell 0 rfl rfl, rfl⟩, hM, trivial⟩) ?_
  refine oQ [oF 4, oF 5] [(10, .bool (a_0.toList == b_0.toList)), (3, vP b2 0), (2, vP b1 0)] (by kernel_rfl) ?_
  refine ops_bool (t := (a_0.toList == b_0.toList)) (l1 := [(10, .bool true), (3, vP b2 0), (2, vP b1 0)]) (l2 := [(10, .bool false), (3, vP b2 0), (2, vP b1 0)]) (fun h => by rw [h]) (fun h => by rw [h]) (fun hc4 => ?_) (fun hc4 => ?_)
  ·
   have hp := cnd_t hc4 hp
   refine oQ [oF 6] [(11, vP b1 1), (10, .bool true), (3, vP b2 0)] (by kernel_rfl) ?_
   refine ops_mem (d := some 12) (an := [.v (sl A_a_1 a_1 c_a_1)]) (evs := [ld b1 1 (sl A_a_1 a_1 c_a_1)]) (v := sl A_a_1 a_1 c_a_1) ⟨by kernel_rfl⟩ (fun w_ hM hS => ⟨w_, ⟨hM.cell 1 rfl rfl, rfl⟩, hM, trivial⟩) ?_
   refine oQ [oF 8] [(13, vP b2 1), (12, sl A_a_1 a_1 c_a_1), (10, .bool true)] (by kernel_rfl) ?_
   refine ops_mem (d := some 14) (an := [.v (sl A_b_1 b_1 c_b_1)]) (evs := [ld b2 1 (sl A_b_1 b_1 c_b_1)]) (v := sl A_b_1 b_1 c_b_1) ⟨by kernel_rfl⟩ (fun w_ hM hS => ⟨w_, ⟨hM.cell 0 rfl rfl, rfl⟩, hM, trivial⟩) ?_
   obtain ⟨x5, hv6, hp⟩ := obind hp
   refine ops_callI (σ := Unit) (d := some 15) (f := 52) (args := #[sl A_a_1 a_1 c_a_1, sl A_b_1 b_1 c_b_1]) (v := (fun _ => .bool x5)) (I := (fun _ => True)) (M' := (fun _ => Mem w0 (.blk b2 [.string b_0, sl A_b_1 b_1 c_b_1] 35 :: .blk b1 [.string a_0, sl A_a_1 a_1 c_a_1] 35 :: Fz F W :: cs))) ⟨by kernel_rfl⟩ (fun w_ hM hS => (slices_Equal_api_Field_api_Field_ok w0 w_ (.blk b2 [.string b_0, sl A_b_1 b_1 c_b_1] 35 :: .blk b1 [.string a_0, sl A_a_1 a_1 c_a_1] 35 :: cs) F W A_a_1 c_a_1 a_1 A_b_1 c_b_1 b_1 (hM.pick 3 [2, 0, 1] (by kernel_rfl) (by decide) rfl) h_a_1 h_b_1 x5 hv6).mono (by rintro e w' ⟨-, rfl, h'⟩; have h' : Mem w0 (.blk b2 [.string b_0, sl A_b_1 b_1 c_b_1] 35 :: .blk b1 [.string a_0, sl A_a_1 a_1 c_a_1] 35 :: Fz F W :: cs) w' := (h'.pick 3 [1, 2, 0] (by kernel_rfl) (by decide) rfl); exact ⟨(), trivial, rfl, h', trivial⟩)) ?_
   rintro _ -
   refine oQ [oF 11, oF 12] [(4, .bool x5)] (by kernel_rfl) ?_
   refine ops_nil ?_
   exact fin_join HJ1 x5 hp (look_has ⟨rfl, trivial⟩) (fun w_ hM => hM.pick 3 [2] (by kernel_rfl) (by decide) rfl)
  ·
   have hp := cnd_f hc4 hp
   refine oQ [oF 6, oF 7, oF 8, oF 9, oF 10, oF 11, oF 12] [(4, .bool false)] (by kernel_rfl) ?_
   refine ops_nil ?_
   exact fin_join HJ1 false hp (look_has ⟨rfl, trivial⟩) (fun w_ hM => hM.pick 3 [2] (by kernel_rfl) (by decide) rfl)
theorem tourref3_SameMove_ok (w0 w : World) (cs : List Chunk) (F : Nat → Prop) (W : World) (a_0 : Int) (a_1 : ByteArray) (a_2 : ByteArray) (a_3 : ByteArray) (a_4 : Int) (a_5 : ByteArray) (a_6 : Int) (a_7 : Int) (a_8 : ByteArray) (A_a_9 : Option Addr) (c_a_9 : Nat) (a_9 : List api_Field) (b_0 : Int) (b_1 : ByteArray) (b_2 : ByteArray) (b_3 : ByteArray) (b_4 : Int) (b_5 : ByteArray) (b_6 : Int) (b_7 : Int) (b_8 : ByteArray) (A_b_9 : Option Addr) (c_b_9 : Nat) (b_9 : List api_Field) (hM0 : Mem w0 (Fz F W :: cs) w) (h_a_9 : RdS R_api_Field F W A_a_9 c_a_9 a_9) (h_b_9 : RdS R_api_Field F W A_b_9 c_b_9 b_9) (t9001 : Bool) (hp : tourref3_SameMove a_0 a_1 a_2 a_3 a_4 a_5 a_6 a_7 a_8 a_9 b_0 b_1 b_2 b_3 b_4 b_5 b_6 b_7 b_8 b_9 = some t9001) : Calls Tryd.prog 15 #[.agg #[vI a_0, .string a_1, .string a_2, .string a_3, vI a_4, .string a_5, vI a_6, vI a_7, .string a_8, sl A_a_9 a_9 c_a_9], .agg #[vI b_0, .string b_1, .string b_2, .string b_3, vI b_4, .string b_5, vI b_6, vI b_7, .string b_8, sl A_b_9 b_9 c_b_9]] w fun e w' => (True) ∧ e = .returned (.bool t9001) ∧ Mem w0 (Fz F W :: cs) w' := by
 unfold tourref3_SameMove at hp
 refine sx_calls Tryd.func15 rfl (n := 52) (by kernel_rfl) (l := [(0, .agg #[vI a_0, .string a_1, .string a_2, .string a_3, vI a_4, .string a_5, vI a_6, vI a_7, .string a_8, sl A_a_9 a_9 c_a_9]), (1, .agg #[vI b_0, .string b_1, .string b_2, .string b_3, vI b_4, .string b_5, vI b_6, vI b_7, .string b_8, sl A_b_9 b_9 c_b_9])]) rfl (by rfl) hM0 ?_
 refine st_seq (st_region [oF 0, oF 1, oF 2] (by rfl) ?_)
 refine ops_newB (d := some 2) [vI a_0, .string a_1, .string a_2, .string a_3, vI a_4, .string a_5, vI a_6, vI a_7, .string a_8, sl A_a_9 a_9 c_a_9] 37 (fun b1 => ⟨by kernel_rfl⟩) (fun w_ hM hS => trivial) (fun b1 => ?_)
 refine ops_newB (d := some 3) [vI b_0, .string b_1, .string b_2, .string b_3, vI b_4, .string b_5, vI b_6, vI b_7, .string b_8, sl A_b_9 b_9 c_b_9] 37 (fun b2 => ⟨by kernel_rfl⟩) (fun w_ hM hS => trivial) (fun b2 => ?_)
 refine oQ [oF 2] [(3, vP b2 0), (2, vP b1 0)] (by kernel_rfl) ?_
 refine ops_nil (fin_then ?_)
 refine st_join1 (σ := Bool) (L := fun x_ => match x_ with | t3 => [(4, .bool t3)]) (N := fun x_ => match x_ with | t3 => Mem w0 (Fz F W :: cs)) (I := fun x_ => match x_ with | t3 => (tourref3_SameMove_j1 t3 = some t9001)) ?_ ?_
 ·
  rintro t3 hp
  unfold tourref3_SameMove_j1 at hp
  refine st_ret ?_
  have hq_ := Option.some.inj hp
  have hr0_ := hq_
  subst hr0_
  refine fin_ret [.tmp 4] [.bool t3] rfl rfl (fun w_ hM => (.tmp rfl .nil)) (fun w_ hM => ?_)
  exact ⟨trivial, rfl, hM⟩
 ·
  intro HJ1
  refine st_seq (st_region [oF 0, oF 1, oF 2, oF 3, oF 4, oF 5, oF 6, oF 7, oF 8, oF 9, oF 10, oF 11, oF 12, oF 13, oF 14, oF 15, oF 16, oF 17, oF 18, oF 19, oF 20, oF 21, oF 22, oF 23, oF 24, oF 25, oF 26, oF 27, oF 28, oF 29, oF 30, oF 31, oF 32, oF 33, oF 34, oF 35, oF 36, oF 37, oF 38, oF 39, oF 40, oF 41, oF 42, oF 43, oF 44, oF 45, oF 46, oF 47] (by rfl) ?_)
  refine oQ [oF 0] [(5, vP b1 0), (3, vP b2 0), (2, vP b1 0)] (by kernel_rfl) ?_
  refine ops_mem (d := some 6) (an := [.v (vI a_0)]) (evs := [ld b1 0 (vI a_0)]) (v := vI a_0) ⟨by kernel_rfl⟩ (fun w_ hM hS => ⟨w_, ⟨hM.cell 1 rfl rfl, rfl⟩, hM, trivial⟩) ?_
  refine oQ [oF 2] [(7, vP b2 0), (6, vI a_0), (3, vP b2 0), (2, vP b1 0)] (by kernel_rfl) ?_
  refine ops_mem (d := some 8) (an := [.v (vI b_0)]) (evs := [ld b2 0 (vI b_0)]) (v := vI b_0) ⟨by kernel_rfl⟩ (fun w_ hM hS => ⟨w_, ⟨hM.cell 0 rfl rfl, rfl⟩, hM, trivial⟩) ?_
  refine oQ [oF 4, oF 5] [(10, .bool (a_0 == b_0)), (3, vP b2 0), (2, vP b1 0)] (by kernel_rfl) ?_
  refine ops_bool (t := (a_0 == b_0)) (l1 := [(10, .bool true), (3, vP b2 0), (2, vP b1 0)]) (l2 := [(10, .bool false), (3, vP b2 0), (2, vP b1 0)]) (fun h => by rw [h]) (fun h => by rw [h]) (fun hc4 => ?_) (fun hc4 => ?_)
  ·
   have hp := cnd_t hc4 hp
   refine oQ [oF 6] [(11, vP b1 1), (10, .bool true), (3, vP b2 0), (2, vP b1 0)] (by kernel_rfl) ?_
   refine ops_mem (d := some 12) (an := [.v (.string a_1)]) (evs := [ld b1 1 (.string a_1)]) (v := .string a_1) ⟨by kernel_rfl⟩ (fun w_ hM hS => ⟨w_, ⟨hM.cell 1 rfl rfl, rfl⟩, hM, trivial⟩) ?_
   refine oQ [oF 8] [(13, vP b2 1), (12, .string a_1), (10, .bool true), (3, vP b2 0), (2, vP b1 0)] (by kernel_rfl) ?_
   refine ops_mem (d := some 14) (an := [.v (.string b_1)]) (evs := [ld b2 1 (.string b_1)]) (v := .string b_1) ⟨by kernel_rfl⟩ (fun w_ hM hS => ⟨w_, ⟨hM.cell 0 rfl rfl, rfl⟩, hM, trivial⟩) ?_
   refine oQ [oF 10, oF 11, oF 12] [(17, .bool (a_1.toList == b_1.toList)), (3, vP b2 0), (2, vP b1 0)] (by kernel_rfl) ?_
   refine ops_bool (t := (a_1.toList == b_1.toList)) (l1 := [(17, .bool true), (3, vP b2 0), (2, vP b1 0)]) (l2 := [(17, .bool false), (3, vP b2 0), (2, vP b1 0)]) (fun h => by rw [h]) (fun h => by rw [h]) (fun hc5 => ?_) (fun hc5 => ?_)
   ·
    have hp := cnd_t hc5 hp
    refine oQ [oF 13] [(18, vP b1 2), (17, .bool true), (3, vP b2 0), (2, vP b1 0)] (by kernel_rfl) ?_
    refine ops_mem (d := some 19) (an := [.v (.string a_2)]) (evs := [ld b1 2 (.string a_2)]) (v := .string a_2) ⟨by kernel_rfl⟩ (fun w_ hM hS => ⟨w_, ⟨hM.cell 1 rfl rfl, rfl⟩, hM, trivial⟩) ?_
    refine oQ [oF 15] [(20, vP b2 2), (19, .string a_2), (17, .bool true), (3, vP b2 0), (2, vP b1 0)] (by kernel_rfl) ?_
    refine ops_mem (d := some 21) (an := [.v (.string b_2)]) (evs := [ld b2 2 (.string b_2)]) (v := .string b_2) ⟨by kernel_rfl⟩ (fun w_ hM hS => ⟨w_, ⟨hM.cell 0 rfl rfl, rfl⟩, hM, trivial⟩) ?_
    refine oQ [oF 17, oF 18, oF 19] [(24, .bool (a_2.toList == b_2.toList)), (3, vP b2 0), (2, vP b1 0)] (by kernel_rfl) ?_
    refine ops_bool (t := (a_2.toList == b_2.toList)) (l1 := [(24, .bool true), (3, vP b2 0), (2, vP b1 0)]) (l2 := [(24, .bool false), (3, vP b2 0), (2, vP b1 0)]) (fun h => by rw [h]) (fun h => by rw [h]) (fun hc6 => ?_) (fun hc6 => ?_)
    ·
     have hp := cnd_t hc6 hp
     refine oQ [oF 20] [(25, vP b1 3), (24, .bool true), (3, vP b2 0), (2, vP b1 0)] (by kernel_rfl) ?_
     refine ops_mem (d := some 26) (an := [.v (.string a_3)]) (evs := [ld b1 3 (.string a_3)]) (v := .string a_3) ⟨by kernel_rfl⟩ (fun w_ hM hS => ⟨w_, ⟨hM.cell 1 rfl rfl, rfl⟩, hM, trivial⟩) ?_
     refine oQ [oF 22] [(27, vP b2 3), (26, .string a_3), (24, .bool true), (3, vP b2 0), (2, vP b1 0)] (by kernel_rfl) ?_
     refine ops_mem (d := some 28) (an := [.v (.string b_3)]) (evs := [ld b2 3 (.string b_3)]) (v := .string b_3) ⟨by kernel_rfl⟩ (fun w_ hM hS => ⟨w_, ⟨hM.cell 0 rfl rfl, rfl⟩, hM, trivial⟩) ?_
     refine oQ [oF 24, oF 25, oF 26] [(31, .bool (a_3.toList == b_3.toList)), (3, vP b2 0), (2, vP b1 0)] (by kernel_rfl) ?_
     refine ops_bool (t := (a_3.toList == b_3.toList)) (l1 := [(31, .bool true), (3, vP b2 0), (2, vP b1 0)]) (l2 := [(31, .bool false), (3, vP b2 0), (2, vP b1 0)]) (fun h => by rw [h]) (fun h => by rw [h]) (fun hc7 => ?_) (fun hc7 => ?_)
     ·
      have hp := cnd_t hc7 hp
      refine oQ [oF 27] [(32, vP b1 4), (31, .bool true), (3, vP b2 0), (2, vP b1 0)] (by kernel_rfl) ?_
      refine ops_mem (d := some 33) (an := [.v (vI a_4)]) (evs := [ld b1 4 (vI a_4)]) (v := vI a_4) ⟨by kernel_rfl⟩ (fun w_ hM hS => ⟨w_, ⟨hM.cell 1 rfl rfl, rfl⟩, hM, trivial⟩) ?_
      refine oQ [oF 29] [(34, vP b2 4), (33, vI a_4), (31, .bool true), (3, vP b2 0), (2, vP b1 0)] (by kernel_rfl) ?_
      refine ops_mem (d := some 35) (an := [.v (vI b_4)]) (evs := [ld b2 4 (vI b_4)]) (v := vI b_4) ⟨by kernel_rfl⟩ (fun w_ hM hS => ⟨w_, ⟨hM.cell 0 rfl rfl, rfl⟩, hM, trivial⟩) ?_
      refine oQ [oF 31, oF 32, oF 33] [(38, .bool (a_4 == b_4)), (3, vP b2 0), (2, vP b1 0)] (by kernel_rfl) ?_
      refine ops_bool (t := (a_4 == b_4)) (l1 := [(38, .bool true), (3, vP b2 0), (2, vP b1 0)]) (l2 := [(38, .bool false), (3, vP b2 0), (2, vP b1 0)]) (fun h => by rw [h]) (fun h => by rw [h]) (fun hc8 => ?_) (fun hc8 => ?_)
      ·
       have hp := cnd_t hc8 hp
       refine oQ [oF 34] [(39, vP b1 5), (38, .bool true), (3, vP b2 0), (2, vP b1 0)] (by kernel_rfl) ?_
       refine ops_mem (d := some 40) (an := [.v (.string a_5), .v (vI a_6), .v (vI a_7)]) (evs := [ld b1 5 (.string a_5), ld b1 6 (vI a_6), ld b1 7 (vI a_7)]) (v := .agg #[.string a_5, vI a_6, vI a_7]) ⟨by kernel_rfl⟩ (fun w_ hM hS => ⟨w_, ⟨hM.cell 1 rfl rfl, hM.cell 1 rfl rfl, hM.cell 1 rfl rfl, rfl⟩, hM, trivial⟩) ?_
       refine oQ [oF 36] [(41, vP b2 5), (40, .agg #[.string a_5, vI a_6, vI a_7]), (38, .bool true), (3, vP b2 0), (2, vP b1 0)] (by kernel_rfl) ?_
       refine ops_mem (d := some 42) (an := [.v (.string b_5), .v (vI b_6), .v (vI b_7)]) (evs := [ld b2 5 (.string b_5), ld b2 6 (vI b_6), ld b2 7 (vI b_7)]) (v := .agg #[.string b_5, vI b_6, vI b_7]) ⟨by kernel_rfl⟩ (fun w_ hM hS => ⟨w_, ⟨hM.cell 0 rfl rfl, hM.cell 0 rfl rfl, hM.cell 0 rfl rfl, rfl⟩, hM, trivial⟩) ?_
       refine ops_val (op := (.binOp Go.BinOp.eql 32 (.tmp 40) (.tmp 42) 32)) (d := some 43) (v := .bool (a_5.toList == b_5.toList && (a_6 == b_6 && (a_7 == b_7)))) ⟨by kernel_rfl⟩ (run_eql_agg (r := a_5.toList == b_5.toList && (a_6 == b_6 && (a_7 == b_7))) rfl rfl (by kernel_rfl) (fun w => eqA32 9998 w a_5 b_5 a_6 b_6 a_7 b_7)) ?_
       refine oQ [oF 39, oF 40] [(45, .bool (a_5.toList == b_5.toList && (a_6 == b_6 && (a_7 == b_7)))), (3, vP b2 0), (2, vP b1 0)] (by kernel_rfl) ?_
       refine ops_bool (t := a_5.toList == b_5.toList && (a_6 == b_6 && (a_7 == b_7))) (l1 := [(45, .bool true), (3, vP b2 0), (2, vP b1 0)]) (l2 := [(45, .bool false), (3, vP b2 0), (2, vP b1 0)]) (fun h => by rw [h]) (fun h => by rw [h]) (fun hc9 => ?_) (fun hc9 => ?_)
       ·
        have hp := cnd_t hc9 hp
        refine oQ [oF 41] [(46, vP b1 8), (45, .bool true), (3, vP b2 0)] (by kernel_rfl) ?_
        refine ops_mem (d := some 47) (an := [.v (.string a_8), .v (sl A_a_9 a_9 c_a_9)]) (evs := [ld b1 8 (.string a_8), ld b1 9 (sl A_a_9 a_9 c_a_9)]) (v := .agg #[.string a_8, sl A_a_9 a_9 c_a_9]) ⟨by kernel_rfl⟩ (fun w_ hM hS => ⟨w_, ⟨hM.cell 1 rfl rfl, hM.cell 1 rfl rfl, rfl⟩, hM, trivial⟩) ?_
        refine oQ [oF 43] [(48, vP b2 8), (47, .agg #[.string a_8, sl A_a_9 a_9 c_a_9]), (45, .bool true)] (by kernel_rfl) ?_
        refine ops_mem (d := some 49) (an := [.v (.string b_8), .v (sl A_b_9 b_9 c_b_9)]) (evs := [ld b2 8 (.string b_8), ld b2 9 (sl A_b_9 b_9 c_b_9)]) (v := .agg #[.string b_8, sl A_b_9 b_9 c_b_9]) ⟨by kernel_rfl⟩ (fun w_ hM hS => ⟨w_, ⟨hM.cell 0 rfl rfl, hM.cell 0 rfl rfl, rfl⟩, hM, trivial⟩) ?_
        obtain ⟨x10, hv11, hp⟩ := obind hp
        refine ops_callI (σ := Unit) (d := some 50) (f := 18) (args := #[.agg #[.string a_8, sl A_a_9 a_9 c_a_9], .agg #[.string b_8, sl A_b_9 b_9 c_b_9]]) (v := (fun _ => .bool x10)) (I := (fun _ => True)) (M' := (fun _ => Mem w0 (.blk b2 [vI b_0, .string b_1, .string b_2, .string b_3, vI b_4, .string b_5, vI b_6, vI b_7, .string b_8, sl A_b_9 b_9 c_b_9] 37 :: .blk b1 [vI a_0, .string a_1, .string a_2, .string a_3, vI a_4, .string a_5, vI a_6, vI a_7, .string a_8, sl A_a_9 a_9 c_a_9] 37 :: Fz F W :: cs))) ⟨by kernel_rfl⟩ (fun w_ hM hS => (tourref3_SameKind_ok w0 w_ (.blk b2 [vI b_0, .string b_1, .string b_2, .string b_3, vI b_4, .string b_5, vI b_6, vI b_7, .string b_8, sl A_b_9 b_9 c_b_9] 37 :: .blk b1 [vI a_0, .string a_1, .string a_2, .string a_3, vI a_4, .string a_5, vI a_6, vI a_7, .string a_8, sl A_a_9 a_9 c_a_9] 37 :: cs) F W a_8 A_a_9 c_a_9 a_9 b_8 A_b_9 c_b_9 b_9 (hM.pick 3 [2, 0, 1] (by kernel_rfl) (by decide) rfl) h_a_9 h_b_9 x10 hv11).mono (by rintro e w' ⟨-, rfl, h'⟩; have h' : Mem w0 (.blk b2 [vI b_0, .string b_1, .string b_2, .string b_3, vI b_4, .string b_5, vI b_6, vI b_7, .string b_8, sl A_b_9 b_9 c_b_9] 37 :: .blk b1 [vI a_0, .string a_1, .string a_2, .string a_3, vI a_4, .string a_5, vI a_6, vI a_7, .string a_8, sl A_a_9 a_9 c_a_9] 37 :: Fz F W :: cs) w' := (h'.pick 3 [1, 2, 0] (by kernel_rfl) (by decide) rfl); exact ⟨(), trivial, rfl, h', trivial⟩)) ?_
        rintro _ -
        refine oQ [oF 46, oF 47] [(4, .bool x10)] (by kernel_rfl) ?_
        refine ops_nil ?_
        exact fin_join HJ1 x10 hp (look_has ⟨rfl, trivial⟩) (fun w_ hM => hM.pick 3 [2] (by kernel_rfl) (by decide) rfl)
       ·
        have hp := cnd_f hc9 hp
        refine oQ [oF 41, oF 42, oF 43, oF 44, oF 45, oF 46, oF 47] [(4, .bool false)] (by kernel_rfl) ?_
        refine ops_nil ?_
        exact fin_join HJ1 false hp (look_has ⟨rfl, trivial⟩) (fun w_ hM => hM.pick 3 [2] (by kernel_rfl) (by decide) rfl)
      ·
       have hp := cnd_f hc8 hp
       refine oQ [oF 34, oF 35, oF 36, oF 37, oF 38, oF 39, oF 40, oF 41, oF 42, oF 43, oF 44, oF 45, oF 46, oF 47] [(4, .bool false)] (by kernel_rfl) ?_
       refine ops_nil ?_
       exact fin_join HJ1 false hp (look_has ⟨rfl, trivial⟩) (fun w_ hM => hM.pick 3 [2] (by kernel_rfl) (by decide) rfl)
     ·
      have hp := cnd_f hc7 hp
      refine oQ [oF 27, oF 28, oF 29, oF 30, oF 31, oF 32, oF 33, oF 34, oF 35, oF 36, oF 37, oF 38, oF 39, oF 40, oF 41, oF 42, oF 43, oF 44, oF 45, oF 46, oF 47] [(4, .bool false)] (by kernel_rfl) ?_
      refine ops_nil ?_
      exact fin_join HJ1 false hp (look_has ⟨rfl, trivial⟩) (fun w_ hM => hM.pick 3 [2] (by kernel_rfl) (by decide) rfl)
    ·
     have hp := cnd_f hc6 hp
     refine oQ [oF 20, oF 21, oF 22, oF 23, oF 24, oF 25, oF 26, oF 27, oF 28, oF 29, oF 30, oF 31, oF 32, oF 33, oF 34, oF 35, oF 36, oF 37, oF 38, oF 39, oF 40, oF 41, oF 42, oF 43, oF 44, oF 45, oF 46, oF 47] [(4, .bool false)] (by kernel_rfl) ?_
     refine ops_nil ?_
     exact fin_join HJ1 false hp (look_has ⟨rfl, trivial⟩) (fun w_ hM => hM.pick 3 [2] (by kernel_rfl) (by decide) rfl)
   ·
    have hp := cnd_f hc5 hp
    refine oQ [oF 13, oF 14, oF 15, oF 16, oF 17, oF 18, oF 19, oF 20, oF 21, oF 22, oF 23, oF 24, oF 25, oF 26, oF 27, oF 28, oF 29, oF 30, oF 31, oF 32, oF 33, oF 34, oF 35, oF 36, oF 37, oF 38, oF 39, oF 40, oF 41, oF 42, oF 43, oF 44, oF 45, oF 46, oF 47] [(4, .bool false)] (by kernel_rfl) ?_
    refine ops_nil ?_
    exact fin_join HJ1 false hp (look_has ⟨rfl, trivial⟩) (fun w_ hM => hM.pick 3 [2] (by kernel_rfl) (by decide) rfl)
  ·
   have hp := cnd_f hc4 hp
   refine oQ [oF 6, oF 7, oF 8, oF 9, oF 10, oF 11, oF 12, oF 13, oF 14, oF 15, oF 16, oF 17, oF 18, oF 19, oF 20, oF 21, oF 22, oF 23, oF 24, oF 25, oF 26, oF 27, oF 28, oF 29, oF 30, oF 31, oF 32, oF 33, oF 34, oF 35, oF 36, oF 37, oF 38, oF 39, oF 40, oF 41, oF 42, oF 43, oF 44, oF 45, oF 46, oF 47] [(4, .bool false)] (by kernel_rfl) ?_
   refine ops_nil ?_
   exact fin_join HJ1 false hp (look_has ⟨rfl, trivial⟩) (fun w_ hM => hM.pick 3 [2] (by kernel_rfl) (by decide) rfl)
theorem slices_EqualFunc_migrate_Move_migrate_Move_migrate_Move_migrate_Move_ok (w0 w : World) (cs : List Chunk) (F : Nat → Prop) (W : World) (A_s1 : Option Addr) (c_s1 : Nat) (s1_1 : List migrate_Move) (A_s2 : Option Addr) (c_s2 : Nat) (s2_1 : List migrate_Move) (hM0 : Mem w0 (Fz F W :: cs) w) (h_s1 : RdS R_migrate_Move F W A_s1 c_s1 s1_1) (h_s2 : RdS R_migrate_Move F W A_s2 c_s2 s2_1) (t9001 : Bool) (hp : slices_EqualFunc_migrate_Move_migrate_Move_migrate_Move_migrate_Move s1_1 s2_1 = some t9001) : Calls Tryd.prog 14 #[sl A_s1 s1_1 c_s1, sl A_s2 s2_1 c_s2, .func (.func 15) #[] #[]] w fun e w' => (True) ∧ e = .returned (.bool t9001) ∧ Mem w0 (Fz F W :: cs) w' := by
 unfold slices_EqualFunc_migrate_Move_migrate_Move_migrate_Move_migrate_Move at hp
 refine sx_calls Tryd.func14 rfl (n := 32) (by kernel_rfl) (l := [(0, sl A_s1 s1_1 c_s1), (1, sl A_s2 s2_1 c_s2), (2, .func (.func 15) #[] #[])]) rfl (by rfl) hM0 ?_
 refine st_seq (st_region [oF 0] (by rfl) ?_)
 refine oQ [oF 0] [(0, sl A_s1 s1_1 c_s1), (1, sl A_s2 s2_1 c_s2), (2, .func (.func 15) #[] #[])] (by kernel_rfl) ?_
 refine ops_nil (fin_then (st_seq (st_seq (st_region [oF 0, oF 1, oF 2, oF 3, oF 4] (by rfl) ?_))))
 refine oQ [oF 0, oF 1, oF 2, oF 3, oF 4] [(14, .bool (!((s1_1.length : Int) == (s2_1.length : Int)))), (0, sl A_s1 s1_1 c_s1), (1, sl A_s2 s2_1 c_s2), (2, .func (.func 15) #[] #[])] (by kernel_rfl) ?_
 refine ops_nil (fin_then ?_)
 refine st_if (b := !((s1_1.length : Int) == (s2_1.length : Int))) rfl (fun hc1 => ?_) (fun hc1 => ?_)
 ·
  have hp := cnd_t hc1 hp
  refine st_seq (st_region [oF 0] (by rfl) ?_)
  refine oQ [oF 0] [(6, .bool false)] (by kernel_rfl) ?_
  refine ops_nil (fin_then (st_ret (fin_ret_then ?_)))
  have hq_ := Option.some.inj hp
  have hr0_ := hq_
  subst hr0_
  refine fin_ret [.tmp 6] [.bool false] rfl rfl (fun w_ hM => (.tmp rfl .nil)) (fun w_ hM => ?_)
  exact ⟨trivial, rfl, hM⟩
 ·
  have hp := cnd_f hc1 hp
  refine st_skip (fin_then ?_)
  refine st_join1 (σ := Unit) (L := fun _ => []) (N := fun _ => Mem w0 (Fz F W :: cs)) (I := fun _ => (slices_EqualFunc_migrate_Move_migrate_Move_migrate_Move_migrate_Move_j1 = some t9001)) ?_ ?_
  ·
   rintro _ hp
   unfold slices_EqualFunc_migrate_Move_migrate_Move_migrate_Move_migrate_Move_j1 at hp
   refine st_seq (st_region [oF 0] (by rfl) ?_)
   refine oQ [oF 0] [(6, .bool true)] (by kernel_rfl) ?_
   refine ops_nil (fin_then (st_ret ?_))
   have hq_ := Option.some.inj hp
   have hr0_ := hq_
   subst hr0_
   refine fin_ret [.tmp 6] [.bool true] rfl rfl (fun w_ hM => (.tmp rfl .nil)) (fun w_ hM => ?_)
   exact ⟨trivial, rfl, hM⟩
  ·
   intro HJ1
   refine st_seq (st_seq (st_region [oF 0, oF 1, oF 2] (by rfl) ?_))
   refine oQ [oF 0, oF 1, oF 2] [(17, vI 0), (16, vI (s1_1.length : Int)), (15, sl A_s1 s1_1 c_s1), (1, sl A_s2 s2_1 c_s2), (2, .func (.func 15) #[] #[])] (by kernel_rfl) ?_
   refine ops_nil (fin_then (st_block ?_))
   obtain ⟨r2, hl2, hk2⟩ := obind hp
   refine st_loopP (σ := Int) (ρ := (Bool ⊕ Unit)) (γ := Unit) hl2 () (fun s_ g_ => match s_, g_ with | i2, _ => [(1, sl A_s2 s2_1 c_s2), (2, .func (.func 15) #[] #[]), (15, sl A_s1 s1_1 c_s1), (16, vI (s1_1.length : Int)), (17, vI i2)]) (fun s_ g_ => match s_, g_ with | i2, _ => Mem w0 (Fz F W :: cs)) (fun s_ g_ => match s_, g_ with | i2, _ => True) trivial (look_has ⟨rfl, rfl, rfl, rfl, rfl, trivial⟩) (fun w_ hM => hM) ?_
   rintro i2 _ o2 - hs_ hd2
   have hp : (slices_EqualFunc_migrate_Move_migrate_Move_migrate_Move_migrate_Move_l2 s1_1 s2_1) i2 = some o2 := hs_
   clear hs_
   unfold slices_EqualFunc_migrate_Move_migrate_Move_migrate_Move_migrate_Move_l2 at hp
   refine st_seq (st_region [oF 0] (by rfl) ?_)
   refine oQ [oF 0] [(18, .bool (decide (i2 < (s1_1.length : Int)))), (1, sl A_s2 s2_1 c_s2), (2, .func (.func 15) #[] #[]), (15, sl A_s1 s1_1 c_s1), (16, vI (s1_1.length : Int)), (17, vI i2)] (by kernel_rfl) ?_
   refine ops_nil (fin_then (st_seq ?_))
   refine st_if (b := decide (i2 < (s1_1.length : Int))) rfl (fun hc3 => ?_) (fun hc3 => ?_)
   ·
    have hp := cnd_t hc3 hp
    refine st_skip (fin_then (st_seq (st_block (st_seq (st_region [oF 0, oF 1, oF 2, oF 3, oF 4, oF 5] (by rfl) ?_)))))
    refine oQ [oF 0] [(19, vI i2), (1, sl A_s2 s2_1 c_s2), (2, .func (.func 15) #[] #[]), (15, sl A_s1 s1_1 c_s1), (16, vI (s1_1.length : Int)), (17, vI i2)] (by kernel_rfl) ?_
    obtain ⟨x4, hv5, hp⟩ := obind hp
    obtain ⟨m6, hm7, hx8⟩ := idx_some hv5
    have hl11 := (List.getElem?_eq_some_iff.1 hx8).1
    obtain ⟨ad12, vs9, hA13, hr10, hq14⟩ := RdS.el h_s1 hx8
    obtain ⟨A15, c16, rfl, h17⟩ := dec_migrate_Move hr10
    refine ops_val (op := (.indexAddr 23 (.tmp 15) (.tmp 17))) (d := some 20) (v := .pointer (some (ad12.add (m6 * 10)))) ⟨by kernel_rfl⟩ (run_indexA hA13 Tryd.underlying23 (z := 10) (by kernel_rfl) rfl rfl hm7 hl11) ?_
    refine ops_mem (d := some 21) (an := [.v (vI x4.Do), .v (.string x4.Kind), .v (.string x4.Field), .v (.string x4.Name), .v (vI x4.Value), .v (.string x4.New.Name), .v (vI x4.New.Bits), .v (vI x4.New.Low), .v (.string x4.Whole.Name), .v (sl A15 x4.Whole.Fields c16)]) (evs := [.load (ad12.add (m6 * 10)) (vI x4.Do), .load ((ad12.add (m6 * 10)).add 1) (.string x4.Kind), .load ((ad12.add (m6 * 10)).add 2) (.string x4.Field), .load ((ad12.add (m6 * 10)).add 3) (.string x4.Name), .load ((ad12.add (m6 * 10)).add 4) (vI x4.Value), .load ((ad12.add (m6 * 10)).add 5) (.string x4.New.Name), .load ((ad12.add (m6 * 10)).add 6) (vI x4.New.Bits), .load ((ad12.add (m6 * 10)).add 7) (vI x4.New.Low), .load ((ad12.add (m6 * 10)).add 8) (.string x4.Whole.Name), .load ((ad12.add (m6 * 10)).add 9) (sl A15 x4.Whole.Fields c16)]) (v := .agg #[vI x4.Do, .string x4.Kind, .string x4.Field, .string x4.Name, vI x4.Value, .string x4.New.Name, vI x4.New.Bits, vI x4.New.Low, .string x4.Whole.Name, sl A15 x4.Whole.Fields c16]) ⟨by kernel_rfl⟩ (fun w_ hM hS => ⟨w_, ⟨hM.elcell 0 rfl hq14 0 rfl, hM.elcell 0 rfl hq14 1 rfl, hM.elcell 0 rfl hq14 2 rfl, hM.elcell 0 rfl hq14 3 rfl, hM.elcell 0 rfl hq14 4 rfl, hM.elcell 0 rfl hq14 5 rfl, hM.elcell 0 rfl hq14 6 rfl, hM.elcell 0 rfl hq14 7 rfl, hM.elcell 0 rfl hq14 8 rfl, hM.elcell 0 rfl hq14 9 rfl, rfl⟩, hM, trivial⟩) ?_
    refine ops_newB (d := some 8) [vI 0, .string ByteArray.empty, .string ByteArray.empty, .string ByteArray.empty, vI 0, .string ByteArray.empty, vI 0, vI 0, .string ByteArray.empty, .slice none 0 0] 37 (fun b18 => ⟨by kernel_rfl⟩) (fun w_ hM hS => trivial) (fun b18 => ?_)
    refine oQ [oF 4] [(7, vI i2), (8, vP b18 0), (21, .agg #[vI x4.Do, .string x4.Kind, .string x4.Field, .string x4.Name, vI x4.Value, .string x4.New.Name, vI x4.New.Bits, vI x4.New.Low, .string x4.Whole.Name, sl A15 x4.Whole.Fields c16]), (1, sl A_s2 s2_1 c_s2), (2, .func (.func 15) #[] #[]), (15, sl A_s1 s1_1 c_s1), (16, vI (s1_1.length : Int)), (17, vI i2)] (by kernel_rfl) ?_
    refine ops_store (an := []) (evs := [sr b18 0 (vI x4.Do), sr b18 1 (.string x4.Kind), sr b18 2 (.string x4.Field), sr b18 3 (.string x4.Name), sr b18 4 (vI x4.Value), sr b18 5 (.string x4.New.Name), sr b18 6 (vI x4.New.Bits), sr b18 7 (vI x4.New.Low), sr b18 8 (.string x4.Whole.Name), sr b18 9 (sl A15 x4.Whole.Fields c16)]) ⟨by kernel_rfl⟩ (fun w_ hM hS => let ⟨w', he, h'⟩ := hM.evs_stores [vI x4.Do, .string x4.Kind, .string x4.Field, .string x4.Name, vI x4.Value, .string x4.New.Name, vI x4.New.Bits, vI x4.New.Low, .string x4.Whole.Name, sl A15 x4.Whole.Fields c16] 0 rfl 0 (Nat.le_of_ble_eq_true rfl); ⟨w', he, h', trivial⟩) ?_
    refine ops_nil (fin_then (st_seq (st_region [oF 0, oF 1, oF 2, oF 3, oF 4, oF 5] (by rfl) ?_)))
    refine oQ [oF 0, oF 1] [(23, vI i2), (22, sl A_s2 s2_1 c_s2), (8, vP b18 0), (1, sl A_s2 s2_1 c_s2), (2, .func (.func 15) #[] #[]), (15, sl A_s1 s1_1 c_s1), (16, vI (s1_1.length : Int)), (17, vI i2)] (by kernel_rfl) ?_
    obtain ⟨x19, hv20, hp⟩ := obind hp
    obtain ⟨m21, hm22, hx23⟩ := idx_some hv20
    have hl26 := (List.getElem?_eq_some_iff.1 hx23).1
    obtain ⟨ad27, vs24, hA28, hr25, hq29⟩ := RdS.el h_s2 hx23
    obtain ⟨A30, c31, rfl, h32⟩ := dec_migrate_Move hr25
    refine ops_val (op := (.indexAddr 23 (.tmp 22) (.tmp 23))) (d := some 24) (v := .pointer (some (ad27.add (m21 * 10)))) ⟨by kernel_rfl⟩ (run_indexA hA28 Tryd.underlying23 (z := 10) (by kernel_rfl) rfl rfl hm22 hl26) ?_
    refine ops_mem (d := some 25) (an := [.v (vI x19.Do), .v (.string x19.Kind), .v (.string x19.Field), .v (.string x19.Name), .v (vI x19.Value), .v (.string x19.New.Name), .v (vI x19.New.Bits), .v (vI x19.New.Low), .v (.string x19.Whole.Name), .v (sl A30 x19.Whole.Fields c31)]) (evs := [.load (ad27.add (m21 * 10)) (vI x19.Do), .load ((ad27.add (m21 * 10)).add 1) (.string x19.Kind), .load ((ad27.add (m21 * 10)).add 2) (.string x19.Field), .load ((ad27.add (m21 * 10)).add 3) (.string x19.Name), .load ((ad27.add (m21 * 10)).add 4) (vI x19.Value), .load ((ad27.add (m21 * 10)).add 5) (.string x19.New.Name), .load ((ad27.add (m21 * 10)).add 6) (vI x19.New.Bits), .load ((ad27.add (m21 * 10)).add 7) (vI x19.New.Low), .load ((ad27.add (m21 * 10)).add 8) (.string x19.Whole.Name), .load ((ad27.add (m21 * 10)).add 9) (sl A30 x19.Whole.Fields c31)]) (v := .agg #[vI x19.Do, .string x19.Kind, .string x19.Field, .string x19.Name, vI x19.Value, .string x19.New.Name, vI x19.New.Bits, vI x19.New.Low, .string x19.Whole.Name, sl A30 x19.Whole.Fields c31]) ⟨by kernel_rfl⟩ (fun w_ hM hS => ⟨w_, ⟨hM.elcell 1 rfl hq29 0 rfl, hM.elcell 1 rfl hq29 1 rfl, hM.elcell 1 rfl hq29 2 rfl, hM.elcell 1 rfl hq29 3 rfl, hM.elcell 1 rfl hq29 4 rfl, hM.elcell 1 rfl hq29 5 rfl, hM.elcell 1 rfl hq29 6 rfl, hM.elcell 1 rfl hq29 7 rfl, hM.elcell 1 rfl hq29 8 rfl, hM.elcell 1 rfl hq29 9 rfl, rfl⟩, hM, trivial⟩) ?_
    refine ops_newB (d := some 9) [vI 0, .string ByteArray.empty, .string ByteArray.empty, .string ByteArray.empty, vI 0, .string ByteArray.empty, vI 0, vI 0, .string ByteArray.empty, .slice none 0 0] 37 (fun b33 => ⟨by kernel_rfl⟩) (fun w_ hM hS => trivial) (fun b33 => ?_)
    refine ops_store (an := []) (evs := [sr b33 0 (vI x19.Do), sr b33 1 (.string x19.Kind), sr b33 2 (.string x19.Field), sr b33 3 (.string x19.Name), sr b33 4 (vI x19.Value), sr b33 5 (.string x19.New.Name), sr b33 6 (vI x19.New.Bits), sr b33 7 (vI x19.New.Low), sr b33 8 (.string x19.Whole.Name), sr b33 9 (sl A30 x19.Whole.Fields c31)]) ⟨by kernel_rfl⟩ (fun w_ hM hS => let ⟨w', he, h'⟩ := hM.evs_stores [vI x19.Do, .string x19.Kind, .string x19.Field, .string x19.Name, vI x19.Value, .string x19.New.Name, vI x19.New.Bits, vI x19.New.Low, .string x19.Whole.Name, sl A30 x19.Whole.Fields c31] 0 rfl 0 (Nat.le_of_ble_eq_true rfl); ⟨w', he, h', trivial⟩) ?_
    refine ops_nil (fin_then (st_seq (st_region [oF 0, oF 1, oF 2, oF 3, oF 4] (by rfl) ?_)))
    refine oQ [oF 0] [(26, .func (.func 15) #[] #[]), (9, vP b33 0), (8, vP b18 0), (1, sl A_s2 s2_1 c_s2), (2, .func (.func 15) #[] #[]), (15, sl A_s1 s1_1 c_s1), (16, vI (s1_1.length : Int)), (17, vI i2)] (by kernel_rfl) ?_
    refine ops_mem (d := some 27) (an := [.v (vI x4.Do), .v (.string x4.Kind), .v (.string x4.Field), .v (.string x4.Name), .v (vI x4.Value), .v (.string x4.New.Name), .v (vI x4.New.Bits), .v (vI x4.New.Low), .v (.string x4.Whole.Name), .v (sl A15 x4.Whole.Fields c16)]) (evs := [ld b18 0 (vI x4.Do), ld b18 1 (.string x4.Kind), ld b18 2 (.string x4.Field), ld b18 3 (.string x4.Name), ld b18 4 (vI x4.Value), ld b18 5 (.string x4.New.Name), ld b18 6 (vI x4.New.Bits), ld b18 7 (vI x4.New.Low), ld b18 8 (.string x4.Whole.Name), ld b18 9 (sl A15 x4.Whole.Fields c16)]) (v := .agg #[vI x4.Do, .string x4.Kind, .string x4.Field, .string x4.Name, vI x4.Value, .string x4.New.Name, vI x4.New.Bits, vI x4.New.Low, .string x4.Whole.Name, sl A15 x4.Whole.Fields c16]) ⟨by kernel_rfl⟩ (fun w_ hM hS => ⟨w_, ⟨hM.cell 1 rfl rfl, hM.cell 1 rfl rfl, hM.cell 1 rfl rfl, hM.cell 1 rfl rfl, hM.cell 1 rfl rfl, hM.cell 1 rfl rfl, hM.cell 1 rfl rfl, hM.cell 1 rfl rfl, hM.cell 1 rfl rfl, hM.cell 1 rfl rfl, rfl⟩, hM, trivial⟩) ?_
    refine ops_mem (d := some 28) (an := [.v (vI x19.Do), .v (.string x19.Kind), .v (.string x19.Field), .v (.string x19.Name), .v (vI x19.Value), .v (.string x19.New.Name), .v (vI x19.New.Bits), .v (vI x19.New.Low), .v (.string x19.Whole.Name), .v (sl A30 x19.Whole.Fields c31)]) (evs := [ld b33 0 (vI x19.Do), ld b33 1 (.string x19.Kind), ld b33 2 (.string x19.Field), ld b33 3 (.string x19.Name), ld b33 4 (vI x19.Value), ld b33 5 (.string x19.New.Name), ld b33 6 (vI x19.New.Bits), ld b33 7 (vI x19.New.Low), ld b33 8 (.string x19.Whole.Name), ld b33 9 (sl A30 x19.Whole.Fields c31)]) (v := .agg #[vI x19.Do, .string x19.Kind, .string x19.Field, .string x19.Name, vI x19.Value, .string x19.New.Name, vI x19.New.Bits, vI x19.New.Low, .string x19.Whole.Name, sl A30 x19.Whole.Fields c31]) ⟨by kernel_rfl⟩ (fun w_ hM hS => ⟨w_, ⟨hM.cell 0 rfl rfl, hM.cell 0 rfl rfl, hM.cell 0 rfl rfl, hM.cell 0 rfl rfl, hM.cell 0 rfl rfl, hM.cell 0 rfl rfl, hM.cell 0 rfl rfl, hM.cell 0 rfl rfl, hM.cell 0 rfl rfl, hM.cell 0 rfl rfl, rfl⟩, hM, trivial⟩) ?_
    obtain ⟨x34, hv35, hp⟩ := obind hp
    refine ops_callI (σ := Unit) (d := some 29) (f := 15) (args := #[.agg #[vI x4.Do, .string x4.Kind, .string x4.Field, .string x4.Name, vI x4.Value, .string x4.New.Name, vI x4.New.Bits, vI x4.New.Low, .string x4.Whole.Name, sl A15 x4.Whole.Fields c16], .agg #[vI x19.Do, .string x19.Kind, .string x19.Field, .string x19.Name, vI x19.Value, .string x19.New.Name, vI x19.New.Bits, vI x19.New.Low, .string x19.Whole.Name, sl A30 x19.Whole.Fields c31]]) (v := (fun _ => .bool x34)) (I := (fun _ => True)) (M' := (fun _ => Mem w0 (.blk b33 [vI x19.Do, .string x19.Kind, .string x19.Field, .string x19.Name, vI x19.Value, .string x19.New.Name, vI x19.New.Bits, vI x19.New.Low, .string x19.Whole.Name, sl A30 x19.Whole.Fields c31] 37 :: .blk b18 [vI x4.Do, .string x4.Kind, .string x4.Field, .string x4.Name, vI x4.Value, .string x4.New.Name, vI x4.New.Bits, vI x4.New.Low, .string x4.Whole.Name, sl A15 x4.Whole.Fields c16] 37 :: Fz F W :: cs))) ⟨by kernel_rfl⟩ (fun w_ hM hS => (tourref3_SameMove_ok w0 w_ (.blk b33 [vI x19.Do, .string x19.Kind, .string x19.Field, .string x19.Name, vI x19.Value, .string x19.New.Name, vI x19.New.Bits, vI x19.New.Low, .string x19.Whole.Name, sl A30 x19.Whole.Fields c31] 37 :: .blk b18 [vI x4.Do, .string x4.Kind, .string x4.Field, .string x4.Name, vI x4.Value, .string x4.New.Name, vI x4.New.Bits, vI x4.New.Low, .string x4.Whole.Name, sl A15 x4.Whole.Fields c16] 37 :: cs) F W x4.Do x4.Kind x4.Field x4.Name x4.Value x4.New.Name x4.New.Bits x4.New.Low x4.Whole.Name A15 c16 x4.Whole.Fields x19.Do x19.Kind x19.Field x19.Name x19.Value x19.New.Name x19.New.Bits x19.New.Low x19.Whole.Name A30 c31 x19.Whole.Fields (hM.pick 3 [2, 0, 1] (by kernel_rfl) (by decide) rfl) h17 h32 x34 hv35).mono (by rintro e w' ⟨-, rfl, h'⟩; have h' : Mem w0 (.blk b33 [vI x19.Do, .string x19.Kind, .string x19.Field, .string x19.Name, vI x19.Value, .string x19.New.Name, vI x19.New.Bits, vI x19.New.Low, .string x19.Whole.Name, sl A30 x19.Whole.Fields c31] 37 :: .blk b18 [vI x4.Do, .string x4.Kind, .string x4.Field, .string x4.Name, vI x4.Value, .string x4.New.Name, vI x4.New.Bits, vI x4.New.Low, .string x4.Whole.Name, sl A15 x4.Whole.Fields c16] 37 :: Fz F W :: cs) w' := (h'.pick 3 [1, 2, 0] (by kernel_rfl) (by decide) rfl); exact ⟨(), trivial, rfl, h', trivial⟩)) ?_
    rintro _ -
    refine oQ [oF 4] [(30, .bool (!x34)), (1, sl A_s2 s2_1 c_s2), (2, .func (.func 15) #[] #[]), (15, sl A_s1 s1_1 c_s1), (16, vI (s1_1.length : Int)), (17, vI i2)] (by kernel_rfl) ?_
    refine ops_nil (fin_then ?_)
    refine st_if (b := !x34) rfl (fun hc36 => ?_) (fun hc36 => ?_)
    ·
     have hp := cnd_t hc36 hp
     refine st_seq (st_region [oF 0] (by rfl) ?_)
     refine oQ [oF 0] [(6, .bool false)] (by kernel_rfl) ?_
     refine ops_nil (fin_then (st_ret (fin_ret_block (fin_ret_then (fin_ret_then (fin_ret_block (fin_ret_then ?_)))))))
     obtain hq_ := Option.some.inj hp
     subst hq_
     obtain hq_ := hd2 _ rfl
     subst hq_
     have hp : some false = some t9001 := hk2
     have hq_ := Option.some.inj hp
     have hr0_ := hq_
     subst hr0_
     refine fin_ret [.tmp 6] [.bool false] rfl rfl (fun w_ hM => (.tmp rfl .nil)) (fun w_ hM => ?_)
     exact ⟨trivial, rfl, hM.pick 3 [2] (by kernel_rfl) (by decide) rfl⟩
    ·
     have hp := cnd_f hc36 hp
     refine st_skip (fin_block (fin_then (st_region [oF 0, oF 1] (by rfl) ?_)))
     refine oQ [oF 0, oF 1] [(17, vI (IntKind.i64.wrap (i2 + 1))), (1, sl A_s2 s2_1 c_s2), (2, .func (.func 15) #[] #[]), (15, sl A_s1 s1_1 c_s1), (16, vI (s1_1.length : Int))] (by kernel_rfl) ?_
     refine ops_nil ?_
     exact fin_again (IntKind.i64.wrap (i2 + 1)) () (Option.some.inj hp).symm trivial (look_has ⟨rfl, rfl, rfl, rfl, rfl, trivial⟩) (fun w_ hM => hM.pick 3 [2] (by kernel_rfl) (by decide) rfl)
   ·
    have hp := cnd_f hc3 hp
    refine st_exit (fin_exit_then (fin_exit_then (fin_exit ?_)))
    obtain hq_ := Option.some.inj hp
    subst hq_
    obtain hq_ := hd2 _ rfl
    subst hq_
    have hp : slices_EqualFunc_migrate_Move_migrate_Move_migrate_Move_migrate_Move_j1 = some t9001 := hk2
    exact fin_join HJ1 () hp (look_has trivial) (fun w_ hM => hM)
theorem tourlaw3_MigrateBack_ok (w0 w : World) (cs : List Chunk) (F : Nat → Prop) (W : World) (A_k : Option Addr) (c_k : Nat) (k : List api_Kind) (A_l : Option Addr) (c_l : Nat) (l : List migrate_Move) (hM0 : Mem w0 (Fz F W :: cs) w) (h_k : RdS R_api_Kind F W A_k c_k k) (h_l : RdS R_migrate_Move F W A_l c_l l) (t9001 : Bool) (hp : tourlaw3_MigrateBack k l = some t9001) : Calls Tryd.prog 3 #[sl A_k k c_k, sl A_l l c_l] w fun e w' => ∃ (F9002 : Nat → Prop), ∃ (W9003 : World), ((Ext w0 F W F9002 W9003)) ∧ e = .returned (.bool t9001) ∧ Mem w0 (Fz F9002 W9003 :: cs) w' := by
 unfold tourlaw3_MigrateBack at hp
 refine sx_calls Tryd.func3 rfl (n := 85) (by kernel_rfl) (l := [(0, sl A_k k c_k), (1, sl A_l l c_l)]) rfl (by rfl) hM0 ?_
 refine st_seq (st_region [oF 0] (by rfl) ?_)
 refine oQ [oF 0] [(0, sl A_k k c_k), (1, sl A_l l c_l)] (by kernel_rfl) ?_
 refine ops_nil (fin_then (st_seq (st_seq (st_region [oF 0, oF 1, oF 2, oF 3, oF 4, oF 5, oF 6, oF 7] (by rfl) ?_))))
 obtain ⟨x1, hv2, hp⟩ := obind hp
 refine ops_callI (σ := (Option Addr) × (List Value) × (Nat → Prop) × World) (d := some 17) (f := 9) (args := #[]) (v := (fun x_ => match x_ with | (A3, y4, F5, W6) => sl A3 x1 2)) (I := (fun x_ => match x_ with | (A3, y4, F5, W6) => (RepL R_api_Kind F5 W6 x1 y4) ∧ (Ext w0 F W F5 W6))) (M' := (fun x_ => match x_ with | (A3, y4, F5, W6) => Mem w0 (ow A3 x1 2 35 2 y4 :: Fz F5 W6 :: cs))) ⟨by kernel_rfl⟩ (fun w_ hM hS => (tourlaw3_two_ok w0 w_ (cs) F W  hM  x1 hv2).mono (by rintro e w' ⟨A3, y4, F5, W6, ⟨h7, h8⟩, rfl, h'⟩; have h' : Mem w0 (ow A3 x1 2 35 2 y4 :: Fz F5 W6 :: cs) w' := h'; exact ⟨(A3, y4, F5, W6), ⟨h7, h8⟩, rfl, h', trivial⟩)) ?_
 rintro ⟨A3, y4, F5, W6⟩ ⟨h7, h8⟩
 have h_k := h_k.ext h8
 have h_l := h_l.ext h8
 obtain ⟨x9, hv10, hp⟩ := obind hp
 refine ops_callI (σ := (Option Addr) × (List Value)) (d := some 18) (f := 10) (args := #[]) (v := (fun x_ => match x_ with | (A11, y12) => sl A11 x9 1)) (I := (fun x_ => match x_ with | (A11, y12) => (RepL R_migrate_Move F5 W6 x9 y12))) (M' := (fun x_ => match x_ with | (A11, y12) => Mem w0 (ow A11 x9 1 37 10 y12 :: ow A3 x1 2 35 2 y4 :: Fz F5 W6 :: cs))) ⟨by kernel_rfl⟩ (fun w_ hM hS => (tourlaw3_drop_ok w0 w_ (ow A3 x1 2 35 2 y4 :: cs) F5 W6  (hM.pick 2 [1, 0] (by kernel_rfl) (by decide) rfl)  x9 hv10).mono (by rintro e w' ⟨A11, y12, h13, rfl, h'⟩; have h' : Mem w0 (ow A11 x9 1 37 10 y12 :: ow A3 x1 2 35 2 y4 :: Fz F5 W6 :: cs) w' := (h'.pick 3 [0, 2, 1] (by kernel_rfl) (by decide) rfl); exact ⟨(A11, y12), h13, rfl, h', trivial⟩)) ?_
 rintro ⟨A11, y12⟩ h13
 refine ops_ex (σ := (Nat → Prop) × World) (I := fun x_ => Ext w0 F5 W6 x_.1 x_.2 ∧ RdS R_api_Kind x_.1 x_.2 A3 2 x1) (M' := fun x_ => Mem w0 (ow A11 x9 1 37 10 y12 :: Fz x_.1 x_.2 :: cs)) (fun w_ hM => ?_) ?_
 · obtain ⟨F_, h1_, h2_, h3_⟩ := (hM.pick 3 [1, 2, 0] (by kernel_rfl) (by decide) rfl : Mem w0 (ow A3 x1 2 35 2 y4 :: Fz F5 W6 :: ow A11 x9 1 37 10 y12 :: cs) w_).freeze (z := 2) h7 rfl rfl
   exact ⟨(F_, w_), ⟨h1_, h2_⟩, h3_.pick 2 [1, 0] (by kernel_rfl) (by decide) rfl⟩
 rintro ⟨F14, W15⟩ ⟨hx16, h17⟩
 have hx16 : Ext w0 F5 W6 F14 W15 := hx16
 have h17 : RdS R_api_Kind F14 W15 A3 2 x1 := h17
 have h_k := h_k.ext hx16
 have h_l := h_l.ext hx16
 have h13 := h13.ext hx16
 refine ops_ex (σ := (Nat → Prop) × World) (I := fun x_ => Ext w0 F14 W15 x_.1 x_.2 ∧ RdS R_migrate_Move x_.1 x_.2 A11 1 x9) (M' := fun x_ => Mem w0 (Fz x_.1 x_.2 :: cs)) (fun w_ hM => ?_) ?_
 · obtain ⟨F_, h1_, h2_, h3_⟩ := (hM.pick 2 [0, 1] (by kernel_rfl) (by decide) rfl : Mem w0 (ow A11 x9 1 37 10 y12 :: Fz F14 W15 :: cs) w_).freeze (z := 10) h13 rfl rfl
   exact ⟨(F_, w_), ⟨h1_, h2_⟩, h3_.pick 1 [0] (by kernel_rfl) (by decide) rfl⟩
 rintro ⟨F18, W19⟩ ⟨hx20, h21⟩
 have hx20 : Ext w0 F14 W15 F18 W19 := hx20
 have h21 : RdS R_migrate_Move F18 W19 A11 1 x9 := h21
 have h17 := h17.ext hx20
 have h_k := h_k.ext hx20
 have h_l := h_l.ext hx20
 obtain ⟨x22, x23, hv24, hp⟩ := obind2 hp
 refine ops_callI (σ := (Option Addr) × Nat × (List Value) × (Nat → Prop) × World) (d := some 19) (f := 8) (args := #[sl A3 x1 2, sl A11 x9 1]) (v := (fun x_ => match x_ with | (A25, c26, y27, F28, W29) => .tuple #[sl A25 x22 c26, vI x23])) (I := (fun x_ => match x_ with | (A25, c26, y27, F28, W29) => (RepL R_migrate_Move F28 W29 x22 y27) ∧ (Ext w0 F18 W19 F28 W29))) (M' := (fun x_ => match x_ with | (A25, c26, y27, F28, W29) => Mem w0 (ow A25 x22 c26 37 10 y27 :: Fz F28 W29 :: cs))) ⟨by kernel_rfl⟩ (fun w_ hM hS => (migrate_Back_ok w0 w_ (cs) F18 W19 A3 2 x1 A11 1 x9 hM h17 h21 x22 x23 hv24).mono (by rintro e w' ⟨A25, c26, y27, F28, W29, ⟨h30, h31⟩, rfl, h'⟩; have h' : Mem w0 (ow A25 x22 c26 37 10 y27 :: Fz F28 W29 :: cs) w' := h'; exact ⟨(A25, c26, y27, F28, W29), ⟨h30, h31⟩, rfl, h', trivial⟩)) ?_
 rintro ⟨A25, c26, y27, F28, W29⟩ ⟨h30, h31⟩
 have h21 := h21.ext h31
 have h17 := h17.ext h31
 have h_k := h_k.ext h31
 have h_l := h_l.ext h31
 refine oQ [oF 3, oF 4, oF 5, oF 6, oF 7] [(6, vI x23), (0, sl A_k k c_k), (1, sl A_l l c_l)] (by kernel_rfl) ?_
 refine ops_nil (fin_then (st_seq (st_region [oF 0, oF 1] (by rfl) ?_)))
 refine oQ [oF 0, oF 1] [(23, .bool (!(x23 == 4))), (0, sl A_k k c_k), (1, sl A_l l c_l)] (by kernel_rfl) ?_
 refine ops_nil (fin_then ?_)
 refine st_if (b := !(x23 == 4)) rfl (fun hc32 => ?_) (fun hc32 => ?_)
 ·
  have hp := cnd_t hc32 hp
  refine st_seq (st_region [oF 0] (by rfl) ?_)
  refine oQ [oF 0] [(4, .bool false)] (by kernel_rfl) ?_
  refine ops_nil (fin_then (st_ret (fin_ret_then ?_)))
  have hq_ := Option.some.inj hp
  have hr0_ := hq_
  subst hr0_
  refine fin_ret [.tmp 4] [.bool false] rfl rfl (fun w_ hM => (.tmp rfl .nil)) (fun w_ hM => ?_)
  exact ⟨F28, W29, (((h8.trans hx16).trans hx20).trans h31), rfl, hM.pick 2 [1] (by kernel_rfl) (by decide) rfl⟩
 ·
  have hp := cnd_f hc32 hp
  refine st_skip (fin_then (st_seq (st_region [oF 0, oF 1, oF 2, oF 3, oF 4, oF 5, oF 6, oF 7] (by rfl) ?_)))
  refine oQ [oF 0, oF 1] [(26, sl A_l l c_l), (25, sl A_k k c_k), (0, sl A_k k c_k), (1, sl A_l l c_l)] (by kernel_rfl) ?_
  obtain ⟨x33, x34, hv35, hp⟩ := obind2 hp
  refine ops_callI (σ := (Option Addr) × Nat × (List Value) × (Nat → Prop) × World) (d := some 27) (f := 8) (args := #[sl A_k k c_k, sl A_l l c_l]) (v := (fun x_ => match x_ with | (A36, c37, y38, F39, W40) => .tuple #[sl A36 x33 c37, vI x34])) (I := (fun x_ => match x_ with | (A36, c37, y38, F39, W40) => (RepL R_migrate_Move F39 W40 x33 y38) ∧ (Ext w0 F28 W29 F39 W40))) (M' := (fun x_ => match x_ with | (A36, c37, y38, F39, W40) => Mem w0 (ow A36 x33 c37 37 10 y38 :: ow A25 x22 c26 37 10 y27 :: Fz F39 W40 :: cs))) ⟨by kernel_rfl⟩ (fun w_ hM hS => (migrate_Back_ok w0 w_ (ow A25 x22 c26 37 10 y27 :: cs) F28 W29 A_k c_k k A_l c_l l (hM.pick 2 [1, 0] (by kernel_rfl) (by decide) rfl) h_k h_l x33 x34 hv35).mono (by rintro e w' ⟨A36, c37, y38, F39, W40, ⟨h41, h42⟩, rfl, h'⟩; have h' : Mem w0 (ow A36 x33 c37 37 10 y38 :: ow A25 x22 c26 37 10 y27 :: Fz F39 W40 :: cs) w' := (h'.pick 3 [0, 2, 1] (by kernel_rfl) (by decide) rfl); exact ⟨(A36, c37, y38, F39, W40), ⟨h41, h42⟩, rfl, h', trivial⟩)) ?_
  rintro ⟨A36, c37, y38, F39, W40⟩ ⟨h41, h42⟩
  have h_l := h_l.ext h42
  have h_k := h_k.ext h42
  have h30 := h30.ext h42
  refine oQ [oF 3, oF 4, oF 5, oF 6, oF 7] [(8, vI x34), (7, sl A36 x33 c37), (0, sl A_k k c_k), (1, sl A_l l c_l)] (by kernel_rfl) ?_
  refine ops_nil (fin_then (st_seq (st_seq (st_region [oF 0, oF 1, oF 2, oF 3, oF 4, oF 5, oF 6, oF 7] (by rfl) ?_))))
  refine oQ [oF 0, oF 1] [(32, sl A_l l c_l), (31, sl A_k k c_k), (8, vI x34), (7, sl A36 x33 c37), (0, sl A_k k c_k), (1, sl A_l l c_l)] (by kernel_rfl) ?_
  obtain ⟨x43, x44, hv45, hp⟩ := obind2 hp
  refine ops_callI (σ := (Option Addr) × Nat × (Nat → Prop) × World) (d := some 33) (f := 11) (args := #[sl A_k k c_k, sl A_l l c_l]) (v := (fun x_ => match x_ with | (A46, c47, F48, W49) => .tuple #[sl A46 x43 c47, vI x44])) (I := (fun x_ => match x_ with | (A46, c47, F48, W49) => (RdS R_api_Kind F48 W49 A46 c47 x43) ∧ (Ext w0 F39 W40 F48 W49))) (M' := (fun x_ => match x_ with | (A46, c47, F48, W49) => Mem w0 (ow A36 x33 c37 37 10 y38 :: ow A25 x22 c26 37 10 y27 :: Fz F48 W49 :: cs))) ⟨by kernel_rfl⟩ (fun w_ hM hS => (tourref3_After_ok w0 w_ (ow A36 x33 c37 37 10 y38 :: ow A25 x22 c26 37 10 y27 :: cs) F39 W40 A_k c_k k A_l c_l l (hM.pick 3 [2, 0, 1] (by kernel_rfl) (by decide) rfl) h_k h_l x43 x44 hv45).mono (by rintro e w' ⟨A46, c47, F48, W49, ⟨h50, h51⟩, rfl, h'⟩; have h' : Mem w0 (ow A36 x33 c37 37 10 y38 :: ow A25 x22 c26 37 10 y27 :: Fz F48 W49 :: cs) w' := (h'.pick 3 [1, 2, 0] (by kernel_rfl) (by decide) rfl); exact ⟨(A46, c47, F48, W49), ⟨h50, h51⟩, rfl, h', trivial⟩)) ?_
  rintro ⟨A46, c47, F48, W49⟩ ⟨h50, h51⟩
  have h_l := h_l.ext h51
  have h_k := h_k.ext h51
  have h41 := h41.ext h51
  have h30 := h30.ext h51
  refine oQ [oF 3, oF 4, oF 5, oF 6, oF 7] [(10, vI x44), (8, vI x34), (7, sl A36 x33 c37), (0, sl A_k k c_k), (1, sl A_l l c_l)] (by kernel_rfl) ?_
  refine ops_nil (fin_then (st_seq (st_region [oF 0, oF 1] (by rfl) ?_)))
  refine oQ [oF 0, oF 1] [(37, .bool (!(x44 == 0))), (10, vI x44), (8, vI x34), (7, sl A36 x33 c37), (0, sl A_k k c_k), (1, sl A_l l c_l)] (by kernel_rfl) ?_
  refine ops_nil (fin_then ?_)
  refine st_if (b := !(x44 == 0)) rfl (fun hc52 => ?_) (fun hc52 => ?_)
  ·
   have hp := cnd_t hc52 hp
   refine st_join1 (σ := Bool) (L := fun x_ => match x_ with | t53 => [(4, .bool t53)]) (N := fun x_ => match x_ with | t53 => Mem w0 (Fz F48 W49 :: cs)) (I := fun x_ => match x_ with | t53 => (tourlaw3_MigrateBack_j1 t53 = some t9001)) ?_ ?_
   ·
    rintro t53 hp
    unfold tourlaw3_MigrateBack_j1 at hp
    refine st_ret (fin_ret_then ?_)
    have hq_ := Option.some.inj hp
    have hr0_ := hq_
    subst hr0_
    refine fin_ret [.tmp 4] [.bool t53] rfl rfl (fun w_ hM => (.tmp rfl .nil)) (fun w_ hM => ?_)
    exact ⟨F48, W49, (((((h8.trans hx16).trans hx20).trans h31).trans h42).trans h51), rfl, hM⟩
   ·
    intro HJ1
    refine st_seq (st_region [oF 0, oF 1, oF 2, oF 3, oF 4, oF 5, oF 6, oF 7, oF 8] (by rfl) ?_)
    refine oQ [oF 0, oF 1, oF 2, oF 3] [(41, .bool (x34 == x44)), (7, sl A36 x33 c37)] (by kernel_rfl) ?_
    refine ops_bool (t := (x34 == x44)) (l1 := [(41, .bool true), (7, sl A36 x33 c37)]) (l2 := [(41, .bool false), (7, sl A36 x33 c37)]) (fun h => by rw [h]) (fun h => by rw [h]) (fun hc54 => ?_) (fun hc54 => ?_)
    ·
     have hp := cnd_t hc54 hp
     refine oQ [oF 4, oF 5, oF 6, oF 7, oF 8] [(4, .bool ((x33.length : Int) == 0))] (by kernel_rfl) ?_
     refine ops_nil ?_
     exact fin_join HJ1 ((x33.length : Int) == 0) hp (look_has ⟨rfl, trivial⟩) (fun w_ hM => hM.pick 3 [2] (by kernel_rfl) (by decide) rfl)
    ·
     have hp := cnd_f hc54 hp
     refine oQ [oF 4, oF 5, oF 6, oF 7, oF 8] [(4, .bool false)] (by kernel_rfl) ?_
     refine ops_nil ?_
     exact fin_join HJ1 false hp (look_has ⟨rfl, trivial⟩) (fun w_ hM => hM.pick 3 [2] (by kernel_rfl) (by decide) rfl)
  ·
   have hp := cnd_f hc52 hp
   refine st_skip (fin_then (st_seq (st_region [oF 0] (by rfl) ?_)))
   refine oQ [oF 0] [(11, .slice none 0 0), (8, vI x34), (7, sl A36 x33 c37), (0, sl A_k k c_k), (1, sl A_l l c_l)] (by kernel_rfl) ?_
   refine ops_nil (fin_then ?_)
   refine st_join1 (σ := (Option Addr) × Nat × (List migrate_Move) × (List Value) × (Nat → Prop) × World) (L := fun x_ => match x_ with | (A55, c56, l57, y58, F60, W61) => [(7, sl A36 x33 c37), (8, vI x34), (11, sl A55 l57 c56)]) (N := fun x_ => match x_ with | (A55, c56, l57, y58, F60, W61) => Mem w0 (ow A36 x33 c37 37 10 y38 :: ow A55 l57 c56 37 10 y58 :: Fz F60 W61 :: cs)) (I := fun x_ => match x_ with | (A55, c56, l57, y58, F60, W61) => ((tourlaw3_MigrateBack_j2 x34 x33) l57 = some t9001) ∧ (RepL R_migrate_Move F60 W61 l57 y58) ∧ (Ext w0 F48 W49 F60 W61)) ?_ ?_
   ·
    rintro ⟨A55, c56, l57, y58, F60, W61⟩ ⟨hp, h59, hx2⟩
    have h41 := h41.ext hx2
    unfold tourlaw3_MigrateBack_j2 at hp
    refine st_join1 (σ := Bool) (L := fun x_ => match x_ with | t62 => [(4, .bool t62)]) (N := fun x_ => match x_ with | t62 => Mem w0 (Fz F60 W61 :: cs)) (I := fun x_ => match x_ with | t62 => (tourlaw3_MigrateBack_j3 t62 = some t9001)) ?_ ?_
    ·
     rintro t62 hp
     unfold tourlaw3_MigrateBack_j3 at hp
     refine st_ret ?_
     have hq_ := Option.some.inj hp
     have hr0_ := hq_
     subst hr0_
     refine fin_ret [.tmp 4] [.bool t62] rfl rfl (fun w_ hM => (.tmp rfl .nil)) (fun w_ hM => ?_)
     exact ⟨F60, W61, ((((((h8.trans hx16).trans hx20).trans h31).trans h42).trans h51).trans hx2), rfl, hM⟩
    ·
     intro HJ3
     refine st_seq (st_region [oF 0, oF 1, oF 2, oF 3, oF 4, oF 5, oF 6, oF 7] (by rfl) ?_)
     refine oQ [oF 0, oF 1, oF 2] [(80, .bool (x34 == 0)), (7, sl A36 x33 c37), (11, sl A55 l57 c56)] (by kernel_rfl) ?_
     refine ops_bool (t := (x34 == 0)) (l1 := [(80, .bool true), (7, sl A36 x33 c37), (11, sl A55 l57 c56)]) (l2 := [(80, .bool false), (7, sl A36 x33 c37), (11, sl A55 l57 c56)]) (fun h => by rw [h]) (fun h => by rw [h]) (fun hc63 => ?_) (fun hc63 => ?_)
     ·
      have hp := cnd_t hc63 hp
      refine oQ [oF 3, oF 4] [(82, sl A55 l57 c56), (81, sl A36 x33 c37), (80, .bool true)] (by kernel_rfl) ?_
      obtain ⟨x64, hv65, hp⟩ := obind hp
      refine ops_callI (σ := Unit) (d := some 83) (f := 14) (args := #[sl A36 x33 c37, sl A55 l57 c56, .func (.func 15) #[] #[]]) (v := (fun _ => .bool x64)) (I := (fun _ => True)) (M' := (fun _ => Mem w0 (ow A36 x33 c37 37 10 y38 :: ow A55 l57 c56 37 10 y58 :: Fz F60 W61 :: cs))) ⟨by kernel_rfl⟩ (fun w_ hM hS => (slices_EqualFunc_migrate_Move_migrate_Move_migrate_Move_migrate_Move_ok w_ w_ [] (fun b => b < w_.heap.size) w_ A36 c37 x33 A55 c56 l57 (Mem.fz0 w_) (hM.ordS 0 2 rfl rfl h41 rfl rfl) (hM.ordS 1 2 rfl rfl h59 rfl rfl) x64 hv65).mono (by rintro e w' ⟨-, rfl, h'⟩; have h' : Mem w_ [] w' := h'.pick 1 [] (by kernel_rfl) (by decide) rfl; exact ⟨(), trivial, rfl, hM.join h' rfl, trivial⟩)) ?_
      rintro _ -
      refine oQ [oF 6, oF 7] [(4, .bool x64)] (by kernel_rfl) ?_
      refine ops_nil ?_
      exact fin_join HJ3 x64 hp (look_has ⟨rfl, trivial⟩) (fun w_ hM => hM.pick 3 [2] (by kernel_rfl) (by decide) rfl)
     ·
      have hp := cnd_f hc63 hp
      refine oQ [oF 3, oF 4, oF 5, oF 6, oF 7] [(4, .bool false)] (by kernel_rfl) ?_
      refine ops_nil ?_
      exact fin_join HJ3 false hp (look_has ⟨rfl, trivial⟩) (fun w_ hM => hM.pick 3 [2] (by kernel_rfl) (by decide) rfl)
   ·
    intro HJ2
    refine st_seq (st_seq (st_region [oF 0, oF 1, oF 2] (by rfl) ?_))
    refine oQ [oF 0, oF 1, oF 2] [(48, vI 0), (47, vI (l.length : Int)), (46, sl A_l l c_l), (11, .slice none 0 0), (8, vI x34), (7, sl A36 x33 c37), (0, sl A_k k c_k)] (by kernel_rfl) ?_
    refine ops_nil (fin_then (st_block ?_))
    refine st_conv (l' := [(48, vI 0), (47, vI (l.length : Int)), (46, sl A_l l c_l), (11, .slice none 0 0), (8, vI x34), (7, sl A36 x33 c37), (0, sl A_k k c_k)]) (M' := Mem w0 (ow none ([] : List migrate_Move) 0 37 10 [] :: ow A36 x33 c37 37 10 y38 :: ow A25 x22 c26 37 10 y27 :: Fz F48 W49 :: cs)) rfl (fun w_ h => h.onil none 37 10) ?_
    obtain ⟨r4, hl4, hk4⟩ := obind hp
    refine st_loopP (σ := (List api_Kind) × (List migrate_Move) × Int) (ρ := (Bool ⊕ (List migrate_Move))) (γ := (Option Addr) × Nat × (Option Addr) × Nat × (List Value) × (Nat → Prop) × World) hl4 (A_k, c_k, none, 0, [], F48, W49) (fun s_ g_ => match s_, g_ with | (l68, l72, i75), (A66, c67, A70, c71, y73, F76, W77) => [(0, sl A66 l68 c67), (7, sl A36 x33 c37), (8, vI x34), (11, sl A70 l72 c71), (46, sl A_l l c_l), (47, vI (l.length : Int)), (48, vI i75)]) (fun s_ g_ => match s_, g_ with | (l68, l72, i75), (A66, c67, A70, c71, y73, F76, W77) => Mem w0 (ow A36 x33 c37 37 10 y38 :: ow A70 l72 c71 37 10 y73 :: Fz F76 W77 :: cs)) (fun s_ g_ => match s_, g_ with | (l68, l72, i75), (A66, c67, A70, c71, y73, F76, W77) => (RdS R_api_Kind F76 W77 A66 c67 l68) ∧ (RepL R_migrate_Move F76 W77 l72 y73) ∧ (Ext w0 F48 W49 F76 W77)) ⟨h_k, (RepL.nil (R := R_migrate_Move)), (Ext.refl _ _ _)⟩ (look_has ⟨rfl, rfl, rfl, rfl, rfl, rfl, rfl, trivial⟩) (fun w_ hM => hM.pick 4 [1, 0, 3] (by kernel_rfl) (by decide) rfl) ?_
    rintro ⟨l68, l72, i75⟩ ⟨A66, c67, A70, c71, y73, F76, W77⟩ o4 ⟨h69, h74, hx4⟩ hs_ hd4
    have hp : (tourlaw3_MigrateBack_l4 l x34 x33) l68 l72 i75 = some o4 := hs_
    clear hs_
    unfold tourlaw3_MigrateBack_l4 at hp
    have h_l := h_l.ext hx4
    have h41 := h41.ext hx4
    refine st_seq (st_region [oF 0] (by rfl) ?_)
    refine oQ [oF 0] [(49, .bool (decide (i75 < (l.length : Int)))), (0, sl A66 l68 c67), (7, sl A36 x33 c37), (8, vI x34), (11, sl A70 l72 c71), (46, sl A_l l c_l), (47, vI (l.length : Int)), (48, vI i75)] (by kernel_rfl) ?_
    refine ops_nil (fin_then (st_seq ?_))
    refine st_if (b := decide (i75 < (l.length : Int))) rfl (fun hc78 => ?_) (fun hc78 => ?_)
    ·
     have hp := cnd_t hc78 hp
     refine st_skip (fin_then (st_seq (st_block (st_seq (st_region [oF 0, oF 1, oF 2, oF 3] (by rfl) ?_)))))
     obtain ⟨x79, hv80, hp⟩ := obind hp
     obtain ⟨m81, hm82, hx83⟩ := idx_some hv80
     have hl86 := (List.getElem?_eq_some_iff.1 hx83).1
     obtain ⟨ad87, vs84, hA88, hr85, hq89⟩ := RdS.el h_l hx83
     obtain ⟨A90, c91, rfl, h92⟩ := dec_migrate_Move hr85
     refine ops_val (op := (.indexAddr 23 (.tmp 46) (.tmp 48))) (d := some 50) (v := .pointer (some (ad87.add (m81 * 10)))) ⟨by kernel_rfl⟩ (run_indexA hA88 Tryd.underlying23 (z := 10) (by kernel_rfl) rfl rfl hm82 hl86) ?_
     refine ops_mem (d := some 51) (an := [.v (vI x79.Do), .v (.string x79.Kind), .v (.string x79.Field), .v (.string x79.Name), .v (vI x79.Value), .v (.string x79.New.Name), .v (vI x79.New.Bits), .v (vI x79.New.Low), .v (.string x79.Whole.Name), .v (sl A90 x79.Whole.Fields c91)]) (evs := [.load (ad87.add (m81 * 10)) (vI x79.Do), .load ((ad87.add (m81 * 10)).add 1) (.string x79.Kind), .load ((ad87.add (m81 * 10)).add 2) (.string x79.Field), .load ((ad87.add (m81 * 10)).add 3) (.string x79.Name), .load ((ad87.add (m81 * 10)).add 4) (vI x79.Value), .load ((ad87.add (m81 * 10)).add 5) (.string x79.New.Name), .load ((ad87.add (m81 * 10)).add 6) (vI x79.New.Bits), .load ((ad87.add (m81 * 10)).add 7) (vI x79.New.Low), .load ((ad87.add (m81 * 10)).add 8) (.string x79.Whole.Name), .load ((ad87.add (m81 * 10)).add 9) (sl A90 x79.Whole.Fields c91)]) (v := .agg #[vI x79.Do, .string x79.Kind, .string x79.Field, .string x79.Name, vI x79.Value, .string x79.New.Name, vI x79.New.Bits, vI x79.New.Low, .string x79.Whole.Name, sl A90 x79.Whole.Fields c91]) ⟨by kernel_rfl⟩ (fun w_ hM hS => ⟨w_, ⟨hM.elcell 2 rfl hq89 0 rfl, hM.elcell 2 rfl hq89 1 rfl, hM.elcell 2 rfl hq89 2 rfl, hM.elcell 2 rfl hq89 3 rfl, hM.elcell 2 rfl hq89 4 rfl, hM.elcell 2 rfl hq89 5 rfl, hM.elcell 2 rfl hq89 6 rfl, hM.elcell 2 rfl hq89 7 rfl, hM.elcell 2 rfl hq89 8 rfl, hM.elcell 2 rfl hq89 9 rfl, rfl⟩, hM, trivial⟩) ?_
     refine ops_newB (d := some 13) [vI 0, .string ByteArray.empty, .string ByteArray.empty, .string ByteArray.empty, vI 0, .string ByteArray.empty, vI 0, vI 0, .string ByteArray.empty, .slice none 0 0] 37 (fun b93 => ⟨by kernel_rfl⟩) (fun w_ hM hS => trivial) (fun b93 => ?_)
     refine ops_store (an := []) (evs := [sr b93 0 (vI x79.Do), sr b93 1 (.string x79.Kind), sr b93 2 (.string x79.Field), sr b93 3 (.string x79.Name), sr b93 4 (vI x79.Value), sr b93 5 (.string x79.New.Name), sr b93 6 (vI x79.New.Bits), sr b93 7 (vI x79.New.Low), sr b93 8 (.string x79.Whole.Name), sr b93 9 (sl A90 x79.Whole.Fields c91)]) ⟨by kernel_rfl⟩ (fun w_ hM hS => let ⟨w', he, h'⟩ := hM.evs_stores [vI x79.Do, .string x79.Kind, .string x79.Field, .string x79.Name, vI x79.Value, .string x79.New.Name, vI x79.New.Bits, vI x79.New.Low, .string x79.Whole.Name, sl A90 x79.Whole.Fields c91] 0 rfl 0 (Nat.le_of_ble_eq_true rfl); ⟨w', he, h', trivial⟩) ?_
     refine ops_nil (fin_then (st_seq (st_region [oF 0, oF 1, oF 2, oF 3, oF 4, oF 5, oF 6, oF 7, oF 8] (by rfl) ?_)))
     refine oQ [oF 0] [(53, sl A66 l68 c67), (13, vP b93 0), (0, sl A66 l68 c67), (7, sl A36 x33 c37), (8, vI x34), (11, sl A70 l72 c71), (46, sl A_l l c_l), (47, vI (l.length : Int)), (48, vI i75)] (by kernel_rfl) ?_
     refine ops_mem (d := some 54) (an := [.v (vI x79.Do), .v (.string x79.Kind), .v (.string x79.Field), .v (.string x79.Name), .v (vI x79.Value), .v (.string x79.New.Name), .v (vI x79.New.Bits), .v (vI x79.New.Low), .v (.string x79.Whole.Name), .v (sl A90 x79.Whole.Fields c91)]) (evs := [ld b93 0 (vI x79.Do), ld b93 1 (.string x79.Kind), ld b93 2 (.string x79.Field), ld b93 3 (.string x79.Name), ld b93 4 (vI x79.Value), ld b93 5 (.string x79.New.Name), ld b93 6 (vI x79.New.Bits), ld b93 7 (vI x79.New.Low), ld b93 8 (.string x79.Whole.Name), ld b93 9 (sl A90 x79.Whole.Fields c91)]) (v := .agg #[vI x79.Do, .string x79.Kind, .string x79.Field, .string x79.Name, vI x79.Value, .string x79.New.Name, vI x79.New.Bits, vI x79.New.Low, .string x79.Whole.Name, sl A90 x79.Whole.Fields c91]) ⟨by kernel_rfl⟩ (fun w_ hM hS => ⟨w_, ⟨hM.cell 0 rfl rfl, hM.cell 0 rfl rfl, hM.cell 0 rfl rfl, hM.cell 0 rfl rfl, hM.cell 0 rfl rfl, hM.cell 0 rfl rfl, hM.cell 0 rfl rfl, hM.cell 0 rfl rfl, hM.cell 0 rfl rfl, hM.cell 0 rfl rfl, rfl⟩, hM, trivial⟩) ?_
     obtain ⟨x94, x95, x96, x97, x98, x99, x100, x101, hv102, hp⟩ := obind8 hp
     refine ops_callI (σ := (Option Addr) × Nat × (List Value)) (d := some 55) (f := 12) (args := #[sl A66 l68 c67, .agg #[vI x79.Do, .string x79.Kind, .string x79.Field, .string x79.Name, vI x79.Value, .string x79.New.Name, vI x79.New.Bits, vI x79.New.Low, .string x79.Whole.Name, sl A90 x79.Whole.Fields c91]]) (v := (fun x_ => match x_ with | (A103, c104, y105) => .tuple #[.agg #[vI x94, .string x95, .string x96, .string x97, vI 0, .string ByteArray.empty, vI x98, vI x99, .string ByteArray.empty, sl A103 x100 c104], .bool x101])) (I := (fun x_ => match x_ with | (A103, c104, y105) => (RepL R_api_Field F76 W77 x100 y105))) (M' := (fun x_ => match x_ with | (A103, c104, y105) => Mem w0 (ow A103 x100 c104 32 3 y105 :: .blk b93 [vI x79.Do, .string x79.Kind, .string x79.Field, .string x79.Name, vI x79.Value, .string x79.New.Name, vI x79.New.Bits, vI x79.New.Low, .string x79.Whole.Name, sl A90 x79.Whole.Fields c91] 37 :: ow A36 x33 c37 37 10 y38 :: ow A70 l72 c71 37 10 y73 :: Fz F76 W77 :: cs))) ⟨by kernel_rfl⟩ (fun w_ hM hS => (tourref3_Undone_ok w0 w_ (.blk b93 [vI x79.Do, .string x79.Kind, .string x79.Field, .string x79.Name, vI x79.Value, .string x79.New.Name, vI x79.New.Bits, vI x79.New.Low, .string x79.Whole.Name, sl A90 x79.Whole.Fields c91] 37 :: ow A36 x33 c37 37 10 y38 :: ow A70 l72 c71 37 10 y73 :: cs) F76 W77 A66 c67 l68 x79.Do x79.Kind x79.Field x79.Name x79.Value x79.New.Name x79.New.Bits x79.New.Low x79.Whole.Name A90 c91 x79.Whole.Fields (hM.pick 4 [3, 0, 1, 2] (by kernel_rfl) (by decide) rfl) h69 h92 x94 x95 x96 x97 x98 x99 x100 x101 hv102).mono (by rintro e w' ⟨A103, c104, y105, h106, rfl, h'⟩; have h' : Mem w0 (ow A103 x100 c104 32 3 y105 :: .blk b93 [vI x79.Do, .string x79.Kind, .string x79.Field, .string x79.Name, vI x79.Value, .string x79.New.Name, vI x79.New.Bits, vI x79.New.Low, .string x79.Whole.Name, sl A90 x79.Whole.Fields c91] 37 :: ow A36 x33 c37 37 10 y38 :: ow A70 l72 c71 37 10 y73 :: Fz F76 W77 :: cs) w' := (h'.pick 5 [0, 2, 3, 4, 1] (by kernel_rfl) (by decide) rfl); exact ⟨(A103, c104, y105), h106, rfl, h', trivial⟩)) ?_
     rintro ⟨A103, c104, y105⟩ h106
     refine oQ [oF 3, oF 4, oF 5] [(57, .bool x101), (56, .agg #[vI x94, .string x95, .string x96, .string x97, vI 0, .string ByteArray.empty, vI x98, vI x99, .string ByteArray.empty, sl A103 x100 c104]), (13, vP b93 0), (0, sl A66 l68 c67), (7, sl A36 x33 c37), (8, vI x34), (11, sl A70 l72 c71), (46, sl A_l l c_l), (47, vI (l.length : Int)), (48, vI i75)] (by kernel_rfl) ?_
     refine ops_newB (d := some 14) [vI 0, .string ByteArray.empty, .string ByteArray.empty, .string ByteArray.empty, vI 0, .string ByteArray.empty, vI 0, vI 0, .string ByteArray.empty, .slice none 0 0] 37 (fun b107 => ⟨by kernel_rfl⟩) (fun w_ hM hS => trivial) (fun b107 => ?_)
     refine ops_store (an := []) (evs := [sr b107 0 (vI x94), sr b107 1 (.string x95), sr b107 2 (.string x96), sr b107 3 (.string x97), sr b107 4 (vI 0), sr b107 5 (.string ByteArray.empty), sr b107 6 (vI x98), sr b107 7 (vI x99), sr b107 8 (.string ByteArray.empty), sr b107 9 (sl A103 x100 c104)]) ⟨by kernel_rfl⟩ (fun w_ hM hS => let ⟨w', he, h'⟩ := hM.evs_stores [vI x94, .string x95, .string x96, .string x97, vI 0, .string ByteArray.empty, vI x98, vI x99, .string ByteArray.empty, sl A103 x100 c104] 0 rfl 0 (Nat.le_of_ble_eq_true rfl); ⟨w', he, h', trivial⟩) ?_
     refine oQ [oF 8] [(15, .bool x101), (14, vP b107 0), (13, vP b93 0), (0, sl A66 l68 c67), (7, sl A36 x33 c37), (8, vI x34), (11, sl A70 l72 c71), (46, sl A_l l c_l), (47, vI (l.length : Int)), (48, vI i75)] (by kernel_rfl) ?_
     refine ops_nil (fin_then (st_seq (st_seq (st_region [oF 0, oF 1] (by rfl) ?_))))
     refine oQ [oF 0, oF 1] [(59, .bool (!x101)), (14, vP b107 0), (13, vP b93 0), (0, sl A66 l68 c67), (7, sl A36 x33 c37), (8, vI x34), (11, sl A70 l72 c71), (46, sl A_l l c_l), (47, vI (l.length : Int)), (48, vI i75)] (by kernel_rfl) ?_
     refine ops_nil (fin_then ?_)
     refine st_if (b := !x101) rfl (fun hc108 => ?_) (fun hc108 => ?_)
     ·
      have hp := cnd_t hc108 hp
      refine st_join1 (σ := Bool) (L := fun x_ => match x_ with | t109 => [(4, .bool t109)]) (N := fun x_ => match x_ with | t109 => Mem w0 (Fz F76 W77 :: cs)) (I := fun x_ => match x_ with | t109 => (tourlaw3_MigrateBack_j5 t109 = some o4)) ?_ ?_
      ·
       rintro t109 hp
       unfold tourlaw3_MigrateBack_j5 at hp
       refine st_ret (fin_ret_then (fin_ret_block (fin_ret_then (fin_ret_then (fin_ret_block (fin_ret_then ?_))))))
       obtain hq_ := Option.some.inj hp
       subst hq_
       obtain hq_ := hd4 _ rfl
       subst hq_
       have hp : some t109 = some t9001 := hk4
       have hq_ := Option.some.inj hp
       have hr0_ := hq_
       subst hr0_
       refine fin_ret [.tmp 4] [.bool t109] rfl rfl (fun w_ hM => (.tmp rfl .nil)) (fun w_ hM => ?_)
       exact ⟨F76, W77, ((((((h8.trans hx16).trans hx20).trans h31).trans h42).trans h51).trans hx4), rfl, hM⟩
      ·
       intro HJ5
       refine st_seq (st_region [oF 0, oF 1, oF 2, oF 3, oF 4, oF 5, oF 6, oF 7] (by rfl) ?_)
       refine oQ [oF 0, oF 1, oF 2] [(62, .bool (x34 == 4)), (7, sl A36 x33 c37)] (by kernel_rfl) ?_
       refine ops_bool (t := (x34 == 4)) (l1 := [(62, .bool true), (7, sl A36 x33 c37)]) (l2 := [(62, .bool false), (7, sl A36 x33 c37)]) (fun h => by rw [h]) (fun h => by rw [h]) (fun hc110 => ?_) (fun hc110 => ?_)
       ·
        have hp := cnd_t hc110 hp
        refine oQ [oF 3, oF 4, oF 5, oF 6, oF 7] [(4, .bool ((x33.length : Int) == 0))] (by kernel_rfl) ?_
        refine ops_nil ?_
        exact fin_join HJ5 ((x33.length : Int) == 0) hp (look_has ⟨rfl, trivial⟩) (fun w_ hM => hM.pick 6 [5] (by kernel_rfl) (by decide) rfl)
       ·
        have hp := cnd_f hc110 hp
        refine oQ [oF 3, oF 4, oF 5, oF 6, oF 7] [(4, .bool false)] (by kernel_rfl) ?_
        refine ops_nil ?_
        exact fin_join HJ5 false hp (look_has ⟨rfl, trivial⟩) (fun w_ hM => hM.pick 6 [5] (by kernel_rfl) (by decide) rfl)
     ·
      have hp := cnd_f hc108 hp
      refine st_skip (fin_then (st_seq (st_region [oF 0, oF 1, oF 2, oF 3, oF 4] (by rfl) ?_)))
      refine ops_mem (d := some 67) (an := [.v (vI x94), .v (.string x95), .v (.string x96), .v (.string x97), .v (vI 0), .v (.string ByteArray.empty), .v (vI x98), .v (vI x99), .v (.string ByteArray.empty), .v (sl A103 x100 c104)]) (evs := [ld b107 0 (vI x94), ld b107 1 (.string x95), ld b107 2 (.string x96), ld b107 3 (.string x97), ld b107 4 (vI 0), ld b107 5 (.string ByteArray.empty), ld b107 6 (vI x98), ld b107 7 (vI x99), ld b107 8 (.string ByteArray.empty), ld b107 9 (sl A103 x100 c104)]) (v := .agg #[vI x94, .string x95, .string x96, .string x97, vI 0, .string ByteArray.empty, vI x98, vI x99, .string ByteArray.empty, sl A103 x100 c104]) ⟨by kernel_rfl⟩ (fun w_ hM hS => ⟨w_, ⟨hM.cell 0 rfl rfl, hM.cell 0 rfl rfl, hM.cell 0 rfl rfl, hM.cell 0 rfl rfl, hM.cell 0 rfl rfl, hM.cell 0 rfl rfl, hM.cell 0 rfl rfl, hM.cell 0 rfl rfl, hM.cell 0 rfl rfl, hM.cell 0 rfl rfl, rfl⟩, hM, trivial⟩) ?_
      refine ops_ex (σ := (Nat → Prop) × World) (I := fun x_ => Ext w0 F76 W77 x_.1 x_.2 ∧ RdS R_api_Field x_.1 x_.2 A103 c104 x100) (M' := fun x_ => Mem w0 (.blk b107 [vI x94, .string x95, .string x96, .string x97, vI 0, .string ByteArray.empty, vI x98, vI x99, .string ByteArray.empty, sl A103 x100 c104] 37 :: .blk b93 [vI x79.Do, .string x79.Kind, .string x79.Field, .string x79.Name, vI x79.Value, .string x79.New.Name, vI x79.New.Bits, vI x79.New.Low, .string x79.Whole.Name, sl A90 x79.Whole.Fields c91] 37 :: ow A36 x33 c37 37 10 y38 :: ow A70 l72 c71 37 10 y73 :: Fz x_.1 x_.2 :: cs)) (fun w_ hM => ?_) ?_
      · obtain ⟨F_, h1_, h2_, h3_⟩ := (hM.pick 6 [1, 5, 0, 2, 3, 4] (by kernel_rfl) (by decide) rfl : Mem w0 (ow A103 x100 c104 32 3 y105 :: Fz F76 W77 :: .blk b107 [vI x94, .string x95, .string x96, .string x97, vI 0, .string ByteArray.empty, vI x98, vI x99, .string ByteArray.empty, sl A103 x100 c104] 37 :: .blk b93 [vI x79.Do, .string x79.Kind, .string x79.Field, .string x79.Name, vI x79.Value, .string x79.New.Name, vI x79.New.Bits, vI x79.New.Low, .string x79.Whole.Name, sl A90 x79.Whole.Fields c91] 37 :: ow A36 x33 c37 37 10 y38 :: ow A70 l72 c71 37 10 y73 :: cs) w_).freeze (z := 3) h106 rfl rfl
        exact ⟨(F_, w_), ⟨h1_, h2_⟩, h3_.pick 5 [1, 2, 3, 4, 0] (by kernel_rfl) (by decide) rfl⟩
      rintro ⟨F111, W112⟩ ⟨hx113, h114⟩
      have hx113 : Ext w0 F76 W77 F111 W112 := hx113
      have h114 : RdS R_api_Field F111 W112 A103 c104 x100 := h114
      have h69 := h69.ext hx113
      have h_l := h_l.ext hx113
      have h92 := h92.ext hx113
      have h41 := h41.ext hx113
      have h74 := h74.ext hx113
      have h115 : RepL R_migrate_Move F111 W112 ([(migrate_Move.mk x94 x95 x96 x97 0 (api_Field.mk ByteArray.empty x98 x99) (api_Kind.mk ByteArray.empty x100))] : List migrate_Move) ([vI x94, .string x95, .string x96, .string x97, vI 0, .string ByteArray.empty, vI x98, vI x99, .string ByteArray.empty, sl A103 x100 c104]) := (RepL.cons (R := R_migrate_Move) (F := F111) (w := W112) (vs := [vI x94, .string x95, .string x96, .string x97, vI 0, .string ByteArray.empty, vI x98, vI x99, .string ByteArray.empty, sl A103 x100 c104]) (ys := []) (enc_migrate_Move h114) RepL.nil)
      refine ops_new (d := some 68) (o := .cells ([vI x94, .string x95, .string x96, .string x97, vI 0, .string ByteArray.empty, vI x98, vI x99, .string ByteArray.empty, sl A103 x100 c104]).toArray 37) (v := fun g116 => .slice (sa g116) ([(migrate_Move.mk x94 x95 x96 x97 0 (api_Field.mk ByteArray.empty x98 x99) (api_Kind.mk ByteArray.empty x100))] : List migrate_Move).length 1) (M' := fun g116 => Mem w0 (orow (sa g116) ([(migrate_Move.mk x94 x95 x96 x97 0 (api_Field.mk ByteArray.empty x98 x99) (api_Kind.mk ByteArray.empty x100))] : List migrate_Move).length 1 37 10 ([vI x94, .string x95, .string x96, .string x97, vI 0, .string ByteArray.empty, vI x98, vI x99, .string ByteArray.empty, sl A103 x100 c104]) :: .blk b107 [vI x94, .string x95, .string x96, .string x97, vI 0, .string ByteArray.empty, vI x98, vI x99, .string ByteArray.empty, sl A103 x100 c104] 37 :: .blk b93 [vI x79.Do, .string x79.Kind, .string x79.Field, .string x79.Name, vI x79.Value, .string x79.New.Name, vI x79.New.Bits, vI x79.New.Low, .string x79.Whole.Name, sl A90 x79.Whole.Fields c91] 37 :: ow A36 x33 c37 37 10 y38 :: ow A70 l72 c71 37 10 y73 :: Fz F111 W112 :: cs)) (fun g116 => ⟨by kernel_rfl⟩) (fun w_ hM hS => ⟨hM.onew [vI x94, .string x95, .string x96, .string x97, vI 0, .string ByteArray.empty, vI x98, vI x99, .string ByteArray.empty, sl A103 x100 c104] 37 1 10 rfl (by decide), trivial⟩) (fun g116 => ?_)
      refine oQ [oF 2] [(69, sl A70 l72 c71), (68, .slice (sa g116) ([(migrate_Move.mk x94 x95 x96 x97 0 (api_Field.mk ByteArray.empty x98 x99) (api_Kind.mk ByteArray.empty x100))] : List migrate_Move).length 1), (13, vP b93 0), (0, sl A66 l68 c67), (7, sl A36 x33 c37), (8, vI x34), (11, sl A70 l72 c71), (46, sl A_l l c_l), (47, vI (l.length : Int)), (48, vI i75)] (by kernel_rfl) ?_
      obtain ⟨l117, hv118, hp⟩ := obind hp
      obtain ⟨he119, hb120⟩ := app_some hv118
      obtain ⟨y121, hy122⟩ : ∃ y_, ([vI x94, .string x95, .string x96, .string x97, vI 0, .string ByteArray.empty, vI x98, vI x99, .string ByteArray.empty, sl A103 x100 c104]) ++ y73 = y_ := ⟨_, rfl⟩
      have h123 : RepL R_migrate_Move F111 W112 l117 y121 := by rw [he119, ← hy122]; exact RepL.app h115 h74
      refine ops_appendO (x := (Go.Operand.tmp 68)) (y := (Go.Operand.tmp 69)) (t := 23) (e := 37) (d := some 70) (n' := l117.length) (z := 10) (m := l72.length) (bytes := 136) (xs' := y121) (news := y73) (zv := .agg #[vI 0, .string ByteArray.empty, .string ByteArray.empty, .string ByteArray.empty, vI 0, .string ByteArray.empty, vI 0, vI 0, .string ByteArray.empty, .slice none 0 0]) 0 ⟨by kernel_rfl⟩ rfl rfl Tryd.underlying23 (by kernel_rfl) (by rfl) rfl (fun w_ hM => hM.srcO 4 rfl) h74.len h74.one hb120 (by have z_ := congrArg List.length he119; rw [List.length_append] at z_; exact z_.symm) hy122 (fun _ _ _ _ hS h' => trivial) ?_
      rintro ⟨A124, c125⟩
      refine oQ [oF 4] [(11, sl A124 l117 c125), (13, vP b93 0), (0, sl A66 l68 c67), (7, sl A36 x33 c37), (8, vI x34), (46, sl A_l l c_l), (47, vI (l.length : Int)), (48, vI i75)] (by kernel_rfl) ?_
      refine ops_nil (fin_then (st_region [oF 0, oF 1, oF 2, oF 3, oF 4, oF 5, oF 6] (by rfl) ?_))
      refine oQ [oF 0] [(72, sl A66 l68 c67), (11, sl A124 l117 c125), (13, vP b93 0), (0, sl A66 l68 c67), (7, sl A36 x33 c37), (8, vI x34), (46, sl A_l l c_l), (47, vI (l.length : Int)), (48, vI i75)] (by kernel_rfl) ?_
      refine ops_mem (d := some 73) (an := [.v (vI x79.Do), .v (.string x79.Kind), .v (.string x79.Field), .v (.string x79.Name), .v (vI x79.Value), .v (.string x79.New.Name), .v (vI x79.New.Bits), .v (vI x79.New.Low), .v (.string x79.Whole.Name), .v (sl A90 x79.Whole.Fields c91)]) (evs := [ld b93 0 (vI x79.Do), ld b93 1 (.string x79.Kind), ld b93 2 (.string x79.Field), ld b93 3 (.string x79.Name), ld b93 4 (vI x79.Value), ld b93 5 (.string x79.New.Name), ld b93 6 (vI x79.New.Bits), ld b93 7 (vI x79.New.Low), ld b93 8 (.string x79.Whole.Name), ld b93 9 (sl A90 x79.Whole.Fields c91)]) (v := .agg #[vI x79.Do, .string x79.Kind, .string x79.Field, .string x79.Name, vI x79.Value, .string x79.New.Name, vI x79.New.Bits, vI x79.New.Low, .string x79.Whole.Name, sl A90 x79.Whole.Fields c91]) ⟨by kernel_rfl⟩ (fun w_ hM hS => ⟨w_, ⟨hM.cell 2 rfl rfl, hM.cell 2 rfl rfl, hM.cell 2 rfl rfl, hM.cell 2 rfl rfl, hM.cell 2 rfl rfl, hM.cell 2 rfl rfl, hM.cell 2 rfl rfl, hM.cell 2 rfl rfl, hM.cell 2 rfl rfl, hM.cell 2 rfl rfl, rfl⟩, hM, trivial⟩) ?_
      obtain ⟨x126, x127, hv128, hp⟩ := obind2 hp
      refine ops_callI (σ := (Option Addr) × Nat × (List Value) × (Nat → Prop) × World) (d := some 74) (f := 13) (args := #[sl A66 l68 c67, .agg #[vI x79.Do, .string x79.Kind, .string x79.Field, .string x79.Name, vI x79.Value, .string x79.New.Name, vI x79.New.Bits, vI x79.New.Low, .string x79.Whole.Name, sl A90 x79.Whole.Fields c91]]) (v := (fun x_ => match x_ with | (A129, c130, y131, F132, W133) => .tuple #[sl A129 x126 c130, vI x127])) (I := (fun x_ => match x_ with | (A129, c130, y131, F132, W133) => (RepL R_api_Kind F132 W133 x126 y131) ∧ (Ext w0 F111 W112 F132 W133))) (M' := (fun x_ => match x_ with | (A129, c130, y131, F132, W133) => Mem w0 (ow A129 x126 c130 35 2 y131 :: ow A124 l117 c125 37 10 y121 :: .blk b107 [vI x94, .string x95, .string x96, .string x97, vI 0, .string ByteArray.empty, vI x98, vI x99, .string ByteArray.empty, sl A103 x100 c104] 37 :: .blk b93 [vI x79.Do, .string x79.Kind, .string x79.Field, .string x79.Name, vI x79.Value, .string x79.New.Name, vI x79.New.Bits, vI x79.New.Low, .string x79.Whole.Name, sl A90 x79.Whole.Fields c91] 37 :: ow A36 x33 c37 37 10 y38 :: ow A70 l72 c71 37 10 y73 :: Fz F132 W133 :: cs))) ⟨by kernel_rfl⟩ (fun w_ hM hS => (tourref3_KindsAfter_ok w0 w_ (ow A124 l117 c125 37 10 y121 :: .blk b107 [vI x94, .string x95, .string x96, .string x97, vI 0, .string ByteArray.empty, vI x98, vI x99, .string ByteArray.empty, sl A103 x100 c104] 37 :: .blk b93 [vI x79.Do, .string x79.Kind, .string x79.Field, .string x79.Name, vI x79.Value, .string x79.New.Name, vI x79.New.Bits, vI x79.New.Low, .string x79.Whole.Name, sl A90 x79.Whole.Fields c91] 37 :: ow A36 x33 c37 37 10 y38 :: ow A70 l72 c71 37 10 y73 :: cs) F111 W112 A66 c67 l68 x79.Do x79.Kind x79.Field x79.Name x79.Value x79.New.Name x79.New.Bits x79.New.Low x79.Whole.Name A90 c91 x79.Whole.Fields (hM.pick 6 [5, 0, 1, 2, 3, 4] (by kernel_rfl) (by decide) rfl) h69 h92 x126 x127 hv128).mono (by rintro e w' ⟨A129, c130, y131, F132, W133, ⟨h134, h135⟩, rfl, h'⟩; have h' : Mem w0 (ow A129 x126 c130 35 2 y131 :: ow A124 l117 c125 37 10 y121 :: .blk b107 [vI x94, .string x95, .string x96, .string x97, vI 0, .string ByteArray.empty, vI x98, vI x99, .string ByteArray.empty, sl A103 x100 c104] 37 :: .blk b93 [vI x79.Do, .string x79.Kind, .string x79.Field, .string x79.Name, vI x79.Value, .string x79.New.Name, vI x79.New.Bits, vI x79.New.Low, .string x79.Whole.Name, sl A90 x79.Whole.Fields c91] 37 :: ow A36 x33 c37 37 10 y38 :: ow A70 l72 c71 37 10 y73 :: Fz F132 W133 :: cs) w' := (h'.pick 7 [0, 2, 3, 4, 5, 6, 1] (by kernel_rfl) (by decide) rfl); exact ⟨(A129, c130, y131, F132, W133), ⟨h134, h135⟩, rfl, h', trivial⟩)) ?_
      rintro ⟨A129, c130, y131, F132, W133⟩ ⟨h134, h135⟩
      have h92 := h92.ext h135
      have h69 := h69.ext h135
      have h_l := h_l.ext h135
      have h123 := h123.ext h135
      have h114 := h114.ext h135
      have h41 := h41.ext h135
      have h74 := h74.ext h135
      refine oQ [oF 3, oF 4, oF 5, oF 6] [(0, sl A129 x126 c130), (11, sl A124 l117 c125), (7, sl A36 x33 c37), (8, vI x34), (46, sl A_l l c_l), (47, vI (l.length : Int)), (48, vI i75)] (by kernel_rfl) ?_
      refine ops_nil (fin_block (fin_then (st_region [oF 0, oF 1] (by rfl) ?_)))
      refine oQ [oF 0, oF 1] [(48, vI (IntKind.i64.wrap (i75 + 1))), (0, sl A129 x126 c130), (11, sl A124 l117 c125), (7, sl A36 x33 c37), (8, vI x34), (46, sl A_l l c_l), (47, vI (l.length : Int))] (by kernel_rfl) ?_
      refine ops_nil ?_
      refine fin_ex (σ := (Nat → Prop) × World) (I := fun x_ => Ext w0 F132 W133 x_.1 x_.2 ∧ RdS R_api_Kind x_.1 x_.2 A129 c130 x126) (M' := fun x_ => Mem w0 (ow A124 l117 c125 37 10 y121 :: .blk b107 [vI x94, .string x95, .string x96, .string x97, vI 0, .string ByteArray.empty, vI x98, vI x99, .string ByteArray.empty, sl A103 x100 c104] 37 :: .blk b93 [vI x79.Do, .string x79.Kind, .string x79.Field, .string x79.Name, vI x79.Value, .string x79.New.Name, vI x79.New.Bits, vI x79.New.Low, .string x79.Whole.Name, sl A90 x79.Whole.Fields c91] 37 :: ow A36 x33 c37 37 10 y38 :: ow A70 l72 c71 37 10 y73 :: Fz x_.1 x_.2 :: cs)) (fun w_ hM => ?_) ?_
      · obtain ⟨F_, h1_, h2_, h3_⟩ := (hM.pick 7 [0, 6, 1, 2, 3, 4, 5] (by kernel_rfl) (by decide) rfl : Mem w0 (ow A129 x126 c130 35 2 y131 :: Fz F132 W133 :: ow A124 l117 c125 37 10 y121 :: .blk b107 [vI x94, .string x95, .string x96, .string x97, vI 0, .string ByteArray.empty, vI x98, vI x99, .string ByteArray.empty, sl A103 x100 c104] 37 :: .blk b93 [vI x79.Do, .string x79.Kind, .string x79.Field, .string x79.Name, vI x79.Value, .string x79.New.Name, vI x79.New.Bits, vI x79.New.Low, .string x79.Whole.Name, sl A90 x79.Whole.Fields c91] 37 :: ow A36 x33 c37 37 10 y38 :: ow A70 l72 c71 37 10 y73 :: cs) w_).freeze (z := 2) h134 rfl rfl
        exact ⟨(F_, w_), ⟨h1_, h2_⟩, h3_.pick 6 [1, 2, 3, 4, 5, 0] (by kernel_rfl) (by decide) rfl⟩
      rintro ⟨F136, W137⟩ ⟨hx138, h139⟩
      have hx138 : Ext w0 F132 W133 F136 W137 := hx138
      have h139 : RdS R_api_Kind F136 W137 A129 c130 x126 := h139
      have h_l := h_l.ext hx138
      have h123 := h123.ext hx138
      have h114 := h114.ext hx138
      have h92 := h92.ext hx138
      have h41 := h41.ext hx138
      have h74 := h74.ext hx138
      refine fin_conv (l' := [(48, vI (IntKind.i64.wrap (i75 + 1))), (0, sl A129 x126 c130), (11, sl A124 l117 c125), (7, sl A36 x33 c37), (8, vI x34), (46, sl A_l l c_l), (47, vI (l.length : Int))]) (M' := Mem w0 (ow A124 l117 c125 37 10 y121 :: .blk b107 [vI x94, .string x95, .string x96, .string x97, vI 0, .string ByteArray.empty, vI x98, vI x99, .string ByteArray.empty, sl A103 x100 c104] 37 :: .blk b93 [vI x79.Do, .string x79.Kind, .string x79.Field, .string x79.Name, vI x79.Value, .string x79.New.Name, vI x79.New.Bits, vI x79.New.Low, .string x79.Whole.Name, sl A90 x79.Whole.Fields c91] 37 :: ow A36 x33 c37 37 10 y38 :: ow A70 l72 c71 37 10 y73 :: Fz F136 W137 :: cs)) rfl (fun _ h => h) ?_
      refine fin_conv (l' := [(48, vI (IntKind.i64.wrap (i75 + 1))), (0, sl A129 x126 c130), (11, sl A124 l117 c125), (7, sl A36 x33 c37), (8, vI x34), (46, sl A_l l c_l), (47, vI (l.length : Int))]) (M' := Mem w0 (ow A124 l117 c125 37 10 y121 :: .blk b107 [vI x94, .string x95, .string x96, .string x97, vI 0, .string ByteArray.empty, vI x98, vI x99, .string ByteArray.empty, sl A103 x100 c104] 37 :: .blk b93 [vI x79.Do, .string x79.Kind, .string x79.Field, .string x79.Name, vI x79.Value, .string x79.New.Name, vI x79.New.Bits, vI x79.New.Low, .string x79.Whole.Name, sl A90 x79.Whole.Fields c91] 37 :: ow A36 x33 c37 37 10 y38 :: ow A70 l72 c71 37 10 y73 :: Fz F136 W137 :: cs)) rfl (fun _ h => h) ?_
      exact fin_again (x126, l117, IntKind.i64.wrap (i75 + 1)) (A129, c130, A124, c125, y121, F136, W137) (Option.some.inj hp).symm ⟨h139, h123, (((hx4.trans hx113).trans h135).trans hx138)⟩ (look_has ⟨rfl, rfl, rfl, rfl, rfl, rfl, rfl, trivial⟩) (fun w_ hM => hM.pick 6 [3, 0, 5] (by kernel_rfl) (by decide) rfl)
    ·
     have hp := cnd_f hc78 hp
     refine st_exit (fin_exit_then (fin_exit_then (fin_exit ?_)))
     obtain hq_ := Option.some.inj hp
     subst hq_
     obtain hq_ := hd4 _ rfl
     subst hq_
     have hp : (tourlaw3_MigrateBack_j2 x34 x33) l72 = some t9001 := hk4
     exact fin_join HJ2 (A70, c71, l72, y73, F76, W77) ⟨hp, h74, hx4⟩ (look_has ⟨rfl, rfl, rfl, trivial⟩) (fun w_ hM => hM)
end Go.Proofs.YtnnhijlgohlaeaaDoor.A
