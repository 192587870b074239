/- The Go functions come to what the plain functions tell. No condition. -/
import Derived.Test.YtnnhijlgohlaeaaDoorProg
import Derived.Test.YtnnhijlgohlaeaaDoorFnA
import Derived.Test.YtnnhijlgohlaeaaDoorWkA3
import Derived.Test.YtnnhijlgohlaeaaDoorExOwnM
namespace Go.Proofs.YtnnhijlgohlaeaaDoor.A
open Go Go.RowKit Go.Proofs.YtnnhijlgohlaeaaDoor.Sx
set_option linter.unusedVariables false
set_option maxHeartbeats 4000000
set_option maxRecDepth 100000
theorem kind_Field_ok (w0 w : World) (cs : List Chunk) (F : Nat → Prop) (W : World) (k_0 : ByteArray) (A_k_1 : Option Addr) (c_k_1 : Nat) (k_1 : List api_Field) (name : ByteArray) (hM0 : Mem w0 (Fz F W :: cs) w) (h_k_1 : RdS R_api_Field F W A_k_1 c_k_1 k_1) (i9001 : Int) (hp : kind_Field k_0 k_1 name = some i9001) : Calls Tryd.prog 106 #[.agg #[.string k_0, sl A_k_1 k_1 c_k_1], .string name] w fun e w' => (True) ∧ e = .returned (vI i9001) ∧ Mem w0 (Fz F W :: cs) w' := by
 unfold kind_Field at hp
 refine sx_calls Tryd.func106 rfl (n := 21) (by kernel_rfl) (l := [(0, .agg #[.string k_0, sl A_k_1 k_1 c_k_1]), (1, .string name)]) rfl (by rfl) hM0 ?_
 refine st_seq (st_region [oF 0, oF 1] (by rfl) ?_)
 refine ops_newB (d := some 2) [.string k_0, sl A_k_1 k_1 c_k_1] 35 (fun b1 => ⟨by kernel_rfl⟩) (fun w_ hM hS => trivial) (fun b1 => ?_)
 refine oQ [oF 1] [(2, vP b1 0), (1, .string name)] (by kernel_rfl) ?_
 refine ops_nil (fin_then ?_)
 refine st_join1 (σ := Unit) (L := fun _ => []) (N := fun _ => Mem w0 (Fz F W :: cs)) (I := fun _ => (kind_Field_j1 = some i9001)) ?_ ?_
 ·
  rintro _ hp
  unfold kind_Field_j1 at hp
  refine st_seq (st_region [oF 0] (by rfl) ?_)
  refine oQ [oF 0] [(4, vI (-1))] (by kernel_rfl) ?_
  refine ops_nil (fin_then (st_ret ?_))
  have hq_ := Option.some.inj hp
  have hr0_ := hq_
  subst hr0_
  refine fin_ret [.tmp 4] [vI (-1)] rfl rfl (fun w_ hM => (.tmp rfl .nil)) (fun w_ hM => ?_)
  exact ⟨trivial, rfl, hM⟩
 ·
  intro HJ1
  refine st_seq (st_seq (st_region [oF 0, oF 1, oF 2, oF 3] (by rfl) ?_))
  refine oQ [oF 0] [(7, vP b1 1), (1, .string name)] (by kernel_rfl) ?_
  refine ops_mem (d := some 8) (an := [.v (sl A_k_1 k_1 c_k_1)]) (evs := [ld b1 1 (sl A_k_1 k_1 c_k_1)]) (v := sl A_k_1 k_1 c_k_1) ⟨by kernel_rfl⟩ (fun w_ hM hS => ⟨w_, ⟨hM.cell 0 rfl rfl, rfl⟩, hM, trivial⟩) ?_
  refine oQ [oF 2, oF 3] [(10, vI 0), (9, vI (k_1.length : Int)), (8, sl A_k_1 k_1 c_k_1), (1, .string name)] (by kernel_rfl) ?_
  refine ops_nil (fin_then (st_block ?_))
  obtain ⟨r2, hl2, hk2⟩ := obind hp
  refine st_loopP (σ := Int) (ρ := (Int ⊕ Unit)) (γ := Unit) hl2 () (fun s_ g_ => match s_, g_ with | i2, _ => [(1, .string name), (8, sl A_k_1 k_1 c_k_1), (9, vI (k_1.length : Int)), (10, vI i2)]) (fun s_ g_ => match s_, g_ with | i2, _ => Mem w0 (Fz F W :: cs)) (fun s_ g_ => match s_, g_ with | i2, _ => True) trivial (look_has ⟨rfl, rfl, rfl, rfl, trivial⟩) (fun w_ hM => hM.pick 2 [1] (by kernel_rfl) (by decide) rfl) ?_
  rintro i2 _ o2 - hs_ hd2
  have hp : (kind_Field_l2 k_1 name) i2 = some o2 := hs_
  clear hs_
  unfold kind_Field_l2 at hp
  refine st_seq (st_region [oF 0] (by rfl) ?_)
  refine oQ [oF 0] [(11, .bool (decide (i2 < (k_1.length : Int)))), (1, .string name), (8, sl A_k_1 k_1 c_k_1), (9, vI (k_1.length : Int)), (10, vI i2)] (by kernel_rfl) ?_
  refine ops_nil (fin_then (st_seq ?_))
  refine st_if (b := decide (i2 < (k_1.length : Int))) rfl (fun hc3 => ?_) (fun hc3 => ?_)
  ·
   have hp := cnd_t hc3 hp
   refine st_skip (fin_then (st_seq (st_block (st_seq (st_region [oF 0, oF 1, oF 2, oF 3, oF 4, oF 5] (by rfl) ?_)))))
   refine oQ [oF 0] [(12, vI i2), (1, .string name), (8, sl A_k_1 k_1 c_k_1), (9, vI (k_1.length : Int)), (10, vI i2)] (by kernel_rfl) ?_
   obtain ⟨x4, hv5, hp⟩ := obind hp
   obtain ⟨m6, hm7, hx8⟩ := idx_some hv5
   have hl11 := (List.getElem?_eq_some_iff.1 hx8).1
   obtain ⟨ad12, vs9, hA13, hr10, hq14⟩ := RdS.el h_k_1 hx8
   obtain rfl := dec_api_Field hr10
   refine ops_val (op := (.indexAddr 33 (.tmp 8) (.tmp 10))) (d := some 13) (v := .pointer (some (ad12.add (m6 * 3)))) ⟨by kernel_rfl⟩ (run_indexA hA13 Tryd.underlying33 (z := 3) (by kernel_rfl) rfl rfl hm7 hl11) ?_
   refine ops_mem (d := some 14) (an := [.v (.string x4.Name), .v (vI x4.Bits), .v (vI x4.Low)]) (evs := [.load (ad12.add (m6 * 3)) (.string x4.Name), .load ((ad12.add (m6 * 3)).add 1) (vI x4.Bits), .load ((ad12.add (m6 * 3)).add 2) (vI x4.Low)]) (v := .agg #[.string x4.Name, vI x4.Bits, vI x4.Low]) ⟨by kernel_rfl⟩ (fun w_ hM hS => ⟨w_, ⟨hM.elcell 0 rfl hq14 0 rfl, hM.elcell 0 rfl hq14 1 rfl, hM.elcell 0 rfl hq14 2 rfl, rfl⟩, hM, trivial⟩) ?_
   refine ops_newB (d := some 6) [.string ByteArray.empty, vI 0, vI 0] 32 (fun b15 => ⟨by kernel_rfl⟩) (fun w_ hM hS => trivial) (fun b15 => ?_)
   refine oQ [oF 4] [(5, vI i2), (6, vP b15 0), (14, .agg #[.string x4.Name, vI x4.Bits, vI x4.Low]), (1, .string name), (8, sl A_k_1 k_1 c_k_1), (9, vI (k_1.length : Int)), (10, vI i2)] (by kernel_rfl) ?_
   refine ops_store (an := []) (evs := [sr b15 0 (.string x4.Name), sr b15 1 (vI x4.Bits), sr b15 2 (vI x4.Low)]) ⟨by kernel_rfl⟩ (fun w_ hM hS => let ⟨w', he, h'⟩ := hM.evs_stores [.string x4.Name, vI x4.Bits, vI x4.Low] 0 rfl 0 (Nat.le_of_ble_eq_true rfl); ⟨w', he, h', trivial⟩) ?_
   refine ops_nil (fin_then (st_seq (st_region [oF 0, oF 1, oF 2, oF 3] (by rfl) ?_)))
   refine oQ [oF 0] [(15, vP b15 0), (5, vI i2), (1, .string name), (8, sl A_k_1 k_1 c_k_1), (9, vI (k_1.length : Int)), (10, vI i2)] (by kernel_rfl) ?_
   refine ops_mem (d := some 16) (an := [.v (.string x4.Name)]) (evs := [ld b15 0 (.string x4.Name)]) (v := .string x4.Name) ⟨by kernel_rfl⟩ (fun w_ hM hS => ⟨w_, ⟨hM.cell 0 rfl rfl, rfl⟩, hM, trivial⟩) ?_
   refine oQ [oF 2, oF 3] [(18, .bool (x4.Name.toList == name.toList)), (5, vI i2), (1, .string name), (8, sl A_k_1 k_1 c_k_1), (9, vI (k_1.length : Int)), (10, vI i2)] (by kernel_rfl) ?_
   refine ops_nil (fin_then ?_)
   refine st_if (b := (x4.Name.toList == name.toList)) rfl (fun hc16 => ?_) (fun hc16 => ?_)
   ·
    have hp := cnd_t hc16 hp
    refine st_seq (st_region [oF 0, oF 1] (by rfl) ?_)
    refine oQ [oF 0, oF 1] [(4, vI i2)] (by kernel_rfl) ?_
    refine ops_nil (fin_then (st_ret (fin_ret_block (fin_ret_then (fin_ret_then (fin_ret_block (fin_ret_then ?_)))))))
    obtain hq_ := Option.some.inj hp
    subst hq_
    obtain hq_ := hd2 _ rfl
    subst hq_
    have hp : some i2 = some i9001 := hk2
    have hq_ := Option.some.inj hp
    have hr0_ := hq_
    subst hr0_
    refine fin_ret [.tmp 4] [vI i2] rfl rfl (fun w_ hM => (.tmp rfl .nil)) (fun w_ hM => ?_)
    exact ⟨trivial, rfl, hM.pick 2 [1] (by kernel_rfl) (by decide) rfl⟩
   ·
    have hp := cnd_f hc16 hp
    refine st_skip (fin_block (fin_then (st_region [oF 0, oF 1] (by rfl) ?_)))
    refine oQ [oF 0, oF 1] [(10, vI (IntKind.i64.wrap (i2 + 1))), (1, .string name), (8, sl A_k_1 k_1 c_k_1), (9, vI (k_1.length : Int))] (by kernel_rfl) ?_
    refine ops_nil ?_
    exact fin_again (IntKind.i64.wrap (i2 + 1)) () (Option.some.inj hp).symm trivial (look_has ⟨rfl, rfl, rfl, rfl, trivial⟩) (fun w_ hM => hM.pick 2 [1] (by kernel_rfl) (by decide) rfl)
  ·
   have hp := cnd_f hc3 hp
   refine st_exit (fin_exit_then (fin_exit_then (fin_exit ?_)))
   obtain hq_ := Option.some.inj hp
   subst hq_
   obtain hq_ := hd2 _ rfl
   subst hq_
   have hp : kind_Field_j1 = some i9001 := hk2
   exact fin_join HJ1 () hp (look_has trivial) (fun w_ hM => hM)
theorem migrate_place_ok (w0 w : World) (cs : List Chunk) (F : Nat → Prop) (W : World) (A_k : Option Addr) (c_k : Nat) (k : List api_Kind) (m_0 : Int) (m_1 : ByteArray) (m_2 : ByteArray) (m_3 : ByteArray) (m_4 : Int) (m_5 : ByteArray) (m_6 : Int) (m_7 : Int) (m_8 : ByteArray) (A_m_9 : Option Addr) (c_m_9 : Nat) (m_9 : List api_Field) (hM0 : Mem w0 (Fz F W :: cs) w) (h_k : RdS R_api_Kind F W A_k c_k k) (h_m_9 : RdS R_api_Field F W A_m_9 c_m_9 m_9) (i9001 : Int) (i9002 : Int) (i9003 : Int) (hp : migrate_place k m_0 m_1 m_2 m_3 m_4 m_5 m_6 m_7 m_8 m_9 = some (i9001, i9002, i9003)) : Calls Tryd.prog 55 #[sl A_k k c_k, .agg #[vI m_0, .string m_1, .string m_2, .string m_3, vI m_4, .string m_5, vI m_6, vI m_7, .string m_8, sl A_m_9 m_9 c_m_9]] w fun e w' => (True) ∧ e = .returned (.tuple #[vI i9001, vI i9002, vI i9003]) ∧ Mem w0 (Fz F W :: cs) w' := by
 unfold migrate_place at hp
 refine sx_calls Tryd.func55 rfl (n := 41) (by kernel_rfl) (l := [(0, sl A_k k c_k), (1, .agg #[vI m_0, .string m_1, .string m_2, .string m_3, vI m_4, .string m_5, vI m_6, vI m_7, .string m_8, sl A_m_9 m_9 c_m_9])]) rfl (by rfl) hM0 ?_
 refine st_seq (st_region [oF 0, oF 1, oF 2, oF 3] (by rfl) ?_)
 refine ops_newB (d := some 3) [vI m_0, .string m_1, .string m_2, .string m_3, vI m_4, .string m_5, vI m_6, vI m_7, .string m_8, sl A_m_9 m_9 c_m_9] 37 (fun b1 => ⟨by kernel_rfl⟩) (fun w_ hM hS => trivial) (fun b1 => ?_)
 refine oQ [oF 1, oF 2, oF 3] [(3, vP b1 0), (0, sl A_k k c_k)] (by kernel_rfl) ?_
 refine ops_nil (fin_then (st_seq (st_seq (st_region [oF 0, oF 1, oF 2, oF 3, oF 4, oF 5, oF 6, oF 7] (by rfl) ?_))))
 refine oQ [oF 0] [(9, vP b1 0), (3, vP b1 0), (0, sl A_k k c_k)] (by kernel_rfl) ?_
 refine ops_mem (d := some 10) (an := [.v (vI m_0)]) (evs := [ld b1 0 (vI m_0)]) (v := vI m_0) ⟨by kernel_rfl⟩ (fun w_ hM hS => ⟨w_, ⟨hM.cell 0 rfl rfl, rfl⟩, hM, trivial⟩) ?_
 refine oQ [oF 2, oF 3] [(12, .bool (decide (m_0 < 0))), (3, vP b1 0), (0, sl A_k k c_k)] (by kernel_rfl) ?_
 refine ops_bool (t := decide (m_0 < 0)) (l1 := [(12, .bool true), (3, vP b1 0), (0, sl A_k k c_k)]) (l2 := [(12, .bool false), (3, vP b1 0), (0, sl A_k k c_k)]) (fun h => by rw [h]) (fun h => by rw [h]) (fun hc2 => ?_) (fun hc2 => ?_)
 ·
  have hp := cnd_t hc2 hp
  refine oQ [oF 4, oF 5, oF 6, oF 7] [(16, .bool true), (3, vP b1 0), (0, sl A_k k c_k)] (by kernel_rfl) ?_
  refine ops_nil (fin_then (st_true rfl (st_seq (st_region [oF 0, oF 1, oF 2] (by rfl) ?_))))
  refine oQ [oF 0, oF 1, oF 2] [(6, vI 1), (5, vI 0), (4, vI 0)] (by kernel_rfl) ?_
  refine ops_nil (fin_then (st_ret (fin_ret_then ?_)))
  have hq_ := Option.some.inj hp
  obtain ⟨hr0_, hq_⟩ := Prod.mk.inj hq_
  obtain ⟨hr1_, hq_⟩ := Prod.mk.inj hq_
  have hr2_ := hq_
  subst hr0_
  subst hr1_
  subst hr2_
  refine fin_ret [.tmp 4, .tmp 5, .tmp 6] [vI 0, vI 0, vI 1] rfl rfl (fun w_ hM => (.tmp rfl (.tmp rfl (.tmp rfl .nil)))) (fun w_ hM => ?_)
  exact ⟨trivial, rfl, hM.pick 2 [1] (by kernel_rfl) (by decide) rfl⟩
 ·
  have hp := cnd_f hc2 hp
  refine oQ [oF 4] [(13, vP b1 0), (12, .bool false), (3, vP b1 0), (0, sl A_k k c_k)] (by kernel_rfl) ?_
  refine ops_mem (d := some 14) (an := [.v (vI m_0)]) (evs := [ld b1 0 (vI m_0)]) (v := vI m_0) ⟨by kernel_rfl⟩ (fun w_ hM hS => ⟨w_, ⟨hM.cell 0 rfl rfl, rfl⟩, hM, trivial⟩) ?_
  refine oQ [oF 6, oF 7] [(16, .bool (decide (6 < m_0))), (3, vP b1 0), (0, sl A_k k c_k)] (by kernel_rfl) ?_
  refine ops_nil (fin_then ?_)
  refine st_if (b := decide (6 < m_0)) rfl (fun hc3 => ?_) (fun hc3 => ?_)
  ·
   have hp := cnd_t hc3 hp
   refine st_seq (st_region [oF 0, oF 1, oF 2] (by rfl) ?_)
   refine oQ [oF 0, oF 1, oF 2] [(6, vI 1), (5, vI 0), (4, vI 0)] (by kernel_rfl) ?_
   refine ops_nil (fin_then (st_ret (fin_ret_then ?_)))
   have hq_ := Option.some.inj hp
   obtain ⟨hr0_, hq_⟩ := Prod.mk.inj hq_
   obtain ⟨hr1_, hq_⟩ := Prod.mk.inj hq_
   have hr2_ := hq_
   subst hr0_
   subst hr1_
   subst hr2_
   refine fin_ret [.tmp 4, .tmp 5, .tmp 6] [vI 0, vI 0, vI 1] rfl rfl (fun w_ hM => (.tmp rfl (.tmp rfl (.tmp rfl .nil)))) (fun w_ hM => ?_)
   exact ⟨trivial, rfl, hM.pick 2 [1] (by kernel_rfl) (by decide) rfl⟩
  ·
   have hp := cnd_f hc3 hp
   refine st_skip (fin_then (st_seq (st_seq (st_region [oF 0, oF 1, oF 2] (by rfl) ?_))))
   refine oQ [oF 0] [(17, vP b1 0), (3, vP b1 0), (0, sl A_k k c_k)] (by kernel_rfl) ?_
   refine ops_mem (d := some 18) (an := [.v (vI m_0)]) (evs := [ld b1 0 (vI m_0)]) (v := vI m_0) ⟨by kernel_rfl⟩ (fun w_ hM hS => ⟨w_, ⟨hM.cell 0 rfl rfl, rfl⟩, hM, trivial⟩) ?_
   refine oQ [oF 2] [(19, .bool (m_0 == 0)), (3, vP b1 0), (0, sl A_k k c_k)] (by kernel_rfl) ?_
   refine ops_nil (fin_then ?_)
   refine st_if (b := (m_0 == 0)) rfl (fun hc4 => ?_) (fun hc4 => ?_)
   ·
    have hp := cnd_t hc4 hp
    refine st_seq (st_region [oF 0, oF 1, oF 2] (by rfl) ?_)
    refine oQ [oF 0, oF 1, oF 2] [(6, vI 0), (5, vI 0), (4, vI 0)] (by kernel_rfl) ?_
    refine ops_nil (fin_then (st_ret (fin_ret_then ?_)))
    have hq_ := Option.some.inj hp
    obtain ⟨hr0_, hq_⟩ := Prod.mk.inj hq_
    obtain ⟨hr1_, hq_⟩ := Prod.mk.inj hq_
    have hr2_ := hq_
    subst hr0_
    subst hr1_
    subst hr2_
    refine fin_ret [.tmp 4, .tmp 5, .tmp 6] [vI 0, vI 0, vI 0] rfl rfl (fun w_ hM => (.tmp rfl (.tmp rfl (.tmp rfl .nil)))) (fun w_ hM => ?_)
    exact ⟨trivial, rfl, hM.pick 2 [1] (by kernel_rfl) (by decide) rfl⟩
   ·
    have hp := cnd_f hc4 hp
    refine st_skip (fin_then (st_seq (st_region [oF 0, oF 1, oF 2, oF 3, oF 4] (by rfl) ?_)))
    refine oQ [oF 0, oF 1] [(21, vP b1 1), (20, sl A_k k c_k), (3, vP b1 0), (0, sl A_k k c_k)] (by kernel_rfl) ?_
    refine ops_mem (d := some 22) (an := [.v (.string m_1)]) (evs := [ld b1 1 (.string m_1)]) (v := .string m_1) ⟨by kernel_rfl⟩ (fun w_ hM hS => ⟨w_, ⟨hM.cell 0 rfl rfl, rfl⟩, hM, trivial⟩) ?_
    obtain ⟨x5, hv6, hp⟩ := obind hp
    refine ops_callI (σ := Unit) (d := some 23) (f := 104) (args := #[sl A_k k c_k, .string m_1]) (v := (fun _ => vI x5)) (I := (fun _ => True)) (M' := (fun _ => Mem w0 (.blk b1 [vI m_0, .string m_1, .string m_2, .string m_3, vI m_4, .string m_5, vI m_6, vI m_7, .string m_8, sl A_m_9 m_9 c_m_9] 37 :: Fz F W :: cs))) ⟨by kernel_rfl⟩ (fun w_ hM hS => (kind_Find_ok w0 w_ (.blk b1 [vI m_0, .string m_1, .string m_2, .string m_3, vI m_4, .string m_5, vI m_6, vI m_7, .string m_8, sl A_m_9 m_9 c_m_9] 37 :: cs) F W A_k c_k k m_1 (hM.pick 2 [1, 0] (by kernel_rfl) (by decide) rfl) h_k x5 hv6).mono (by rintro e w' ⟨-, rfl, h'⟩; have h' : Mem w0 (.blk b1 [vI m_0, .string m_1, .string m_2, .string m_3, vI m_4, .string m_5, vI m_6, vI m_7, .string m_8, sl A_m_9 m_9 c_m_9] 37 :: Fz F W :: cs) w' := (h'.pick 2 [1, 0] (by kernel_rfl) (by decide) rfl); exact ⟨(), trivial, rfl, h', trivial⟩)) ?_
    rintro _ -
    refine oQ [oF 4] [(7, vI x5), (3, vP b1 0), (0, sl A_k k c_k)] (by kernel_rfl) ?_
    refine ops_nil (fin_then (st_seq (st_seq (st_region [oF 0, oF 1] (by rfl) ?_))))
    refine oQ [oF 0, oF 1] [(25, .bool (decide (x5 < 0))), (7, vI x5), (3, vP b1 0), (0, sl A_k k c_k)] (by kernel_rfl) ?_
    refine ops_nil (fin_then ?_)
    refine st_if (b := decide (x5 < 0)) rfl (fun hc7 => ?_) (fun hc7 => ?_)
    ·
     have hp := cnd_t hc7 hp
     refine st_seq (st_region [oF 0, oF 1, oF 2] (by rfl) ?_)
     refine oQ [oF 0, oF 1, oF 2] [(6, vI 4), (5, vI 0), (4, vI 0)] (by kernel_rfl) ?_
     refine ops_nil (fin_then (st_ret (fin_ret_then ?_)))
     have hq_ := Option.some.inj hp
     obtain ⟨hr0_, hq_⟩ := Prod.mk.inj hq_
     obtain ⟨hr1_, hq_⟩ := Prod.mk.inj hq_
     have hr2_ := hq_
     subst hr0_
     subst hr1_
     subst hr2_
     refine fin_ret [.tmp 4, .tmp 5, .tmp 6] [vI 0, vI 0, vI 4] rfl rfl (fun w_ hM => (.tmp rfl (.tmp rfl (.tmp rfl .nil)))) (fun w_ hM => ?_)
     exact ⟨trivial, rfl, hM.pick 2 [1] (by kernel_rfl) (by decide) rfl⟩
    ·
     have hp := cnd_f hc7 hp
     refine st_skip (fin_then (st_seq (st_seq (st_region [oF 0, oF 1, oF 2] (by rfl) ?_))))
     refine oQ [oF 0] [(26, vP b1 0), (7, vI x5), (3, vP b1 0), (0, sl A_k k c_k)] (by kernel_rfl) ?_
     refine ops_mem (d := some 27) (an := [.v (vI m_0)]) (evs := [ld b1 0 (vI m_0)]) (v := vI m_0) ⟨by kernel_rfl⟩ (fun w_ hM hS => ⟨w_, ⟨hM.cell 0 rfl rfl, rfl⟩, hM, trivial⟩) ?_
     refine oQ [oF 2] [(28, .bool (decide (m_0 ≤ 3))), (7, vI x5), (3, vP b1 0), (0, sl A_k k c_k)] (by kernel_rfl) ?_
     refine ops_nil (fin_then ?_)
     refine st_if (b := decide (m_0 ≤ 3)) rfl (fun hc8 => ?_) (fun hc8 => ?_)
     ·
      have hp := cnd_t hc8 hp
      refine st_seq (st_region [oF 0, oF 1, oF 2, oF 3] (by rfl) ?_)
      refine oQ [oF 0, oF 1, oF 2, oF 3] [(6, vI 0), (5, vI 0), (4, vI x5)] (by kernel_rfl) ?_
      refine ops_nil (fin_then (st_ret (fin_ret_then ?_)))
      have hq_ := Option.some.inj hp
      obtain ⟨hr0_, hq_⟩ := Prod.mk.inj hq_
      obtain ⟨hr1_, hq_⟩ := Prod.mk.inj hq_
      have hr2_ := hq_
      subst hr0_
      subst hr1_
      subst hr2_
      refine fin_ret [.tmp 4, .tmp 5, .tmp 6] [vI x5, vI 0, vI 0] rfl rfl (fun w_ hM => (.tmp rfl (.tmp rfl (.tmp rfl .nil)))) (fun w_ hM => ?_)
      exact ⟨trivial, rfl, hM.pick 2 [1] (by kernel_rfl) (by decide) rfl⟩
     ·
      have hp := cnd_f hc8 hp
      refine st_skip (fin_then (st_seq ?_))
      refine st_region_draw [oT 0, oT 1, oT 2, oT 3, oT 4, oT 5, oF 6, oT 7] (Mem w0 (.blk b1 [vI m_0, .string m_1, .string m_2, .string m_3, vI m_4, .string m_5, vI m_6, vI m_7, .string m_8, sl A_m_9 m_9 c_m_9] 37 :: Fz F W :: cs)) (by kernel_rfl) (by kernel_rfl) (by kernel_rfl) (fun _ d _ _ _ h => by cases d <;> exact h) (M' := Mem w0 (.blk b1 [vI m_0, .string m_1, .string m_2, .string m_3, vI m_4, .string m_5, vI m_6, vI m_7, .string m_8, sl A_m_9 m_9 c_m_9] 37 :: Fz F W :: cs)) (fun w_ hM => ⟨hM.drew, hM.drew.sub (.cons_cons _ (.cons_cons _ (.refl _)))⟩) ?_
      refine oQ [oT 0, oT 1] [(31, vI x5), (30, sl A_k k c_k), (7, vI x5), (3, vP b1 0)] (by kernel_rfl) ?_
      obtain ⟨x9, hv10, hp⟩ := obind hp
      obtain ⟨m11, hm12, hx13⟩ := idx_some hv10
      have hl16 := (List.getElem?_eq_some_iff.1 hx13).1
      obtain ⟨ad17, vs14, hA18, hr15, hq19⟩ := RdS.el h_k hx13
      obtain ⟨A20, c21, rfl, h22⟩ := dec_api_Kind hr15
      refine ops_val (op := (.indexAddr 22 (.tmp 30) (.tmp 31))) (d := some 32) (v := .pointer (some (ad17.add (m11 * 2)))) ⟨by kernel_rfl⟩ (run_indexA hA18 Tryd.underlying22 (z := 2) (by kernel_rfl) rfl rfl hm12 hl16) ?_
      refine ops_load (d := some 33) (an := [.v (.string x9.Name), .v (sl A20 x9.Fields c21)]) (evs := [.load (ad17.add (m11 * 2)) (.string x9.Name), .load ((ad17.add (m11 * 2)).add 1) (sl A20 x9.Fields c21)]) (v := .agg #[.string x9.Name, sl A20 x9.Fields c21]) ⟨by kernel_rfl⟩ (fun w_ hM => ⟨hM.elcell 1 rfl hq19 0 rfl, hM.elcell 1 rfl hq19 1 rfl, rfl⟩) ?_
      refine oQ [oT 4] [(34, vP b1 2), (33, .agg #[.string x9.Name, sl A20 x9.Fields c21]), (7, vI x5)] (by kernel_rfl) ?_
      refine ops_load (d := some 35) (an := [.v (.string m_2)]) (evs := [ld b1 2 (.string m_2)]) (v := .string m_2) ⟨by kernel_rfl⟩ (fun w_ hM => ⟨hM.cell 0 rfl rfl, rfl⟩) ?_
      obtain ⟨x23, hv24, hp⟩ := obind hp
      refine ops_callI (σ := Unit) (d := some 36) (f := 106) (args := #[.agg #[.string x9.Name, sl A20 x9.Fields c21], .string m_2]) (v := (fun _ => vI x23)) (I := (fun _ => True)) (M' := (fun _ => Mem w0 (.blk b1 [vI m_0, .string m_1, .string m_2, .string m_3, vI m_4, .string m_5, vI m_6, vI m_7, .string m_8, sl A_m_9 m_9 c_m_9] 37 :: Fz F W :: cs))) ⟨by kernel_rfl⟩ (fun w_ hM hS => (kind_Field_ok w0 w_ (.blk b1 [vI m_0, .string m_1, .string m_2, .string m_3, vI m_4, .string m_5, vI m_6, vI m_7, .string m_8, sl A_m_9 m_9 c_m_9] 37 :: cs) F W x9.Name A20 c21 x9.Fields m_2 (hM.pick 2 [1, 0] (by kernel_rfl) (by decide) rfl) h22 x23 hv24).mono (by rintro e w' ⟨-, rfl, h'⟩; have h' : Mem w0 (.blk b1 [vI m_0, .string m_1, .string m_2, .string m_3, vI m_4, .string m_5, vI m_6, vI m_7, .string m_8, sl A_m_9 m_9 c_m_9] 37 :: Fz F W :: cs) w' := (h'.pick 2 [1, 0] (by kernel_rfl) (by decide) rfl); exact ⟨(), trivial, rfl, h', (by exact h'.sub (.cons_cons _ (.cons_cons _ (.refl _))))⟩)) ?_
      rintro _ -
      refine oQ [oT 7] [(8, vI x23), (7, vI x5)] (by kernel_rfl) ?_
      refine ops_nil (fin_then (st_seq (st_seq (st_region [oF 0, oF 1] (by rfl) ?_))))
      refine oQ [oF 0, oF 1] [(38, .bool (decide (x23 < 0))), (8, vI x23), (7, vI x5)] (by kernel_rfl) ?_
      refine ops_nil (fin_then ?_)
      refine st_if (b := decide (x23 < 0)) rfl (fun hc25 => ?_) (fun hc25 => ?_)
      ·
       have hp := cnd_t hc25 hp
       refine st_seq (st_region [oF 0, oF 1, oF 2] (by rfl) ?_)
       refine oQ [oF 0, oF 1, oF 2] [(6, vI 4), (5, vI 0), (4, vI 0)] (by kernel_rfl) ?_
       refine ops_nil (fin_then (st_ret (fin_ret_then ?_)))
       have hq_ := Option.some.inj hp
       obtain ⟨hr0_, hq_⟩ := Prod.mk.inj hq_
       obtain ⟨hr1_, hq_⟩ := Prod.mk.inj hq_
       have hr2_ := hq_
       subst hr0_
       subst hr1_
       subst hr2_
       refine fin_ret [.tmp 4, .tmp 5, .tmp 6] [vI 0, vI 0, vI 4] rfl rfl (fun w_ hM => (.tmp rfl (.tmp rfl (.tmp rfl .nil)))) (fun w_ hM => ?_)
       exact ⟨trivial, rfl, hM.pick 2 [1] (by kernel_rfl) (by decide) rfl⟩
      ·
       have hp := cnd_f hc25 hp
       refine st_skip (fin_then (st_seq (st_region [oF 0, oF 1, oF 2, oF 3, oF 4] (by rfl) ?_)))
       refine oQ [oF 0, oF 1, oF 2, oF 3, oF 4] [(6, vI 0), (5, vI x23), (4, vI x5)] (by kernel_rfl) ?_
       refine ops_nil (fin_then (st_ret ?_))
       have hq_ := Option.some.inj hp
       obtain ⟨hr0_, hq_⟩ := Prod.mk.inj hq_
       obtain ⟨hr1_, hq_⟩ := Prod.mk.inj hq_
       have hr2_ := hq_
       subst hr0_
       subst hr1_
       subst hr2_
       refine fin_ret [.tmp 4, .tmp 5, .tmp 6] [vI x5, vI x23, vI 0] rfl rfl (fun w_ hM => (.tmp rfl (.tmp rfl (.tmp rfl .nil)))) (fun w_ hM => ?_)
       exact ⟨trivial, rfl, hM.pick 2 [1] (by kernel_rfl) (by decide) rfl⟩
end Go.Proofs.YtnnhijlgohlaeaaDoor.A
