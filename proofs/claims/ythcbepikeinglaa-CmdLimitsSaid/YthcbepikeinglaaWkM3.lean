/- The Go functions come to what the plain functions tell. No condition. -/
import Derived.Test.YthcbepikeinglaaProg
import Derived.Test.YthcbepikeinglaaFnM
import Derived.Test.YthcbepikeinglaaWkM2
namespace Go.Proofs.Ythcbepikeinglaa.M
open Go Go.RowKit Go.Proofs.Ythcbepikeinglaa.Sx
set_option linter.unusedVariables false
set_option maxHeartbeats 4000000 in
set_option maxRecDepth 100000 in
theorem kind_One_ok (w0 w : World) (cs : List Chunk) (F : Nat → Prop) (W : World) (k_0 : ByteArray) (A_k_1 : Option Addr) (c_k_1 : Nat) (k_1 : List api_Field) (hM0 : Mem w0 (Fz F W :: cs) w) (h_k_1 : RdS R_api_Field F W A_k_1 c_k_1 k_1) (i9001 : Int) (hp : kind_One k_0 k_1 = some i9001) : Calls Try.prog 118 #[.agg #[.string k_0, .slice A_k_1 k_1.length c_k_1]] w fun e w' => (True) ∧ e = .returned (vI i9001) ∧ Mem w0 (Fz F W :: cs) w' := by
 unfold kind_One at hp
 refine sx_calls Try.func118 rfl (n := 45) (by kernel_rfl) (l := [(0, .agg #[.string k_0, .slice A_k_1 k_1.length c_k_1])]) rfl (by rfl) hM0 ?_
 refine st_seq ?_
 refine st_region [oF 0, oF 1] (by rfl) ?_
 refine ops_new (d := some 1) (o := .cells #[.string k_0, .slice A_k_1 k_1.length c_k_1] 176) (v := fun b1 => vP b1 0) (M' := fun b1 => Mem w0 (.blk b1 [.string k_0, .slice A_k_1 k_1.length c_k_1] 176 :: Fz F W :: cs)) (fun b1 => ⟨by kernel_rfl⟩) (fun w_ hM hS => ⟨hM.blk [.string k_0, .slice A_k_1 k_1.length c_k_1] 176, trivial⟩) (fun b1 => ?_)
 refine oR [oF 1] [(1, vP b1 0)] [1] (by kernel_rfl) ?_
 refine ops_nil ?_
 refine fin_then ?_
 refine st_seq ?_
 refine st_seq ?_
 refine st_region [oF 0, oF 1, oF 2, oF 3] (by rfl) ?_
 refine oR [oF 0] [(8, vP b1 0), (1, vP b1 0)] [8, 1] (by kernel_rfl) ?_
 refine ops_mem (d := some 9) (an := [.v (.string k_0)]) (evs := [.load ⟨b1, 0, none⟩ (.string k_0)]) (v := .string k_0) (M' := Mem w0 (.blk b1 [.string k_0, .slice A_k_1 k_1.length c_k_1] 176 :: Fz F W :: cs)) ⟨by kernel_rfl⟩ (fun w_ hM hS => ⟨w_, ⟨hM.cell 0 rfl rfl, rfl⟩, hM, trivial⟩) ?_
 refine oR [] [(9, .string k_0), (1, vP b1 0)] [9, 1] (by kernel_rfl) ?_
 obtain ⟨x2, hv3, hp⟩ := obind hp
 refine ops_callI (σ := Unit) (d := some 10) (f := 137) (args := #[.string k_0]) (v := (fun _ => .bool x2)) (I := (fun _ => True)) (M' := (fun _ => Mem w0 (.blk b1 [.string k_0, .slice A_k_1 k_1.length c_k_1] 176 :: Fz F W :: cs))) ⟨by kernel_rfl⟩ (fun w_ hM hS => (kind_Name_ok w0 w_ (.blk b1 [.string k_0, .slice A_k_1 k_1.length c_k_1] 176 :: cs) F W k_0 (hM.pick 2 [1, 0] (by kernel_rfl) (by decide) rfl)  x2 hv3).mono (by rintro e w' ⟨-, rfl, h'⟩; have h' : Mem w0 (.blk b1 [.string k_0, .slice A_k_1 k_1.length c_k_1] 176 :: Fz F W :: cs) w' := (h'.pick 2 [1, 0] (by kernel_rfl) (by decide) rfl); exact ⟨(), trivial, rfl, h', trivial⟩)) ?_
 rintro _ -
 refine ops_conv (l' := [(10, .bool x2), (9, .string k_0), (1, vP b1 0)]) (M' := Mem w0 (.blk b1 [.string k_0, .slice A_k_1 k_1.length c_k_1] 176 :: Fz F W :: cs)) rfl (fun _ h => h) ?_
 refine oR [oF 3] [(11, .bool (!x2)), (1, vP b1 0)] [11, 1] (by kernel_rfl) ?_
 refine ops_nil ?_
 refine fin_then ?_
 refine st_if (b := !x2) rfl (fun hc4 => ?_) (fun hc4 => ?_)
 · --
  have hp := cnd_t hc4 hp
  refine st_seq ?_
  refine st_region [oF 0] (by rfl) ?_
  refine oR [oF 0] [(2, vI 3)] [2] (by kernel_rfl) ?_
  refine ops_nil ?_
  refine fin_then ?_
  refine st_ret ?_
  refine fin_ret_then ?_
  have hq_ := Option.some.inj hp
  have hr0_ := hq_
  subst hr0_
  refine fin_ret [.tmp 2] [vI 3] rfl rfl (fun w_ hM => (.tmp rfl .nil)) (fun w_ hM => ?_)
  exact ⟨trivial, rfl, hM.pick 2 [1] (by kernel_rfl) (by decide) rfl⟩
 · --
  have hp := cnd_f hc4 hp
  refine st_skip ?_
  refine fin_then ?_
  refine st_seq ?_
  refine st_seq ?_
  refine st_region [oF 0, oF 1, oF 2, oF 3] (by rfl) ?_
  refine oR [oF 0] [(12, vP b1 1), (1, vP b1 0)] [12, 1] (by kernel_rfl) ?_
  refine ops_mem (d := some 13) (an := [.v (.slice A_k_1 k_1.length c_k_1)]) (evs := [.load ⟨b1, 1, none⟩ (.slice A_k_1 k_1.length c_k_1)]) (v := .slice A_k_1 k_1.length c_k_1) (M' := Mem w0 (.blk b1 [.string k_0, .slice A_k_1 k_1.length c_k_1] 176 :: Fz F W :: cs)) ⟨by kernel_rfl⟩ (fun w_ hM hS => ⟨w_, ⟨hM.cell 0 rfl rfl, rfl⟩, hM, trivial⟩) ?_
  refine oR [oF 2, oF 3] [(15, .bool (decide (8 < (k_1.length : Int)))), (1, vP b1 0)] [15, 1] (by kernel_rfl) ?_
  refine ops_nil ?_
  refine fin_then ?_
  refine st_if (b := decide (8 < (k_1.length : Int))) rfl (fun hc5 => ?_) (fun hc5 => ?_)
  · --
   have hp := cnd_t hc5 hp
   refine st_seq ?_
   refine st_region [oF 0] (by rfl) ?_
   refine oR [oF 0] [(2, vI 2)] [2] (by kernel_rfl) ?_
   refine ops_nil ?_
   refine fin_then ?_
   refine st_ret ?_
   refine fin_ret_then ?_
   have hq_ := Option.some.inj hp
   have hr0_ := hq_
   subst hr0_
   refine fin_ret [.tmp 2] [vI 2] rfl rfl (fun w_ hM => (.tmp rfl .nil)) (fun w_ hM => ?_)
   exact ⟨trivial, rfl, hM.pick 2 [1] (by kernel_rfl) (by decide) rfl⟩
  · --
   have hp := cnd_f hc5 hp
   refine st_skip ?_
   refine fin_then ?_
   refine st_join1 (σ := Unit) (L := fun _ => []) (N := fun _ => Mem w0 (Fz F W :: cs)) (I := fun _ => (kind_One_j1 = some i9001)) ?_ ?_
   · --
    rintro _ hp
    refine st_conv (l' := []) (M' := Mem w0 (Fz F W :: cs)) rfl (fun _ h => h) ?_
    unfold kind_One_j1 at hp
    refine st_seq ?_
    refine st_region [oF 0] (by rfl) ?_
    refine oR [oF 0] [(2, vI 0)] [2] (by kernel_rfl) ?_
    refine ops_nil ?_
    refine fin_then ?_
    refine st_ret ?_
    have hq_ := Option.some.inj hp
    have hr0_ := hq_
    subst hr0_
    refine fin_ret [.tmp 2] [vI 0] rfl rfl (fun w_ hM => (.tmp rfl .nil)) (fun w_ hM => ?_)
    exact ⟨trivial, rfl, hM⟩
   · --
    intro HJ1
    refine st_seq ?_
    refine st_seq ?_
    refine st_region [oF 0, oF 1, oF 2, oF 3] (by rfl) ?_
    refine oR [oF 0] [(16, vP b1 1), (1, vP b1 0)] [16, 1] (by kernel_rfl) ?_
    refine ops_mem (d := some 17) (an := [.v (.slice A_k_1 k_1.length c_k_1)]) (evs := [.load ⟨b1, 1, none⟩ (.slice A_k_1 k_1.length c_k_1)]) (v := .slice A_k_1 k_1.length c_k_1) (M' := Mem w0 (.blk b1 [.string k_0, .slice A_k_1 k_1.length c_k_1] 176 :: Fz F W :: cs)) ⟨by kernel_rfl⟩ (fun w_ hM hS => ⟨w_, ⟨hM.cell 0 rfl rfl, rfl⟩, hM, trivial⟩) ?_
    refine oR [oF 2, oF 3] [(19, vI 0), (18, vI (k_1.length : Int)), (17, .slice A_k_1 k_1.length c_k_1), (1, vP b1 0)] [19, 18, 17, 1] (by kernel_rfl) ?_
    refine ops_nil ?_
    refine fin_then ?_
    refine st_block ?_
    obtain ⟨r2, hl2, hk2⟩ := obind hp
    refine st_loopP (σ := Int) (ρ := (Int ⊕ Unit)) (γ := Unit) hl2 () (fun s_ g_ => match s_, g_ with | i6, _ => [(1, vP b1 0), (17, .slice A_k_1 k_1.length c_k_1), (18, vI (k_1.length : Int)), (19, vI i6)]) (fun s_ g_ => match s_, g_ with | i6, _ => Mem w0 (.blk b1 [.string k_0, .slice A_k_1 k_1.length c_k_1] 176 :: Fz F W :: cs)) (fun s_ g_ => match s_, g_ with | i6, _ => True) trivial (look_has ⟨rfl, rfl, rfl, rfl, trivial⟩) (fun w_ hM => hM) ?_
    rintro i6 _ o2 - hs_ hd2
    have hp : (kind_One_l2 k_1) i6 = some o2 := hs_
    clear hs_
    unfold kind_One_l2 at hp
    refine st_conv (l' := [(1, vP b1 0), (17, .slice A_k_1 k_1.length c_k_1), (18, vI (k_1.length : Int)), (19, vI i6)]) (M' := Mem w0 (.blk b1 [.string k_0, .slice A_k_1 k_1.length c_k_1] 176 :: Fz F W :: cs)) rfl (fun _ h => h) ?_
    refine st_seq ?_
    refine st_region [oF 0] (by rfl) ?_
    refine oR [oF 0] [(20, .bool (decide (i6 < (k_1.length : Int)))), (1, vP b1 0), (17, .slice A_k_1 k_1.length c_k_1), (18, vI (k_1.length : Int)), (19, vI i6)] [20, 1, 17, 18, 19] (by kernel_rfl) ?_
    refine ops_nil ?_
    refine fin_then ?_
    refine st_seq ?_
    refine st_if (b := decide (i6 < (k_1.length : Int))) rfl (fun hc7 => ?_) (fun hc7 => ?_)
    · --
     have hp := cnd_t hc7 hp
     refine st_skip ?_
     refine fin_then ?_
     refine st_join1 (σ := Unit) (L := fun _ => [(1, vP b1 0), (17, .slice A_k_1 k_1.length c_k_1), (18, vI (k_1.length : Int)), (19, vI i6)]) (N := fun _ => Mem w0 (.blk b1 [.string k_0, .slice A_k_1 k_1.length c_k_1] 176 :: Fz F W :: cs)) (I := fun _ => ((kind_One_j3 i6) = some o2)) ?_ ?_
     · --
      rintro _ hp
      refine st_conv (l' := [(1, vP b1 0), (17, .slice A_k_1 k_1.length c_k_1), (18, vI (k_1.length : Int)), (19, vI i6)]) (M' := Mem w0 (.blk b1 [.string k_0, .slice A_k_1 k_1.length c_k_1] 176 :: Fz F W :: cs)) rfl (fun _ h => h) ?_
      unfold kind_One_j3 at hp
      refine st_region [oF 0, oF 1] (by rfl) ?_
      refine oR [oF 0, oF 1] [(19, vI (IntKind.i64.wrap (i6 + 1))), (1, vP b1 0), (17, .slice A_k_1 k_1.length c_k_1), (18, vI (k_1.length : Int))] [19, 1, 17, 18] (by kernel_rfl) ?_
      refine ops_nil ?_
      exact fin_again (IntKind.i64.wrap (i6 + 1)) () (Option.some.inj hp).symm trivial (look_has ⟨rfl, rfl, rfl, rfl, trivial⟩) (fun w_ hM => hM)
     · --
      intro HJ3
      refine st_seq ?_
      refine st_block ?_
      refine st_seq ?_
      refine st_region [oF 0, oF 1, oF 2, oF 3, oF 4, oF 5] (by rfl) ?_
      refine oR [oF 0] [(21, vI i6), (1, vP b1 0), (17, .slice A_k_1 k_1.length c_k_1), (18, vI (k_1.length : Int)), (19, vI i6)] [21, 1, 17, 18, 19] (by kernel_rfl) ?_
      obtain ⟨x8, hv9, hp⟩ := obind hp
      obtain ⟨m10, hm11, hx12⟩ := idx_some hv9
      have hl15 := (List.getElem?_eq_some_iff.1 hx12).1
      obtain ⟨ad16, vs13, hA17, hr14, hq18⟩ := RdS.el h_k_1 hx12
      obtain rfl := dec_api_Field hr14
      refine ops_val (op := (Go.Op.indexAddr 174 (Go.Operand.tmp 17) (Go.Operand.tmp 19))) (d := some 22) (v := .pointer (some (ad16.add (m10 * 3)))) ⟨by kernel_rfl⟩ (run_indexA hA17 Try.underlying174 (z := 3) (by kernel_rfl) rfl rfl hm11 hl15) ?_
      refine ops_mem (d := some 23) (an := [.v (.string x8.Name), .v (vI x8.Bits), .v (vI x8.Low)]) (evs := [.load (ad16.add (m10 * 3)) (.string x8.Name), .load ((ad16.add (m10 * 3)).add 1) (vI x8.Bits), .load ((ad16.add (m10 * 3)).add 2) (vI x8.Low)]) (v := .agg #[.string x8.Name, vI x8.Bits, vI x8.Low]) (M' := Mem w0 (.blk b1 [.string k_0, .slice A_k_1 k_1.length c_k_1] 176 :: Fz F W :: cs)) ⟨by kernel_rfl⟩ (fun w_ hM hS => ⟨w_, ⟨hM.elcell 1 rfl hq18 0 rfl, hM.elcell 1 rfl hq18 1 rfl, hM.elcell 1 rfl hq18 2 rfl, rfl⟩, hM, trivial⟩) ?_
      refine oR [] [(23, .agg #[.string x8.Name, vI x8.Bits, vI x8.Low]), (21, vI i6), (1, vP b1 0), (17, .slice A_k_1 k_1.length c_k_1), (18, vI (k_1.length : Int)), (19, vI i6)] [23, 21, 1, 17, 18, 19] (by kernel_rfl) ?_
      refine ops_new (d := some 4) (o := .cells #[.string ByteArray.empty, vI 0, vI 0] 173) (v := fun b19 => vP b19 0) (M' := fun b19 => Mem w0 (.blk b19 [.string ByteArray.empty, vI 0, vI 0] 173 :: .blk b1 [.string k_0, .slice A_k_1 k_1.length c_k_1] 176 :: Fz F W :: cs)) (fun b19 => ⟨by kernel_rfl⟩) (fun w_ hM hS => ⟨hM.blk [.string ByteArray.empty, vI 0, vI 0] 173, trivial⟩) (fun b19 => ?_)
      refine oR [oF 4] [(3, vI i6), (4, vP b19 0), (23, .agg #[.string x8.Name, vI x8.Bits, vI x8.Low]), (1, vP b1 0), (17, .slice A_k_1 k_1.length c_k_1), (18, vI (k_1.length : Int)), (19, vI i6)] [3, 4, 23, 1, 17, 18, 19] (by kernel_rfl) ?_
      refine ops_store (an := []) (evs := [.store ⟨b19, 0, none⟩ (.string x8.Name), .store ⟨b19, 1, none⟩ (vI x8.Bits), .store ⟨b19, 2, none⟩ (vI x8.Low)]) (M' := Mem w0 (.blk b19 [.string x8.Name, vI x8.Bits, vI x8.Low] 173 :: .blk b1 [.string k_0, .slice A_k_1 k_1.length c_k_1] 176 :: Fz F W :: cs)) ⟨by kernel_rfl⟩ (fun w_ hM hS => let ⟨w', he, h'⟩ := hM.evs_stores [.string x8.Name, vI x8.Bits, vI x8.Low] 0 rfl 0 (Nat.le_of_ble_eq_true rfl); ⟨w', he, h', trivial⟩) ?_
      refine oR [] [(3, vI i6), (4, vP b19 0), (1, vP b1 0), (17, .slice A_k_1 k_1.length c_k_1), (18, vI (k_1.length : Int)), (19, vI i6)] [3, 4, 1, 17, 18, 19] (by kernel_rfl) ?_
      refine ops_nil ?_
      refine fin_then ?_
      refine st_seq ?_
      refine st_seq ?_
      refine st_region [oF 0, oF 1, oF 2] (by rfl) ?_
      refine ops_mem (d := some 24) (an := [.v (.string x8.Name), .v (vI x8.Bits), .v (vI x8.Low)]) (evs := [.load ⟨b19, 0, none⟩ (.string x8.Name), .load ⟨b19, 1, none⟩ (vI x8.Bits), .load ⟨b19, 2, none⟩ (vI x8.Low)]) (v := .agg #[.string x8.Name, vI x8.Bits, vI x8.Low]) (M' := Mem w0 (.blk b19 [.string x8.Name, vI x8.Bits, vI x8.Low] 173 :: .blk b1 [.string k_0, .slice A_k_1 k_1.length c_k_1] 176 :: Fz F W :: cs)) ⟨by kernel_rfl⟩ (fun w_ hM hS => ⟨w_, ⟨hM.cell 0 rfl rfl, hM.cell 0 rfl rfl, hM.cell 0 rfl rfl, rfl⟩, hM, trivial⟩) ?_
      obtain ⟨x20, hv21, hp⟩ := obind hp
      refine ops_callI (σ := Unit) (d := some 25) (f := 138) (args := #[.agg #[.string x8.Name, vI x8.Bits, vI x8.Low]]) (v := (fun _ => vI x20)) (I := (fun _ => True)) (M' := (fun _ => Mem w0 (.blk b19 [.string x8.Name, vI x8.Bits, vI x8.Low] 173 :: .blk b1 [.string k_0, .slice A_k_1 k_1.length c_k_1] 176 :: Fz F W :: cs))) ⟨by kernel_rfl⟩ (fun w_ hM hS => (kind_field_ok w0 w_ (.blk b19 [.string x8.Name, vI x8.Bits, vI x8.Low] 173 :: .blk b1 [.string k_0, .slice A_k_1 k_1.length c_k_1] 176 :: cs) F W x8.Name x8.Bits x8.Low (hM.pick 3 [2, 0, 1] (by kernel_rfl) (by decide) rfl)  x20 hv21).mono (by rintro e w' ⟨-, rfl, h'⟩; have h' : Mem w0 (.blk b19 [.string x8.Name, vI x8.Bits, vI x8.Low] 173 :: .blk b1 [.string k_0, .slice A_k_1 k_1.length c_k_1] 176 :: Fz F W :: cs) w' := (h'.pick 3 [1, 2, 0] (by kernel_rfl) (by decide) rfl); exact ⟨(), trivial, rfl, h', trivial⟩)) ?_
      rintro _ -
      refine ops_conv (l' := [(25, vI x20), (24, .agg #[.string x8.Name, vI x8.Bits, vI x8.Low]), (3, vI i6), (4, vP b19 0), (1, vP b1 0), (17, .slice A_k_1 k_1.length c_k_1), (18, vI (k_1.length : Int)), (19, vI i6)]) (M' := Mem w0 (.blk b19 [.string x8.Name, vI x8.Bits, vI x8.Low] 173 :: .blk b1 [.string k_0, .slice A_k_1 k_1.length c_k_1] 176 :: Fz F W :: cs)) rfl (fun _ h => h) ?_
      refine oR [oF 2] [(5, vI x20), (3, vI i6), (4, vP b19 0), (1, vP b1 0), (17, .slice A_k_1 k_1.length c_k_1), (18, vI (k_1.length : Int)), (19, vI i6)] [5, 3, 4, 1, 17, 18, 19] (by kernel_rfl) ?_
      refine ops_nil ?_
      refine fin_then ?_
      refine st_seq ?_
      refine st_region [oF 0, oF 1] (by rfl) ?_
      refine oR [oF 0, oF 1] [(27, .bool (!(x20 == 0))), (5, vI x20), (3, vI i6), (4, vP b19 0), (1, vP b1 0), (17, .slice A_k_1 k_1.length c_k_1), (18, vI (k_1.length : Int)), (19, vI i6)] [27, 5, 3, 4, 1, 17, 18, 19] (by kernel_rfl) ?_
      refine ops_nil ?_
      refine fin_then ?_
      refine st_if (b := !(x20 == 0)) rfl (fun hc22 => ?_) (fun hc22 => ?_)
      · --
       have hp := cnd_t hc22 hp
       refine st_seq ?_
       refine st_region [oF 0, oF 1] (by rfl) ?_
       refine oR [oF 0, oF 1] [(2, vI x20)] [2] (by kernel_rfl) ?_
       refine ops_nil ?_
       refine fin_then ?_
       refine st_ret ?_
       refine fin_ret_then ?_
       refine fin_ret_block ?_
       refine fin_ret_then ?_
       refine fin_ret_then ?_
       refine fin_ret_block ?_
       refine fin_ret_then ?_
       obtain hq_ := Option.some.inj hp
       subst hq_
       obtain hq_ := hd2 _ rfl
       subst hq_
       have hp : some x20 = some i9001 := hk2
       have hq_ := Option.some.inj hp
       have hr0_ := hq_
       subst hr0_
       refine fin_ret [.tmp 2] [vI x20] rfl rfl (fun w_ hM => (.tmp rfl .nil)) (fun w_ hM => ?_)
       exact ⟨trivial, rfl, hM.pick 3 [2] (by kernel_rfl) (by decide) rfl⟩
      · --
       have hp := cnd_f hc22 hp
       refine st_skip ?_
       refine fin_then ?_
       refine st_seq ?_
       refine st_region [oF 0, oF 1, oF 2, oF 3, oF 4, oF 5] (by rfl) ?_
       refine oR [oF 0] [(29, vP b1 1), (3, vI i6), (4, vP b19 0), (1, vP b1 0), (17, .slice A_k_1 k_1.length c_k_1), (18, vI (k_1.length : Int)), (19, vI i6)] [29, 3, 4, 1, 17, 18, 19] (by kernel_rfl) ?_
       refine ops_mem (d := some 30) (an := [.v (.slice A_k_1 k_1.length c_k_1)]) (evs := [.load ⟨b1, 1, none⟩ (.slice A_k_1 k_1.length c_k_1)]) (v := .slice A_k_1 k_1.length c_k_1) (M' := Mem w0 (.blk b19 [.string x8.Name, vI x8.Bits, vI x8.Low] 173 :: .blk b1 [.string k_0, .slice A_k_1 k_1.length c_k_1] 176 :: Fz F W :: cs)) ⟨by kernel_rfl⟩ (fun w_ hM hS => ⟨w_, ⟨hM.cell 1 rfl rfl, rfl⟩, hM, trivial⟩) ?_
       refine oR [oF 2] [(31, vI i6), (30, .slice A_k_1 k_1.length c_k_1), (4, vP b19 0), (1, vP b1 0), (17, .slice A_k_1 k_1.length c_k_1), (18, vI (k_1.length : Int)), (19, vI i6)] [31, 30, 4, 1, 17, 18, 19] (by kernel_rfl) ?_
       obtain ⟨l23, hv24, hp⟩ := obind hp
       obtain ⟨m25, n26, hm27, hn28, h29, h30, he31⟩ := cut_some hv24
       have hl32 := cut_len he31 h29 h30
       have h33 : RdS R_api_Field F W A_k_1 c_k_1 l23 := by have h_ := h_k_1.cut h29 h30; rw [← he31] at h_; rw [show m25 = 0 by omega, cutA_zero, Nat.sub_zero] at h_; exact h_
       refine ops_val (op := (Go.Op.slice 174 (Go.Operand.tmp 30) none (some (Go.Operand.tmp 31)) none)) (d := some 32) (v := .slice A_k_1 l23.length c_k_1) ⟨by kernel_rfl⟩ (run_cutH0 (by kernel_rfl) (z := 3) (by kernel_rfl) rfl rfl hn28 (Nat.le_trans h30 h_k_1.cap) (by omega)) ?_
       refine oR [oF 4, oF 5] [(34, vI 0), (33, vI (l23.length : Int)), (32, .slice A_k_1 l23.length c_k_1), (4, vP b19 0), (1, vP b1 0), (17, .slice A_k_1 k_1.length c_k_1), (18, vI (k_1.length : Int)), (19, vI i6)] [34, 33, 32, 4, 1, 17, 18, 19] (by kernel_rfl) ?_
       refine ops_nil ?_
       refine fin_then ?_
       refine st_block ?_
       obtain ⟨r4, hl4, hk4⟩ := obind hp
       refine st_loopP (σ := Int) (ρ := (Int ⊕ Unit)) (γ := Unit) hl4 () (fun s_ g_ => match s_, g_ with | i34, _ => [(1, vP b1 0), (4, vP b19 0), (17, .slice A_k_1 k_1.length c_k_1), (18, vI (k_1.length : Int)), (19, vI i6), (32, .slice A_k_1 l23.length c_k_1), (33, vI (l23.length : Int)), (34, vI i34)]) (fun s_ g_ => match s_, g_ with | i34, _ => Mem w0 (.blk b1 [.string k_0, .slice A_k_1 k_1.length c_k_1] 176 :: .blk b19 [.string x8.Name, vI x8.Bits, vI x8.Low] 173 :: Fz F W :: cs)) (fun s_ g_ => match s_, g_ with | i34, _ => True) trivial (look_has ⟨rfl, rfl, rfl, rfl, rfl, rfl, rfl, rfl, trivial⟩) (fun w_ hM => hM.pick 3 [1, 0, 2] (by kernel_rfl) (by decide) rfl) ?_
       rintro i34 _ o4 - hs_ hd4
       have hp : (kind_One_l4 l23 x8) i34 = some o4 := hs_
       clear hs_
       unfold kind_One_l4 at hp
       refine st_conv (l' := [(1, vP b1 0), (4, vP b19 0), (17, .slice A_k_1 k_1.length c_k_1), (18, vI (k_1.length : Int)), (19, vI i6), (32, .slice A_k_1 l23.length c_k_1), (33, vI (l23.length : Int)), (34, vI i34)]) (M' := Mem w0 (.blk b1 [.string k_0, .slice A_k_1 k_1.length c_k_1] 176 :: .blk b19 [.string x8.Name, vI x8.Bits, vI x8.Low] 173 :: Fz F W :: cs)) rfl (fun _ h => h) ?_
       refine st_seq ?_
       refine st_region [oF 0] (by rfl) ?_
       refine oR [oF 0] [(35, .bool (decide (i34 < (l23.length : Int)))), (1, vP b1 0), (4, vP b19 0), (17, .slice A_k_1 k_1.length c_k_1), (18, vI (k_1.length : Int)), (19, vI i6), (32, .slice A_k_1 l23.length c_k_1), (33, vI (l23.length : Int)), (34, vI i34)] [35, 1, 4, 17, 18, 19, 32, 33, 34] (by kernel_rfl) ?_
       refine ops_nil ?_
       refine fin_then ?_
       refine st_seq ?_
       refine st_if (b := decide (i34 < (l23.length : Int))) rfl (fun hc35 => ?_) (fun hc35 => ?_)
       · --
        have hp := cnd_t hc35 hp
        refine st_skip ?_
        refine fin_then ?_
        refine st_seq ?_
        refine st_block ?_
        refine st_seq ?_
        refine st_region [oF 0, oF 1, oF 2, oF 3] (by rfl) ?_
        refine oR [] [(1, vP b1 0), (4, vP b19 0), (17, .slice A_k_1 k_1.length c_k_1), (18, vI (k_1.length : Int)), (19, vI i6), (32, .slice A_k_1 l23.length c_k_1), (33, vI (l23.length : Int)), (34, vI i34)] [1, 4, 17, 18, 19, 32, 33, 34] (by kernel_rfl) ?_
        obtain ⟨x36, hv37, hp⟩ := obind hp
        obtain ⟨m38, hm39, hx40⟩ := idx_some hv37
        have hl43 := (List.getElem?_eq_some_iff.1 hx40).1
        obtain ⟨ad44, vs41, hA45, hr42, hq46⟩ := RdS.el h33 hx40
        obtain rfl := dec_api_Field hr42
        refine ops_val (op := (Go.Op.indexAddr 174 (Go.Operand.tmp 32) (Go.Operand.tmp 34))) (d := some 36) (v := .pointer (some (ad44.add (m38 * 3)))) ⟨by kernel_rfl⟩ (run_indexA hA45 Try.underlying174 (z := 3) (by kernel_rfl) rfl rfl hm39 hl43) ?_
        refine ops_mem (d := some 37) (an := [.v (.string x36.Name), .v (vI x36.Bits), .v (vI x36.Low)]) (evs := [.load (ad44.add (m38 * 3)) (.string x36.Name), .load ((ad44.add (m38 * 3)).add 1) (vI x36.Bits), .load ((ad44.add (m38 * 3)).add 2) (vI x36.Low)]) (v := .agg #[.string x36.Name, vI x36.Bits, vI x36.Low]) (M' := Mem w0 (.blk b1 [.string k_0, .slice A_k_1 k_1.length c_k_1] 176 :: .blk b19 [.string x8.Name, vI x8.Bits, vI x8.Low] 173 :: Fz F W :: cs)) ⟨by kernel_rfl⟩ (fun w_ hM hS => ⟨w_, ⟨hM.elcell 2 rfl hq46 0 rfl, hM.elcell 2 rfl hq46 1 rfl, hM.elcell 2 rfl hq46 2 rfl, rfl⟩, hM, trivial⟩) ?_
        refine oR [] [(37, .agg #[.string x36.Name, vI x36.Bits, vI x36.Low]), (1, vP b1 0), (4, vP b19 0), (17, .slice A_k_1 k_1.length c_k_1), (18, vI (k_1.length : Int)), (19, vI i6), (32, .slice A_k_1 l23.length c_k_1), (33, vI (l23.length : Int)), (34, vI i34)] [37, 1, 4, 17, 18, 19, 32, 33, 34] (by kernel_rfl) ?_
        refine ops_new (d := some 7) (o := .cells #[.string ByteArray.empty, vI 0, vI 0] 173) (v := fun b47 => vP b47 0) (M' := fun b47 => Mem w0 (.blk b47 [.string ByteArray.empty, vI 0, vI 0] 173 :: .blk b1 [.string k_0, .slice A_k_1 k_1.length c_k_1] 176 :: .blk b19 [.string x8.Name, vI x8.Bits, vI x8.Low] 173 :: Fz F W :: cs)) (fun b47 => ⟨by kernel_rfl⟩) (fun w_ hM hS => ⟨hM.blk [.string ByteArray.empty, vI 0, vI 0] 173, trivial⟩) (fun b47 => ?_)
        refine ops_store (an := []) (evs := [.store ⟨b47, 0, none⟩ (.string x36.Name), .store ⟨b47, 1, none⟩ (vI x36.Bits), .store ⟨b47, 2, none⟩ (vI x36.Low)]) (M' := Mem w0 (.blk b47 [.string x36.Name, vI x36.Bits, vI x36.Low] 173 :: .blk b1 [.string k_0, .slice A_k_1 k_1.length c_k_1] 176 :: .blk b19 [.string x8.Name, vI x8.Bits, vI x8.Low] 173 :: Fz F W :: cs)) ⟨by kernel_rfl⟩ (fun w_ hM hS => let ⟨w', he, h'⟩ := hM.evs_stores [.string x36.Name, vI x36.Bits, vI x36.Low] 0 rfl 0 (Nat.le_of_ble_eq_true rfl); ⟨w', he, h', trivial⟩) ?_
        refine oR [] [(7, vP b47 0), (1, vP b1 0), (4, vP b19 0), (17, .slice A_k_1 k_1.length c_k_1), (18, vI (k_1.length : Int)), (19, vI i6), (32, .slice A_k_1 l23.length c_k_1), (33, vI (l23.length : Int)), (34, vI i34)] [7, 1, 4, 17, 18, 19, 32, 33, 34] (by kernel_rfl) ?_
        refine ops_nil ?_
        refine fin_then ?_
        refine st_seq ?_
        refine st_region [oF 0, oF 1, oF 2, oF 3, oF 4] (by rfl) ?_
        refine oR [oF 0] [(38, vP b47 0), (1, vP b1 0), (4, vP b19 0), (17, .slice A_k_1 k_1.length c_k_1), (18, vI (k_1.length : Int)), (19, vI i6), (32, .slice A_k_1 l23.length c_k_1), (33, vI (l23.length : Int)), (34, vI i34)] [38, 1, 4, 17, 18, 19, 32, 33, 34] (by kernel_rfl) ?_
        refine ops_mem (d := some 39) (an := [.v (.string x36.Name)]) (evs := [.load ⟨b47, 0, none⟩ (.string x36.Name)]) (v := .string x36.Name) (M' := Mem w0 (.blk b47 [.string x36.Name, vI x36.Bits, vI x36.Low] 173 :: .blk b1 [.string k_0, .slice A_k_1 k_1.length c_k_1] 176 :: .blk b19 [.string x8.Name, vI x8.Bits, vI x8.Low] 173 :: Fz F W :: cs)) ⟨by kernel_rfl⟩ (fun w_ hM hS => ⟨w_, ⟨hM.cell 0 rfl rfl, rfl⟩, hM, trivial⟩) ?_
        refine oR [oF 2] [(40, vP b19 0), (39, .string x36.Name), (1, vP b1 0), (4, vP b19 0), (17, .slice A_k_1 k_1.length c_k_1), (18, vI (k_1.length : Int)), (19, vI i6), (32, .slice A_k_1 l23.length c_k_1), (33, vI (l23.length : Int)), (34, vI i34)] [40, 39, 1, 4, 17, 18, 19, 32, 33, 34] (by kernel_rfl) ?_
        refine ops_mem (d := some 41) (an := [.v (.string x8.Name)]) (evs := [.load ⟨b19, 0, none⟩ (.string x8.Name)]) (v := .string x8.Name) (M' := Mem w0 (.blk b47 [.string x36.Name, vI x36.Bits, vI x36.Low] 173 :: .blk b1 [.string k_0, .slice A_k_1 k_1.length c_k_1] 176 :: .blk b19 [.string x8.Name, vI x8.Bits, vI x8.Low] 173 :: Fz F W :: cs)) ⟨by kernel_rfl⟩ (fun w_ hM hS => ⟨w_, ⟨hM.cell 2 rfl rfl, rfl⟩, hM, trivial⟩) ?_
        refine oR [oF 4] [(42, .bool (x36.Name.toList == x8.Name.toList)), (1, vP b1 0), (4, vP b19 0), (17, .slice A_k_1 k_1.length c_k_1), (18, vI (k_1.length : Int)), (19, vI i6), (32, .slice A_k_1 l23.length c_k_1), (33, vI (l23.length : Int)), (34, vI i34)] [42, 1, 4, 17, 18, 19, 32, 33, 34] (by kernel_rfl) ?_
        refine ops_nil ?_
        refine fin_then ?_
        refine st_if (b := (x36.Name.toList == x8.Name.toList)) rfl (fun hc48 => ?_) (fun hc48 => ?_)
        · --
         have hp := cnd_t hc48 hp
         refine st_seq ?_
         refine st_region [oF 0] (by rfl) ?_
         refine oR [oF 0] [(2, vI 5)] [2] (by kernel_rfl) ?_
         refine ops_nil ?_
         refine fin_then ?_
         refine st_ret ?_
         refine fin_ret_block ?_
         refine fin_ret_then ?_
         refine fin_ret_then ?_
         refine fin_ret_block ?_
         refine fin_ret_block ?_
         refine fin_ret_then ?_
         refine fin_ret_then ?_
         refine fin_ret_block ?_
         refine fin_ret_then ?_
         obtain hq_ := Option.some.inj hp
         subst hq_
         obtain hq_ := hd4 _ rfl
         subst hq_
         have hp : some (.inr (.inl 5)) = some o2 := hk4
         obtain hq_ := Option.some.inj hp
         subst hq_
         obtain hq_ := hd2 _ rfl
         subst hq_
         have hp : some 5 = some i9001 := hk2
         have hq_ := Option.some.inj hp
         have hr0_ := hq_
         subst hr0_
         refine fin_ret [.tmp 2] [vI 5] rfl rfl (fun w_ hM => (.tmp rfl .nil)) (fun w_ hM => ?_)
         exact ⟨trivial, rfl, hM.pick 4 [3] (by kernel_rfl) (by decide) rfl⟩
        · --
         have hp := cnd_f hc48 hp
         refine st_skip ?_
         refine fin_block ?_
         refine fin_then ?_
         refine st_region [oF 0, oF 1] (by rfl) ?_
         refine oR [oF 0, oF 1] [(34, vI (IntKind.i64.wrap (i34 + 1))), (1, vP b1 0), (4, vP b19 0), (17, .slice A_k_1 k_1.length c_k_1), (18, vI (k_1.length : Int)), (19, vI i6), (32, .slice A_k_1 l23.length c_k_1), (33, vI (l23.length : Int))] [34, 1, 4, 17, 18, 19, 32, 33] (by kernel_rfl) ?_
         refine ops_nil ?_
         exact fin_again (IntKind.i64.wrap (i34 + 1)) () (Option.some.inj hp).symm trivial (look_has ⟨rfl, rfl, rfl, rfl, rfl, rfl, rfl, rfl, trivial⟩) (fun w_ hM => hM.pick 4 [1, 2, 3] (by kernel_rfl) (by decide) rfl)
       · --
        have hp := cnd_f hc35 hp
        refine st_exit ?_
        refine fin_exit_then ?_
        refine fin_exit_then ?_
        refine fin_exit ?_
        refine fin_block ?_
        obtain hq_ := Option.some.inj hp
        subst hq_
        obtain hq_ := hd4 _ rfl
        subst hq_
        have hp : (kind_One_j3 i6) = some o2 := hk4
        exact fin_join HJ3 () hp (look_has ⟨rfl, rfl, rfl, rfl, trivial⟩) (fun w_ hM => hM.pick 3 [0, 2] (by kernel_rfl) (by decide) rfl)
    · --
     have hp := cnd_f hc7 hp
     refine st_exit ?_
     refine fin_exit_then ?_
     refine fin_exit_then ?_
     refine fin_exit ?_
     obtain hq_ := Option.some.inj hp
     subst hq_
     obtain hq_ := hd2 _ rfl
     subst hq_
     have hp : kind_One_j1 = some i9001 := hk2
     exact fin_join HJ1 () hp (look_has trivial) (fun w_ hM => hM.pick 2 [1] (by kernel_rfl) (by decide) rfl)
set_option maxHeartbeats 4000000 in
set_option maxRecDepth 100000 in
theorem kind_Find_ok (w0 w : World) (cs : List Chunk) (F : Nat → Prop) (W : World) (A_l : Option Addr) (c_l : Nat) (l : List api_Kind) (name : ByteArray) (hM0 : Mem w0 (Fz F W :: cs) w) (h_l : RdS R_api_Kind F W A_l c_l l) (i9001 : Int) (hp : kind_Find l name = some i9001) : Calls Try.prog 119 #[.slice A_l l.length c_l, .string name] w fun e w' => (True) ∧ e = .returned (vI i9001) ∧ Mem w0 (Fz F W :: cs) w' := by
 unfold kind_Find at hp
 refine sx_calls Try.func119 rfl (n := 20) (by kernel_rfl) (l := [(0, .slice A_l l.length c_l), (1, .string name)]) rfl (by rfl) hM0 ?_
 refine st_seq ?_
 refine st_region [oF 0] (by rfl) ?_
 refine oR [oF 0] [(0, .slice A_l l.length c_l), (1, .string name)] [0, 1] (by kernel_rfl) ?_
 refine ops_nil ?_
 refine fin_then ?_
 refine st_join1 (σ := Unit) (L := fun _ => []) (N := fun _ => Mem w0 (Fz F W :: cs)) (I := fun _ => (kind_Find_j1 = some i9001)) ?_ ?_
 · --
  rintro _ hp
  refine st_conv (l' := []) (M' := Mem w0 (Fz F W :: cs)) rfl (fun _ h => h) ?_
  unfold kind_Find_j1 at hp
  refine st_seq ?_
  refine st_region [oF 0] (by rfl) ?_
  refine oR [oF 0] [(4, vI (-1))] [4] (by kernel_rfl) ?_
  refine ops_nil ?_
  refine fin_then ?_
  refine st_ret ?_
  have hq_ := Option.some.inj hp
  have hr0_ := hq_
  subst hr0_
  refine fin_ret [.tmp 4] [vI (-1)] rfl rfl (fun w_ hM => (.tmp rfl .nil)) (fun w_ hM => ?_)
  exact ⟨trivial, rfl, hM⟩
 · --
  intro HJ1
  refine st_seq ?_
  refine st_seq ?_
  refine st_region [oF 0, oF 1, oF 2] (by rfl) ?_
  refine oR [oF 0, oF 1, oF 2] [(9, vI 0), (8, vI (l.length : Int)), (7, .slice A_l l.length c_l), (1, .string name)] [9, 8, 7, 1] (by kernel_rfl) ?_
  refine ops_nil ?_
  refine fin_then ?_
  refine st_block ?_
  obtain ⟨r2, hl2, hk2⟩ := obind hp
  refine st_loopP (σ := Int) (ρ := (Int ⊕ Unit)) (γ := Unit) hl2 () (fun s_ g_ => match s_, g_ with | i1, _ => [(1, .string name), (7, .slice A_l l.length c_l), (8, vI (l.length : Int)), (9, vI i1)]) (fun s_ g_ => match s_, g_ with | i1, _ => Mem w0 (Fz F W :: cs)) (fun s_ g_ => match s_, g_ with | i1, _ => True) trivial (look_has ⟨rfl, rfl, rfl, rfl, trivial⟩) (fun w_ hM => hM) ?_
  rintro i1 _ o2 - hs_ hd2
  have hp : (kind_Find_l2 l name) i1 = some o2 := hs_
  clear hs_
  unfold kind_Find_l2 at hp
  refine st_conv (l' := [(1, .string name), (7, .slice A_l l.length c_l), (8, vI (l.length : Int)), (9, vI i1)]) (M' := Mem w0 (Fz F W :: cs)) rfl (fun _ h => h) ?_
  refine st_seq ?_
  refine st_region [oF 0] (by rfl) ?_
  refine oR [oF 0] [(10, .bool (decide (i1 < (l.length : Int)))), (1, .string name), (7, .slice A_l l.length c_l), (8, vI (l.length : Int)), (9, vI i1)] [10, 1, 7, 8, 9] (by kernel_rfl) ?_
  refine ops_nil ?_
  refine fin_then ?_
  refine st_seq ?_
  refine st_if (b := decide (i1 < (l.length : Int))) rfl (fun hc2 => ?_) (fun hc2 => ?_)
  · --
   have hp := cnd_t hc2 hp
   refine st_skip ?_
   refine fin_then ?_
   refine st_seq ?_
   refine st_block ?_
   refine st_seq ?_
   refine st_region [oF 0, oF 1, oF 2, oF 3, oF 4, oF 5] (by rfl) ?_
   refine oR [oF 0] [(11, vI i1), (1, .string name), (7, .slice A_l l.length c_l), (8, vI (l.length : Int)), (9, vI i1)] [11, 1, 7, 8, 9] (by kernel_rfl) ?_
   obtain ⟨x3, hv4, hp⟩ := obind hp
   obtain ⟨m5, hm6, hx7⟩ := idx_some hv4
   have hl10 := (List.getElem?_eq_some_iff.1 hx7).1
   obtain ⟨ad11, vs8, hA12, hr9, hq13⟩ := RdS.el h_l hx7
   obtain ⟨A14, c15, rfl, h16⟩ := dec_api_Kind hr9
   refine ops_val (op := (Go.Op.indexAddr 46 (Go.Operand.tmp 7) (Go.Operand.tmp 9))) (d := some 12) (v := .pointer (some (ad11.add (m5 * 2)))) ⟨by kernel_rfl⟩ (run_indexA hA12 Try.underlying46 (z := 2) (by kernel_rfl) rfl rfl hm6 hl10) ?_
   refine ops_mem (d := some 13) (an := [.v (.string x3.Name), .v (.slice A14 x3.Fields.length c15)]) (evs := [.load (ad11.add (m5 * 2)) (.string x3.Name), .load ((ad11.add (m5 * 2)).add 1) (.slice A14 x3.Fields.length c15)]) (v := .agg #[.string x3.Name, .slice A14 x3.Fields.length c15]) (M' := Mem w0 (Fz F W :: cs)) ⟨by kernel_rfl⟩ (fun w_ hM hS => ⟨w_, ⟨hM.elcell 0 rfl hq13 0 rfl, hM.elcell 0 rfl hq13 1 rfl, rfl⟩, hM, trivial⟩) ?_
   refine oR [] [(13, .agg #[.string x3.Name, .slice A14 x3.Fields.length c15]), (11, vI i1), (1, .string name), (7, .slice A_l l.length c_l), (8, vI (l.length : Int)), (9, vI i1)] [13, 11, 1, 7, 8, 9] (by kernel_rfl) ?_
   refine ops_new (d := some 6) (o := .cells #[.string ByteArray.empty, .slice none 0 0] 176) (v := fun b17 => vP b17 0) (M' := fun b17 => Mem w0 (.blk b17 [.string ByteArray.empty, .slice none 0 0] 176 :: Fz F W :: cs)) (fun b17 => ⟨by kernel_rfl⟩) (fun w_ hM hS => ⟨hM.blk [.string ByteArray.empty, .slice none 0 0] 176, trivial⟩) (fun b17 => ?_)
   refine oR [oF 4] [(5, vI i1), (6, vP b17 0), (13, .agg #[.string x3.Name, .slice A14 x3.Fields.length c15]), (1, .string name), (7, .slice A_l l.length c_l), (8, vI (l.length : Int)), (9, vI i1)] [5, 6, 13, 1, 7, 8, 9] (by kernel_rfl) ?_
   refine ops_store (an := []) (evs := [.store ⟨b17, 0, none⟩ (.string x3.Name), .store ⟨b17, 1, none⟩ (.slice A14 x3.Fields.length c15)]) (M' := Mem w0 (.blk b17 [.string x3.Name, .slice A14 x3.Fields.length c15] 176 :: Fz F W :: cs)) ⟨by kernel_rfl⟩ (fun w_ hM hS => let ⟨w', he, h'⟩ := hM.evs_stores [.string x3.Name, .slice A14 x3.Fields.length c15] 0 rfl 0 (Nat.le_of_ble_eq_true rfl); ⟨w', he, h', trivial⟩) ?_
   refine oR [] [(5, vI i1), (6, vP b17 0), (1, .string name), (7, .slice A_l l.length c_l), (8, vI (l.length : Int)), (9, vI i1)] [5, 6, 1, 7, 8, 9] (by kernel_rfl) ?_
   refine ops_nil ?_
   refine fin_then ?_
   refine st_seq ?_
   refine st_region [oF 0, oF 1, oF 2, oF 3] (by rfl) ?_
   refine oR [oF 0] [(14, vP b17 0), (5, vI i1), (1, .string name), (7, .slice A_l l.length c_l), (8, vI (l.length : Int)), (9, vI i1)] [14, 5, 1, 7, 8, 9] (by kernel_rfl) ?_
   refine ops_mem (d := some 15) (an := [.v (.string x3.Name)]) (evs := [.load ⟨b17, 0, none⟩ (.string x3.Name)]) (v := .string x3.Name) (M' := Mem w0 (.blk b17 [.string x3.Name, .slice A14 x3.Fields.length c15] 176 :: Fz F W :: cs)) ⟨by kernel_rfl⟩ (fun w_ hM hS => ⟨w_, ⟨hM.cell 0 rfl rfl, rfl⟩, hM, trivial⟩) ?_
   refine oR [oF 2, oF 3] [(17, .bool (x3.Name.toList == name.toList)), (5, vI i1), (1, .string name), (7, .slice A_l l.length c_l), (8, vI (l.length : Int)), (9, vI i1)] [17, 5, 1, 7, 8, 9] (by kernel_rfl) ?_
   refine ops_nil ?_
   refine fin_then ?_
   refine st_if (b := (x3.Name.toList == name.toList)) rfl (fun hc18 => ?_) (fun hc18 => ?_)
   · --
    have hp := cnd_t hc18 hp
    refine st_seq ?_
    refine st_region [oF 0, oF 1] (by rfl) ?_
    refine oR [oF 0, oF 1] [(4, vI i1)] [4] (by kernel_rfl) ?_
    refine ops_nil ?_
    refine fin_then ?_
    refine st_ret ?_
    refine fin_ret_block ?_
    refine fin_ret_then ?_
    refine fin_ret_then ?_
    refine fin_ret_block ?_
    refine fin_ret_then ?_
    obtain hq_ := Option.some.inj hp
    subst hq_
    obtain hq_ := hd2 _ rfl
    subst hq_
    have hp : some i1 = some i9001 := hk2
    have hq_ := Option.some.inj hp
    have hr0_ := hq_
    subst hr0_
    refine fin_ret [.tmp 4] [vI i1] rfl rfl (fun w_ hM => (.tmp rfl .nil)) (fun w_ hM => ?_)
    exact ⟨trivial, rfl, hM.pick 2 [1] (by kernel_rfl) (by decide) rfl⟩
   · --
    have hp := cnd_f hc18 hp
    refine st_skip ?_
    refine fin_block ?_
    refine fin_then ?_
    refine st_region [oF 0, oF 1] (by rfl) ?_
    refine oR [oF 0, oF 1] [(9, vI (IntKind.i64.wrap (i1 + 1))), (1, .string name), (7, .slice A_l l.length c_l), (8, vI (l.length : Int))] [9, 1, 7, 8] (by kernel_rfl) ?_
    refine ops_nil ?_
    exact fin_again (IntKind.i64.wrap (i1 + 1)) () (Option.some.inj hp).symm trivial (look_has ⟨rfl, rfl, rfl, rfl, trivial⟩) (fun w_ hM => hM.pick 2 [1] (by kernel_rfl) (by decide) rfl)
  · --
   have hp := cnd_f hc2 hp
   refine st_exit ?_
   refine fin_exit_then ?_
   refine fin_exit_then ?_
   refine fin_exit ?_
   obtain hq_ := Option.some.inj hp
   subst hq_
   obtain hq_ := hd2 _ rfl
   subst hq_
   have hp : kind_Find_j1 = some i9001 := hk2
   exact fin_join HJ1 () hp (look_has trivial) (fun w_ hM => hM)
set_option maxHeartbeats 4000000 in
set_option maxRecDepth 100000 in
theorem kind_Check_ok (w0 w : World) (cs : List Chunk) (F : Nat → Prop) (W : World) (A_l : Option Addr) (c_l : Nat) (l : List api_Kind) (hM0 : Mem w0 (Fz F W :: cs) w) (h_l : RdS R_api_Kind F W A_l c_l l) (i9001 : Int) (hp : kind_Check l = some i9001) : Calls Try.prog 110 #[.slice A_l l.length c_l] w fun e w' => (True) ∧ e = .returned (vI i9001) ∧ Mem w0 (Fz F W :: cs) w' := by
 unfold kind_Check at hp
 refine sx_calls Try.func110 rfl (n := 29) (by kernel_rfl) (l := [(0, .slice A_l l.length c_l)]) rfl (by rfl) hM0 ?_
 refine st_seq ?_
 refine st_region [oF 0] (by rfl) ?_
 refine oR [oF 0] [(0, .slice A_l l.length c_l)] [0] (by kernel_rfl) ?_
 refine ops_nil ?_
 refine fin_then ?_
 refine st_seq ?_
 refine st_seq ?_
 refine st_region [oF 0, oF 1, oF 2] (by rfl) ?_
 refine oR [oF 0, oF 1, oF 2] [(8, .bool (decide (16 < (l.length : Int)))), (0, .slice A_l l.length c_l)] [8, 0] (by kernel_rfl) ?_
 refine ops_nil ?_
 refine fin_then ?_
 refine st_if (b := decide (16 < (l.length : Int))) rfl (fun hc1 => ?_) (fun hc1 => ?_)
 · --
  have hp := cnd_t hc1 hp
  refine st_seq ?_
  refine st_region [oF 0] (by rfl) ?_
  refine oR [oF 0] [(2, vI 2)] [2] (by kernel_rfl) ?_
  refine ops_nil ?_
  refine fin_then ?_
  refine st_ret ?_
  refine fin_ret_then ?_
  have hq_ := Option.some.inj hp
  have hr0_ := hq_
  subst hr0_
  refine fin_ret [.tmp 2] [vI 2] rfl rfl (fun w_ hM => (.tmp rfl .nil)) (fun w_ hM => ?_)
  exact ⟨trivial, rfl, hM⟩
 · --
  have hp := cnd_f hc1 hp
  refine st_skip ?_
  refine fin_then ?_
  refine st_join1 (σ := Unit) (L := fun _ => []) (N := fun _ => Mem w0 (Fz F W :: cs)) (I := fun _ => (kind_Check_j1 = some i9001)) ?_ ?_
  · --
   rintro _ hp
   refine st_conv (l' := []) (M' := Mem w0 (Fz F W :: cs)) rfl (fun _ h => h) ?_
   unfold kind_Check_j1 at hp
   refine st_seq ?_
   refine st_region [oF 0] (by rfl) ?_
   refine oR [oF 0] [(2, vI 0)] [2] (by kernel_rfl) ?_
   refine ops_nil ?_
   refine fin_then ?_
   refine st_ret ?_
   have hq_ := Option.some.inj hp
   have hr0_ := hq_
   subst hr0_
   refine fin_ret [.tmp 2] [vI 0] rfl rfl (fun w_ hM => (.tmp rfl .nil)) (fun w_ hM => ?_)
   exact ⟨trivial, rfl, hM⟩
  · --
   intro HJ1
   refine st_seq ?_
   refine st_seq ?_
   refine st_region [oF 0, oF 1, oF 2] (by rfl) ?_
   refine oR [oF 0, oF 1, oF 2] [(11, vI 0), (10, vI (l.length : Int)), (9, .slice A_l l.length c_l), (0, .slice A_l l.length c_l)] [11, 10, 9, 0] (by kernel_rfl) ?_
   refine ops_nil ?_
   refine fin_then ?_
   refine st_block ?_
   obtain ⟨r2, hl2, hk2⟩ := obind hp
   refine st_loopP (σ := Int) (ρ := (Int ⊕ Unit)) (γ := Unit) hl2 () (fun s_ g_ => match s_, g_ with | i2, _ => [(0, .slice A_l l.length c_l), (9, .slice A_l l.length c_l), (10, vI (l.length : Int)), (11, vI i2)]) (fun s_ g_ => match s_, g_ with | i2, _ => Mem w0 (Fz F W :: cs)) (fun s_ g_ => match s_, g_ with | i2, _ => True) trivial (look_has ⟨rfl, rfl, rfl, rfl, trivial⟩) (fun w_ hM => hM) ?_
   rintro i2 _ o2 - hs_ hd2
   have hp : (kind_Check_l2 l) i2 = some o2 := hs_
   clear hs_
   unfold kind_Check_l2 at hp
   refine st_conv (l' := [(0, .slice A_l l.length c_l), (9, .slice A_l l.length c_l), (10, vI (l.length : Int)), (11, vI i2)]) (M' := Mem w0 (Fz F W :: cs)) rfl (fun _ h => h) ?_
   refine st_seq ?_
   refine st_region [oF 0] (by rfl) ?_
   refine oR [oF 0] [(12, .bool (decide (i2 < (l.length : Int)))), (0, .slice A_l l.length c_l), (9, .slice A_l l.length c_l), (10, vI (l.length : Int)), (11, vI i2)] [12, 0, 9, 10, 11] (by kernel_rfl) ?_
   refine ops_nil ?_
   refine fin_then ?_
   refine st_seq ?_
   refine st_if (b := decide (i2 < (l.length : Int))) rfl (fun hc3 => ?_) (fun hc3 => ?_)
   · --
    have hp := cnd_t hc3 hp
    refine st_skip ?_
    refine fin_then ?_
    refine st_seq ?_
    refine st_block ?_
    refine st_seq ?_
    refine st_region [oF 0, oF 1, oF 2, oF 3, oF 4, oF 5] (by rfl) ?_
    refine oR [oF 0] [(13, vI i2), (0, .slice A_l l.length c_l), (9, .slice A_l l.length c_l), (10, vI (l.length : Int)), (11, vI i2)] [13, 0, 9, 10, 11] (by kernel_rfl) ?_
    obtain ⟨x4, hv5, hp⟩ := obind hp
    obtain ⟨m6, hm7, hx8⟩ := idx_some hv5
    have hl11 := (List.getElem?_eq_some_iff.1 hx8).1
    obtain ⟨ad12, vs9, hA13, hr10, hq14⟩ := RdS.el h_l hx8
    obtain ⟨A15, c16, rfl, h17⟩ := dec_api_Kind hr10
    refine ops_val (op := (Go.Op.indexAddr 46 (Go.Operand.tmp 9) (Go.Operand.tmp 11))) (d := some 14) (v := .pointer (some (ad12.add (m6 * 2)))) ⟨by kernel_rfl⟩ (run_indexA hA13 Try.underlying46 (z := 2) (by kernel_rfl) rfl rfl hm7 hl11) ?_
    refine ops_mem (d := some 15) (an := [.v (.string x4.Name), .v (.slice A15 x4.Fields.length c16)]) (evs := [.load (ad12.add (m6 * 2)) (.string x4.Name), .load ((ad12.add (m6 * 2)).add 1) (.slice A15 x4.Fields.length c16)]) (v := .agg #[.string x4.Name, .slice A15 x4.Fields.length c16]) (M' := Mem w0 (Fz F W :: cs)) ⟨by kernel_rfl⟩ (fun w_ hM hS => ⟨w_, ⟨hM.elcell 0 rfl hq14 0 rfl, hM.elcell 0 rfl hq14 1 rfl, rfl⟩, hM, trivial⟩) ?_
    refine oR [] [(15, .agg #[.string x4.Name, .slice A15 x4.Fields.length c16]), (13, vI i2), (0, .slice A_l l.length c_l), (9, .slice A_l l.length c_l), (10, vI (l.length : Int)), (11, vI i2)] [15, 13, 0, 9, 10, 11] (by kernel_rfl) ?_
    refine ops_new (d := some 4) (o := .cells #[.string ByteArray.empty, .slice none 0 0] 176) (v := fun b18 => vP b18 0) (M' := fun b18 => Mem w0 (.blk b18 [.string ByteArray.empty, .slice none 0 0] 176 :: Fz F W :: cs)) (fun b18 => ⟨by kernel_rfl⟩) (fun w_ hM hS => ⟨hM.blk [.string ByteArray.empty, .slice none 0 0] 176, trivial⟩) (fun b18 => ?_)
    refine oR [oF 4] [(3, vI i2), (4, vP b18 0), (15, .agg #[.string x4.Name, .slice A15 x4.Fields.length c16]), (0, .slice A_l l.length c_l), (9, .slice A_l l.length c_l), (10, vI (l.length : Int)), (11, vI i2)] [3, 4, 15, 0, 9, 10, 11] (by kernel_rfl) ?_
    refine ops_store (an := []) (evs := [.store ⟨b18, 0, none⟩ (.string x4.Name), .store ⟨b18, 1, none⟩ (.slice A15 x4.Fields.length c16)]) (M' := Mem w0 (.blk b18 [.string x4.Name, .slice A15 x4.Fields.length c16] 176 :: Fz F W :: cs)) ⟨by kernel_rfl⟩ (fun w_ hM hS => let ⟨w', he, h'⟩ := hM.evs_stores [.string x4.Name, .slice A15 x4.Fields.length c16] 0 rfl 0 (Nat.le_of_ble_eq_true rfl); ⟨w', he, h', trivial⟩) ?_
    refine oR [] [(3, vI i2), (4, vP b18 0), (0, .slice A_l l.length c_l), (9, .slice A_l l.length c_l), (10, vI (l.length : Int)), (11, vI i2)] [3, 4, 0, 9, 10, 11] (by kernel_rfl) ?_
    refine ops_nil ?_
    refine fin_then ?_
    refine st_seq ?_
    refine st_seq ?_
    refine st_region [oF 0, oF 1, oF 2] (by rfl) ?_
    refine ops_mem (d := some 16) (an := [.v (.string x4.Name), .v (.slice A15 x4.Fields.length c16)]) (evs := [.load ⟨b18, 0, none⟩ (.string x4.Name), .load ⟨b18, 1, none⟩ (.slice A15 x4.Fields.length c16)]) (v := .agg #[.string x4.Name, .slice A15 x4.Fields.length c16]) (M' := Mem w0 (.blk b18 [.string x4.Name, .slice A15 x4.Fields.length c16] 176 :: Fz F W :: cs)) ⟨by kernel_rfl⟩ (fun w_ hM hS => ⟨w_, ⟨hM.cell 0 rfl rfl, hM.cell 0 rfl rfl, rfl⟩, hM, trivial⟩) ?_
    obtain ⟨x19, hv20, hp⟩ := obind hp
    refine ops_callI (σ := Unit) (d := some 17) (f := 118) (args := #[.agg #[.string x4.Name, .slice A15 x4.Fields.length c16]]) (v := (fun _ => vI x19)) (I := (fun _ => True)) (M' := (fun _ => Mem w0 (.blk b18 [.string x4.Name, .slice A15 x4.Fields.length c16] 176 :: Fz F W :: cs))) ⟨by kernel_rfl⟩ (fun w_ hM hS => (kind_One_ok w0 w_ (.blk b18 [.string x4.Name, .slice A15 x4.Fields.length c16] 176 :: cs) F W x4.Name A15 c16 x4.Fields (hM.pick 2 [1, 0] (by kernel_rfl) (by decide) rfl) h17 x19 hv20).mono (by rintro e w' ⟨-, rfl, h'⟩; have h' : Mem w0 (.blk b18 [.string x4.Name, .slice A15 x4.Fields.length c16] 176 :: Fz F W :: cs) w' := (h'.pick 2 [1, 0] (by kernel_rfl) (by decide) rfl); exact ⟨(), trivial, rfl, h', trivial⟩)) ?_
    rintro _ -
    refine ops_conv (l' := [(17, vI x19), (16, .agg #[.string x4.Name, .slice A15 x4.Fields.length c16]), (3, vI i2), (4, vP b18 0), (0, .slice A_l l.length c_l), (9, .slice A_l l.length c_l), (10, vI (l.length : Int)), (11, vI i2)]) (M' := Mem w0 (.blk b18 [.string x4.Name, .slice A15 x4.Fields.length c16] 176 :: Fz F W :: cs)) rfl (fun _ h => h) ?_
    refine oR [oF 2] [(5, vI x19), (3, vI i2), (4, vP b18 0), (0, .slice A_l l.length c_l), (9, .slice A_l l.length c_l), (10, vI (l.length : Int)), (11, vI i2)] [5, 3, 4, 0, 9, 10, 11] (by kernel_rfl) ?_
    refine ops_nil ?_
    refine fin_then ?_
    refine st_seq ?_
    refine st_region [oF 0, oF 1] (by rfl) ?_
    refine oR [oF 0, oF 1] [(19, .bool (!(x19 == 0))), (5, vI x19), (3, vI i2), (4, vP b18 0), (0, .slice A_l l.length c_l), (9, .slice A_l l.length c_l), (10, vI (l.length : Int)), (11, vI i2)] [19, 5, 3, 4, 0, 9, 10, 11] (by kernel_rfl) ?_
    refine ops_nil ?_
    refine fin_then ?_
    refine st_if (b := !(x19 == 0)) rfl (fun hc21 => ?_) (fun hc21 => ?_)
    · --
     have hp := cnd_t hc21 hp
     refine st_seq ?_
     refine st_region [oF 0, oF 1] (by rfl) ?_
     refine oR [oF 0, oF 1] [(2, vI x19)] [2] (by kernel_rfl) ?_
     refine ops_nil ?_
     refine fin_then ?_
     refine st_ret ?_
     refine fin_ret_then ?_
     refine fin_ret_block ?_
     refine fin_ret_then ?_
     refine fin_ret_then ?_
     refine fin_ret_block ?_
     refine fin_ret_then ?_
     obtain hq_ := Option.some.inj hp
     subst hq_
     obtain hq_ := hd2 _ rfl
     subst hq_
     have hp : some x19 = some i9001 := hk2
     have hq_ := Option.some.inj hp
     have hr0_ := hq_
     subst hr0_
     refine fin_ret [.tmp 2] [vI x19] rfl rfl (fun w_ hM => (.tmp rfl .nil)) (fun w_ hM => ?_)
     exact ⟨trivial, rfl, hM.pick 2 [1] (by kernel_rfl) (by decide) rfl⟩
    · --
     have hp := cnd_f hc21 hp
     refine st_skip ?_
     refine fin_then ?_
     refine st_seq ?_
     refine st_region_draw [oT 0, oT 1, oT 3, oT 4, oF 2, oF 5, oT 6] (Mem w0 (.blk b18 [.string x4.Name, .slice A15 x4.Fields.length c16] 176 :: Fz F W :: cs)) (by kernel_rfl) (by kernel_rfl) (by kernel_rfl) (fun _ d _ _ _ h => by cases d <;> exact h) (M' := Mem w0 (.blk b18 [.string x4.Name, .slice A15 x4.Fields.length c16] 176 :: Fz F W :: cs)) (fun w_ hM => ⟨hM.drew, hM.drew.sub (.cons_cons _ (.cons_cons _ (.refl _)))⟩) ?_
     refine oR [oT 0, oT 1, oT 3] [(24, vP b18 0), (22, vI i2), (21, .slice A_l l.length c_l), (0, .slice A_l l.length c_l), (9, .slice A_l l.length c_l), (10, vI (l.length : Int)), (11, vI i2)] [24, 22, 21, 0, 9, 10, 11] (by kernel_rfl) ?_
     refine ops_load (d := some 25) (an := [.v (.string x4.Name)]) (evs := [.load ⟨b18, 0, none⟩ (.string x4.Name)]) (v := .string x4.Name) ⟨by kernel_rfl⟩ (fun w_ hM => ⟨hM.cell 0 rfl rfl, rfl⟩) ?_
     refine oR [] [(25, .string x4.Name), (22, vI i2), (21, .slice A_l l.length c_l), (0, .slice A_l l.length c_l), (9, .slice A_l l.length c_l), (10, vI (l.length : Int)), (11, vI i2)] [25, 22, 21, 0, 9, 10, 11] (by kernel_rfl) ?_
     obtain ⟨l22, hv23, hp⟩ := obind hp
     obtain ⟨m24, n25, hm26, hn27, h28, h29, he30⟩ := cut_some hv23
     have hl31 := cut_len he30 h28 h29
     have h32 : RdS R_api_Kind F W A_l c_l l22 := by have h_ := h_l.cut h28 h29; rw [← he30] at h_; rw [show m24 = 0 by omega, cutA_zero, Nat.sub_zero] at h_; exact h_
     refine ops_val (op := (Go.Op.slice 46 (Go.Operand.tmp 21) none (some (Go.Operand.tmp 22)) none)) (d := some 23) (v := .slice A_l l22.length c_l) ⟨by kernel_rfl⟩ (run_cutH0 (by kernel_rfl) (z := 2) (by kernel_rfl) rfl rfl hn27 (Nat.le_trans h29 h_l.cap) (by omega)) ?_
     refine oR [] [(23, .slice A_l l22.length c_l), (25, .string x4.Name), (0, .slice A_l l.length c_l), (9, .slice A_l l.length c_l), (10, vI (l.length : Int)), (11, vI i2)] [23, 25, 0, 9, 10, 11] (by kernel_rfl) ?_
     obtain ⟨x33, hv34, hp⟩ := obind hp
     refine ops_callI (σ := Unit) (d := some 26) (f := 119) (args := #[.slice A_l l22.length c_l, .string x4.Name]) (v := (fun _ => vI x33)) (I := (fun _ => True)) (M' := (fun _ => Mem w0 (.blk b18 [.string x4.Name, .slice A15 x4.Fields.length c16] 176 :: Fz F W :: cs))) ⟨by kernel_rfl⟩ (fun w_ hM hS => (kind_Find_ok w0 w_ (.blk b18 [.string x4.Name, .slice A15 x4.Fields.length c16] 176 :: cs) F W A_l c_l l22 x4.Name (hM.pick 2 [1, 0] (by kernel_rfl) (by decide) rfl) h32 x33 hv34).mono (by rintro e w' ⟨-, rfl, h'⟩; have h' : Mem w0 (.blk b18 [.string x4.Name, .slice A15 x4.Fields.length c16] 176 :: Fz F W :: cs) w' := (h'.pick 2 [1, 0] (by kernel_rfl) (by decide) rfl); exact ⟨(), trivial, rfl, h', (by exact h'.sub (.cons_cons _ (.cons_cons _ (.refl _))))⟩)) ?_
     rintro _ -
     refine ops_conv (l' := [(26, vI x33), (23, .slice A_l l22.length c_l), (25, .string x4.Name), (0, .slice A_l l.length c_l), (9, .slice A_l l.length c_l), (10, vI (l.length : Int)), (11, vI i2)]) (M' := Mem w0 (.blk b18 [.string x4.Name, .slice A15 x4.Fields.length c16] 176 :: Fz F W :: cs)) rfl (fun _ h => h) ?_
     refine oR [oT 6] [(27, .bool (decide (0 ≤ x33))), (0, .slice A_l l.length c_l), (9, .slice A_l l.length c_l), (10, vI (l.length : Int)), (11, vI i2)] [27, 0, 9, 10, 11] (by kernel_rfl) ?_
     refine ops_nil ?_
     refine fin_then ?_
     refine st_if (b := decide (0 ≤ x33)) rfl (fun hc35 => ?_) (fun hc35 => ?_)
     · --
      have hp := cnd_t hc35 hp
      refine st_seq ?_
      refine st_region [oF 0] (by rfl) ?_
      refine oR [oF 0] [(2, vI 5)] [2] (by kernel_rfl) ?_
      refine ops_nil ?_
      refine fin_then ?_
      refine st_ret ?_
      refine fin_ret_block ?_
      refine fin_ret_then ?_
      refine fin_ret_then ?_
      refine fin_ret_block ?_
      refine fin_ret_then ?_
      obtain hq_ := Option.some.inj hp
      subst hq_
      obtain hq_ := hd2 _ rfl
      subst hq_
      have hp : some 5 = some i9001 := hk2
      have hq_ := Option.some.inj hp
      have hr0_ := hq_
      subst hr0_
      refine fin_ret [.tmp 2] [vI 5] rfl rfl (fun w_ hM => (.tmp rfl .nil)) (fun w_ hM => ?_)
      exact ⟨trivial, rfl, hM.pick 2 [1] (by kernel_rfl) (by decide) rfl⟩
     · --
      have hp := cnd_f hc35 hp
      refine st_skip ?_
      refine fin_block ?_
      refine fin_then ?_
      refine st_region [oF 0, oF 1] (by rfl) ?_
      refine oR [oF 0, oF 1] [(11, vI (IntKind.i64.wrap (i2 + 1))), (0, .slice A_l l.length c_l), (9, .slice A_l l.length c_l), (10, vI (l.length : Int))] [11, 0, 9, 10] (by kernel_rfl) ?_
      refine ops_nil ?_
      exact fin_again (IntKind.i64.wrap (i2 + 1)) () (Option.some.inj hp).symm trivial (look_has ⟨rfl, rfl, rfl, rfl, trivial⟩) (fun w_ hM => hM.pick 2 [1] (by kernel_rfl) (by decide) rfl)
   · --
    have hp := cnd_f hc3 hp
    refine st_exit ?_
    refine fin_exit_then ?_
    refine fin_exit_then ?_
    refine fin_exit ?_
    obtain hq_ := Option.some.inj hp
    subst hq_
    obtain hq_ := hd2 _ rfl
    subst hq_
    have hp : kind_Check_j1 = some i9001 := hk2
    exact fin_join HJ1 () hp (look_has trivial) (fun w_ hM => hM)
set_option maxHeartbeats 4000000 in
set_option maxRecDepth 100000 in
theorem kind_High_ok (w0 w : World) (cs : List Chunk) (F : Nat → Prop) (W : World) (f_0 : ByteArray) (f_1 : Int) (f_2 : Int) (hM0 : Mem w0 (Fz F W :: cs) w) (i9001 : Int) (hp : kind_High f_0 f_1 f_2 = some i9001) : Calls Try.prog 146 #[.agg #[.string f_0, vI f_1, vI f_2]] w fun e w' => (True) ∧ e = .returned (vI i9001) ∧ Mem w0 (Fz F W :: cs) w' := by
 unfold kind_High at hp
 refine sx_calls Try.func146 rfl (n := 13) (by kernel_rfl) (l := [(0, .agg #[.string f_0, vI f_1, vI f_2])]) rfl (by rfl) hM0 ?_
 refine st_seq ?_
 refine st_region [oF 0, oF 1] (by rfl) ?_
 refine ops_new (d := some 1) (o := .cells #[.string f_0, vI f_1, vI f_2] 173) (v := fun b1 => vP b1 0) (M' := fun b1 => Mem w0 (.blk b1 [.string f_0, vI f_1, vI f_2] 173 :: Fz F W :: cs)) (fun b1 => ⟨by kernel_rfl⟩) (fun w_ hM hS => ⟨hM.blk [.string f_0, vI f_1, vI f_2] 173, trivial⟩) (fun b1 => ?_)
 refine oR [oF 1] [(1, vP b1 0)] [1] (by kernel_rfl) ?_
 refine ops_nil ?_
 refine fin_then ?_
 refine st_seq ?_
 refine st_seq ?_
 refine st_region [oF 0, oF 1, oF 2] (by rfl) ?_
 refine ops_mem (d := some 3) (an := [.v (.string f_0), .v (vI f_1), .v (vI f_2)]) (evs := [.load ⟨b1, 0, none⟩ (.string f_0), .load ⟨b1, 1, none⟩ (vI f_1), .load ⟨b1, 2, none⟩ (vI f_2)]) (v := .agg #[.string f_0, vI f_1, vI f_2]) (M' := Mem w0 (.blk b1 [.string f_0, vI f_1, vI f_2] 173 :: Fz F W :: cs)) ⟨by kernel_rfl⟩ (fun w_ hM hS => ⟨w_, ⟨hM.cell 0 rfl rfl, hM.cell 0 rfl rfl, hM.cell 0 rfl rfl, rfl⟩, hM, trivial⟩) ?_
 obtain ⟨x2, hv3, hp⟩ := obind hp
 refine ops_callI (σ := Unit) (d := some 4) (f := 138) (args := #[.agg #[.string f_0, vI f_1, vI f_2]]) (v := (fun _ => vI x2)) (I := (fun _ => True)) (M' := (fun _ => Mem w0 (.blk b1 [.string f_0, vI f_1, vI f_2] 173 :: Fz F W :: cs))) ⟨by kernel_rfl⟩ (fun w_ hM hS => (kind_field_ok w0 w_ (.blk b1 [.string f_0, vI f_1, vI f_2] 173 :: cs) F W f_0 f_1 f_2 (hM.pick 2 [1, 0] (by kernel_rfl) (by decide) rfl)  x2 hv3).mono (by rintro e w' ⟨-, rfl, h'⟩; have h' : Mem w0 (.blk b1 [.string f_0, vI f_1, vI f_2] 173 :: Fz F W :: cs) w' := (h'.pick 2 [1, 0] (by kernel_rfl) (by decide) rfl); exact ⟨(), trivial, rfl, h', trivial⟩)) ?_
 rintro _ -
 refine ops_conv (l' := [(4, vI x2), (3, .agg #[.string f_0, vI f_1, vI f_2]), (1, vP b1 0)]) (M' := Mem w0 (.blk b1 [.string f_0, vI f_1, vI f_2] 173 :: Fz F W :: cs)) rfl (fun _ h => h) ?_
 refine oR [oF 2] [(5, .bool (!(x2 == 0))), (1, vP b1 0)] [5, 1] (by kernel_rfl) ?_
 refine ops_nil ?_
 refine fin_then ?_
 refine st_if (b := !(x2 == 0)) rfl (fun hc4 => ?_) (fun hc4 => ?_)
 · --
  have hp := cnd_t hc4 hp
  refine st_seq ?_
  refine st_region [oF 0] (by rfl) ?_
  refine oR [oF 0] [(2, vI 0)] [2] (by kernel_rfl) ?_
  refine ops_nil ?_
  refine fin_then ?_
  refine st_ret ?_
  refine fin_ret_then ?_
  have hq_ := Option.some.inj hp
  have hr0_ := hq_
  subst hr0_
  refine fin_ret [.tmp 2] [vI 0] rfl rfl (fun w_ hM => (.tmp rfl .nil)) (fun w_ hM => ?_)
  exact ⟨trivial, rfl, hM.pick 2 [1] (by kernel_rfl) (by decide) rfl⟩
 · --
  have hp := cnd_f hc4 hp
  refine st_skip ?_
  refine fin_then ?_
  refine st_seq ?_
  refine st_region_draw [oT 0, oT 1, oT 2, oT 3, oT 4, oT 5, oT 6, oT 7] (Mem w0 (.blk b1 [.string f_0, vI f_1, vI f_2] 173 :: Fz F W :: cs)) (by kernel_rfl) (by kernel_rfl) (by kernel_rfl) (fun _ d _ _ _ h => by cases d <;> exact h) (M' := Mem w0 (.blk b1 [.string f_0, vI f_1, vI f_2] 173 :: Fz F W :: cs)) (fun w_ hM => ⟨hM.drew, hM.drew.sub (.cons_cons _ (.cons_cons _ (.refl _)))⟩) ?_
  refine oR [oT 0] [(6, vP b1 2), (1, vP b1 0)] [6, 1] (by kernel_rfl) ?_
  refine ops_load (d := some 7) (an := [.v (vI f_2)]) (evs := [.load ⟨b1, 2, none⟩ (vI f_2)]) (v := vI f_2) ⟨by kernel_rfl⟩ (fun w_ hM => ⟨hM.cell 0 rfl rfl, rfl⟩) ?_
  refine oR [oT 2] [(8, vP b1 1), (7, vI f_2)] [8, 7] (by kernel_rfl) ?_
  refine ops_load (d := some 9) (an := [.v (vI f_1)]) (evs := [.load ⟨b1, 1, none⟩ (vI f_1)]) (v := vI f_1) ⟨by kernel_rfl⟩ (fun w_ hM => ⟨hM.cell 0 rfl rfl, rfl⟩) ?_
  refine oR [] [(9, vI f_1), (7, vI f_2)] [9, 7] (by kernel_rfl) ?_
  obtain ⟨x5, hv6, hp⟩ := obind hp
  obtain ⟨hb7, he8⟩ := shl_some hv6
  refine ops_val (op := (Go.Op.binOp Go.BinOp.shl 3 (Go.Operand.const (Go.Value.int Go.IntKind.i64 1)) (Go.Operand.tmp 9) 3)) (d := some 10) (v := vI x5) ⟨by kernel_rfl⟩ (by rw [he8]; exact run_shl rfl rfl hb7) ?_
  refine oR [oT 5, oT 6, oT 7] [(2, vI (IntKind.i64.wrap (f_2 + IntKind.i64.wrap (x5 - 1))))] [2] (by kernel_rfl) ?_
  refine ops_nil ?_
  refine fin_then ?_
  refine st_ret ?_
  have hq_ := Option.some.inj hp
  have hr0_ := hq_
  subst hr0_
  refine fin_ret [.tmp 2] [vI (IntKind.i64.wrap (f_2 + IntKind.i64.wrap (x5 - 1)))] rfl rfl (fun w_ hM => (.tmp rfl .nil)) (fun w_ hM => ?_)
  exact ⟨trivial, rfl, hM.pick 2 [1] (by kernel_rfl) (by decide) rfl⟩
set_option maxHeartbeats 4000000 in
set_option maxRecDepth 100000 in
theorem kind_Near_ok (w0 w : World) (cs : List Chunk) (F : Nat → Prop) (W : World) (f_0 : ByteArray) (f_1 : Int) (f_2 : Int) (v : Int) (hM0 : Mem w0 (Fz F W :: cs) w) (i9001 : Int) (hp : kind_Near f_0 f_1 f_2 v = some i9001) : Calls Try.prog 139 #[.agg #[.string f_0, vI f_1, vI f_2], vI v] w fun e w' => (True) ∧ e = .returned (vI i9001) ∧ Mem w0 (Fz F W :: cs) w' := by
 unfold kind_Near at hp
 refine sx_calls Try.func139 rfl (n := 15) (by kernel_rfl) (l := [(0, .agg #[.string f_0, vI f_1, vI f_2]), (1, vI v)]) rfl (by rfl) hM0 ?_
 refine st_seq ?_
 refine st_region [oF 0, oF 1] (by rfl) ?_
 refine ops_new (d := some 2) (o := .cells #[.string f_0, vI f_1, vI f_2] 173) (v := fun b1 => vP b1 0) (M' := fun b1 => Mem w0 (.blk b1 [.string f_0, vI f_1, vI f_2] 173 :: Fz F W :: cs)) (fun b1 => ⟨by kernel_rfl⟩) (fun w_ hM hS => ⟨hM.blk [.string f_0, vI f_1, vI f_2] 173, trivial⟩) (fun b1 => ?_)
 refine oR [oF 1] [(2, vP b1 0), (1, vI v)] [2, 1] (by kernel_rfl) ?_
 refine ops_nil ?_
 refine fin_then ?_
 refine st_seq ?_
 refine st_seq ?_
 refine st_region [oF 0, oF 1, oF 2] (by rfl) ?_
 refine ops_mem (d := some 5) (an := [.v (.string f_0), .v (vI f_1), .v (vI f_2)]) (evs := [.load ⟨b1, 0, none⟩ (.string f_0), .load ⟨b1, 1, none⟩ (vI f_1), .load ⟨b1, 2, none⟩ (vI f_2)]) (v := .agg #[.string f_0, vI f_1, vI f_2]) (M' := Mem w0 (.blk b1 [.string f_0, vI f_1, vI f_2] 173 :: Fz F W :: cs)) ⟨by kernel_rfl⟩ (fun w_ hM hS => ⟨w_, ⟨hM.cell 0 rfl rfl, hM.cell 0 rfl rfl, hM.cell 0 rfl rfl, rfl⟩, hM, trivial⟩) ?_
 obtain ⟨x2, hv3, hp⟩ := obind hp
 refine ops_callI (σ := Unit) (d := some 6) (f := 138) (args := #[.agg #[.string f_0, vI f_1, vI f_2]]) (v := (fun _ => vI x2)) (I := (fun _ => True)) (M' := (fun _ => Mem w0 (.blk b1 [.string f_0, vI f_1, vI f_2] 173 :: Fz F W :: cs))) ⟨by kernel_rfl⟩ (fun w_ hM hS => (kind_field_ok w0 w_ (.blk b1 [.string f_0, vI f_1, vI f_2] 173 :: cs) F W f_0 f_1 f_2 (hM.pick 2 [1, 0] (by kernel_rfl) (by decide) rfl)  x2 hv3).mono (by rintro e w' ⟨-, rfl, h'⟩; have h' : Mem w0 (.blk b1 [.string f_0, vI f_1, vI f_2] 173 :: Fz F W :: cs) w' := (h'.pick 2 [1, 0] (by kernel_rfl) (by decide) rfl); exact ⟨(), trivial, rfl, h', trivial⟩)) ?_
 rintro _ -
 refine ops_conv (l' := [(6, vI x2), (5, .agg #[.string f_0, vI f_1, vI f_2]), (2, vP b1 0), (1, vI v)]) (M' := Mem w0 (.blk b1 [.string f_0, vI f_1, vI f_2] 173 :: Fz F W :: cs)) rfl (fun _ h => h) ?_
 refine oR [oF 2] [(7, .bool (!(x2 == 0))), (2, vP b1 0), (1, vI v)] [7, 2, 1] (by kernel_rfl) ?_
 refine ops_nil ?_
 refine fin_then ?_
 refine st_if (b := !(x2 == 0)) rfl (fun hc4 => ?_) (fun hc4 => ?_)
 · --
  have hp := cnd_t hc4 hp
  refine st_seq ?_
  refine st_region [oF 0] (by rfl) ?_
  refine oR [oF 0] [(4, vI 0)] [4] (by kernel_rfl) ?_
  refine ops_nil ?_
  refine fin_then ?_
  refine st_ret ?_
  refine fin_ret_then ?_
  have hq_ := Option.some.inj hp
  have hr0_ := hq_
  subst hr0_
  refine fin_ret [.tmp 4] [vI 0] rfl rfl (fun w_ hM => (.tmp rfl .nil)) (fun w_ hM => ?_)
  exact ⟨trivial, rfl, hM.pick 2 [1] (by kernel_rfl) (by decide) rfl⟩
 · --
  have hp := cnd_f hc4 hp
  refine st_skip ?_
  refine fin_then ?_
  refine st_seq ?_
  refine st_region_draw [oT 0, oT 1, oT 2, oT 3, oF 4, oT 5, oT 6, oT 7] (Mem w0 (.blk b1 [.string f_0, vI f_1, vI f_2] 173 :: Fz F W :: cs)) (by kernel_rfl) (by kernel_rfl) (by kernel_rfl) (fun _ d _ _ _ h => by cases d <;> exact h) (M' := Mem w0 (.blk b1 [.string f_0, vI f_1, vI f_2] 173 :: Fz F W :: cs)) (fun w_ hM => ⟨hM.drew, hM.drew.sub (.cons_cons _ (.cons_cons _ (.refl _)))⟩) ?_
  refine oR [oT 0] [(8, vP b1 2), (2, vP b1 0), (1, vI v)] [8, 2, 1] (by kernel_rfl) ?_
  refine ops_load (d := some 9) (an := [.v (vI f_2)]) (evs := [.load ⟨b1, 2, none⟩ (vI f_2)]) (v := vI f_2) ⟨by kernel_rfl⟩ (fun w_ hM => ⟨hM.cell 0 rfl rfl, rfl⟩) ?_
  refine oR [oT 2] [(10, vI v), (9, vI f_2), (2, vP b1 0)] [10, 9, 2] (by kernel_rfl) ?_
  refine ops_load (d := some 11) (an := [.v (.string f_0), .v (vI f_1), .v (vI f_2)]) (evs := [.load ⟨b1, 0, none⟩ (.string f_0), .load ⟨b1, 1, none⟩ (vI f_1), .load ⟨b1, 2, none⟩ (vI f_2)]) (v := .agg #[.string f_0, vI f_1, vI f_2]) ⟨by kernel_rfl⟩ (fun w_ hM => ⟨hM.cell 0 rfl rfl, hM.cell 0 rfl rfl, hM.cell 0 rfl rfl, rfl⟩) ?_
  refine oR [] [(11, .agg #[.string f_0, vI f_1, vI f_2]), (10, vI v), (9, vI f_2)] [11, 10, 9] (by kernel_rfl) ?_
  obtain ⟨x5, hv6, hp⟩ := obind hp
  refine ops_callI (σ := Unit) (d := some 12) (f := 146) (args := #[.agg #[.string f_0, vI f_1, vI f_2]]) (v := (fun _ => vI x5)) (I := (fun _ => True)) (M' := (fun _ => Mem w0 (.blk b1 [.string f_0, vI f_1, vI f_2] 173 :: Fz F W :: cs))) ⟨by kernel_rfl⟩ (fun w_ hM hS => (kind_High_ok w0 w_ (.blk b1 [.string f_0, vI f_1, vI f_2] 173 :: cs) F W f_0 f_1 f_2 (hM.pick 2 [1, 0] (by kernel_rfl) (by decide) rfl)  x5 hv6).mono (by rintro e w' ⟨-, rfl, h'⟩; have h' : Mem w0 (.blk b1 [.string f_0, vI f_1, vI f_2] 173 :: Fz F W :: cs) w' := (h'.pick 2 [1, 0] (by kernel_rfl) (by decide) rfl); exact ⟨(), trivial, rfl, h', (by exact h'.sub (.cons_cons _ (.cons_cons _ (.refl _))))⟩)) ?_
  rintro _ -
  refine ops_conv (l' := [(12, vI x5), (11, .agg #[.string f_0, vI f_1, vI f_2]), (10, vI v), (9, vI f_2)]) (M' := Mem w0 (.blk b1 [.string f_0, vI f_1, vI f_2] 173 :: Fz F W :: cs)) rfl (fun _ h => h) ?_
  refine oR [] [(12, vI x5), (10, vI v), (9, vI f_2)] [12, 10, 9] (by kernel_rfl) ?_
  refine ops_val (op := (Go.Op.call { callee := (Go.Callee.builtin Go.Builtin.min), args := #[(Go.Operand.tmp 10), (Go.Operand.tmp 12)], argTypes := #[3, 3] })) (d := some 13) (v := vI (min v x5)) ⟨by kernel_rfl⟩ (run_min rfl rfl) ?_
  refine oR [] [(13, vI (min v x5)), (9, vI f_2)] [13, 9] (by kernel_rfl) ?_
  refine ops_val (op := (Go.Op.call { callee := (Go.Callee.builtin Go.Builtin.max), args := #[(Go.Operand.tmp 9), (Go.Operand.tmp 13)], argTypes := #[3, 3] })) (d := some 14) (v := vI (max f_2 (min v x5))) ⟨by kernel_rfl⟩ (run_max rfl rfl) ?_
  refine oR [oT 7] [(4, vI (max f_2 (min v x5)))] [4] (by kernel_rfl) ?_
  refine ops_nil ?_
  refine fin_then ?_
  refine st_ret ?_
  have hq_ := Option.some.inj hp
  have hr0_ := hq_
  subst hr0_
  refine fin_ret [.tmp 4] [vI (max f_2 (min v x5))] rfl rfl (fun w_ hM => (.tmp rfl .nil)) (fun w_ hM => ?_)
  exact ⟨trivial, rfl, hM.pick 2 [1] (by kernel_rfl) (by decide) rfl⟩
set_option maxHeartbeats 4000000 in
set_option maxRecDepth 100000 in
theorem kind_Fit_ok (w0 w : World) (cs : List Chunk) (F : Nat → Prop) (W : World) (k_0 : ByteArray) (A_k_1 : Option Addr) (c_k_1 : Nat) (k_1 : List api_Field) (A_vals : Option Addr) (c_vals : Nat) (vals : List Int) (hM0 : Mem w0 (Fz F W :: cs) w) (h_k_1 : RdS R_api_Field F W A_k_1 c_k_1 k_1) (h_vals : RdS (Rep.int .i64) F W A_vals c_vals vals) (l9003 : List Int) (i9006 : Int) (hp : kind_Fit k_0 k_1 vals = some (l9003, i9006)) : Calls Try.prog 122 #[.agg #[.string k_0, .slice A_k_1 k_1.length c_k_1], .slice A_vals vals.length c_vals] w fun e w' => ∃ (A9001 : Option Addr), ∃ (c9002 : Nat), ∃ (y9004 : List Value), ((RepL (Rep.int .i64) F W l9003 y9004)) ∧ e = .returned (.tuple #[.slice A9001 l9003.length c9002, vI i9006]) ∧ Mem w0 (orow A9001 l9003.length c9002 3 1 y9004 :: Fz F W :: cs) w' := by
 unfold kind_Fit at hp
 refine sx_calls Try.func122 rfl (n := 43) (by kernel_rfl) (l := [(0, .agg #[.string k_0, .slice A_k_1 k_1.length c_k_1]), (1, .slice A_vals vals.length c_vals)]) rfl (by rfl) hM0 ?_
 refine st_seq ?_
 refine st_region [oF 0, oF 1, oF 2] (by rfl) ?_
 refine ops_new (d := some 2) (o := .cells #[.string k_0, .slice A_k_1 k_1.length c_k_1] 176) (v := fun b1 => vP b1 0) (M' := fun b1 => Mem w0 (.blk b1 [.string k_0, .slice A_k_1 k_1.length c_k_1] 176 :: Fz F W :: cs)) (fun b1 => ⟨by kernel_rfl⟩) (fun w_ hM hS => ⟨hM.blk [.string k_0, .slice A_k_1 k_1.length c_k_1] 176, trivial⟩) (fun b1 => ?_)
 refine oR [oF 1, oF 2] [(2, vP b1 0), (1, .slice A_vals vals.length c_vals)] [2, 1] (by kernel_rfl) ?_
 refine ops_nil ?_
 refine fin_then ?_
 refine st_seq ?_
 refine st_seq ?_
 refine st_region [oF 0, oF 1, oF 2] (by rfl) ?_
 refine ops_mem (d := some 10) (an := [.v (.string k_0), .v (.slice A_k_1 k_1.length c_k_1)]) (evs := [.load ⟨b1, 0, none⟩ (.string k_0), .load ⟨b1, 1, none⟩ (.slice A_k_1 k_1.length c_k_1)]) (v := .agg #[.string k_0, .slice A_k_1 k_1.length c_k_1]) (M' := Mem w0 (.blk b1 [.string k_0, .slice A_k_1 k_1.length c_k_1] 176 :: Fz F W :: cs)) ⟨by kernel_rfl⟩ (fun w_ hM hS => ⟨w_, ⟨hM.cell 0 rfl rfl, hM.cell 0 rfl rfl, rfl⟩, hM, trivial⟩) ?_
 obtain ⟨x2, hv3, hp⟩ := obind hp
 refine ops_callI (σ := Unit) (d := some 11) (f := 118) (args := #[.agg #[.string k_0, .slice A_k_1 k_1.length c_k_1]]) (v := (fun _ => vI x2)) (I := (fun _ => True)) (M' := (fun _ => Mem w0 (.blk b1 [.string k_0, .slice A_k_1 k_1.length c_k_1] 176 :: Fz F W :: cs))) ⟨by kernel_rfl⟩ (fun w_ hM hS => (kind_One_ok w0 w_ (.blk b1 [.string k_0, .slice A_k_1 k_1.length c_k_1] 176 :: cs) F W k_0 A_k_1 c_k_1 k_1 (hM.pick 2 [1, 0] (by kernel_rfl) (by decide) rfl) h_k_1 x2 hv3).mono (by rintro e w' ⟨-, rfl, h'⟩; have h' : Mem w0 (.blk b1 [.string k_0, .slice A_k_1 k_1.length c_k_1] 176 :: Fz F W :: cs) w' := (h'.pick 2 [1, 0] (by kernel_rfl) (by decide) rfl); exact ⟨(), trivial, rfl, h', trivial⟩)) ?_
 rintro _ -
 refine ops_conv (l' := [(11, vI x2), (10, .agg #[.string k_0, .slice A_k_1 k_1.length c_k_1]), (2, vP b1 0), (1, .slice A_vals vals.length c_vals)]) (M' := Mem w0 (.blk b1 [.string k_0, .slice A_k_1 k_1.length c_k_1] 176 :: Fz F W :: cs)) rfl (fun _ h => h) ?_
 refine oR [oF 2] [(6, vI x2), (2, vP b1 0), (1, .slice A_vals vals.length c_vals)] [6, 2, 1] (by kernel_rfl) ?_
 refine ops_nil ?_
 refine fin_then ?_
 refine st_seq ?_
 refine st_region [oF 0, oF 1] (by rfl) ?_
 refine oR [oF 0, oF 1] [(13, .bool (!(x2 == 0))), (6, vI x2), (2, vP b1 0), (1, .slice A_vals vals.length c_vals)] [13, 6, 2, 1] (by kernel_rfl) ?_
 refine ops_nil ?_
 refine fin_then ?_
 refine st_if (b := !(x2 == 0)) rfl (fun hc4 => ?_) (fun hc4 => ?_)
 · --
  have hp := cnd_t hc4 hp
  refine st_seq ?_
  refine st_region [oF 0, oF 1, oF 2] (by rfl) ?_
  refine oR [oF 0, oF 1, oF 2] [(5, vI x2), (4, .slice none 0 0)] [5, 4] (by kernel_rfl) ?_
  refine ops_nil ?_
  refine fin_then ?_
  refine st_ret ?_
  refine fin_ret_then ?_
  refine fin_conv (l' := [(5, vI x2), (4, .slice none 0 0)]) (M' := Mem w0 (orow none ([] : List Int).length 0 3 1 [] :: .blk b1 [.string k_0, .slice A_k_1 k_1.length c_k_1] 176 :: Fz F W :: cs)) rfl (fun w_ h => h.onil none 3 1) ?_
  refine fin_conv (l' := [(5, vI x2), (4, .slice none ([] : List Int).length 0)]) (M' := Mem w0 (orow none ([] : List Int).length 0 3 1 [] :: .blk b1 [.string k_0, .slice A_k_1 k_1.length c_k_1] 176 :: Fz F W :: cs)) rfl (fun _ h => h) ?_
  have hq_ := Option.some.inj hp
  obtain ⟨hr0_, hq_⟩ := Prod.mk.inj hq_
  have hr1_ := hq_
  subst hr0_
  subst hr1_
  refine fin_ret [.tmp 4, .tmp 5] [.slice none ([] : List Int).length 0, vI x2] rfl rfl (fun w_ hM => (.tmp rfl (.tmp rfl .nil))) (fun w_ hM => ?_)
  exact ⟨none, 0, [], (RepL.nil (R := (Rep.int .i64))), rfl, hM.pick 3 [0, 2] (by kernel_rfl) (by decide) rfl⟩
 · --
  have hp := cnd_f hc4 hp
  refine st_skip ?_
  refine fin_then ?_
  refine st_seq ?_
  refine st_seq ?_
  refine st_region [oF 0, oF 1, oF 2, oF 3, oF 4, oF 5] (by rfl) ?_
  refine oR [oF 0, oF 1, oF 2] [(17, vP b1 1), (16, vI (vals.length : Int)), (2, vP b1 0), (1, .slice A_vals vals.length c_vals)] [17, 16, 2, 1] (by kernel_rfl) ?_
  refine ops_mem (d := some 18) (an := [.v (.slice A_k_1 k_1.length c_k_1)]) (evs := [.load ⟨b1, 1, none⟩ (.slice A_k_1 k_1.length c_k_1)]) (v := .slice A_k_1 k_1.length c_k_1) (M' := Mem w0 (.blk b1 [.string k_0, .slice A_k_1 k_1.length c_k_1] 176 :: Fz F W :: cs)) ⟨by kernel_rfl⟩ (fun w_ hM hS => ⟨w_, ⟨hM.cell 0 rfl rfl, rfl⟩, hM, trivial⟩) ?_
  refine oR [oF 4, oF 5] [(20, .bool (!((vals.length : Int) == (k_1.length : Int)))), (2, vP b1 0), (1, .slice A_vals vals.length c_vals)] [20, 2, 1] (by kernel_rfl) ?_
  refine ops_nil ?_
  refine fin_then ?_
  refine st_if (b := !((vals.length : Int) == (k_1.length : Int))) rfl (fun hc5 => ?_) (fun hc5 => ?_)
  · --
   have hp := cnd_t hc5 hp
   refine st_seq ?_
   refine st_region [oF 0, oF 1] (by rfl) ?_
   refine oR [oF 0, oF 1] [(5, vI 1), (4, .slice none 0 0)] [5, 4] (by kernel_rfl) ?_
   refine ops_nil ?_
   refine fin_then ?_
   refine st_ret ?_
   refine fin_ret_then ?_
   refine fin_conv (l' := [(5, vI 1), (4, .slice none 0 0)]) (M' := Mem w0 (orow none ([] : List Int).length 0 3 1 [] :: .blk b1 [.string k_0, .slice A_k_1 k_1.length c_k_1] 176 :: Fz F W :: cs)) rfl (fun w_ h => h.onil none 3 1) ?_
   refine fin_conv (l' := [(5, vI 1), (4, .slice none ([] : List Int).length 0)]) (M' := Mem w0 (orow none ([] : List Int).length 0 3 1 [] :: .blk b1 [.string k_0, .slice A_k_1 k_1.length c_k_1] 176 :: Fz F W :: cs)) rfl (fun _ h => h) ?_
   have hq_ := Option.some.inj hp
   obtain ⟨hr0_, hq_⟩ := Prod.mk.inj hq_
   have hr1_ := hq_
   subst hr0_
   subst hr1_
   refine fin_ret [.tmp 4, .tmp 5] [.slice none ([] : List Int).length 0, vI 1] rfl rfl (fun w_ hM => (.tmp rfl (.tmp rfl .nil))) (fun w_ hM => ?_)
   exact ⟨none, 0, [], (RepL.nil (R := (Rep.int .i64))), rfl, hM.pick 3 [0, 2] (by kernel_rfl) (by decide) rfl⟩
  · --
   have hp := cnd_f hc5 hp
   refine st_skip ?_
   refine fin_then ?_
   refine st_seq ?_
   refine st_region [oF 0, oF 1, oF 2, oF 3] (by rfl) ?_
   refine oR [oF 0, oF 1] [(22, vI (vals.length : Int)), (2, vP b1 0), (1, .slice A_vals vals.length c_vals)] [22, 2, 1] (by kernel_rfl) ?_
   obtain ⟨l6, hv7, hp⟩ := obind hp
   obtain ⟨m8, hm9, he10, hb11⟩ := mk_some hv7
   have hl12 : l6.length = m8 := by rw [he10, List.length_replicate]
   obtain ⟨y13, hy14⟩ : ∃ y_, (Sx.madeOf [vI 0] (l6.length * 1)).toList = y_ := ⟨_, rfl⟩
   have h15 : RepL (Rep.int .i64) F W l6 y13 := by rw [← hy14, hl12, he10]; exact RepL.made rfl (by decide) _
   refine ops_makeO (t := 39) (x := (Go.Operand.tmp 22)) (y := (Go.Operand.tmp 22)) (d := some 23) (nn := l6.length) (z := 1) (bytes := 8) (xs := y13) (zv := vI 0) ⟨by kernel_rfl⟩ rfl rfl (by rw [hl12]; exact hm9) (by rw [hl12]; exact hm9) Try.underlying39 (by kernel_rfl) (by rw [hl12]; exact hb11) (by rfl) hy14 (fun _ _ _ hS h' => trivial) (fun g16 => ?_)
   refine oR [oF 3] [(7, .slice (some ⟨g16, 0, none⟩) l6.length l6.length), (2, vP b1 0), (1, .slice A_vals vals.length c_vals)] [7, 2, 1] (by kernel_rfl) ?_
   refine ops_nil ?_
   refine fin_then ?_
   refine st_join1 (σ := (List Int) × (List Value)) (L := fun x_ => match x_ with | (l17, y18) => [(7, .slice (some ⟨g16, 0, none⟩) l17.length l6.length)]) (N := fun x_ => match x_ with | (l17, y18) => Mem w0 (orow (some ⟨g16, 0, none⟩) l17.length l6.length 3 1 y18 :: Fz F W :: cs)) (I := fun x_ => match x_ with | (l17, y18) => (kind_Fit_j1 l17 = some (l9003, i9006)) ∧ (RepL (Rep.int .i64) F W l17 y18)) ?_ ?_
   · --
    rintro ⟨l17, y18⟩ ⟨hp, h19⟩
    refine st_conv (l' := [(7, .slice (some ⟨g16, 0, none⟩) l17.length l6.length)]) (M' := Mem w0 (orow (some ⟨g16, 0, none⟩) l17.length l6.length 3 1 y18 :: Fz F W :: cs)) rfl (fun _ h => h) ?_
    unfold kind_Fit_j1 at hp
    refine st_seq ?_
    refine st_region [oF 0, oF 1, oF 2] (by rfl) ?_
    refine oR [oF 0, oF 1, oF 2] [(5, vI 0), (4, .slice (some ⟨g16, 0, none⟩) l17.length l6.length)] [5, 4] (by kernel_rfl) ?_
    refine ops_nil ?_
    refine fin_then ?_
    refine st_ret ?_
    have hq_ := Option.some.inj hp
    obtain ⟨hr0_, hq_⟩ := Prod.mk.inj hq_
    have hr1_ := hq_
    subst hr0_
    subst hr1_
    refine fin_ret [.tmp 4, .tmp 5] [.slice (some ⟨g16, 0, none⟩) l17.length l6.length, vI 0] rfl rfl (fun w_ hM => (.tmp rfl (.tmp rfl .nil))) (fun w_ hM => ?_)
    exact ⟨(some ⟨g16, 0, none⟩), l6.length, y18, h19, rfl, hM⟩
   · --
    intro HJ1
    refine st_seq ?_
    refine st_seq ?_
    refine st_region [oF 0, oF 1, oF 2, oF 3] (by rfl) ?_
    refine oR [oF 0] [(24, vP b1 1), (7, .slice (some ⟨g16, 0, none⟩) l6.length l6.length), (1, .slice A_vals vals.length c_vals)] [24, 7, 1] (by kernel_rfl) ?_
    refine ops_mem (d := some 25) (an := [.v (.slice A_k_1 k_1.length c_k_1)]) (evs := [.load ⟨b1, 1, none⟩ (.slice A_k_1 k_1.length c_k_1)]) (v := .slice A_k_1 k_1.length c_k_1) (M' := Mem w0 (orow (some ⟨g16, 0, none⟩) l6.length l6.length 3 1 y13 :: .blk b1 [.string k_0, .slice A_k_1 k_1.length c_k_1] 176 :: Fz F W :: cs)) ⟨by kernel_rfl⟩ (fun w_ hM hS => ⟨w_, ⟨hM.cell 1 rfl rfl, rfl⟩, hM, trivial⟩) ?_
    refine oR [oF 2, oF 3] [(27, vI 0), (26, vI (k_1.length : Int)), (25, .slice A_k_1 k_1.length c_k_1), (7, .slice (some ⟨g16, 0, none⟩) l6.length l6.length), (1, .slice A_vals vals.length c_vals)] [27, 26, 25, 7, 1] (by kernel_rfl) ?_
    refine ops_nil ?_
    refine fin_then ?_
    refine st_block ?_
    obtain ⟨r2, hl2, hk2⟩ := obind hp
    refine st_loopP (σ := (List Int) × Int) (ρ := (List Int)) (γ := (List Value)) hl2 y13 (fun s_ g_ => match s_, g_ with | (l20, i23), y21 => [(1, .slice A_vals vals.length c_vals), (7, .slice (some ⟨g16, 0, none⟩) l20.length l6.length), (25, .slice A_k_1 k_1.length c_k_1), (26, vI (k_1.length : Int)), (27, vI i23)]) (fun s_ g_ => match s_, g_ with | (l20, i23), y21 => Mem w0 (orow (some ⟨g16, 0, none⟩) l20.length l6.length 3 1 y21 :: Fz F W :: cs)) (fun s_ g_ => match s_, g_ with | (l20, i23), y21 => (RepL (Rep.int .i64) F W l20 y21)) h15 (look_has ⟨rfl, rfl, rfl, rfl, rfl, trivial⟩) (fun w_ hM => hM.pick 3 [0, 2] (by kernel_rfl) (by decide) rfl) ?_
    rintro ⟨l20, i23⟩ y21 o2 h22 hs_ hd2
    have hp : (kind_Fit_l2 k_1 vals) l20 i23 = some o2 := hs_
    clear hs_
    unfold kind_Fit_l2 at hp
    refine st_conv (l' := [(1, .slice A_vals vals.length c_vals), (7, .slice (some ⟨g16, 0, none⟩) l20.length l6.length), (25, .slice A_k_1 k_1.length c_k_1), (26, vI (k_1.length : Int)), (27, vI i23)]) (M' := Mem w0 (orow (some ⟨g16, 0, none⟩) l20.length l6.length 3 1 y21 :: Fz F W :: cs)) rfl (fun _ h => h) ?_
    refine st_seq ?_
    refine st_region [oF 0] (by rfl) ?_
    refine oR [oF 0] [(28, .bool (decide (i23 < (k_1.length : Int)))), (1, .slice A_vals vals.length c_vals), (7, .slice (some ⟨g16, 0, none⟩) l20.length l6.length), (25, .slice A_k_1 k_1.length c_k_1), (26, vI (k_1.length : Int)), (27, vI i23)] [28, 1, 7, 25, 26, 27] (by kernel_rfl) ?_
    refine ops_nil ?_
    refine fin_then ?_
    refine st_seq ?_
    refine st_if (b := decide (i23 < (k_1.length : Int))) rfl (fun hc24 => ?_) (fun hc24 => ?_)
    · --
     have hp := cnd_t hc24 hp
     refine st_skip ?_
     refine fin_then ?_
     refine st_seq ?_
     refine st_block ?_
     refine st_seq ?_
     refine st_region [oF 0, oF 1, oF 2, oF 3, oF 4, oF 5] (by rfl) ?_
     refine oR [oF 0] [(29, vI i23), (1, .slice A_vals vals.length c_vals), (7, .slice (some ⟨g16, 0, none⟩) l20.length l6.length), (25, .slice A_k_1 k_1.length c_k_1), (26, vI (k_1.length : Int)), (27, vI i23)] [29, 1, 7, 25, 26, 27] (by kernel_rfl) ?_
     obtain ⟨x25, hv26, hp⟩ := obind hp
     obtain ⟨m27, hm28, hx29⟩ := idx_some hv26
     have hl32 := (List.getElem?_eq_some_iff.1 hx29).1
     obtain ⟨ad33, vs30, hA34, hr31, hq35⟩ := RdS.el h_k_1 hx29
     obtain rfl := dec_api_Field hr31
     refine ops_val (op := (Go.Op.indexAddr 174 (Go.Operand.tmp 25) (Go.Operand.tmp 27))) (d := some 30) (v := .pointer (some (ad33.add (m27 * 3)))) ⟨by kernel_rfl⟩ (run_indexA hA34 Try.underlying174 (z := 3) (by kernel_rfl) rfl rfl hm28 hl32) ?_
     refine ops_mem (d := some 31) (an := [.v (.string x25.Name), .v (vI x25.Bits), .v (vI x25.Low)]) (evs := [.load (ad33.add (m27 * 3)) (.string x25.Name), .load ((ad33.add (m27 * 3)).add 1) (vI x25.Bits), .load ((ad33.add (m27 * 3)).add 2) (vI x25.Low)]) (v := .agg #[.string x25.Name, vI x25.Bits, vI x25.Low]) (M' := Mem w0 (orow (some ⟨g16, 0, none⟩) l20.length l6.length 3 1 y21 :: Fz F W :: cs)) ⟨by kernel_rfl⟩ (fun w_ hM hS => ⟨w_, ⟨hM.elcell 1 rfl hq35 0 rfl, hM.elcell 1 rfl hq35 1 rfl, hM.elcell 1 rfl hq35 2 rfl, rfl⟩, hM, trivial⟩) ?_
     refine oR [] [(31, .agg #[.string x25.Name, vI x25.Bits, vI x25.Low]), (29, vI i23), (1, .slice A_vals vals.length c_vals), (7, .slice (some ⟨g16, 0, none⟩) l20.length l6.length), (25, .slice A_k_1 k_1.length c_k_1), (26, vI (k_1.length : Int)), (27, vI i23)] [31, 29, 1, 7, 25, 26, 27] (by kernel_rfl) ?_
     refine ops_new (d := some 9) (o := .cells #[.string ByteArray.empty, vI 0, vI 0] 173) (v := fun b36 => vP b36 0) (M' := fun b36 => Mem w0 (.blk b36 [.string ByteArray.empty, vI 0, vI 0] 173 :: orow (some ⟨g16, 0, none⟩) l20.length l6.length 3 1 y21 :: Fz F W :: cs)) (fun b36 => ⟨by kernel_rfl⟩) (fun w_ hM hS => ⟨hM.blk [.string ByteArray.empty, vI 0, vI 0] 173, trivial⟩) (fun b36 => ?_)
     refine oR [oF 4] [(8, vI i23), (9, vP b36 0), (31, .agg #[.string x25.Name, vI x25.Bits, vI x25.Low]), (1, .slice A_vals vals.length c_vals), (7, .slice (some ⟨g16, 0, none⟩) l20.length l6.length), (25, .slice A_k_1 k_1.length c_k_1), (26, vI (k_1.length : Int)), (27, vI i23)] [8, 9, 31, 1, 7, 25, 26, 27] (by kernel_rfl) ?_
     refine ops_store (an := []) (evs := [.store ⟨b36, 0, none⟩ (.string x25.Name), .store ⟨b36, 1, none⟩ (vI x25.Bits), .store ⟨b36, 2, none⟩ (vI x25.Low)]) (M' := Mem w0 (.blk b36 [.string x25.Name, vI x25.Bits, vI x25.Low] 173 :: orow (some ⟨g16, 0, none⟩) l20.length l6.length 3 1 y21 :: Fz F W :: cs)) ⟨by kernel_rfl⟩ (fun w_ hM hS => let ⟨w', he, h'⟩ := hM.evs_stores [.string x25.Name, vI x25.Bits, vI x25.Low] 0 rfl 0 (Nat.le_of_ble_eq_true rfl); ⟨w', he, h', trivial⟩) ?_
     refine oR [] [(8, vI i23), (9, vP b36 0), (1, .slice A_vals vals.length c_vals), (7, .slice (some ⟨g16, 0, none⟩) l20.length l6.length), (25, .slice A_k_1 k_1.length c_k_1), (26, vI (k_1.length : Int)), (27, vI i23)] [8, 9, 1, 7, 25, 26, 27] (by kernel_rfl) ?_
     refine ops_nil ?_
     refine fin_then ?_
     refine st_region_draw [oT 0, oT 1, oT 2, oT 3, oT 4, oT 5, oT 6, oF 7, oT 8, oF 9] (Mem w0 (.blk b36 [.string x25.Name, vI x25.Bits, vI x25.Low] 173 :: Fz F W :: cs)) (by kernel_rfl) (by kernel_rfl) (by kernel_rfl) (fun _ d _ _ _ h => by cases d <;> exact h) (M' := Mem w0 (.blk b36 [.string x25.Name, vI x25.Bits, vI x25.Low] 173 :: orow (some ⟨g16, 0, none⟩) l20.length l6.length 3 1 y21 :: Fz F W :: cs)) (fun w_ hM => ⟨hM.drew, hM.drew.sub (.cons_cons _ (.cons _ (.cons_cons _ (.refl _))))⟩) ?_
     refine oR [oT 0, oT 1] [(33, vI i23), (32, .slice (some ⟨g16, 0, none⟩) l20.length l6.length), (8, vI i23), (9, vP b36 0), (1, .slice A_vals vals.length c_vals), (7, .slice (some ⟨g16, 0, none⟩) l20.length l6.length), (25, .slice A_k_1 k_1.length c_k_1), (26, vI (k_1.length : Int)), (27, vI i23)] [33, 32, 8, 9, 1, 7, 25, 26, 27] (by kernel_rfl) ?_
     refine ops_load (d := some 34) (an := [.v (.string x25.Name), .v (vI x25.Bits), .v (vI x25.Low)]) (evs := [.load ⟨b36, 0, none⟩ (.string x25.Name), .load ⟨b36, 1, none⟩ (vI x25.Bits), .load ⟨b36, 2, none⟩ (vI x25.Low)]) (v := .agg #[.string x25.Name, vI x25.Bits, vI x25.Low]) ⟨by kernel_rfl⟩ (fun w_ hM => ⟨hM.cell 0 rfl rfl, hM.cell 0 rfl rfl, hM.cell 0 rfl rfl, rfl⟩) ?_
     refine oR [oT 3, oT 4] [(36, vI i23), (35, .slice A_vals vals.length c_vals), (34, .agg #[.string x25.Name, vI x25.Bits, vI x25.Low]), (33, vI i23), (32, .slice (some ⟨g16, 0, none⟩) l20.length l6.length), (1, .slice A_vals vals.length c_vals), (7, .slice (some ⟨g16, 0, none⟩) l20.length l6.length), (25, .slice A_k_1 k_1.length c_k_1), (26, vI (k_1.length : Int)), (27, vI i23)] [36, 35, 34, 33, 32, 1, 7, 25, 26, 27] (by kernel_rfl) ?_
     obtain ⟨x37, hv38, hp⟩ := obind hp
     obtain ⟨m39, hm40, hx41⟩ := idx_some hv38
     have hl44 := (List.getElem?_eq_some_iff.1 hx41).1
     obtain ⟨ad45, vs42, hA46, hr43, hq47⟩ := RdS.el h_vals hx41
     obtain rfl := hr43
     refine ops_val (op := (Go.Op.indexAddr 39 (Go.Operand.tmp 35) (Go.Operand.tmp 36))) (d := some 37) (v := .pointer (some (ad45.add (m39 * 1)))) ⟨by kernel_rfl⟩ (run_indexA hA46 Try.underlying39 (z := 1) (by kernel_rfl) rfl rfl hm40 hl44) ?_
     refine oR [] [(37, .pointer (some (ad45.add (m39 * 1)))), (34, .agg #[.string x25.Name, vI x25.Bits, vI x25.Low]), (33, vI i23), (32, .slice (some ⟨g16, 0, none⟩) l20.length l6.length), (1, .slice A_vals vals.length c_vals), (7, .slice (some ⟨g16, 0, none⟩) l20.length l6.length), (25, .slice A_k_1 k_1.length c_k_1), (26, vI (k_1.length : Int)), (27, vI i23)] [37, 34, 33, 32, 1, 7, 25, 26, 27] (by kernel_rfl) ?_
     refine ops_load (d := some 38) (an := [.v (vI x37)]) (evs := [.load (ad45.add (m39 * 1)) (vI x37)]) (v := vI x37) ⟨by kernel_rfl⟩ (fun w_ hM => ⟨hM.elcell 1 rfl hq47 0 rfl, rfl⟩) ?_
     refine oR [] [(38, vI x37), (34, .agg #[.string x25.Name, vI x25.Bits, vI x25.Low]), (33, vI i23), (32, .slice (some ⟨g16, 0, none⟩) l20.length l6.length), (1, .slice A_vals vals.length c_vals), (7, .slice (some ⟨g16, 0, none⟩) l20.length l6.length), (25, .slice A_k_1 k_1.length c_k_1), (26, vI (k_1.length : Int)), (27, vI i23)] [38, 34, 33, 32, 1, 7, 25, 26, 27] (by kernel_rfl) ?_
     obtain ⟨x48, hv49, hp⟩ := obind hp
     refine ops_callI (σ := Unit) (d := some 39) (f := 139) (args := #[.agg #[.string x25.Name, vI x25.Bits, vI x25.Low], vI x37]) (v := (fun _ => vI x48)) (I := (fun _ => True)) (M' := (fun _ => Mem w0 (.blk b36 [.string x25.Name, vI x25.Bits, vI x25.Low] 173 :: orow (some ⟨g16, 0, none⟩) l20.length l6.length 3 1 y21 :: Fz F W :: cs))) ⟨by kernel_rfl⟩ (fun w_ hM hS => (kind_Near_ok w0 w_ (.blk b36 [.string x25.Name, vI x25.Bits, vI x25.Low] 173 :: orow (some ⟨g16, 0, none⟩) l20.length l6.length 3 1 y21 :: cs) F W x25.Name x25.Bits x25.Low x37 (hM.pick 3 [2, 0, 1] (by kernel_rfl) (by decide) rfl)  x48 hv49).mono (by rintro e w' ⟨-, rfl, h'⟩; have h' : Mem w0 (.blk b36 [.string x25.Name, vI x25.Bits, vI x25.Low] 173 :: orow (some ⟨g16, 0, none⟩) l20.length l6.length 3 1 y21 :: Fz F W :: cs) w' := (h'.pick 3 [1, 2, 0] (by kernel_rfl) (by decide) rfl); exact ⟨(), trivial, rfl, h', (by exact h'.sub (.cons_cons _ (.cons _ (.cons_cons _ (.refl _)))))⟩)) ?_
     rintro _ -
     refine ops_conv (l' := [(39, vI x48), (38, vI x37), (34, .agg #[.string x25.Name, vI x25.Bits, vI x25.Low]), (33, vI i23), (32, .slice (some ⟨g16, 0, none⟩) l20.length l6.length), (1, .slice A_vals vals.length c_vals), (7, .slice (some ⟨g16, 0, none⟩) l20.length l6.length), (25, .slice A_k_1 k_1.length c_k_1), (26, vI (k_1.length : Int)), (27, vI i23)]) (M' := Mem w0 (.blk b36 [.string x25.Name, vI x25.Bits, vI x25.Low] 173 :: orow (some ⟨g16, 0, none⟩) l20.length l6.length 3 1 y21 :: Fz F W :: cs)) rfl (fun _ h => h) ?_
     refine oR [] [(39, vI x48), (33, vI i23), (32, .slice (some ⟨g16, 0, none⟩) l20.length l6.length), (1, .slice A_vals vals.length c_vals), (7, .slice (some ⟨g16, 0, none⟩) l20.length l6.length), (25, .slice A_k_1 k_1.length c_k_1), (26, vI (k_1.length : Int)), (27, vI i23)] [39, 33, 32, 1, 7, 25, 26, 27] (by kernel_rfl) ?_
     obtain ⟨x50, hv51, hp⟩ := obind hp
     obtain ⟨m52, hm53, hx54⟩ := idx_some hv51
     have hl57 := (List.getElem?_eq_some_iff.1 hx54).1
     obtain ⟨vs55, hr56, hq58⟩ := h22.at_ m52 x50 hx54
     obtain rfl := hr56
     refine ops_val (op := (Go.Op.indexAddr 39 (Go.Operand.tmp 32) (Go.Operand.tmp 33))) (d := some 40) (v := vP g16 (m52 * 1)) ⟨by kernel_rfl⟩ (run_indexRow Try.underlying39 (z := 1) (by kernel_rfl) rfl rfl hm53 hl57 rfl) ?_
     refine oR [] [(40, vP g16 (m52 * 1)), (39, vI x48), (1, .slice A_vals vals.length c_vals), (7, .slice (some ⟨g16, 0, none⟩) l20.length l6.length), (25, .slice A_k_1 k_1.length c_k_1), (26, vI (k_1.length : Int)), (27, vI i23)] [40, 39, 1, 7, 25, 26, 27] (by kernel_rfl) ?_
     obtain ⟨l59, hv60, hp⟩ := obind hp
     obtain ⟨m61, hm62, hl63, he64⟩ := upd_some hv60
     obtain rfl : m52 = m61 := by have := hm53; omega
     have hl65 : l20.length = l59.length := by rw [he64, List.length_set]
     obtain ⟨y66, hy67⟩ : ∃ y_, setAll y21 (m52 * 1 + 0) [vI x48] = y_ := ⟨_, rfl⟩
     have h68 : RepL (Rep.int .i64) F W l59 y66 := by rw [he64, ← hy67]; exact RepL.set h22 (List.getElem?_eq_getElem hl63) (fun vs_ hr_ _ => by obtain rfl := hr_; exact ⟨rfl, Nat.le_of_ble_eq_true rfl⟩)
     refine ops_store (an := []) (evs := [.store ⟨g16, m52 * 1, none⟩ (vI x48)]) (M' := Mem w0 (.blk b36 [.string x25.Name, vI x25.Bits, vI x25.Low] 173 :: orow (some ⟨g16, 0, none⟩) l59.length l6.length 3 1 y66 :: Fz F W :: cs)) ⟨by kernel_rfl⟩ (fun w_ hM hS => let ⟨w', he, h'⟩ := hM.ostore' 1 rfl (m52 * 1 + 0) [vI x48] (by have z_ : y21.length = l20.length * 1 := h22.len; have y_ : (m52 + 1) * 1 ≤ l20.length * 1 := Nat.mul_le_mul_right _ hl63; rw [Nat.add_mul] at y_; simp only [List.length_cons, List.length_nil]; omega) hl65 hy67; ⟨w', he, h', (by exact h'.sub (.cons_cons _ (.cons _ (.cons_cons _ (.refl _)))))⟩) ?_
     refine ops_conv (l' := [(40, vP g16 (m52 * 1)), (39, vI x48), (1, .slice A_vals vals.length c_vals), (7, .slice (some ⟨g16, 0, none⟩) l59.length l6.length), (25, .slice A_k_1 k_1.length c_k_1), (26, vI (k_1.length : Int)), (27, vI i23)]) (M' := Mem w0 (.blk b36 [.string x25.Name, vI x25.Bits, vI x25.Low] 173 :: orow (some ⟨g16, 0, none⟩) l59.length l6.length 3 1 y66 :: Fz F W :: cs)) (by first | rfl | rw [hl65]) (fun w_ hM => by first | exact hM | (rw [hl65] at hM; exact hM)) ?_
     refine oR [] [(1, .slice A_vals vals.length c_vals), (7, .slice (some ⟨g16, 0, none⟩) l59.length l6.length), (25, .slice A_k_1 k_1.length c_k_1), (26, vI (k_1.length : Int)), (27, vI i23)] [1, 7, 25, 26, 27] (by kernel_rfl) ?_
     refine ops_nil ?_
     refine fin_block ?_
     refine fin_then ?_
     refine st_region [oF 0, oF 1] (by rfl) ?_
     refine oR [oF 0, oF 1] [(27, vI (IntKind.i64.wrap (i23 + 1))), (1, .slice A_vals vals.length c_vals), (7, .slice (some ⟨g16, 0, none⟩) l59.length l6.length), (25, .slice A_k_1 k_1.length c_k_1), (26, vI (k_1.length : Int))] [27, 1, 7, 25, 26] (by kernel_rfl) ?_
     refine ops_nil ?_
     exact fin_again (l59, IntKind.i64.wrap (i23 + 1)) y66 (Option.some.inj hp).symm h68 (look_has ⟨rfl, rfl, rfl, rfl, rfl, trivial⟩) (fun w_ hM => hM.pick 3 [1, 2] (by kernel_rfl) (by decide) rfl)
    · --
     have hp := cnd_f hc24 hp
     refine st_exit ?_
     refine fin_exit_then ?_
     refine fin_exit_then ?_
     refine fin_exit ?_
     obtain hq_ := Option.some.inj hp
     subst hq_
     obtain hq_ := hd2 _ rfl
     subst hq_
     have hp : kind_Fit_j1 l20 = some (l9003, i9006) := hk2
     exact fin_join HJ1 (l20, y21) ⟨hp, h22⟩ (look_has ⟨rfl, trivial⟩) (fun w_ hM => hM)
end Go.Proofs.Ythcbepikeinglaa.M
