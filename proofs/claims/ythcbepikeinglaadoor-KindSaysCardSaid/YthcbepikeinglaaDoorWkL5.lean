/- The Go functions come to what the plain functions tell. No condition. -/
import Derived.Test.YthcbepikeinglaaDoorProg
import Derived.Test.YthcbepikeinglaaDoorFnL
import Derived.Test.YthcbepikeinglaaDoorWkL4
import Derived.Test.YthcbepikeinglaaDoorEqL
namespace Go.Proofs.YthcbepikeinglaaDoor.L
open Go Go.RowKit Go.Proofs.YthcbepikeinglaaDoor.Sx
set_option linter.unusedVariables false
set_option maxHeartbeats 4000000 in
set_option maxRecDepth 100000 in
theorem slices_EqualFunc_api_Kind_api_Kind_api_Kind_api_Kind_ok (w0 w : World) (cs : List Chunk) (F : Nat → Prop) (W : World) (A_s1 : Option Addr) (c_s1 : Nat) (s1_1 : List api_Kind) (A_s2 : Option Addr) (c_s2 : Nat) (s2_1 : List api_Kind) (hM0 : Mem w0 (Fz F W :: cs) w) (h_s1 : RdS R_api_Kind F W A_s1 c_s1 s1_1) (h_s2 : RdS R_api_Kind F W A_s2 c_s2 s2_1) (t9001 : Bool) (hp : slices_EqualFunc_api_Kind_api_Kind_api_Kind_api_Kind s1_1 s2_1 = some t9001) : Calls Tryd.prog 32 #[.slice A_s1 s1_1.length c_s1, .slice A_s2 s2_1.length c_s2, .func (.func 34) #[] #[]] w fun e w' => (True) ∧ e = .returned (.bool t9001) ∧ Mem w0 (Fz F W :: cs) w' := by
 unfold slices_EqualFunc_api_Kind_api_Kind_api_Kind_api_Kind at hp
 refine sx_calls Tryd.func32 rfl (n := 32) (by kernel_rfl) (l := [(0, .slice A_s1 s1_1.length c_s1), (1, .slice A_s2 s2_1.length c_s2), (2, .func (.func 34) #[] #[])]) rfl (by rfl) hM0 ?_
 refine st_seq ?_
 refine st_region [oF 0] (by rfl) ?_
 refine oR [oF 0] [(0, .slice A_s1 s1_1.length c_s1), (1, .slice A_s2 s2_1.length c_s2), (2, .func (.func 34) #[] #[])] [0, 1, 2] (by kernel_rfl) ?_
 refine ops_nil ?_
 refine fin_then ?_
 refine st_seq ?_
 refine st_seq ?_
 refine st_region [oF 0, oF 1, oF 2, oF 3, oF 4] (by rfl) ?_
 refine oR [oF 0, oF 1, oF 2, oF 3, oF 4] [(14, .bool (!((s1_1.length : Int) == (s2_1.length : Int)))), (0, .slice A_s1 s1_1.length c_s1), (1, .slice A_s2 s2_1.length c_s2), (2, .func (.func 34) #[] #[])] [14, 0, 1, 2] (by kernel_rfl) ?_
 refine ops_nil ?_
 refine fin_then ?_
 refine st_if (b := !((s1_1.length : Int) == (s2_1.length : Int))) rfl (fun hc1 => ?_) (fun hc1 => ?_)
 · --
  have hp := cnd_t hc1 hp
  refine st_seq ?_
  refine st_region [oF 0] (by rfl) ?_
  refine oR [oF 0] [(6, .bool false)] [6] (by kernel_rfl) ?_
  refine ops_nil ?_
  refine fin_then ?_
  refine st_ret ?_
  refine fin_ret_then ?_
  have hq_ := Option.some.inj hp
  have hr0_ := hq_
  subst hr0_
  refine fin_ret [.tmp 6] [.bool false] rfl rfl (fun w_ hM => (.tmp rfl .nil)) (fun w_ hM => ?_)
  exact ⟨trivial, rfl, hM⟩
 · --
  have hp := cnd_f hc1 hp
  refine st_skip ?_
  refine fin_then ?_
  refine st_join1 (σ := Unit) (L := fun _ => []) (N := fun _ => Mem w0 (Fz F W :: cs)) (I := fun _ => (slices_EqualFunc_api_Kind_api_Kind_api_Kind_api_Kind_j1 = some t9001)) ?_ ?_
  · --
   rintro _ hp
   refine st_conv (l' := []) (M' := Mem w0 (Fz F W :: cs)) rfl (fun _ h => h) ?_
   unfold slices_EqualFunc_api_Kind_api_Kind_api_Kind_api_Kind_j1 at hp
   refine st_seq ?_
   refine st_region [oF 0] (by rfl) ?_
   refine oR [oF 0] [(6, .bool true)] [6] (by kernel_rfl) ?_
   refine ops_nil ?_
   refine fin_then ?_
   refine st_ret ?_
   have hq_ := Option.some.inj hp
   have hr0_ := hq_
   subst hr0_
   refine fin_ret [.tmp 6] [.bool true] rfl rfl (fun w_ hM => (.tmp rfl .nil)) (fun w_ hM => ?_)
   exact ⟨trivial, rfl, hM⟩
  · --
   intro HJ1
   refine st_seq ?_
   refine st_seq ?_
   refine st_region [oF 0, oF 1, oF 2] (by rfl) ?_
   refine oR [oF 0, oF 1, oF 2] [(17, vI 0), (16, vI (s1_1.length : Int)), (15, .slice A_s1 s1_1.length c_s1), (1, .slice A_s2 s2_1.length c_s2), (2, .func (.func 34) #[] #[])] [17, 16, 15, 1, 2] (by kernel_rfl) ?_
   refine ops_nil ?_
   refine fin_then ?_
   refine st_block ?_
   obtain ⟨r2, hl2, hk2⟩ := obind hp
   refine st_loopP (σ := Int) (ρ := (Bool ⊕ Unit)) (γ := Unit) hl2 () (fun s_ g_ => match s_, g_ with | i2, _ => [(1, .slice A_s2 s2_1.length c_s2), (2, .func (.func 34) #[] #[]), (15, .slice A_s1 s1_1.length c_s1), (16, vI (s1_1.length : Int)), (17, vI i2)]) (fun s_ g_ => match s_, g_ with | i2, _ => Mem w0 (Fz F W :: cs)) (fun s_ g_ => match s_, g_ with | i2, _ => True) trivial (look_has ⟨rfl, rfl, rfl, rfl, rfl, trivial⟩) (fun w_ hM => hM) ?_
   rintro i2 _ o2 - hs_ hd2
   have hp : (slices_EqualFunc_api_Kind_api_Kind_api_Kind_api_Kind_l2 s1_1 s2_1) i2 = some o2 := hs_
   clear hs_
   unfold slices_EqualFunc_api_Kind_api_Kind_api_Kind_api_Kind_l2 at hp
   refine st_conv (l' := [(1, .slice A_s2 s2_1.length c_s2), (2, .func (.func 34) #[] #[]), (15, .slice A_s1 s1_1.length c_s1), (16, vI (s1_1.length : Int)), (17, vI i2)]) (M' := Mem w0 (Fz F W :: cs)) rfl (fun _ h => h) ?_
   refine st_seq ?_
   refine st_region [oF 0] (by rfl) ?_
   refine oR [oF 0] [(18, .bool (decide (i2 < (s1_1.length : Int)))), (1, .slice A_s2 s2_1.length c_s2), (2, .func (.func 34) #[] #[]), (15, .slice A_s1 s1_1.length c_s1), (16, vI (s1_1.length : Int)), (17, vI i2)] [18, 1, 2, 15, 16, 17] (by kernel_rfl) ?_
   refine ops_nil ?_
   refine fin_then ?_
   refine st_seq ?_
   refine st_if (b := decide (i2 < (s1_1.length : Int))) rfl (fun hc3 => ?_) (fun hc3 => ?_)
   · --
    have hp := cnd_t hc3 hp
    refine st_skip ?_
    refine fin_then ?_
    refine st_seq ?_
    refine st_block ?_
    refine st_seq ?_
    refine st_region [oF 0, oF 1, oF 2, oF 3, oF 4, oF 5] (by rfl) ?_
    refine oR [oF 0] [(19, vI i2), (1, .slice A_s2 s2_1.length c_s2), (2, .func (.func 34) #[] #[]), (15, .slice A_s1 s1_1.length c_s1), (16, vI (s1_1.length : Int)), (17, vI i2)] [19, 1, 2, 15, 16, 17] (by kernel_rfl) ?_
    obtain ⟨x4, hv5, hp⟩ := obind hp
    obtain ⟨m6, hm7, hx8⟩ := idx_some hv5
    have hl11 := (List.getElem?_eq_some_iff.1 hx8).1
    obtain ⟨ad12, vs9, hA13, hr10, hq14⟩ := RdS.el h_s1 hx8
    obtain ⟨A15, c16, rfl, h17⟩ := dec_api_Kind hr10
    refine ops_val (op := (Go.Op.indexAddr 28 (Go.Operand.tmp 15) (Go.Operand.tmp 17))) (d := some 20) (v := .pointer (some (ad12.add (m6 * 2)))) ⟨by kernel_rfl⟩ (run_indexA hA13 Tryd.underlying28 (z := 2) (by kernel_rfl) rfl rfl hm7 hl11) ?_
    refine ops_mem (d := some 21) (an := [.v (.string x4.Name), .v (.slice A15 x4.Fields.length c16)]) (evs := [.load (ad12.add (m6 * 2)) (.string x4.Name), .load ((ad12.add (m6 * 2)).add 1) (.slice A15 x4.Fields.length c16)]) (v := .agg #[.string x4.Name, .slice A15 x4.Fields.length c16]) (M' := Mem w0 (Fz F W :: cs)) ⟨by kernel_rfl⟩ (fun w_ hM hS => ⟨w_, ⟨hM.elcell 0 rfl hq14 0 rfl, hM.elcell 0 rfl hq14 1 rfl, rfl⟩, hM, trivial⟩) ?_
    refine oR [] [(21, .agg #[.string x4.Name, .slice A15 x4.Fields.length c16]), (19, vI i2), (1, .slice A_s2 s2_1.length c_s2), (2, .func (.func 34) #[] #[]), (15, .slice A_s1 s1_1.length c_s1), (16, vI (s1_1.length : Int)), (17, vI i2)] [21, 19, 1, 2, 15, 16, 17] (by kernel_rfl) ?_
    refine ops_new (d := some 8) (o := .cells #[.string ByteArray.empty, .slice none 0 0] 27) (v := fun b18 => vP b18 0) (M' := fun b18 => Mem w0 (.blk b18 [.string ByteArray.empty, .slice none 0 0] 27 :: Fz F W :: cs)) (fun b18 => ⟨by kernel_rfl⟩) (fun w_ hM hS => ⟨hM.blk [.string ByteArray.empty, .slice none 0 0] 27, trivial⟩) (fun b18 => ?_)
    refine oR [oF 4] [(7, vI i2), (8, vP b18 0), (21, .agg #[.string x4.Name, .slice A15 x4.Fields.length c16]), (1, .slice A_s2 s2_1.length c_s2), (2, .func (.func 34) #[] #[]), (15, .slice A_s1 s1_1.length c_s1), (16, vI (s1_1.length : Int)), (17, vI i2)] [7, 8, 21, 1, 2, 15, 16, 17] (by kernel_rfl) ?_
    refine ops_store (an := []) (evs := [.store ⟨b18, 0, none⟩ (.string x4.Name), .store ⟨b18, 1, none⟩ (.slice A15 x4.Fields.length c16)]) (M' := Mem w0 (.blk b18 [.string x4.Name, .slice A15 x4.Fields.length c16] 27 :: Fz F W :: cs)) ⟨by kernel_rfl⟩ (fun w_ hM hS => let ⟨w', he, h'⟩ := hM.evs_stores [.string x4.Name, .slice A15 x4.Fields.length c16] 0 rfl 0 (Nat.le_of_ble_eq_true rfl); ⟨w', he, h', trivial⟩) ?_
    refine oR [] [(7, vI i2), (8, vP b18 0), (1, .slice A_s2 s2_1.length c_s2), (2, .func (.func 34) #[] #[]), (15, .slice A_s1 s1_1.length c_s1), (16, vI (s1_1.length : Int)), (17, vI i2)] [7, 8, 1, 2, 15, 16, 17] (by kernel_rfl) ?_
    refine ops_nil ?_
    refine fin_then ?_
    refine st_seq ?_
    refine st_region [oF 0, oF 1, oF 2, oF 3, oF 4, oF 5] (by rfl) ?_
    refine oR [oF 0, oF 1] [(23, vI i2), (22, .slice A_s2 s2_1.length c_s2), (8, vP b18 0), (1, .slice A_s2 s2_1.length c_s2), (2, .func (.func 34) #[] #[]), (15, .slice A_s1 s1_1.length c_s1), (16, vI (s1_1.length : Int)), (17, vI i2)] [23, 22, 8, 1, 2, 15, 16, 17] (by kernel_rfl) ?_
    obtain ⟨x19, hv20, hp⟩ := obind hp
    obtain ⟨m21, hm22, hx23⟩ := idx_some hv20
    have hl26 := (List.getElem?_eq_some_iff.1 hx23).1
    obtain ⟨ad27, vs24, hA28, hr25, hq29⟩ := RdS.el h_s2 hx23
    obtain ⟨A30, c31, rfl, h32⟩ := dec_api_Kind hr25
    refine ops_val (op := (Go.Op.indexAddr 28 (Go.Operand.tmp 22) (Go.Operand.tmp 23))) (d := some 24) (v := .pointer (some (ad27.add (m21 * 2)))) ⟨by kernel_rfl⟩ (run_indexA hA28 Tryd.underlying28 (z := 2) (by kernel_rfl) rfl rfl hm22 hl26) ?_
    refine oR [] [(24, .pointer (some (ad27.add (m21 * 2)))), (8, vP b18 0), (1, .slice A_s2 s2_1.length c_s2), (2, .func (.func 34) #[] #[]), (15, .slice A_s1 s1_1.length c_s1), (16, vI (s1_1.length : Int)), (17, vI i2)] [24, 8, 1, 2, 15, 16, 17] (by kernel_rfl) ?_
    refine ops_mem (d := some 25) (an := [.v (.string x19.Name), .v (.slice A30 x19.Fields.length c31)]) (evs := [.load (ad27.add (m21 * 2)) (.string x19.Name), .load ((ad27.add (m21 * 2)).add 1) (.slice A30 x19.Fields.length c31)]) (v := .agg #[.string x19.Name, .slice A30 x19.Fields.length c31]) (M' := Mem w0 (.blk b18 [.string x4.Name, .slice A15 x4.Fields.length c16] 27 :: Fz F W :: cs)) ⟨by kernel_rfl⟩ (fun w_ hM hS => ⟨w_, ⟨hM.elcell 1 rfl hq29 0 rfl, hM.elcell 1 rfl hq29 1 rfl, rfl⟩, hM, trivial⟩) ?_
    refine oR [] [(25, .agg #[.string x19.Name, .slice A30 x19.Fields.length c31]), (8, vP b18 0), (1, .slice A_s2 s2_1.length c_s2), (2, .func (.func 34) #[] #[]), (15, .slice A_s1 s1_1.length c_s1), (16, vI (s1_1.length : Int)), (17, vI i2)] [25, 8, 1, 2, 15, 16, 17] (by kernel_rfl) ?_
    refine ops_new (d := some 9) (o := .cells #[.string ByteArray.empty, .slice none 0 0] 27) (v := fun b33 => vP b33 0) (M' := fun b33 => Mem w0 (.blk b33 [.string ByteArray.empty, .slice none 0 0] 27 :: .blk b18 [.string x4.Name, .slice A15 x4.Fields.length c16] 27 :: Fz F W :: cs)) (fun b33 => ⟨by kernel_rfl⟩) (fun w_ hM hS => ⟨hM.blk [.string ByteArray.empty, .slice none 0 0] 27, trivial⟩) (fun b33 => ?_)
    refine ops_store (an := []) (evs := [.store ⟨b33, 0, none⟩ (.string x19.Name), .store ⟨b33, 1, none⟩ (.slice A30 x19.Fields.length c31)]) (M' := Mem w0 (.blk b33 [.string x19.Name, .slice A30 x19.Fields.length c31] 27 :: .blk b18 [.string x4.Name, .slice A15 x4.Fields.length c16] 27 :: Fz F W :: cs)) ⟨by kernel_rfl⟩ (fun w_ hM hS => let ⟨w', he, h'⟩ := hM.evs_stores [.string x19.Name, .slice A30 x19.Fields.length c31] 0 rfl 0 (Nat.le_of_ble_eq_true rfl); ⟨w', he, h', trivial⟩) ?_
    refine oR [] [(9, vP b33 0), (8, vP b18 0), (1, .slice A_s2 s2_1.length c_s2), (2, .func (.func 34) #[] #[]), (15, .slice A_s1 s1_1.length c_s1), (16, vI (s1_1.length : Int)), (17, vI i2)] [9, 8, 1, 2, 15, 16, 17] (by kernel_rfl) ?_
    refine ops_nil ?_
    refine fin_then ?_
    refine st_seq ?_
    refine st_region [oF 0, oF 1, oF 2, oF 3, oF 4] (by rfl) ?_
    refine oR [oF 0] [(26, .func (.func 34) #[] #[]), (9, vP b33 0), (8, vP b18 0), (1, .slice A_s2 s2_1.length c_s2), (2, .func (.func 34) #[] #[]), (15, .slice A_s1 s1_1.length c_s1), (16, vI (s1_1.length : Int)), (17, vI i2)] [26, 9, 8, 1, 2, 15, 16, 17] (by kernel_rfl) ?_
    refine ops_mem (d := some 27) (an := [.v (.string x4.Name), .v (.slice A15 x4.Fields.length c16)]) (evs := [.load ⟨b18, 0, none⟩ (.string x4.Name), .load ⟨b18, 1, none⟩ (.slice A15 x4.Fields.length c16)]) (v := .agg #[.string x4.Name, .slice A15 x4.Fields.length c16]) (M' := Mem w0 (.blk b33 [.string x19.Name, .slice A30 x19.Fields.length c31] 27 :: .blk b18 [.string x4.Name, .slice A15 x4.Fields.length c16] 27 :: Fz F W :: cs)) ⟨by kernel_rfl⟩ (fun w_ hM hS => ⟨w_, ⟨hM.cell 1 rfl rfl, hM.cell 1 rfl rfl, rfl⟩, hM, trivial⟩) ?_
    refine oR [] [(27, .agg #[.string x4.Name, .slice A15 x4.Fields.length c16]), (26, .func (.func 34) #[] #[]), (9, vP b33 0), (1, .slice A_s2 s2_1.length c_s2), (2, .func (.func 34) #[] #[]), (15, .slice A_s1 s1_1.length c_s1), (16, vI (s1_1.length : Int)), (17, vI i2)] [27, 26, 9, 1, 2, 15, 16, 17] (by kernel_rfl) ?_
    refine ops_mem (d := some 28) (an := [.v (.string x19.Name), .v (.slice A30 x19.Fields.length c31)]) (evs := [.load ⟨b33, 0, none⟩ (.string x19.Name), .load ⟨b33, 1, none⟩ (.slice A30 x19.Fields.length c31)]) (v := .agg #[.string x19.Name, .slice A30 x19.Fields.length c31]) (M' := Mem w0 (.blk b33 [.string x19.Name, .slice A30 x19.Fields.length c31] 27 :: .blk b18 [.string x4.Name, .slice A15 x4.Fields.length c16] 27 :: Fz F W :: cs)) ⟨by kernel_rfl⟩ (fun w_ hM hS => ⟨w_, ⟨hM.cell 0 rfl rfl, hM.cell 0 rfl rfl, rfl⟩, hM, trivial⟩) ?_
    refine oR [] [(28, .agg #[.string x19.Name, .slice A30 x19.Fields.length c31]), (27, .agg #[.string x4.Name, .slice A15 x4.Fields.length c16]), (26, .func (.func 34) #[] #[]), (1, .slice A_s2 s2_1.length c_s2), (2, .func (.func 34) #[] #[]), (15, .slice A_s1 s1_1.length c_s1), (16, vI (s1_1.length : Int)), (17, vI i2)] [28, 27, 26, 1, 2, 15, 16, 17] (by kernel_rfl) ?_
    obtain ⟨x34, hv35, hp⟩ := obind hp
    refine ops_callI (σ := Unit) (d := some 29) (f := 34) (args := #[.agg #[.string x4.Name, .slice A15 x4.Fields.length c16], .agg #[.string x19.Name, .slice A30 x19.Fields.length c31]]) (v := (fun _ => .bool x34)) (I := (fun _ => True)) (M' := (fun _ => Mem w0 (.blk b33 [.string x19.Name, .slice A30 x19.Fields.length c31] 27 :: .blk b18 [.string x4.Name, .slice A15 x4.Fields.length c16] 27 :: Fz F W :: cs))) ⟨by kernel_rfl⟩ (fun w_ hM hS => (tourref3_SameKind_ok w0 w_ (.blk b33 [.string x19.Name, .slice A30 x19.Fields.length c31] 27 :: .blk b18 [.string x4.Name, .slice A15 x4.Fields.length c16] 27 :: cs) F W x4.Name A15 c16 x4.Fields x19.Name A30 c31 x19.Fields (hM.pick 3 [2, 0, 1] (by kernel_rfl) (by decide) rfl) h17 h32 x34 hv35).mono (by rintro e w' ⟨-, rfl, h'⟩; have h' : Mem w0 (.blk b33 [.string x19.Name, .slice A30 x19.Fields.length c31] 27 :: .blk b18 [.string x4.Name, .slice A15 x4.Fields.length c16] 27 :: Fz F W :: cs) w' := (h'.pick 3 [1, 2, 0] (by kernel_rfl) (by decide) rfl); exact ⟨(), trivial, rfl, h', trivial⟩)) ?_
    rintro _ -
    refine ops_conv (l' := [(29, .bool x34), (28, .agg #[.string x19.Name, .slice A30 x19.Fields.length c31]), (27, .agg #[.string x4.Name, .slice A15 x4.Fields.length c16]), (26, .func (.func 34) #[] #[]), (1, .slice A_s2 s2_1.length c_s2), (2, .func (.func 34) #[] #[]), (15, .slice A_s1 s1_1.length c_s1), (16, vI (s1_1.length : Int)), (17, vI i2)]) (M' := Mem w0 (.blk b33 [.string x19.Name, .slice A30 x19.Fields.length c31] 27 :: .blk b18 [.string x4.Name, .slice A15 x4.Fields.length c16] 27 :: Fz F W :: cs)) rfl (fun _ h => h) ?_
    refine oR [oF 4] [(30, .bool (!x34)), (1, .slice A_s2 s2_1.length c_s2), (2, .func (.func 34) #[] #[]), (15, .slice A_s1 s1_1.length c_s1), (16, vI (s1_1.length : Int)), (17, vI i2)] [30, 1, 2, 15, 16, 17] (by kernel_rfl) ?_
    refine ops_nil ?_
    refine fin_then ?_
    refine st_if (b := !x34) rfl (fun hc36 => ?_) (fun hc36 => ?_)
    · --
     have hp := cnd_t hc36 hp
     refine st_seq ?_
     refine st_region [oF 0] (by rfl) ?_
     refine oR [oF 0] [(6, .bool false)] [6] (by kernel_rfl) ?_
     refine ops_nil ?_
     refine fin_then ?_
     refine st_ret ?_
     refine fin_ret_block ?_
     refine fin_ret_then ?_
     refine fin_ret_then ?_
     refine fin_ret_block ?_
     refine fin_ret_then ?_
     obtain hq_ := Option.some.inj hp
     subst hq_
     obtain hq_ := hd2 _ rfl
     subst hq_
     have hp : some false = some t9001 := hk2
     have hq_ := Option.some.inj hp
     have hr0_ := hq_
     subst hr0_
     refine fin_ret [.tmp 6] [.bool false] rfl rfl (fun w_ hM => (.tmp rfl .nil)) (fun w_ hM => ?_)
     exact ⟨trivial, rfl, hM.pick 3 [2] (by kernel_rfl) (by decide) rfl⟩
    · --
     have hp := cnd_f hc36 hp
     refine st_skip ?_
     refine fin_block ?_
     refine fin_then ?_
     refine st_region [oF 0, oF 1] (by rfl) ?_
     refine oR [oF 0, oF 1] [(17, vI (IntKind.i64.wrap (i2 + 1))), (1, .slice A_s2 s2_1.length c_s2), (2, .func (.func 34) #[] #[]), (15, .slice A_s1 s1_1.length c_s1), (16, vI (s1_1.length : Int))] [17, 1, 2, 15, 16] (by kernel_rfl) ?_
     refine ops_nil ?_
     exact fin_again (IntKind.i64.wrap (i2 + 1)) () (Option.some.inj hp).symm trivial (look_has ⟨rfl, rfl, rfl, rfl, rfl, trivial⟩) (fun w_ hM => hM.pick 3 [2] (by kernel_rfl) (by decide) rfl)
   · --
    have hp := cnd_f hc3 hp
    refine st_exit ?_
    refine fin_exit_then ?_
    refine fin_exit_then ?_
    refine fin_exit ?_
    obtain hq_ := Option.some.inj hp
    subst hq_
    obtain hq_ := hd2 _ rfl
    subst hq_
    have hp : slices_EqualFunc_api_Kind_api_Kind_api_Kind_api_Kind_j1 = some t9001 := hk2
    exact fin_join HJ1 () hp (look_has trivial) (fun w_ hM => hM)
def kind_Same__t0 : List Row := [⟨0, 131072, 1⟩, ⟨0, 262144, 32⟩, ⟨3, 524288, 393216⟩, ⟨4, 1048576, 524288⟩, ⟨8, 2097152, 1048576⟩, ⟨0, 4194304, 2⟩, ⟨0, 8388608, 32⟩, ⟨96, 16777216, 12582912⟩, ⟨128, 33554432, 16777216⟩, ⟨256, 67108864, 33554432⟩, ⟨528, 134217728, 69206016⟩, ⟨1024, 268435456, 134217728⟩, ⟨2048, 536870912, 268435457⟩, ⟨2048, 1073741824, 268435488⟩, ⟨14336, 2147483648, 1879048192⟩, ⟨18432, 4294967296, 2415919104⟩, ⟨34816, 8589934592, 4563402752⟩, ⟨67584, 17179869184, 8858370048⟩, ⟨2048, 34359738368, 268435458⟩, ⟨2048, 68719476736, 268435488⟩, ⟨788480, 137438953472, 103347650560⟩, ⟨1050624, 274877906944, 137707388928⟩, ⟨2099200, 549755813888, 275146342400⟩, ⟨4196352, 1099511627776, 550024249344⟩, ⟨8521728, 2199023255552, 1116959932416⟩, ⟨16779264, 4398046511104, 2199291691008⟩]
def kind_Same__t1 : List Row := [⟨0, 4503599627370496, 1⟩, ⟨0, 9007199254740992, 32⟩, ⟨3, 18014398509481984, 13510798882111488⟩, ⟨4, 36028797018963968, 18014398509481984⟩, ⟨8, 72057594037927936, 36028797018963968⟩, ⟨0, 144115188075855872, 64⟩, ⟨48, 288230376151711744, 216172782113783808⟩, ⟨64, 576460752303423488, 288230376151711744⟩, ⟨0, 1152921504606846976, 2⟩, ⟨0, 2305843009213693952, 32⟩, ⟨768, 4611686018427387904, 3458764513820540928⟩, ⟨1024, 9223372036854775808, 4611686018427387904⟩, ⟨2048, 18446744073709551616, 9223372036854775808⟩, ⟨0, 36893488147419103232, 64⟩, ⟨12288, 73786976294838206464, 55340232221128654848⟩, ⟨16384, 147573952589676412928, 73786976294838206464⟩, ⟨32896, 295147905179352825856, 148150413341979836416⟩]
set_option maxHeartbeats 4000000 in
set_option maxRecDepth 100000 in
theorem kind_Same_ok (w0 w : World) (cs : List Chunk) (F : Nat → Prop) (W : World) (A_a : Option Addr) (c_a : Nat) (a : List api_Kind) (A_b : Option Addr) (c_b : Nat) (b : List api_Kind) (hM0 : Mem w0 (Fz F W :: cs) w) (h_a : RdS R_api_Kind F W A_a c_a a) (h_b : RdS R_api_Kind F W A_b c_b b) (t9001 : Bool) (hp : kind_Same a b = some t9001) : Calls Tryd.prog 35 #[.slice A_a a.length c_a, .slice A_b b.length c_b] w fun e w' => (True) ∧ e = .returned (.bool t9001) ∧ Mem w0 (Fz F W :: cs) w' := by
 unfold kind_Same at hp
 refine sx_calls Tryd.func35 rfl (n := 71) (by kernel_rfl) (l := [(0, .slice A_a a.length c_a), (1, .slice A_b b.length c_b)]) rfl (by rfl) hM0 ?_
 refine st_seq ?_
 refine st_region [oF 0] (by rfl) ?_
 refine oR [oF 0] [(0, .slice A_a a.length c_a), (1, .slice A_b b.length c_b)] [0, 1] (by kernel_rfl) ?_
 refine ops_nil ?_
 refine fin_then ?_
 refine st_seq ?_
 refine st_seq ?_
 refine st_region [oF 0, oF 1, oF 2, oF 3, oF 4] (by rfl) ?_
 refine oR [oF 0, oF 1, oF 2, oF 3, oF 4] [(11, .bool (!((a.length : Int) == (b.length : Int)))), (0, .slice A_a a.length c_a), (1, .slice A_b b.length c_b)] [11, 0, 1] (by kernel_rfl) ?_
 refine ops_nil ?_
 refine fin_then ?_
 refine st_if (b := !((a.length : Int) == (b.length : Int))) rfl (fun hc1 => ?_) (fun hc1 => ?_)
 · --
  have hp := cnd_t hc1 hp
  refine st_seq ?_
  refine st_region [oF 0] (by rfl) ?_
  refine oR [oF 0] [(4, .bool false)] [4] (by kernel_rfl) ?_
  refine ops_nil ?_
  refine fin_then ?_
  refine st_ret ?_
  refine fin_ret_then ?_
  have hq_ := Option.some.inj hp
  have hr0_ := hq_
  subst hr0_
  refine fin_ret [.tmp 4] [.bool false] rfl rfl (fun w_ hM => (.tmp rfl .nil)) (fun w_ hM => ?_)
  exact ⟨trivial, rfl, hM⟩
 · --
  have hp := cnd_f hc1 hp
  refine st_skip ?_
  refine fin_then ?_
  refine st_join1 (σ := Unit) (L := fun _ => []) (N := fun _ => Mem w0 (Fz F W :: cs)) (I := fun _ => (kind_Same_j1 = some t9001)) ?_ ?_
  · --
   rintro _ hp
   refine st_conv (l' := []) (M' := Mem w0 (Fz F W :: cs)) rfl (fun _ h => h) ?_
   unfold kind_Same_j1 at hp
   refine st_seq ?_
   refine st_region [oF 0] (by rfl) ?_
   refine oR [oF 0] [(4, .bool true)] [4] (by kernel_rfl) ?_
   refine ops_nil ?_
   refine fin_then ?_
   refine st_ret ?_
   have hq_ := Option.some.inj hp
   have hr0_ := hq_
   subst hr0_
   refine fin_ret [.tmp 4] [.bool true] rfl rfl (fun w_ hM => (.tmp rfl .nil)) (fun w_ hM => ?_)
   exact ⟨trivial, rfl, hM⟩
  · --
   intro HJ1
   refine st_seq ?_
   refine st_seq ?_
   refine st_region [oF 0, oF 1, oF 2] (by rfl) ?_
   refine oR [oF 0, oF 1, oF 2] [(14, vI 0), (13, vI (a.length : Int)), (0, .slice A_a a.length c_a), (1, .slice A_b b.length c_b)] [14, 13, 0, 1] (by kernel_rfl) ?_
   refine ops_nil ?_
   refine fin_then ?_
   refine st_block ?_
   obtain ⟨r2, hl2, hk2⟩ := obind hp
   refine st_loopP (σ := Int) (ρ := (Bool ⊕ Unit)) (γ := Unit) hl2 () (fun s_ g_ => match s_, g_ with | i2, _ => [(0, .slice A_a a.length c_a), (1, .slice A_b b.length c_b), (13, vI (a.length : Int)), (14, vI i2)]) (fun s_ g_ => match s_, g_ with | i2, _ => Mem w0 (Fz F W :: cs)) (fun s_ g_ => match s_, g_ with | i2, _ => True) trivial (look_has ⟨rfl, rfl, rfl, rfl, trivial⟩) (fun w_ hM => hM) ?_
   rintro i2 _ o2 - hs_ hd2
   have hp : (kind_Same_l2 a b) i2 = some o2 := hs_
   clear hs_
   unfold kind_Same_l2 at hp
   refine st_conv (l' := [(0, .slice A_a a.length c_a), (1, .slice A_b b.length c_b), (13, vI (a.length : Int)), (14, vI i2)]) (M' := Mem w0 (Fz F W :: cs)) rfl (fun _ h => h) ?_
   refine st_seq ?_
   refine st_region [oF 0] (by rfl) ?_
   refine oR [oF 0] [(15, .bool (decide (i2 < (a.length : Int)))), (0, .slice A_a a.length c_a), (1, .slice A_b b.length c_b), (13, vI (a.length : Int)), (14, vI i2)] [15, 0, 1, 13, 14] (by kernel_rfl) ?_
   refine ops_nil ?_
   refine fin_then ?_
   refine st_seq ?_
   refine st_if (b := decide (i2 < (a.length : Int))) rfl (fun hc3 => ?_) (fun hc3 => ?_)
   · --
    have hp := cnd_t hc3 hp
    refine st_skip ?_
    refine fin_then ?_
    refine st_join1 (σ := Unit) (L := fun _ => [(0, .slice A_a a.length c_a), (1, .slice A_b b.length c_b), (13, vI (a.length : Int)), (14, vI i2)]) (N := fun _ => Mem w0 (Fz F W :: cs)) (I := fun _ => ((kind_Same_j3 i2) = some o2)) ?_ ?_
    · --
     rintro _ hp
     refine st_conv (l' := [(0, .slice A_a a.length c_a), (1, .slice A_b b.length c_b), (13, vI (a.length : Int)), (14, vI i2)]) (M' := Mem w0 (Fz F W :: cs)) rfl (fun _ h => h) ?_
     unfold kind_Same_j3 at hp
     refine st_region [oF 0, oF 1] (by rfl) ?_
     refine oR [oF 0, oF 1] [(14, vI (IntKind.i64.wrap (i2 + 1))), (0, .slice A_a a.length c_a), (1, .slice A_b b.length c_b), (13, vI (a.length : Int))] [14, 0, 1, 13] (by kernel_rfl) ?_
     refine ops_nil ?_
     exact fin_again (IntKind.i64.wrap (i2 + 1)) () (Option.some.inj hp).symm trivial (look_has ⟨rfl, rfl, rfl, rfl, trivial⟩) (fun w_ hM => hM)
    · --
     intro HJ3
     refine st_seq ?_
     refine st_block ?_
     refine st_seq ?_
     refine st_region [oF 0, oF 1] (by rfl) ?_
     refine oR [oF 0, oF 1] [(5, vI i2), (0, .slice A_a a.length c_a), (1, .slice A_b b.length c_b), (13, vI (a.length : Int)), (14, vI i2)] [5, 0, 1, 13, 14] (by kernel_rfl) ?_
     refine ops_nil ?_
     refine fin_then ?_
     refine st_seq ?_
     refine st_seq ?_
     refine st_region_fast kind_Same__t0 [oT 0, oT 1, oT 2, oT 3, oT 4, oT 5, oT 6, oT 7, oT 8, oT 9, oT 10, oT 11, oT 12, oT 13, oT 14, oT 15, oT 16, oT 17, oT 18, oT 19, oT 20, oT 21, oT 22, oT 23, oT 24, oT 25] (Mem w0 (Fz F W :: cs)) (by kernel_rfl) (by kernel_rfl) (by kernel_rfl) (by kernel_rfl) (by kernel_rfl) (fun _ d _ _ _ h => by cases d <;> exact h) (M' := Mem w0 (Fz F W :: cs)) (fun w_ hM => ⟨hM.drew, hM.drew.sub (.cons_cons _ (.refl _))⟩) ?_
     refine oR [oT 0, oT 1] [(18, vI i2), (17, .slice A_a a.length c_a), (5, vI i2), (0, .slice A_a a.length c_a), (1, .slice A_b b.length c_b), (13, vI (a.length : Int)), (14, vI i2)] [18, 17, 5, 0, 1, 13, 14] (by kernel_rfl) ?_
     obtain ⟨x4, hv5, hp⟩ := obind hp
     obtain ⟨m6, hm7, hx8⟩ := idx_some hv5
     have hl11 := (List.getElem?_eq_some_iff.1 hx8).1
     obtain ⟨ad12, vs9, hA13, hr10, hq14⟩ := RdS.el h_a hx8
     obtain ⟨A15, c16, rfl, h17⟩ := dec_api_Kind hr10
     refine ops_val (op := (Go.Op.indexAddr 28 (Go.Operand.tmp 17) (Go.Operand.tmp 18))) (d := some 19) (v := .pointer (some (ad12.add (m6 * 2)))) ⟨by kernel_rfl⟩ (run_indexA hA13 Tryd.underlying28 (z := 2) (by kernel_rfl) rfl rfl hm7 hl11) ?_
     refine oR [oT 3] [(20, .pointer (some (ad12.add (m6 * 2)))), (5, vI i2), (0, .slice A_a a.length c_a), (1, .slice A_b b.length c_b), (13, vI (a.length : Int)), (14, vI i2)] [20, 5, 0, 1, 13, 14] (by kernel_rfl) ?_
     refine ops_load (d := some 21) (an := [.v (.string x4.Name)]) (evs := [.load (ad12.add (m6 * 2)) (.string x4.Name)]) (v := .string x4.Name) ⟨by kernel_rfl⟩ (fun w_ hM => ⟨hM.elcell 0 rfl hq14 0 rfl, rfl⟩) ?_
     refine oR [oT 5, oT 6] [(23, vI i2), (22, .slice A_b b.length c_b), (21, .string x4.Name), (5, vI i2), (0, .slice A_a a.length c_a), (1, .slice A_b b.length c_b), (13, vI (a.length : Int)), (14, vI i2)] [23, 22, 21, 5, 0, 1, 13, 14] (by kernel_rfl) ?_
     obtain ⟨x18, hv19, hp⟩ := obind hp
     obtain ⟨m20, hm21, hx22⟩ := idx_some hv19
     have hl25 := (List.getElem?_eq_some_iff.1 hx22).1
     obtain ⟨ad26, vs23, hA27, hr24, hq28⟩ := RdS.el h_b hx22
     obtain ⟨A29, c30, rfl, h31⟩ := dec_api_Kind hr24
     refine ops_val (op := (Go.Op.indexAddr 28 (Go.Operand.tmp 22) (Go.Operand.tmp 23))) (d := some 24) (v := .pointer (some (ad26.add (m20 * 2)))) ⟨by kernel_rfl⟩ (run_indexA hA27 Tryd.underlying28 (z := 2) (by kernel_rfl) rfl rfl hm21 hl25) ?_
     refine oR [oT 8] [(25, .pointer (some (ad26.add (m20 * 2)))), (21, .string x4.Name), (5, vI i2), (0, .slice A_a a.length c_a), (1, .slice A_b b.length c_b), (13, vI (a.length : Int)), (14, vI i2)] [25, 21, 5, 0, 1, 13, 14] (by kernel_rfl) ?_
     refine ops_load (d := some 26) (an := [.v (.string x18.Name)]) (evs := [.load (ad26.add (m20 * 2)) (.string x18.Name)]) (v := .string x18.Name) ⟨by kernel_rfl⟩ (fun w_ hM => ⟨hM.elcell 0 rfl hq28 0 rfl, rfl⟩) ?_
     refine oR [oT 10, oT 11] [(28, .bool (!(x4.Name.toList == x18.Name.toList))), (5, vI i2), (0, .slice A_a a.length c_a), (1, .slice A_b b.length c_b), (13, vI (a.length : Int)), (14, vI i2)] [28, 5, 0, 1, 13, 14] (by kernel_rfl) ?_
     refine ops_bool (t := !(x4.Name.toList == x18.Name.toList)) (l1 := [(28, .bool true), (5, vI i2), (0, .slice A_a a.length c_a), (1, .slice A_b b.length c_b), (13, vI (a.length : Int)), (14, vI i2)]) (l2 := [(28, .bool false), (5, vI i2), (0, .slice A_a a.length c_a), (1, .slice A_b b.length c_b), (13, vI (a.length : Int)), (14, vI i2)]) (fun h => by rw [h]) (fun h => by rw [h]) (fun hc32 => ?_) (fun hc32 => ?_)
     · --
      have hp := cnd_t hc32 hp
      refine oR [oT 12, oT 13, oT 14, oT 15, oT 16, oT 17, oT 18, oT 19, oT 20, oT 21, oT 22, oT 23, oT 24, oT 25] [(42, .bool true), (5, vI i2), (0, .slice A_a a.length c_a), (1, .slice A_b b.length c_b), (13, vI (a.length : Int)), (14, vI i2)] [42, 5, 0, 1, 13, 14] (by kernel_rfl) ?_
      refine ops_nil ?_
      refine fin_then ?_
      refine st_true rfl ?_
      refine st_seq ?_
      refine st_region [oF 0] (by rfl) ?_
      refine oR [oF 0] [(4, .bool false)] [4] (by kernel_rfl) ?_
      refine ops_nil ?_
      refine fin_then ?_
      refine st_ret ?_
      refine fin_ret_then ?_
      refine fin_ret_block ?_
      refine fin_ret_then ?_
      refine fin_ret_then ?_
      refine fin_ret_block ?_
      refine fin_ret_then ?_
      obtain hq_ := Option.some.inj hp
      subst hq_
      obtain hq_ := hd2 _ rfl
      subst hq_
      have hp : some false = some t9001 := hk2
      have hq_ := Option.some.inj hp
      have hr0_ := hq_
      subst hr0_
      refine fin_ret [.tmp 4] [.bool false] rfl rfl (fun w_ hM => (.tmp rfl .nil)) (fun w_ hM => ?_)
      exact ⟨trivial, rfl, hM⟩
     · --
      have hp := cnd_f hc32 hp
      refine oR [oT 12, oT 13] [(30, vI i2), (29, .slice A_a a.length c_a), (28, .bool false), (5, vI i2), (0, .slice A_a a.length c_a), (1, .slice A_b b.length c_b), (13, vI (a.length : Int)), (14, vI i2)] [30, 29, 28, 5, 0, 1, 13, 14] (by kernel_rfl) ?_
      obtain ⟨x33, hv34, hp⟩ := obind hp
      obtain ⟨m35, hm36, hx37⟩ := idx_some hv34
      have hl40 := (List.getElem?_eq_some_iff.1 hx37).1
      obtain ⟨ad41, vs38, hA42, hr39, hq43⟩ := RdS.el h_a hx37
      obtain ⟨A44, c45, rfl, h46⟩ := dec_api_Kind hr39
      refine ops_val (op := (Go.Op.indexAddr 28 (Go.Operand.tmp 29) (Go.Operand.tmp 30))) (d := some 31) (v := .pointer (some (ad41.add (m35 * 2)))) ⟨by kernel_rfl⟩ (run_indexA hA42 Tryd.underlying28 (z := 2) (by kernel_rfl) rfl rfl hm36 hl40) ?_
      refine oR [oT 15] [(32, .pointer (some ((ad41.add (m35 * 2)).add 1))), (28, .bool false), (5, vI i2), (0, .slice A_a a.length c_a), (1, .slice A_b b.length c_b), (13, vI (a.length : Int)), (14, vI i2)] [32, 28, 5, 0, 1, 13, 14] (by kernel_rfl) ?_
      refine ops_load (d := some 33) (an := [.v (.slice A44 x33.Fields.length c45)]) (evs := [.load ((ad41.add (m35 * 2)).add 1) (.slice A44 x33.Fields.length c45)]) (v := .slice A44 x33.Fields.length c45) ⟨by kernel_rfl⟩ (fun w_ hM => ⟨hM.elcell 0 rfl hq43 1 rfl, rfl⟩) ?_
      refine oR [oT 17, oT 18, oT 19] [(36, vI i2), (35, .slice A_b b.length c_b), (34, vI (x33.Fields.length : Int)), (28, .bool false), (5, vI i2), (0, .slice A_a a.length c_a), (1, .slice A_b b.length c_b), (13, vI (a.length : Int)), (14, vI i2)] [36, 35, 34, 28, 5, 0, 1, 13, 14] (by kernel_rfl) ?_
      obtain ⟨x47, hv48, hp⟩ := obind hp
      obtain ⟨m49, hm50, hx51⟩ := idx_some hv48
      have hl54 := (List.getElem?_eq_some_iff.1 hx51).1
      obtain ⟨ad55, vs52, hA56, hr53, hq57⟩ := RdS.el h_b hx51
      obtain ⟨A58, c59, rfl, h60⟩ := dec_api_Kind hr53
      refine ops_val (op := (Go.Op.indexAddr 28 (Go.Operand.tmp 35) (Go.Operand.tmp 36))) (d := some 37) (v := .pointer (some (ad55.add (m49 * 2)))) ⟨by kernel_rfl⟩ (run_indexA hA56 Tryd.underlying28 (z := 2) (by kernel_rfl) rfl rfl hm50 hl54) ?_
      refine oR [oT 21] [(38, .pointer (some ((ad55.add (m49 * 2)).add 1))), (34, vI (x33.Fields.length : Int)), (28, .bool false), (5, vI i2), (0, .slice A_a a.length c_a), (1, .slice A_b b.length c_b), (13, vI (a.length : Int)), (14, vI i2)] [38, 34, 28, 5, 0, 1, 13, 14] (by kernel_rfl) ?_
      refine ops_load (d := some 39) (an := [.v (.slice A58 x47.Fields.length c59)]) (evs := [.load ((ad55.add (m49 * 2)).add 1) (.slice A58 x47.Fields.length c59)]) (v := .slice A58 x47.Fields.length c59) ⟨by kernel_rfl⟩ (fun w_ hM => ⟨hM.elcell 0 rfl hq57 1 rfl, rfl⟩) ?_
      refine oR [oT 23, oT 24, oT 25] [(42, .bool (!((x33.Fields.length : Int) == (x47.Fields.length : Int)))), (5, vI i2), (0, .slice A_a a.length c_a), (1, .slice A_b b.length c_b), (13, vI (a.length : Int)), (14, vI i2)] [42, 5, 0, 1, 13, 14] (by kernel_rfl) ?_
      refine ops_nil ?_
      refine fin_then ?_
      refine st_if (b := !((x33.Fields.length : Int) == (x47.Fields.length : Int))) rfl (fun hc61 => ?_) (fun hc61 => ?_)
      · --
       have hp := cnd_t hc61 hp
       refine st_seq ?_
       refine st_region [oF 0] (by rfl) ?_
       refine oR [oF 0] [(4, .bool false)] [4] (by kernel_rfl) ?_
       refine ops_nil ?_
       refine fin_then ?_
       refine st_ret ?_
       refine fin_ret_then ?_
       refine fin_ret_block ?_
       refine fin_ret_then ?_
       refine fin_ret_then ?_
       refine fin_ret_block ?_
       refine fin_ret_then ?_
       obtain hq_ := Option.some.inj hp
       subst hq_
       obtain hq_ := hd2 _ rfl
       subst hq_
       have hp : some false = some t9001 := hk2
       have hq_ := Option.some.inj hp
       have hr0_ := hq_
       subst hr0_
       refine fin_ret [.tmp 4] [.bool false] rfl rfl (fun w_ hM => (.tmp rfl .nil)) (fun w_ hM => ?_)
       exact ⟨trivial, rfl, hM⟩
      · --
       have hp := cnd_f hc61 hp
       refine st_skip ?_
       refine fin_then ?_
       refine st_seq ?_
       refine st_region [oF 0, oF 1, oF 2, oF 3, oF 4, oF 5, oF 6] (by rfl) ?_
       refine oR [oF 0, oF 1] [(44, vI i2), (43, .slice A_a a.length c_a), (5, vI i2), (0, .slice A_a a.length c_a), (1, .slice A_b b.length c_b), (13, vI (a.length : Int)), (14, vI i2)] [44, 43, 5, 0, 1, 13, 14] (by kernel_rfl) ?_
       obtain ⟨x62, hv63, hp⟩ := obind hp
       obtain ⟨m64, hm65, hx66⟩ := idx_some hv63
       have hl69 := (List.getElem?_eq_some_iff.1 hx66).1
       obtain ⟨ad70, vs67, hA71, hr68, hq72⟩ := RdS.el h_a hx66
       obtain ⟨A73, c74, rfl, h75⟩ := dec_api_Kind hr68
       refine ops_val (op := (Go.Op.indexAddr 28 (Go.Operand.tmp 43) (Go.Operand.tmp 44))) (d := some 45) (v := .pointer (some (ad70.add (m64 * 2)))) ⟨by kernel_rfl⟩ (run_indexA hA71 Tryd.underlying28 (z := 2) (by kernel_rfl) rfl rfl hm65 hl69) ?_
       refine oR [oF 3] [(46, .pointer (some ((ad70.add (m64 * 2)).add 1))), (5, vI i2), (0, .slice A_a a.length c_a), (1, .slice A_b b.length c_b), (13, vI (a.length : Int)), (14, vI i2)] [46, 5, 0, 1, 13, 14] (by kernel_rfl) ?_
       refine ops_mem (d := some 47) (an := [.v (.slice A73 x62.Fields.length c74)]) (evs := [.load ((ad70.add (m64 * 2)).add 1) (.slice A73 x62.Fields.length c74)]) (v := .slice A73 x62.Fields.length c74) (M' := Mem w0 (Fz F W :: cs)) ⟨by kernel_rfl⟩ (fun w_ hM hS => ⟨w_, ⟨hM.elcell 0 rfl hq72 1 rfl, rfl⟩, hM, trivial⟩) ?_
       refine oR [oF 5, oF 6] [(49, vI 0), (48, vI (x62.Fields.length : Int)), (5, vI i2), (0, .slice A_a a.length c_a), (1, .slice A_b b.length c_b), (13, vI (a.length : Int)), (14, vI i2)] [49, 48, 5, 0, 1, 13, 14] (by kernel_rfl) ?_
       refine ops_nil ?_
       refine fin_then ?_
       refine st_block ?_
       obtain ⟨r4, hl4, hk4⟩ := obind hp
       refine st_loopP (σ := Int) (ρ := (Bool ⊕ Unit)) (γ := Unit) hl4 () (fun s_ g_ => match s_, g_ with | i76, _ => [(0, .slice A_a a.length c_a), (1, .slice A_b b.length c_b), (5, vI i2), (13, vI (a.length : Int)), (14, vI i2), (48, vI (x62.Fields.length : Int)), (49, vI i76)]) (fun s_ g_ => match s_, g_ with | i76, _ => Mem w0 (Fz F W :: cs)) (fun s_ g_ => match s_, g_ with | i76, _ => True) trivial (look_has ⟨rfl, rfl, rfl, rfl, rfl, rfl, rfl, trivial⟩) (fun w_ hM => hM) ?_
       rintro i76 _ o4 - hs_ hd4
       have hp : (kind_Same_l4 x62 a i2 b) i76 = some o4 := hs_
       clear hs_
       unfold kind_Same_l4 at hp
       refine st_conv (l' := [(0, .slice A_a a.length c_a), (1, .slice A_b b.length c_b), (5, vI i2), (13, vI (a.length : Int)), (14, vI i2), (48, vI (x62.Fields.length : Int)), (49, vI i76)]) (M' := Mem w0 (Fz F W :: cs)) rfl (fun _ h => h) ?_
       refine st_seq ?_
       refine st_region [oF 0] (by rfl) ?_
       refine oR [oF 0] [(50, .bool (decide (i76 < (x62.Fields.length : Int)))), (0, .slice A_a a.length c_a), (1, .slice A_b b.length c_b), (5, vI i2), (13, vI (a.length : Int)), (14, vI i2), (48, vI (x62.Fields.length : Int)), (49, vI i76)] [50, 0, 1, 5, 13, 14, 48, 49] (by kernel_rfl) ?_
       refine ops_nil ?_
       refine fin_then ?_
       refine st_seq ?_
       refine st_if (b := decide (i76 < (x62.Fields.length : Int))) rfl (fun hc77 => ?_) (fun hc77 => ?_)
       · --
        have hp := cnd_t hc77 hp
        refine st_skip ?_
        refine fin_then ?_
        refine st_seq ?_
        refine st_block ?_
        refine st_seq ?_
        refine st_region [oF 0, oF 1] (by rfl) ?_
        refine oR [oF 0, oF 1] [(6, vI i76), (0, .slice A_a a.length c_a), (1, .slice A_b b.length c_b), (5, vI i2), (13, vI (a.length : Int)), (14, vI i2), (48, vI (x62.Fields.length : Int)), (49, vI i76)] [6, 0, 1, 5, 13, 14, 48, 49] (by kernel_rfl) ?_
        refine ops_nil ?_
        refine fin_then ?_
        refine st_seq ?_
        refine st_region_fast kind_Same__t1 [oT 0, oT 1, oT 2, oT 3, oT 4, oT 5, oT 6, oT 7, oT 8, oT 9, oT 10, oT 11, oT 12, oT 13, oT 14, oT 15, oT 16] (Mem w0 (Fz F W :: cs)) (by kernel_rfl) (by kernel_rfl) (by kernel_rfl) (by kernel_rfl) (by kernel_rfl) (fun _ d _ _ _ h => by cases d <;> exact h) (M' := Mem w0 (Fz F W :: cs)) (fun w_ hM => ⟨hM.drew, hM.drew.sub (.cons_cons _ (.refl _))⟩) ?_
        refine oR [oT 0, oT 1] [(53, vI i2), (52, .slice A_a a.length c_a), (6, vI i76), (0, .slice A_a a.length c_a), (1, .slice A_b b.length c_b), (5, vI i2), (13, vI (a.length : Int)), (14, vI i2), (48, vI (x62.Fields.length : Int)), (49, vI i76)] [53, 52, 6, 0, 1, 5, 13, 14, 48, 49] (by kernel_rfl) ?_
        obtain ⟨x78, hv79, hp⟩ := obind hp
        obtain ⟨m80, hm81, hx82⟩ := idx_some hv79
        have hl85 := (List.getElem?_eq_some_iff.1 hx82).1
        obtain ⟨ad86, vs83, hA87, hr84, hq88⟩ := RdS.el h_a hx82
        obtain ⟨A89, c90, rfl, h91⟩ := dec_api_Kind hr84
        refine ops_val (op := (Go.Op.indexAddr 28 (Go.Operand.tmp 52) (Go.Operand.tmp 53))) (d := some 54) (v := .pointer (some (ad86.add (m80 * 2)))) ⟨by kernel_rfl⟩ (run_indexA hA87 Tryd.underlying28 (z := 2) (by kernel_rfl) rfl rfl hm81 hl85) ?_
        refine oR [oT 3] [(55, .pointer (some ((ad86.add (m80 * 2)).add 1))), (6, vI i76), (0, .slice A_a a.length c_a), (1, .slice A_b b.length c_b), (5, vI i2), (13, vI (a.length : Int)), (14, vI i2), (48, vI (x62.Fields.length : Int)), (49, vI i76)] [55, 6, 0, 1, 5, 13, 14, 48, 49] (by kernel_rfl) ?_
        refine ops_load (d := some 56) (an := [.v (.slice A89 x78.Fields.length c90)]) (evs := [.load ((ad86.add (m80 * 2)).add 1) (.slice A89 x78.Fields.length c90)]) (v := .slice A89 x78.Fields.length c90) ⟨by kernel_rfl⟩ (fun w_ hM => ⟨hM.elcell 0 rfl hq88 1 rfl, rfl⟩) ?_
        refine oR [oT 5] [(57, vI i76), (56, .slice A89 x78.Fields.length c90), (6, vI i76), (0, .slice A_a a.length c_a), (1, .slice A_b b.length c_b), (5, vI i2), (13, vI (a.length : Int)), (14, vI i2), (48, vI (x62.Fields.length : Int)), (49, vI i76)] [57, 56, 6, 0, 1, 5, 13, 14, 48, 49] (by kernel_rfl) ?_
        obtain ⟨x92, hv93, hp⟩ := obind hp
        obtain ⟨m94, hm95, hx96⟩ := idx_some hv93
        have hl99 := (List.getElem?_eq_some_iff.1 hx96).1
        obtain ⟨ad100, vs97, hA101, hr98, hq102⟩ := RdS.el h91 hx96
        obtain rfl := dec_api_Field hr98
        refine ops_val (op := (Go.Op.indexAddr 25 (Go.Operand.tmp 56) (Go.Operand.tmp 57))) (d := some 58) (v := .pointer (some (ad100.add (m94 * 3)))) ⟨by kernel_rfl⟩ (run_indexA hA101 Tryd.underlying25 (z := 3) (by kernel_rfl) rfl rfl hm95 hl99) ?_
        refine oR [] [(58, .pointer (some (ad100.add (m94 * 3)))), (6, vI i76), (0, .slice A_a a.length c_a), (1, .slice A_b b.length c_b), (5, vI i2), (13, vI (a.length : Int)), (14, vI i2), (48, vI (x62.Fields.length : Int)), (49, vI i76)] [58, 6, 0, 1, 5, 13, 14, 48, 49] (by kernel_rfl) ?_
        refine ops_load (d := some 59) (an := [.v (.string x92.Name), .v (vI x92.Bits), .v (vI x92.Low)]) (evs := [.load (ad100.add (m94 * 3)) (.string x92.Name), .load ((ad100.add (m94 * 3)).add 1) (vI x92.Bits), .load ((ad100.add (m94 * 3)).add 2) (vI x92.Low)]) (v := .agg #[.string x92.Name, vI x92.Bits, vI x92.Low]) ⟨by kernel_rfl⟩ (fun w_ hM => ⟨hM.elcell 0 rfl hq102 0 rfl, hM.elcell 0 rfl hq102 1 rfl, hM.elcell 0 rfl hq102 2 rfl, rfl⟩) ?_
        refine oR [oT 8, oT 9] [(61, vI i2), (60, .slice A_b b.length c_b), (59, .agg #[.string x92.Name, vI x92.Bits, vI x92.Low]), (6, vI i76), (0, .slice A_a a.length c_a), (1, .slice A_b b.length c_b), (5, vI i2), (13, vI (a.length : Int)), (14, vI i2), (48, vI (x62.Fields.length : Int)), (49, vI i76)] [61, 60, 59, 6, 0, 1, 5, 13, 14, 48, 49] (by kernel_rfl) ?_
        obtain ⟨x103, hv104, hp⟩ := obind hp
        obtain ⟨m105, hm106, hx107⟩ := idx_some hv104
        have hl110 := (List.getElem?_eq_some_iff.1 hx107).1
        obtain ⟨ad111, vs108, hA112, hr109, hq113⟩ := RdS.el h_b hx107
        obtain ⟨A114, c115, rfl, h116⟩ := dec_api_Kind hr109
        refine ops_val (op := (Go.Op.indexAddr 28 (Go.Operand.tmp 60) (Go.Operand.tmp 61))) (d := some 62) (v := .pointer (some (ad111.add (m105 * 2)))) ⟨by kernel_rfl⟩ (run_indexA hA112 Tryd.underlying28 (z := 2) (by kernel_rfl) rfl rfl hm106 hl110) ?_
        refine oR [oT 11] [(63, .pointer (some ((ad111.add (m105 * 2)).add 1))), (59, .agg #[.string x92.Name, vI x92.Bits, vI x92.Low]), (6, vI i76), (0, .slice A_a a.length c_a), (1, .slice A_b b.length c_b), (5, vI i2), (13, vI (a.length : Int)), (14, vI i2), (48, vI (x62.Fields.length : Int)), (49, vI i76)] [63, 59, 6, 0, 1, 5, 13, 14, 48, 49] (by kernel_rfl) ?_
        refine ops_load (d := some 64) (an := [.v (.slice A114 x103.Fields.length c115)]) (evs := [.load ((ad111.add (m105 * 2)).add 1) (.slice A114 x103.Fields.length c115)]) (v := .slice A114 x103.Fields.length c115) ⟨by kernel_rfl⟩ (fun w_ hM => ⟨hM.elcell 0 rfl hq113 1 rfl, rfl⟩) ?_
        refine oR [oT 13] [(65, vI i76), (64, .slice A114 x103.Fields.length c115), (59, .agg #[.string x92.Name, vI x92.Bits, vI x92.Low]), (0, .slice A_a a.length c_a), (1, .slice A_b b.length c_b), (5, vI i2), (13, vI (a.length : Int)), (14, vI i2), (48, vI (x62.Fields.length : Int)), (49, vI i76)] [65, 64, 59, 0, 1, 5, 13, 14, 48, 49] (by kernel_rfl) ?_
        obtain ⟨x117, hv118, hp⟩ := obind hp
        obtain ⟨m119, hm120, hx121⟩ := idx_some hv118
        have hl124 := (List.getElem?_eq_some_iff.1 hx121).1
        obtain ⟨ad125, vs122, hA126, hr123, hq127⟩ := RdS.el h116 hx121
        obtain rfl := dec_api_Field hr123
        refine ops_val (op := (Go.Op.indexAddr 25 (Go.Operand.tmp 64) (Go.Operand.tmp 65))) (d := some 66) (v := .pointer (some (ad125.add (m119 * 3)))) ⟨by kernel_rfl⟩ (run_indexA hA126 Tryd.underlying25 (z := 3) (by kernel_rfl) rfl rfl hm120 hl124) ?_
        refine oR [] [(66, .pointer (some (ad125.add (m119 * 3)))), (59, .agg #[.string x92.Name, vI x92.Bits, vI x92.Low]), (0, .slice A_a a.length c_a), (1, .slice A_b b.length c_b), (5, vI i2), (13, vI (a.length : Int)), (14, vI i2), (48, vI (x62.Fields.length : Int)), (49, vI i76)] [66, 59, 0, 1, 5, 13, 14, 48, 49] (by kernel_rfl) ?_
        refine ops_load (d := some 67) (an := [.v (.string x117.Name), .v (vI x117.Bits), .v (vI x117.Low)]) (evs := [.load (ad125.add (m119 * 3)) (.string x117.Name), .load ((ad125.add (m119 * 3)).add 1) (vI x117.Bits), .load ((ad125.add (m119 * 3)).add 2) (vI x117.Low)]) (v := .agg #[.string x117.Name, vI x117.Bits, vI x117.Low]) ⟨by kernel_rfl⟩ (fun w_ hM => ⟨hM.elcell 0 rfl hq127 0 rfl, hM.elcell 0 rfl hq127 1 rfl, hM.elcell 0 rfl hq127 2 rfl, rfl⟩) ?_
        refine oR [] [(67, .agg #[.string x117.Name, vI x117.Bits, vI x117.Low]), (59, .agg #[.string x92.Name, vI x92.Bits, vI x92.Low]), (0, .slice A_a a.length c_a), (1, .slice A_b b.length c_b), (5, vI i2), (13, vI (a.length : Int)), (14, vI i2), (48, vI (x62.Fields.length : Int)), (49, vI i76)] [67, 59, 0, 1, 5, 13, 14, 48, 49] (by kernel_rfl) ?_
        refine ops_val (op := (Go.Op.binOp Go.BinOp.neq 23 (Go.Operand.tmp 59) (Go.Operand.tmp 67) 23)) (d := some 68) (v := .bool (!(x92.Name.toList == x117.Name.toList && (x92.Bits == x117.Bits && (x92.Low == x117.Low))))) ⟨by kernel_rfl⟩ (run_neq_agg (r := x92.Name.toList == x117.Name.toList && (x92.Bits == x117.Bits && (x92.Low == x117.Low))) rfl rfl (by kernel_rfl) (fun w => eqA23 9998 w x92.Name x117.Name x92.Bits x117.Bits x92.Low x117.Low)) ?_
        refine oR [] [(68, .bool (!(x92.Name.toList == x117.Name.toList && (x92.Bits == x117.Bits && (x92.Low == x117.Low))))), (0, .slice A_a a.length c_a), (1, .slice A_b b.length c_b), (5, vI i2), (13, vI (a.length : Int)), (14, vI i2), (48, vI (x62.Fields.length : Int)), (49, vI i76)] [68, 0, 1, 5, 13, 14, 48, 49] (by kernel_rfl) ?_
        refine ops_nil ?_
        refine fin_then ?_
        refine st_if (b := !(x92.Name.toList == x117.Name.toList && (x92.Bits == x117.Bits && (x92.Low == x117.Low)))) rfl (fun hc128 => ?_) (fun hc128 => ?_)
        · --
         have hp := cnd_t hc128 hp
         refine st_seq ?_
         refine st_region [oF 0] (by rfl) ?_
         refine oR [oF 0] [(4, .bool false)] [4] (by kernel_rfl) ?_
         refine ops_nil ?_
         refine fin_then ?_
         refine st_ret ?_
         refine fin_ret_block ?_
         refine fin_ret_then ?_
         refine fin_ret_then ?_
         refine fin_ret_block ?_
         refine fin_ret_block ?_
         refine fin_ret_then ?_
         refine fin_ret_then ?_
         refine fin_ret_block ?_
         refine fin_ret_then ?_
         obtain hq_ := Option.some.inj hp
         subst hq_
         obtain hq_ := hd4 _ rfl
         subst hq_
         have hp : some (.inr (.inl false)) = some o2 := hk4
         obtain hq_ := Option.some.inj hp
         subst hq_
         obtain hq_ := hd2 _ rfl
         subst hq_
         have hp : some false = some t9001 := hk2
         have hq_ := Option.some.inj hp
         have hr0_ := hq_
         subst hr0_
         refine fin_ret [.tmp 4] [.bool false] rfl rfl (fun w_ hM => (.tmp rfl .nil)) (fun w_ hM => ?_)
         exact ⟨trivial, rfl, hM⟩
        · --
         have hp := cnd_f hc128 hp
         refine st_skip ?_
         refine fin_block ?_
         refine fin_then ?_
         refine st_region [oF 0, oF 1] (by rfl) ?_
         refine oR [oF 0, oF 1] [(49, vI (IntKind.i64.wrap (i76 + 1))), (0, .slice A_a a.length c_a), (1, .slice A_b b.length c_b), (5, vI i2), (13, vI (a.length : Int)), (14, vI i2), (48, vI (x62.Fields.length : Int))] [49, 0, 1, 5, 13, 14, 48] (by kernel_rfl) ?_
         refine ops_nil ?_
         exact fin_again (IntKind.i64.wrap (i76 + 1)) () (Option.some.inj hp).symm trivial (look_has ⟨rfl, rfl, rfl, rfl, rfl, rfl, rfl, trivial⟩) (fun w_ hM => hM)
       · --
        have hp := cnd_f hc77 hp
        refine st_exit ?_
        refine fin_exit_then ?_
        refine fin_exit_then ?_
        refine fin_exit ?_
        refine fin_block ?_
        obtain hq_ := Option.some.inj hp
        subst hq_
        obtain hq_ := hd4 _ rfl
        subst hq_
        have hp : (kind_Same_j3 i2) = some o2 := hk4
        exact fin_join HJ3 () hp (look_has ⟨rfl, rfl, rfl, rfl, trivial⟩) (fun w_ hM => hM)
   · --
    have hp := cnd_f hc3 hp
    refine st_exit ?_
    refine fin_exit_then ?_
    refine fin_exit_then ?_
    refine fin_exit ?_
    obtain hq_ := Option.some.inj hp
    subst hq_
    obtain hq_ := hd2 _ rfl
    subst hq_
    have hp : kind_Same_j1 = some t9001 := hk2
    exact fin_join HJ1 () hp (look_has trivial) (fun w_ hM => hM)
end Go.Proofs.YthcbepikeinglaaDoor.L
