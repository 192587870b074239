/- The Go functions come to what the plain functions tell. No condition. -/
import Derived.Test.YthcbepikeinglaaProg
import Derived.Test.YthcbepikeinglaaFnM
import Derived.Test.YthcbepikeinglaaWkM3
import Derived.Test.YthcbepikeinglaaWkM4
namespace Go.Proofs.Ythcbepikeinglaa.M
open Go Go.RowKit Go.Proofs.Ythcbepikeinglaa.Sx
set_option linter.unusedVariables false
set_option maxHeartbeats 4000000 in
set_option maxRecDepth 100000 in
theorem world_Fit_ok (w0 w : World) (cs : List Chunk) (F : Nat → Prop) (W : World) (A_k : Option Addr) (c_k : Nat) (k : List api_Kind) (A_l : Option Addr) (c_l : Nat) (l : List api_Comp) (hM0 : Mem w0 (Fz F W :: cs) w) (h_k : RdS R_api_Kind F W A_k c_k k) (h_l : RdS R_api_Comp F W A_l c_l l) (i9001 : Int) (hp : world_Fit k l = some i9001) : Calls Try.prog 112 #[.slice A_k k.length c_k, .slice A_l l.length c_l] w fun e w' => ∃ (F9002 : Nat → Prop), ∃ (W9003 : World), ((Ext w0 F W F9002 W9003)) ∧ e = .returned (.tuple #[.slice none 0 0, vI i9001]) ∧ Mem w0 (Fz F9002 W9003 :: cs) w' := by
 unfold world_Fit at hp
 refine sx_calls Try.func112 rfl (n := 64) (by kernel_rfl) (l := [(0, .slice A_k k.length c_k), (1, .slice A_l l.length c_l)]) rfl (by rfl) hM0 ?_
 refine st_seq ?_
 refine st_region [oF 0, oF 1] (by rfl) ?_
 refine oR [oF 0, oF 1] [(0, .slice A_k k.length c_k), (1, .slice A_l l.length c_l)] [0, 1] (by kernel_rfl) ?_
 refine ops_nil ?_
 refine fin_then ?_
 refine st_seq ?_
 refine st_seq ?_
 refine st_region [oF 0, oF 1, oF 2] (by rfl) ?_
 refine oR [oF 0] [(12, .slice A_k k.length c_k), (0, .slice A_k k.length c_k), (1, .slice A_l l.length c_l)] [12, 0, 1] (by kernel_rfl) ?_
 obtain ⟨x1, hv2, hp⟩ := obind hp
 refine ops_callI (σ := Unit) (d := some 13) (f := 110) (args := #[.slice A_k k.length c_k]) (v := (fun _ => vI x1)) (I := (fun _ => True)) (M' := (fun _ => Mem w0 (Fz F W :: cs))) ⟨by kernel_rfl⟩ (fun w_ hM hS => (kind_Check_ok w0 w_ (cs) F W A_k c_k k hM h_k x1 hv2).mono (by rintro e w' ⟨-, rfl, h'⟩; have h' : Mem w0 (Fz F W :: cs) w' := h'; exact ⟨(), trivial, rfl, h', trivial⟩)) ?_
 rintro _ -
 refine ops_conv (l' := [(13, vI x1), (12, .slice A_k k.length c_k), (0, .slice A_k k.length c_k), (1, .slice A_l l.length c_l)]) (M' := Mem w0 (Fz F W :: cs)) rfl (fun _ h => h) ?_
 refine oR [oF 2] [(6, vI x1), (0, .slice A_k k.length c_k), (1, .slice A_l l.length c_l)] [6, 0, 1] (by kernel_rfl) ?_
 refine ops_nil ?_
 refine fin_then ?_
 refine st_seq ?_
 refine st_region [oF 0, oF 1] (by rfl) ?_
 refine oR [oF 0, oF 1] [(15, .bool (!(x1 == 0))), (6, vI x1), (0, .slice A_k k.length c_k), (1, .slice A_l l.length c_l)] [15, 6, 0, 1] (by kernel_rfl) ?_
 refine ops_nil ?_
 refine fin_then ?_
 refine st_if (b := !(x1 == 0)) rfl (fun hc3 => ?_) (fun hc3 => ?_)
 · --
  have hp := cnd_t hc3 hp
  refine st_seq ?_
  refine st_region [oF 0, oF 1, oF 2] (by rfl) ?_
  refine oR [oF 0, oF 1, oF 2] [(5, vI x1), (4, .slice none 0 0)] [5, 4] (by kernel_rfl) ?_
  refine ops_nil ?_
  refine fin_then ?_
  refine st_ret ?_
  refine fin_ret_then ?_
  have hq_ := Option.some.inj hp
  have hr0_ := hq_
  subst hr0_
  refine fin_ret [.tmp 4, .tmp 5] [.slice none 0 0, vI x1] rfl rfl (fun w_ hM => (.tmp rfl (.tmp rfl .nil))) (fun w_ hM => ?_)
  exact ⟨F, W, (Ext.refl _ _ _), rfl, hM⟩
 · --
  have hp := cnd_f hc3 hp
  refine st_skip ?_
  refine fin_then ?_
  refine st_seq ?_
  refine st_region [oF 0] (by rfl) ?_
  refine oR [oF 0] [(7, .slice none 0 0), (0, .slice A_k k.length c_k), (1, .slice A_l l.length c_l)] [7, 0, 1] (by kernel_rfl) ?_
  refine ops_nil ?_
  refine fin_then ?_
  refine st_join1 (σ := (Option Addr) × Nat × (List api_Comp) × (List Value) × (Nat → Prop) × World) (L := fun x_ => match x_ with | (A4, c5, l6, y7, F9, W10) => [(7, .slice A4 l6.length c5)]) (N := fun x_ => match x_ with | (A4, c5, l6, y7, F9, W10) => Mem w0 (orow A4 l6.length c5 63 2 y7 :: Fz F9 W10 :: cs)) (I := fun x_ => match x_ with | (A4, c5, l6, y7, F9, W10) => (world_Fit_j1 l6 = some i9001) ∧ (RepL R_api_Comp F9 W10 l6 y7) ∧ (Ext w0 F W F9 W10)) ?_ ?_
  · --
   rintro ⟨A4, c5, l6, y7, F9, W10⟩ ⟨hp, h8, hx1⟩
   refine st_conv (l' := [(7, .slice A4 l6.length c5)]) (M' := Mem w0 (orow A4 l6.length c5 63 2 y7 :: Fz F9 W10 :: cs)) rfl (fun _ h => h) ?_
   unfold world_Fit_j1 at hp
   refine st_seq ?_
   refine st_region [oF 0, oF 1] (by rfl) ?_
   refine oR [oF 0] [(61, .slice A4 l6.length c5), (7, .slice A4 l6.length c5)] [61, 7] (by kernel_rfl) ?_
   cases hp
  · --
   intro HJ1
   refine st_seq ?_
   refine st_seq ?_
   refine st_region [oF 0, oF 1, oF 2] (by rfl) ?_
   refine oR [oF 0, oF 1, oF 2] [(19, vI 0), (18, vI (l.length : Int)), (17, .slice A_l l.length c_l), (7, .slice none 0 0), (0, .slice A_k k.length c_k), (1, .slice A_l l.length c_l)] [19, 18, 17, 7, 0, 1] (by kernel_rfl) ?_
   refine ops_nil ?_
   refine fin_then ?_
   refine st_block ?_
   refine st_conv (l' := [(19, vI 0), (18, vI (l.length : Int)), (17, .slice A_l l.length c_l), (7, .slice none 0 0), (0, .slice A_k k.length c_k), (1, .slice A_l l.length c_l)]) (M' := Mem w0 (orow none ([] : List api_Comp).length 0 63 2 [] :: Fz F W :: cs)) rfl (fun w_ h => h.onil none 63 2) ?_
   refine st_conv (l' := [(19, vI 0), (18, vI (l.length : Int)), (17, .slice A_l l.length c_l), (7, .slice none ([] : List api_Comp).length 0), (0, .slice A_k k.length c_k), (1, .slice A_l l.length c_l)]) (M' := Mem w0 (orow none ([] : List api_Comp).length 0 63 2 [] :: Fz F W :: cs)) rfl (fun _ h => h) ?_
   obtain ⟨r2, hl2, hk2⟩ := obind hp
   refine st_loopP (σ := (List api_Comp) × Int) (ρ := (Int ⊕ (List api_Comp))) (γ := (Option Addr) × Nat × (List Value) × (Nat → Prop) × World) hl2 (none, 0, [], F, W) (fun s_ g_ => match s_, g_ with | (l13, i16), (A11, c12, y14, F17, W18) => [(0, .slice A_k k.length c_k), (1, .slice A_l l.length c_l), (7, .slice A11 l13.length c12), (17, .slice A_l l.length c_l), (18, vI (l.length : Int)), (19, vI i16)]) (fun s_ g_ => match s_, g_ with | (l13, i16), (A11, c12, y14, F17, W18) => Mem w0 (orow A11 l13.length c12 63 2 y14 :: Fz F17 W18 :: cs)) (fun s_ g_ => match s_, g_ with | (l13, i16), (A11, c12, y14, F17, W18) => (RepL R_api_Comp F17 W18 l13 y14) ∧ (Ext w0 F W F17 W18)) ⟨(RepL.nil (R := R_api_Comp)), (Ext.refl _ _ _)⟩ (look_has ⟨rfl, rfl, rfl, rfl, rfl, rfl, trivial⟩) (fun w_ hM => hM) ?_
   rintro ⟨l13, i16⟩ ⟨A11, c12, y14, F17, W18⟩ o2 ⟨h15, hx2⟩ hs_ hd2
   have hp : (world_Fit_l2 l k) l13 i16 = some o2 := hs_
   clear hs_
   unfold world_Fit_l2 at hp
   refine st_conv (l' := [(0, .slice A_k k.length c_k), (1, .slice A_l l.length c_l), (7, .slice A11 l13.length c12), (17, .slice A_l l.length c_l), (18, vI (l.length : Int)), (19, vI i16)]) (M' := Mem w0 (orow A11 l13.length c12 63 2 y14 :: Fz F17 W18 :: cs)) rfl (fun _ h => h) ?_
   have h_k := h_k.ext hx2
   have h_l := h_l.ext hx2
   refine st_seq ?_
   refine st_region [oF 0] (by rfl) ?_
   refine oR [oF 0] [(20, .bool (decide (i16 < (l.length : Int)))), (0, .slice A_k k.length c_k), (1, .slice A_l l.length c_l), (7, .slice A11 l13.length c12), (17, .slice A_l l.length c_l), (18, vI (l.length : Int)), (19, vI i16)] [20, 0, 1, 7, 17, 18, 19] (by kernel_rfl) ?_
   refine ops_nil ?_
   refine fin_then ?_
   refine st_seq ?_
   refine st_if (b := decide (i16 < (l.length : Int))) rfl (fun hc19 => ?_) (fun hc19 => ?_)
   · --
    have hp := cnd_t hc19 hp
    refine st_skip ?_
    refine fin_then ?_
    refine st_seq ?_
    refine st_block ?_
    refine st_seq ?_
    refine st_region [oF 0, oF 1, oF 2, oF 3, oF 4, oF 5] (by rfl) ?_
    refine oR [oF 0] [(21, vI i16), (0, .slice A_k k.length c_k), (1, .slice A_l l.length c_l), (7, .slice A11 l13.length c12), (17, .slice A_l l.length c_l), (18, vI (l.length : Int)), (19, vI i16)] [21, 0, 1, 7, 17, 18, 19] (by kernel_rfl) ?_
    obtain ⟨x20, hv21, hp⟩ := obind hp
    obtain ⟨m22, hm23, hx24⟩ := idx_some hv21
    have hl27 := (List.getElem?_eq_some_iff.1 hx24).1
    obtain ⟨ad28, vs25, hA29, hr26, hq30⟩ := RdS.el h_l hx24
    obtain ⟨A31, c32, rfl, h33⟩ := dec_api_Comp hr26
    refine ops_val (op := (Go.Op.indexAddr 25 (Go.Operand.tmp 17) (Go.Operand.tmp 19))) (d := some 22) (v := .pointer (some (ad28.add (m22 * 2)))) ⟨by kernel_rfl⟩ (run_indexA hA29 Try.underlying25 (z := 2) (by kernel_rfl) rfl rfl hm23 hl27) ?_
    refine ops_mem (d := some 23) (an := [.v (vI x20.Kind), .v (.slice A31 x20.Vals.length c32)]) (evs := [.load (ad28.add (m22 * 2)) (vI x20.Kind), .load ((ad28.add (m22 * 2)).add 1) (.slice A31 x20.Vals.length c32)]) (v := .agg #[vI x20.Kind, .slice A31 x20.Vals.length c32]) (M' := Mem w0 (orow A11 l13.length c12 63 2 y14 :: Fz F17 W18 :: cs)) ⟨by kernel_rfl⟩ (fun w_ hM hS => ⟨w_, ⟨hM.elcell 1 rfl hq30 0 rfl, hM.elcell 1 rfl hq30 1 rfl, rfl⟩, hM, trivial⟩) ?_
    refine oR [] [(23, .agg #[vI x20.Kind, .slice A31 x20.Vals.length c32]), (21, vI i16), (0, .slice A_k k.length c_k), (1, .slice A_l l.length c_l), (7, .slice A11 l13.length c12), (17, .slice A_l l.length c_l), (18, vI (l.length : Int)), (19, vI i16)] [23, 21, 0, 1, 7, 17, 18, 19] (by kernel_rfl) ?_
    refine ops_new (d := some 9) (o := .cells #[vI 0, .slice none 0 0] 63) (v := fun b34 => vP b34 0) (M' := fun b34 => Mem w0 (.blk b34 [vI 0, .slice none 0 0] 63 :: orow A11 l13.length c12 63 2 y14 :: Fz F17 W18 :: cs)) (fun b34 => ⟨by kernel_rfl⟩) (fun w_ hM hS => ⟨hM.blk [vI 0, .slice none 0 0] 63, trivial⟩) (fun b34 => ?_)
    refine oR [oF 4] [(8, vI i16), (9, vP b34 0), (23, .agg #[vI x20.Kind, .slice A31 x20.Vals.length c32]), (0, .slice A_k k.length c_k), (1, .slice A_l l.length c_l), (7, .slice A11 l13.length c12), (17, .slice A_l l.length c_l), (18, vI (l.length : Int)), (19, vI i16)] [8, 9, 23, 0, 1, 7, 17, 18, 19] (by kernel_rfl) ?_
    refine ops_store (an := []) (evs := [.store ⟨b34, 0, none⟩ (vI x20.Kind), .store ⟨b34, 1, none⟩ (.slice A31 x20.Vals.length c32)]) (M' := Mem w0 (.blk b34 [vI x20.Kind, .slice A31 x20.Vals.length c32] 63 :: orow A11 l13.length c12 63 2 y14 :: Fz F17 W18 :: cs)) ⟨by kernel_rfl⟩ (fun w_ hM hS => let ⟨w', he, h'⟩ := hM.evs_stores [vI x20.Kind, .slice A31 x20.Vals.length c32] 0 rfl 0 (Nat.le_of_ble_eq_true rfl); ⟨w', he, h', trivial⟩) ?_
    refine oR [] [(8, vI i16), (9, vP b34 0), (0, .slice A_k k.length c_k), (1, .slice A_l l.length c_l), (7, .slice A11 l13.length c12), (17, .slice A_l l.length c_l), (18, vI (l.length : Int)), (19, vI i16)] [8, 9, 0, 1, 7, 17, 18, 19] (by kernel_rfl) ?_
    refine ops_nil ?_
    refine fin_then ?_
    refine st_seq ?_
    refine st_seq ?_
    refine st_region [oF 0, oF 1, oF 2, oF 3, oF 4, oF 5, oF 6, oF 7, oF 8, oF 9] (by rfl) ?_
    refine oR [oF 0] [(24, vP b34 0), (8, vI i16), (9, vP b34 0), (0, .slice A_k k.length c_k), (1, .slice A_l l.length c_l), (7, .slice A11 l13.length c12), (17, .slice A_l l.length c_l), (18, vI (l.length : Int)), (19, vI i16)] [24, 8, 9, 0, 1, 7, 17, 18, 19] (by kernel_rfl) ?_
    refine ops_mem (d := some 25) (an := [.v (vI x20.Kind)]) (evs := [.load ⟨b34, 0, none⟩ (vI x20.Kind)]) (v := vI x20.Kind) (M' := Mem w0 (.blk b34 [vI x20.Kind, .slice A31 x20.Vals.length c32] 63 :: orow A11 l13.length c12 63 2 y14 :: Fz F17 W18 :: cs)) ⟨by kernel_rfl⟩ (fun w_ hM hS => ⟨w_, ⟨hM.cell 0 rfl rfl, rfl⟩, hM, trivial⟩) ?_
    refine oR [oF 2, oF 3] [(27, .bool (decide (x20.Kind < 0))), (8, vI i16), (9, vP b34 0), (0, .slice A_k k.length c_k), (1, .slice A_l l.length c_l), (7, .slice A11 l13.length c12), (17, .slice A_l l.length c_l), (18, vI (l.length : Int)), (19, vI i16)] [27, 8, 9, 0, 1, 7, 17, 18, 19] (by kernel_rfl) ?_
    refine ops_bool (t := decide (x20.Kind < 0)) (l1 := [(27, .bool true), (8, vI i16), (9, vP b34 0), (0, .slice A_k k.length c_k), (1, .slice A_l l.length c_l), (7, .slice A11 l13.length c12), (17, .slice A_l l.length c_l), (18, vI (l.length : Int)), (19, vI i16)]) (l2 := [(27, .bool false), (8, vI i16), (9, vP b34 0), (0, .slice A_k k.length c_k), (1, .slice A_l l.length c_l), (7, .slice A11 l13.length c12), (17, .slice A_l l.length c_l), (18, vI (l.length : Int)), (19, vI i16)]) (fun h => by rw [h]) (fun h => by rw [h]) (fun hc35 => ?_) (fun hc35 => ?_)
    · --
     have hp := cnd_t hc35 hp
     refine oR [oF 4, oF 5, oF 6, oF 7, oF 8, oF 9] [(33, .bool true), (8, vI i16), (9, vP b34 0), (0, .slice A_k k.length c_k), (1, .slice A_l l.length c_l), (7, .slice A11 l13.length c12), (17, .slice A_l l.length c_l), (18, vI (l.length : Int)), (19, vI i16)] [33, 8, 9, 0, 1, 7, 17, 18, 19] (by kernel_rfl) ?_
     refine ops_nil ?_
     refine fin_then ?_
     refine st_true rfl ?_
     refine st_seq ?_
     refine st_region [oF 0, oF 1] (by rfl) ?_
     refine oR [oF 0, oF 1] [(5, vI 1), (4, .slice none 0 0)] [5, 4] (by kernel_rfl) ?_
     refine ops_nil ?_
     refine fin_then ?_
     refine st_ret ?_
     refine fin_ret_then ?_
     refine fin_ret_block ?_
     refine fin_ret_then ?_
     refine fin_ret_then ?_
     refine fin_ret_block ?_
     refine fin_ret_then ?_
     obtain hq_ := Option.some.inj hp
     subst hq_
     obtain hq_ := hd2 _ rfl
     subst hq_
     have hp : some 1 = some i9001 := hk2
     have hq_ := Option.some.inj hp
     have hr0_ := hq_
     subst hr0_
     refine fin_ret [.tmp 4, .tmp 5] [.slice none 0 0, vI 1] rfl rfl (fun w_ hM => (.tmp rfl (.tmp rfl .nil))) (fun w_ hM => ?_)
     exact ⟨F17, W18, hx2, rfl, hM.pick 3 [2] (by kernel_rfl) (by decide) rfl⟩
    · --
     have hp := cnd_f hc35 hp
     refine oR [oF 4] [(28, vP b34 0), (27, .bool false), (8, vI i16), (9, vP b34 0), (0, .slice A_k k.length c_k), (1, .slice A_l l.length c_l), (7, .slice A11 l13.length c12), (17, .slice A_l l.length c_l), (18, vI (l.length : Int)), (19, vI i16)] [28, 27, 8, 9, 0, 1, 7, 17, 18, 19] (by kernel_rfl) ?_
     refine ops_mem (d := some 29) (an := [.v (vI x20.Kind)]) (evs := [.load ⟨b34, 0, none⟩ (vI x20.Kind)]) (v := vI x20.Kind) (M' := Mem w0 (.blk b34 [vI x20.Kind, .slice A31 x20.Vals.length c32] 63 :: orow A11 l13.length c12 63 2 y14 :: Fz F17 W18 :: cs)) ⟨by kernel_rfl⟩ (fun w_ hM hS => ⟨w_, ⟨hM.cell 0 rfl rfl, rfl⟩, hM, trivial⟩) ?_
     refine oR [oF 6, oF 7, oF 8, oF 9] [(33, .bool (decide ((k.length : Int) ≤ x20.Kind))), (8, vI i16), (9, vP b34 0), (0, .slice A_k k.length c_k), (1, .slice A_l l.length c_l), (7, .slice A11 l13.length c12), (17, .slice A_l l.length c_l), (18, vI (l.length : Int)), (19, vI i16)] [33, 8, 9, 0, 1, 7, 17, 18, 19] (by kernel_rfl) ?_
     refine ops_nil ?_
     refine fin_then ?_
     refine st_if (b := decide ((k.length : Int) ≤ x20.Kind)) rfl (fun hc36 => ?_) (fun hc36 => ?_)
     · --
      have hp := cnd_t hc36 hp
      refine st_seq ?_
      refine st_region [oF 0, oF 1] (by rfl) ?_
      refine oR [oF 0, oF 1] [(5, vI 1), (4, .slice none 0 0)] [5, 4] (by kernel_rfl) ?_
      refine ops_nil ?_
      refine fin_then ?_
      refine st_ret ?_
      refine fin_ret_then ?_
      refine fin_ret_block ?_
      refine fin_ret_then ?_
      refine fin_ret_then ?_
      refine fin_ret_block ?_
      refine fin_ret_then ?_
      obtain hq_ := Option.some.inj hp
      subst hq_
      obtain hq_ := hd2 _ rfl
      subst hq_
      have hp : some 1 = some i9001 := hk2
      have hq_ := Option.some.inj hp
      have hr0_ := hq_
      subst hr0_
      refine fin_ret [.tmp 4, .tmp 5] [.slice none 0 0, vI 1] rfl rfl (fun w_ hM => (.tmp rfl (.tmp rfl .nil))) (fun w_ hM => ?_)
      exact ⟨F17, W18, hx2, rfl, hM.pick 3 [2] (by kernel_rfl) (by decide) rfl⟩
     · --
      have hp := cnd_f hc36 hp
      refine st_skip ?_
      refine fin_then ?_
      refine st_seq ?_
      refine st_seq ?_
      refine st_region [oF 0, oF 1, oF 2, oF 3, oF 4] (by rfl) ?_
      refine oR [oF 0, oF 1] [(35, vI i16), (34, .slice A_l l.length c_l), (9, vP b34 0), (0, .slice A_k k.length c_k), (1, .slice A_l l.length c_l), (7, .slice A11 l13.length c12), (17, .slice A_l l.length c_l), (18, vI (l.length : Int)), (19, vI i16)] [35, 34, 9, 0, 1, 7, 17, 18, 19] (by kernel_rfl) ?_
      obtain ⟨l37, hv38, hp⟩ := obind hp
      obtain ⟨m39, n40, hm41, hn42, h43, h44, he45⟩ := cut_some hv38
      have hl46 := cut_len he45 h43 h44
      have h47 : RdS R_api_Comp F17 W18 A_l c_l l37 := by have h_ := h_l.cut h43 h44; rw [← he45] at h_; rw [show m39 = 0 by omega, cutA_zero, Nat.sub_zero] at h_; exact h_
      refine ops_val (op := (Go.Op.slice 25 (Go.Operand.tmp 34) none (some (Go.Operand.tmp 35)) none)) (d := some 36) (v := .slice A_l l37.length c_l) ⟨by kernel_rfl⟩ (run_cutH0 (by kernel_rfl) (z := 2) (by kernel_rfl) rfl rfl hn42 (Nat.le_trans h44 h_l.cap) (by omega)) ?_
      refine oR [oF 3] [(37, .func (.func 121) #[] #[vP b34 0]), (36, .slice A_l l37.length c_l), (9, vP b34 0), (0, .slice A_k k.length c_k), (1, .slice A_l l.length c_l), (7, .slice A11 l13.length c12), (17, .slice A_l l.length c_l), (18, vI (l.length : Int)), (19, vI i16)] [37, 36, 9, 0, 1, 7, 17, 18, 19] (by kernel_rfl) ?_
      obtain ⟨x48, hv49, hp⟩ := obind hp
      refine ops_callI (σ := Unit) (d := some 38) (f := 65) (args := #[.slice A_l l37.length c_l, .func (.func 121) #[] #[vP b34 0]]) (v := (fun _ => .bool x48)) (I := (fun _ => (RdS (Rep.int .i64) F17 W18 A31 c32 x20.Vals))) (M' := (fun _ => Mem w0 (.blk b34 [vI x20.Kind, .slice A31 x20.Vals.length c32] 63 :: orow A11 l13.length c12 63 2 y14 :: Fz F17 W18 :: cs))) ⟨by kernel_rfl⟩ (fun w_ hM hS => (slices_ContainsFunc_api_Comp_api_Comp_ok w0 w_ (orow A11 l13.length c12 63 2 y14 :: cs) F17 W18 A_l c_l l37 b34 x20.Kind A31 c32 x20.Vals (hM.pick 3 [0, 2, 1] (by kernel_rfl) (by decide) rfl) h47 h33 x48 hv49).mono (by rintro e w' ⟨h50, rfl, h'⟩; have h' : Mem w0 (.blk b34 [vI x20.Kind, .slice A31 x20.Vals.length c32] 63 :: orow A11 l13.length c12 63 2 y14 :: Fz F17 W18 :: cs) w' := (h'.pick 3 [0, 2, 1] (by kernel_rfl) (by decide) rfl); exact ⟨(), h50, rfl, h', trivial⟩)) ?_
      rintro _ h50
      refine ops_conv (l' := [(38, .bool x48), (37, .func (.func 121) #[] #[vP b34 0]), (36, .slice A_l l37.length c_l), (9, vP b34 0), (0, .slice A_k k.length c_k), (1, .slice A_l l.length c_l), (7, .slice A11 l13.length c12), (17, .slice A_l l.length c_l), (18, vI (l.length : Int)), (19, vI i16)]) (M' := Mem w0 (.blk b34 [vI x20.Kind, .slice A31 x20.Vals.length c32] 63 :: orow A11 l13.length c12 63 2 y14 :: Fz F17 W18 :: cs)) rfl (fun _ h => h) ?_
      refine oR [] [(38, .bool x48), (9, vP b34 0), (0, .slice A_k k.length c_k), (1, .slice A_l l.length c_l), (7, .slice A11 l13.length c12), (17, .slice A_l l.length c_l), (18, vI (l.length : Int)), (19, vI i16)] [38, 9, 0, 1, 7, 17, 18, 19] (by kernel_rfl) ?_
      refine ops_nil ?_
      refine fin_then ?_
      refine st_if (b := x48) rfl (fun hc51 => ?_) (fun hc51 => ?_)
      · --
       have hp := cnd_t hc51 hp
       refine st_seq ?_
       refine st_region [oF 0, oF 1] (by rfl) ?_
       refine oR [oF 0, oF 1] [(5, vI 5), (4, .slice none 0 0)] [5, 4] (by kernel_rfl) ?_
       refine ops_nil ?_
       refine fin_then ?_
       refine st_ret ?_
       refine fin_ret_then ?_
       refine fin_ret_block ?_
       refine fin_ret_then ?_
       refine fin_ret_then ?_
       refine fin_ret_block ?_
       refine fin_ret_then ?_
       obtain hq_ := Option.some.inj hp
       subst hq_
       obtain hq_ := hd2 _ rfl
       subst hq_
       have hp : some 5 = some i9001 := hk2
       have hq_ := Option.some.inj hp
       have hr0_ := hq_
       subst hr0_
       refine fin_ret [.tmp 4, .tmp 5] [.slice none 0 0, vI 5] rfl rfl (fun w_ hM => (.tmp rfl (.tmp rfl .nil))) (fun w_ hM => ?_)
       exact ⟨F17, W18, hx2, rfl, hM.pick 3 [2] (by kernel_rfl) (by decide) rfl⟩
      · --
       have hp := cnd_f hc51 hp
       refine st_skip ?_
       refine fin_then ?_
       refine st_seq ?_
       refine st_region_draw [oT 0, oT 1, oT 2, oT 3, oT 4, oT 5, oT 6, oF 7, oT 8, oT 9, oT 10, oT 11, oT 12] (Mem w0 (.blk b34 [vI x20.Kind, .slice A31 x20.Vals.length c32] 63 :: orow A11 l13.length c12 63 2 y14 :: Fz F17 W18 :: cs)) (by kernel_rfl) (by kernel_rfl) (by kernel_rfl) (fun _ d _ _ _ h => by cases d <;> exact h) (M' := Mem w0 (.blk b34 [vI x20.Kind, .slice A31 x20.Vals.length c32] 63 :: orow A11 l13.length c12 63 2 y14 :: Fz F17 W18 :: cs)) (fun w_ hM => ⟨hM.drew, hM.drew.sub (.cons_cons _ (.cons_cons _ (.cons_cons _ (.refl _))))⟩) ?_
       refine oR [oT 0, oT 1] [(41, vP b34 0), (40, .slice A_k k.length c_k), (9, vP b34 0), (0, .slice A_k k.length c_k), (1, .slice A_l l.length c_l), (7, .slice A11 l13.length c12), (17, .slice A_l l.length c_l), (18, vI (l.length : Int)), (19, vI i16)] [41, 40, 9, 0, 1, 7, 17, 18, 19] (by kernel_rfl) ?_
       refine ops_load (d := some 42) (an := [.v (vI x20.Kind)]) (evs := [.load ⟨b34, 0, none⟩ (vI x20.Kind)]) (v := vI x20.Kind) ⟨by kernel_rfl⟩ (fun w_ hM => ⟨hM.cell 0 rfl rfl, rfl⟩) ?_
       refine oR [] [(42, vI x20.Kind), (40, .slice A_k k.length c_k), (9, vP b34 0), (0, .slice A_k k.length c_k), (1, .slice A_l l.length c_l), (7, .slice A11 l13.length c12), (17, .slice A_l l.length c_l), (18, vI (l.length : Int)), (19, vI i16)] [42, 40, 9, 0, 1, 7, 17, 18, 19] (by kernel_rfl) ?_
       obtain ⟨x52, hv53, hp⟩ := obind hp
       obtain ⟨m54, hm55, hx56⟩ := idx_some hv53
       have hl59 := (List.getElem?_eq_some_iff.1 hx56).1
       obtain ⟨ad60, vs57, hA61, hr58, hq62⟩ := RdS.el h_k hx56
       obtain ⟨A63, c64, rfl, h65⟩ := dec_api_Kind hr58
       refine ops_val (op := (Go.Op.indexAddr 46 (Go.Operand.tmp 40) (Go.Operand.tmp 42))) (d := some 43) (v := .pointer (some (ad60.add (m54 * 2)))) ⟨by kernel_rfl⟩ (run_indexA hA61 Try.underlying46 (z := 2) (by kernel_rfl) rfl rfl hm55 hl59) ?_
       refine oR [] [(43, .pointer (some (ad60.add (m54 * 2)))), (9, vP b34 0), (0, .slice A_k k.length c_k), (1, .slice A_l l.length c_l), (7, .slice A11 l13.length c12), (17, .slice A_l l.length c_l), (18, vI (l.length : Int)), (19, vI i16)] [43, 9, 0, 1, 7, 17, 18, 19] (by kernel_rfl) ?_
       refine ops_load (d := some 44) (an := [.v (.string x52.Name), .v (.slice A63 x52.Fields.length c64)]) (evs := [.load (ad60.add (m54 * 2)) (.string x52.Name), .load ((ad60.add (m54 * 2)).add 1) (.slice A63 x52.Fields.length c64)]) (v := .agg #[.string x52.Name, .slice A63 x52.Fields.length c64]) ⟨by kernel_rfl⟩ (fun w_ hM => ⟨hM.elcell 2 rfl hq62 0 rfl, hM.elcell 2 rfl hq62 1 rfl, rfl⟩) ?_
       refine oR [oT 5] [(45, vP b34 1), (44, .agg #[.string x52.Name, .slice A63 x52.Fields.length c64]), (9, vP b34 0), (0, .slice A_k k.length c_k), (1, .slice A_l l.length c_l), (7, .slice A11 l13.length c12), (17, .slice A_l l.length c_l), (18, vI (l.length : Int)), (19, vI i16)] [45, 44, 9, 0, 1, 7, 17, 18, 19] (by kernel_rfl) ?_
       refine ops_load (d := some 46) (an := [.v (.slice A31 x20.Vals.length c32)]) (evs := [.load ⟨b34, 1, none⟩ (.slice A31 x20.Vals.length c32)]) (v := .slice A31 x20.Vals.length c32) ⟨by kernel_rfl⟩ (fun w_ hM => ⟨hM.cell 0 rfl rfl, rfl⟩) ?_
       refine oR [] [(46, .slice A31 x20.Vals.length c32), (44, .agg #[.string x52.Name, .slice A63 x52.Fields.length c64]), (9, vP b34 0), (0, .slice A_k k.length c_k), (1, .slice A_l l.length c_l), (7, .slice A11 l13.length c12), (17, .slice A_l l.length c_l), (18, vI (l.length : Int)), (19, vI i16)] [46, 44, 9, 0, 1, 7, 17, 18, 19] (by kernel_rfl) ?_
       obtain ⟨x66, x67, hv68, hp⟩ := obind2 hp
       refine ops_callI (σ := (Option Addr) × Nat × (List Value)) (d := some 47) (f := 122) (args := #[.agg #[.string x52.Name, .slice A63 x52.Fields.length c64], .slice A31 x20.Vals.length c32]) (v := (fun x_ => match x_ with | (A69, c70, y71) => .tuple #[.slice A69 x66.length c70, vI x67])) (I := (fun x_ => match x_ with | (A69, c70, y71) => (RepL (Rep.int .i64) F17 W18 x66 y71))) (M' := (fun x_ => match x_ with | (A69, c70, y71) => Mem w0 (orow A69 x66.length c70 3 1 y71 :: .blk b34 [vI x20.Kind, .slice A31 x20.Vals.length c32] 63 :: orow A11 l13.length c12 63 2 y14 :: Fz F17 W18 :: cs))) ⟨by kernel_rfl⟩ (fun w_ hM hS => (kind_Fit_ok w0 w_ (.blk b34 [vI x20.Kind, .slice A31 x20.Vals.length c32] 63 :: orow A11 l13.length c12 63 2 y14 :: cs) F17 W18 x52.Name A63 c64 x52.Fields A31 c32 x20.Vals (hM.pick 3 [2, 0, 1] (by kernel_rfl) (by decide) rfl) h65 h50 x66 x67 hv68).mono (by rintro e w' ⟨A69, c70, y71, h72, rfl, h'⟩; have h' : Mem w0 (orow A69 x66.length c70 3 1 y71 :: .blk b34 [vI x20.Kind, .slice A31 x20.Vals.length c32] 63 :: orow A11 l13.length c12 63 2 y14 :: Fz F17 W18 :: cs) w' := (h'.pick 4 [0, 2, 3, 1] (by kernel_rfl) (by decide) rfl); exact ⟨(A69, c70, y71), h72, rfl, h', (by exact h'.sub (.cons _ (.cons_cons _ (.cons_cons _ (.cons_cons _ (.refl _))))))⟩)) ?_
       rintro ⟨A69, c70, y71⟩ h72
       refine ops_conv (l' := [(47, .tuple #[.slice A69 x66.length c70, vI x67]), (46, .slice A31 x20.Vals.length c32), (44, .agg #[.string x52.Name, .slice A63 x52.Fields.length c64]), (9, vP b34 0), (0, .slice A_k k.length c_k), (1, .slice A_l l.length c_l), (7, .slice A11 l13.length c12), (17, .slice A_l l.length c_l), (18, vI (l.length : Int)), (19, vI i16)]) (M' := Mem w0 (orow A69 x66.length c70 3 1 y71 :: .blk b34 [vI x20.Kind, .slice A31 x20.Vals.length c32] 63 :: orow A11 l13.length c12 63 2 y14 :: Fz F17 W18 :: cs)) rfl (fun _ h => h) ?_
       refine oR [oT 8, oT 9, oT 10, oT 11, oT 12] [(11, vI x67), (10, .slice A69 x66.length c70), (9, vP b34 0), (0, .slice A_k k.length c_k), (1, .slice A_l l.length c_l), (7, .slice A11 l13.length c12), (17, .slice A_l l.length c_l), (18, vI (l.length : Int)), (19, vI i16)] [11, 10, 9, 0, 1, 7, 17, 18, 19] (by kernel_rfl) ?_
       refine ops_nil ?_
       refine fin_then ?_
       refine st_seq ?_
       refine st_seq ?_
       refine st_region [oF 0, oF 1] (by rfl) ?_
       refine oR [oF 0, oF 1] [(51, .bool (!(x67 == 0))), (11, vI x67), (10, .slice A69 x66.length c70), (9, vP b34 0), (0, .slice A_k k.length c_k), (1, .slice A_l l.length c_l), (7, .slice A11 l13.length c12), (17, .slice A_l l.length c_l), (18, vI (l.length : Int)), (19, vI i16)] [51, 11, 10, 9, 0, 1, 7, 17, 18, 19] (by kernel_rfl) ?_
       refine ops_nil ?_
       refine fin_then ?_
       refine st_if (b := !(x67 == 0)) rfl (fun hc73 => ?_) (fun hc73 => ?_)
       · --
        have hp := cnd_t hc73 hp
        refine st_seq ?_
        refine st_region [oF 0, oF 1, oF 2] (by rfl) ?_
        refine oR [oF 0, oF 1, oF 2] [(5, vI x67), (4, .slice none 0 0)] [5, 4] (by kernel_rfl) ?_
        refine ops_nil ?_
        refine fin_then ?_
        refine st_ret ?_
        refine fin_ret_then ?_
        refine fin_ret_block ?_
        refine fin_ret_then ?_
        refine fin_ret_then ?_
        refine fin_ret_block ?_
        refine fin_ret_then ?_
        obtain hq_ := Option.some.inj hp
        subst hq_
        obtain hq_ := hd2 _ rfl
        subst hq_
        have hp : some x67 = some i9001 := hk2
        have hq_ := Option.some.inj hp
        have hr0_ := hq_
        subst hr0_
        refine fin_ret [.tmp 4, .tmp 5] [.slice none 0 0, vI x67] rfl rfl (fun w_ hM => (.tmp rfl (.tmp rfl .nil))) (fun w_ hM => ?_)
        exact ⟨F17, W18, hx2, rfl, hM.pick 4 [3] (by kernel_rfl) (by decide) rfl⟩
       · --
        have hp := cnd_f hc73 hp
        refine st_skip ?_
        refine fin_then ?_
        refine st_region [oF 0, oF 1, oF 2, oF 3, oF 4, oF 5, oF 6, oF 7] (by rfl) ?_
        refine oR [oF 0, oF 1] [(54, vP b34 0), (53, .slice A11 l13.length c12), (10, .slice A69 x66.length c70), (0, .slice A_k k.length c_k), (1, .slice A_l l.length c_l), (7, .slice A11 l13.length c12), (17, .slice A_l l.length c_l), (18, vI (l.length : Int)), (19, vI i16)] [54, 53, 10, 0, 1, 7, 17, 18, 19] (by kernel_rfl) ?_
        refine ops_mem (d := some 55) (an := [.v (vI x20.Kind)]) (evs := [.load ⟨b34, 0, none⟩ (vI x20.Kind)]) (v := vI x20.Kind) (M' := Mem w0 (orow A69 x66.length c70 3 1 y71 :: .blk b34 [vI x20.Kind, .slice A31 x20.Vals.length c32] 63 :: orow A11 l13.length c12 63 2 y14 :: Fz F17 W18 :: cs)) ⟨by kernel_rfl⟩ (fun w_ hM hS => ⟨w_, ⟨hM.cell 1 rfl rfl, rfl⟩, hM, trivial⟩) ?_
        refine oR [oF 3, oF 4] [(57, .agg #[vI x20.Kind, .slice A69 x66.length c70]), (53, .slice A11 l13.length c12), (0, .slice A_k k.length c_k), (1, .slice A_l l.length c_l), (7, .slice A11 l13.length c12), (17, .slice A_l l.length c_l), (18, vI (l.length : Int)), (19, vI i16)] [57, 53, 0, 1, 7, 17, 18, 19] (by kernel_rfl) ?_
        refine ops_ex (σ := (Nat → Prop) × World) (I := fun x_ => Ext w0 F17 W18 x_.1 x_.2 ∧ RdS (Rep.int .i64) x_.1 x_.2 A69 c70 x66) (M' := fun x_ => Mem w0 (.blk b34 [vI x20.Kind, .slice A31 x20.Vals.length c32] 63 :: orow A11 l13.length c12 63 2 y14 :: Fz x_.1 x_.2 :: cs)) (fun w_ hM => ?_) ?_
        · obtain ⟨F_, h1_, h2_, h3_⟩ := (hM.pick 4 [0, 3, 1, 2] (by kernel_rfl) (by decide) rfl : Mem w0 (orow A69 x66.length c70 3 1 y71 :: Fz F17 W18 :: .blk b34 [vI x20.Kind, .slice A31 x20.Vals.length c32] 63 :: orow A11 l13.length c12 63 2 y14 :: cs) w_).freeze (z := 1) h72 rfl rfl
          exact ⟨(F_, w_), ⟨h1_, h2_⟩, h3_.pick 3 [1, 2, 0] (by kernel_rfl) (by decide) rfl⟩
        rintro ⟨F74, W75⟩ ⟨hx76, h77⟩
        have hx76 : Ext w0 F17 W18 F74 W75 := hx76
        have h77 : RdS (Rep.int .i64) F74 W75 A69 c70 x66 := h77
        have h_k := h_k.ext hx76
        have h_l := h_l.ext hx76
        have h50 := h50.ext hx76
        have h15 := h15.ext hx76
        refine ops_conv (l' := [(57, .agg #[vI x20.Kind, .slice A69 x66.length c70]), (53, .slice A11 l13.length c12), (0, .slice A_k k.length c_k), (1, .slice A_l l.length c_l), (7, .slice A11 l13.length c12), (17, .slice A_l l.length c_l), (18, vI (l.length : Int)), (19, vI i16)]) (M' := Mem w0 (.blk b34 [vI x20.Kind, .slice A31 x20.Vals.length c32] 63 :: orow A11 l13.length c12 63 2 y14 :: Fz F74 W75 :: cs)) rfl (fun _ h => h) ?_
        have h78 : RepL R_api_Comp F74 W75 ([(api_Comp.mk x20.Kind x66)] : List api_Comp) ([vI x20.Kind, .slice A69 x66.length c70]) := (RepL.cons (R := R_api_Comp) (F := F74) (w := W75) (vs := [vI x20.Kind, .slice A69 x66.length c70]) (ys := []) (enc_api_Comp h77) RepL.nil)
        refine ops_new (d := some 58) (o := .cells ([vI x20.Kind, .slice A69 x66.length c70]).toArray 63) (v := fun g79 => .slice (some ⟨g79, 0, none⟩) ([(api_Comp.mk x20.Kind x66)] : List api_Comp).length 1) (M' := fun g79 => Mem w0 (orow (some ⟨g79, 0, none⟩) ([(api_Comp.mk x20.Kind x66)] : List api_Comp).length 1 63 2 ([vI x20.Kind, .slice A69 x66.length c70]) :: .blk b34 [vI x20.Kind, .slice A31 x20.Vals.length c32] 63 :: orow A11 l13.length c12 63 2 y14 :: Fz F74 W75 :: cs)) (fun g79 => ⟨by kernel_rfl⟩) (fun w_ hM hS => ⟨hM.onew [vI x20.Kind, .slice A69 x66.length c70] 63 1 2 rfl (by decide), trivial⟩) (fun g79 => ?_)
        refine oR [] [(58, .slice (some ⟨g79, 0, none⟩) ([(api_Comp.mk x20.Kind x66)] : List api_Comp).length 1), (53, .slice A11 l13.length c12), (0, .slice A_k k.length c_k), (1, .slice A_l l.length c_l), (7, .slice A11 l13.length c12), (17, .slice A_l l.length c_l), (18, vI (l.length : Int)), (19, vI i16)] [58, 53, 0, 1, 7, 17, 18, 19] (by kernel_rfl) ?_
        obtain ⟨l80, hv81, hp⟩ := obind hp
        obtain ⟨he82, hb83⟩ := app_some hv81
        obtain ⟨y84, hy85⟩ : ∃ y_, y14 ++ ([vI x20.Kind, .slice A69 x66.length c70]) = y_ := ⟨_, rfl⟩
        have h86 : RepL R_api_Comp F74 W75 l80 y84 := by rw [he82, ← hy85]; exact RepL.app h15 h78
        refine ops_appendO (x := (Go.Operand.tmp 53)) (y := (Go.Operand.tmp 58)) (t := 25) (e := 63) (d := some 59) (n' := l80.length) (z := 2) (m := ([(api_Comp.mk x20.Kind x66)] : List api_Comp).length) (bytes := 32) (xs' := y84) (news := ([vI x20.Kind, .slice A69 x66.length c70])) (zv := .agg #[vI 0, .slice none 0 0]) 2 ⟨by kernel_rfl⟩ rfl rfl Try.underlying25 (by kernel_rfl) (by rfl) rfl (fun w_ hM => hM.srcO 0 rfl) h78.len h78.one hb83 (by have z_ := congrArg List.length he82; rw [List.length_append] at z_; exact z_.symm) hy85 (fun _ _ _ _ hS h' => trivial) ?_
        rintro ⟨A87, c88⟩
        refine ops_conv (l' := [(59, .slice A87 l80.length c88), (58, .slice (some ⟨g79, 0, none⟩) ([(api_Comp.mk x20.Kind x66)] : List api_Comp).length 1), (53, .slice A11 l13.length c12), (0, .slice A_k k.length c_k), (1, .slice A_l l.length c_l), (7, .slice A11 l13.length c12), (17, .slice A_l l.length c_l), (18, vI (l.length : Int)), (19, vI i16)]) (M' := Mem w0 (orow (some ⟨g79, 0, none⟩) ([(api_Comp.mk x20.Kind x66)] : List api_Comp).length 1 63 2 ([vI x20.Kind, .slice A69 x66.length c70]) :: .blk b34 [vI x20.Kind, .slice A31 x20.Vals.length c32] 63 :: orow A87 l80.length c88 63 2 y84 :: Fz F74 W75 :: cs)) rfl (fun _ h => h) ?_
        refine oR [oF 7] [(7, .slice A87 l80.length c88), (0, .slice A_k k.length c_k), (1, .slice A_l l.length c_l), (17, .slice A_l l.length c_l), (18, vI (l.length : Int)), (19, vI i16)] [7, 0, 1, 17, 18, 19] (by kernel_rfl) ?_
        refine ops_nil ?_
        refine fin_block ?_
        refine fin_then ?_
        refine st_region [oF 0, oF 1] (by rfl) ?_
        refine oR [oF 0, oF 1] [(19, vI (IntKind.i64.wrap (i16 + 1))), (7, .slice A87 l80.length c88), (0, .slice A_k k.length c_k), (1, .slice A_l l.length c_l), (17, .slice A_l l.length c_l), (18, vI (l.length : Int))] [19, 7, 0, 1, 17, 18] (by kernel_rfl) ?_
        refine ops_nil ?_
        exact fin_again (l80, IntKind.i64.wrap (i16 + 1)) (A87, c88, y84, F74, W75) (Option.some.inj hp).symm ⟨h86, (hx2.trans hx76)⟩ (look_has ⟨rfl, rfl, rfl, rfl, rfl, rfl, trivial⟩) (fun w_ hM => hM.pick 4 [2, 3] (by kernel_rfl) (by decide) rfl)
   · --
    have hp := cnd_f hc19 hp
    refine st_exit ?_
    refine fin_exit_then ?_
    refine fin_exit_then ?_
    refine fin_exit ?_
    obtain hq_ := Option.some.inj hp
    subst hq_
    obtain hq_ := hd2 _ rfl
    subst hq_
    have hp : world_Fit_j1 l13 = some i9001 := hk2
    exact fin_join HJ1 (A11, c12, l13, y14, F17, W18) ⟨hp, h15, hx2⟩ (look_has ⟨rfl, trivial⟩) (fun w_ hM => hM)
set_option maxHeartbeats 4000000 in
set_option maxRecDepth 100000 in
theorem cmd_one_ok (w0 w : World) (cs : List Chunk) (F : Nat → Prop) (W : World) (A_k : Option Addr) (c_k : Nat) (k : List api_Kind) (c_0 : Int) (c_1 : Int) (c_2 : Int) (c_3 : Int) (A_c_4 : Option Addr) (c_c_4 : Nat) (c_4 : List api_Comp) (hM0 : Mem w0 (Fz F W :: cs) w) (h_k : RdS R_api_Kind F W A_k c_k k) (h_c_4 : RdS R_api_Comp F W A_c_4 c_c_4 c_4) (i9001 : Int) (hp : cmd_one k c_0 c_1 c_2 c_3 c_4 = some i9001) : Calls Try.prog 95 #[.slice A_k k.length c_k, .agg #[vI c_0, vI c_1, vI c_2, vI c_3, .slice A_c_4 c_4.length c_c_4]] w fun e w' => ∃ (F9002 : Nat → Prop), ∃ (W9003 : World), ((Ext w0 F W F9002 W9003)) ∧ e = .returned (.tuple #[.slice none 0 0, vI i9001]) ∧ Mem w0 (Fz F9002 W9003 :: cs) w' := by
 unfold cmd_one at hp
 refine sx_calls Try.func95 rfl (n := 42) (by kernel_rfl) (l := [(0, .slice A_k k.length c_k), (1, .agg #[vI c_0, vI c_1, vI c_2, vI c_3, .slice A_c_4 c_4.length c_c_4])]) rfl (by rfl) hM0 ?_
 refine st_seq ?_
 refine st_region [oF 0, oF 1, oF 2] (by rfl) ?_
 refine ops_new (d := some 3) (o := .cells #[vI c_0, vI c_1, vI c_2, vI c_3, .slice A_c_4 c_4.length c_c_4] 27) (v := fun b1 => vP b1 0) (M' := fun b1 => Mem w0 (.blk b1 [vI c_0, vI c_1, vI c_2, vI c_3, .slice A_c_4 c_4.length c_c_4] 27 :: Fz F W :: cs)) (fun b1 => ⟨by kernel_rfl⟩) (fun w_ hM hS => ⟨hM.blk [vI c_0, vI c_1, vI c_2, vI c_3, .slice A_c_4 c_4.length c_c_4] 27, trivial⟩) (fun b1 => ?_)
 refine oR [oF 1, oF 2] [(3, vP b1 0), (0, .slice A_k k.length c_k)] [3, 0] (by kernel_rfl) ?_
 refine ops_nil ?_
 refine fin_then ?_
 refine st_seq ?_
 refine st_seq ?_
 refine st_region [oF 0, oF 1] (by rfl) ?_
 refine oR [oF 0] [(6, vP b1 0), (3, vP b1 0), (0, .slice A_k k.length c_k)] [6, 3, 0] (by kernel_rfl) ?_
 refine ops_mem (d := some 7) (an := [.v (vI c_0)]) (evs := [.load ⟨b1, 0, none⟩ (vI c_0)]) (v := vI c_0) (M' := Mem w0 (.blk b1 [vI c_0, vI c_1, vI c_2, vI c_3, .slice A_c_4 c_4.length c_c_4] 27 :: Fz F W :: cs)) ⟨by kernel_rfl⟩ (fun w_ hM hS => ⟨w_, ⟨hM.cell 0 rfl rfl, rfl⟩, hM, trivial⟩) ?_
 refine oR [] [(7, vI c_0), (3, vP b1 0), (0, .slice A_k k.length c_k)] [7, 3, 0] (by kernel_rfl) ?_
 refine ops_nil ?_
 refine fin_then ?_
 refine st_block ?_
 refine st_seq ?_
 refine st_region [oF 0, oF 1] (by rfl) ?_
 refine oR [oF 0, oF 1] [(8, .bool (c_0 == 0)), (7, vI c_0), (3, vP b1 0), (0, .slice A_k k.length c_k)] [8, 7, 3, 0] (by kernel_rfl) ?_
 refine ops_nil ?_
 refine fin_then ?_
 refine st_if (b := (c_0 == 0)) rfl (fun hc2 => ?_) (fun hc2 => ?_)
 · --
  have hp := cnd_t hc2 hp
  refine st_seq ?_
  refine st_seq ?_
  refine st_region [oF 0, oF 1, oF 2, oF 3] (by rfl) ?_
  refine oR [oF 0] [(10, vP b1 4), (3, vP b1 0), (0, .slice A_k k.length c_k)] [10, 3, 0] (by kernel_rfl) ?_
  refine ops_mem (d := some 11) (an := [.v (.slice A_c_4 c_4.length c_c_4)]) (evs := [.load ⟨b1, 4, none⟩ (.slice A_c_4 c_4.length c_c_4)]) (v := .slice A_c_4 c_4.length c_c_4) (M' := Mem w0 (.blk b1 [vI c_0, vI c_1, vI c_2, vI c_3, .slice A_c_4 c_4.length c_c_4] 27 :: Fz F W :: cs)) ⟨by kernel_rfl⟩ (fun w_ hM hS => ⟨w_, ⟨hM.cell 0 rfl rfl, rfl⟩, hM, trivial⟩) ?_
  refine oR [oF 2, oF 3] [(13, .bool (!((c_4.length : Int) == 1))), (3, vP b1 0), (0, .slice A_k k.length c_k)] [13, 3, 0] (by kernel_rfl) ?_
  refine ops_nil ?_
  refine fin_then ?_
  refine st_if (b := !((c_4.length : Int) == 1)) rfl (fun hc3 => ?_) (fun hc3 => ?_)
  · --
   have hp := cnd_t hc3 hp
   refine st_seq ?_
   refine st_region [oF 0, oF 1] (by rfl) ?_
   refine oR [oF 0, oF 1] [(5, vI 3), (4, .slice none 0 0)] [5, 4] (by kernel_rfl) ?_
   refine ops_nil ?_
   refine fin_then ?_
   refine st_ret ?_
   refine fin_ret_then ?_
   refine fin_ret_block ?_
   refine fin_ret_then ?_
   have hq_ := Option.some.inj hp
   have hr0_ := hq_
   subst hr0_
   refine fin_ret [.tmp 4, .tmp 5] [.slice none 0 0, vI 3] rfl rfl (fun w_ hM => (.tmp rfl (.tmp rfl .nil))) (fun w_ hM => ?_)
   exact ⟨F, W, (Ext.refl _ _ _), rfl, hM.pick 2 [1] (by kernel_rfl) (by decide) rfl⟩
  · --
   have hp := cnd_f hc3 hp
   refine st_skip ?_
   refine fin_then ?_
   refine st_seq ?_
   refine st_region [oF 0, oF 1, oF 2, oF 3, oF 4, oF 5, oF 6, oF 7] (by rfl) ?_
   refine oR [oF 0, oF 1] [(15, vP b1 4), (14, .slice A_k k.length c_k)] [15, 14] (by kernel_rfl) ?_
   refine ops_mem (d := some 16) (an := [.v (.slice A_c_4 c_4.length c_c_4)]) (evs := [.load ⟨b1, 4, none⟩ (.slice A_c_4 c_4.length c_c_4)]) (v := .slice A_c_4 c_4.length c_c_4) (M' := Mem w0 (.blk b1 [vI c_0, vI c_1, vI c_2, vI c_3, .slice A_c_4 c_4.length c_c_4] 27 :: Fz F W :: cs)) ⟨by kernel_rfl⟩ (fun w_ hM hS => ⟨w_, ⟨hM.cell 0 rfl rfl, rfl⟩, hM, trivial⟩) ?_
   refine oR [] [(16, .slice A_c_4 c_4.length c_c_4), (14, .slice A_k k.length c_k)] [16, 14] (by kernel_rfl) ?_
   obtain ⟨x4, hv5, hp⟩ := obind hp
   refine ops_callI (σ := (Nat → Prop) × World) (d := some 17) (f := 112) (args := #[.slice A_k k.length c_k, .slice A_c_4 c_4.length c_c_4]) (v := (fun x_ => match x_ with | (F6, W7) => .tuple #[.slice none 0 0, vI x4])) (I := (fun x_ => match x_ with | (F6, W7) => (Ext w0 F W F6 W7))) (M' := (fun x_ => match x_ with | (F6, W7) => Mem w0 (.blk b1 [vI c_0, vI c_1, vI c_2, vI c_3, .slice A_c_4 c_4.length c_c_4] 27 :: Fz F6 W7 :: cs))) ⟨by kernel_rfl⟩ (fun w_ hM hS => (world_Fit_ok w0 w_ (.blk b1 [vI c_0, vI c_1, vI c_2, vI c_3, .slice A_c_4 c_4.length c_c_4] 27 :: cs) F W A_k c_k k A_c_4 c_c_4 c_4 (hM.pick 2 [1, 0] (by kernel_rfl) (by decide) rfl) h_k h_c_4 x4 hv5).mono (by rintro e w' ⟨F6, W7, h8, rfl, h'⟩; have h' : Mem w0 (.blk b1 [vI c_0, vI c_1, vI c_2, vI c_3, .slice A_c_4 c_4.length c_c_4] 27 :: Fz F6 W7 :: cs) w' := (h'.pick 2 [1, 0] (by kernel_rfl) (by decide) rfl); exact ⟨(F6, W7), h8, rfl, h', trivial⟩)) ?_
   rintro ⟨F6, W7⟩ h8
   have h_c_4 := h_c_4.ext h8
   have h_k := h_k.ext h8
   refine ops_conv (l' := [(17, .tuple #[.slice none 0 0, vI x4]), (16, .slice A_c_4 c_4.length c_c_4), (14, .slice A_k k.length c_k)]) (M' := Mem w0 (.blk b1 [vI c_0, vI c_1, vI c_2, vI c_3, .slice A_c_4 c_4.length c_c_4] 27 :: Fz F6 W7 :: cs)) rfl (fun _ h => h) ?_
   refine oR [oF 4, oF 5, oF 6, oF 7] [(5, vI x4), (4, .slice none 0 0)] [5, 4] (by kernel_rfl) ?_
   refine ops_nil ?_
   refine fin_then ?_
   refine st_ret ?_
   refine fin_ret_block ?_
   refine fin_ret_then ?_
   have hq_ := Option.some.inj hp
   have hr0_ := hq_
   subst hr0_
   refine fin_ret [.tmp 4, .tmp 5] [.slice none 0 0, vI x4] rfl rfl (fun w_ hM => (.tmp rfl (.tmp rfl .nil))) (fun w_ hM => ?_)
   exact ⟨F6, W7, h8, rfl, hM.pick 2 [1] (by kernel_rfl) (by decide) rfl⟩
 · --
  have hp := cnd_f hc2 hp
  refine st_seq ?_
  refine st_region [oF 0, oF 1] (by rfl) ?_
  refine oR [oF 0, oF 1] [(20, .bool (c_0 == 1)), (7, vI c_0), (3, vP b1 0), (0, .slice A_k k.length c_k)] [20, 7, 3, 0] (by kernel_rfl) ?_
  refine ops_nil ?_
  refine fin_then ?_
  refine st_if (b := (c_0 == 1)) rfl (fun hc9 => ?_) (fun hc9 => ?_)
  · --
   have hp := cnd_t hc9 hp
   refine st_seq ?_
   refine st_seq ?_
   refine st_region [oF 0, oF 1, oF 2, oF 3, oF 4, oF 5, oF 6, oF 7, oF 8, oF 9] (by rfl) ?_
   refine oR [oF 0] [(22, vP b1 3), (3, vP b1 0), (0, .slice A_k k.length c_k)] [22, 3, 0] (by kernel_rfl) ?_
   refine ops_mem (d := some 23) (an := [.v (vI c_3)]) (evs := [.load ⟨b1, 3, none⟩ (vI c_3)]) (v := vI c_3) (M' := Mem w0 (.blk b1 [vI c_0, vI c_1, vI c_2, vI c_3, .slice A_c_4 c_4.length c_c_4] 27 :: Fz F W :: cs)) ⟨by kernel_rfl⟩ (fun w_ hM hS => ⟨w_, ⟨hM.cell 0 rfl rfl, rfl⟩, hM, trivial⟩) ?_
   refine oR [oF 2, oF 3] [(25, .bool (decide (c_3 < 0))), (3, vP b1 0), (0, .slice A_k k.length c_k)] [25, 3, 0] (by kernel_rfl) ?_
   refine ops_bool (t := decide (c_3 < 0)) (l1 := [(25, .bool true), (3, vP b1 0), (0, .slice A_k k.length c_k)]) (l2 := [(25, .bool false), (3, vP b1 0), (0, .slice A_k k.length c_k)]) (fun h => by rw [h]) (fun h => by rw [h]) (fun hc10 => ?_) (fun hc10 => ?_)
   · --
    have hp := cnd_t hc10 hp
    refine oR [oF 4, oF 5, oF 6, oF 7, oF 8, oF 9] [(31, .bool true)] [31] (by kernel_rfl) ?_
    refine ops_nil ?_
    refine fin_then ?_
    refine st_true rfl ?_
    refine st_seq ?_
    refine st_region [oF 0, oF 1] (by rfl) ?_
    refine oR [oF 0, oF 1] [(5, vI 1), (4, .slice none 0 0)] [5, 4] (by kernel_rfl) ?_
    refine ops_nil ?_
    refine fin_then ?_
    refine st_ret ?_
    refine fin_ret_then ?_
    refine fin_ret_block ?_
    refine fin_ret_then ?_
    have hq_ := Option.some.inj hp
    have hr0_ := hq_
    subst hr0_
    refine fin_ret [.tmp 4, .tmp 5] [.slice none 0 0, vI 1] rfl rfl (fun w_ hM => (.tmp rfl (.tmp rfl .nil))) (fun w_ hM => ?_)
    exact ⟨F, W, (Ext.refl _ _ _), rfl, hM.pick 2 [1] (by kernel_rfl) (by decide) rfl⟩
   · --
    have hp := cnd_f hc10 hp
    refine oR [oF 4] [(26, vP b1 3), (25, .bool false), (0, .slice A_k k.length c_k)] [26, 25, 0] (by kernel_rfl) ?_
    refine ops_mem (d := some 27) (an := [.v (vI c_3)]) (evs := [.load ⟨b1, 3, none⟩ (vI c_3)]) (v := vI c_3) (M' := Mem w0 (.blk b1 [vI c_0, vI c_1, vI c_2, vI c_3, .slice A_c_4 c_4.length c_c_4] 27 :: Fz F W :: cs)) ⟨by kernel_rfl⟩ (fun w_ hM hS => ⟨w_, ⟨hM.cell 0 rfl rfl, rfl⟩, hM, trivial⟩) ?_
    refine oR [oF 6, oF 7, oF 8, oF 9] [(31, .bool (decide ((k.length : Int) ≤ c_3)))] [31] (by kernel_rfl) ?_
    refine ops_nil ?_
    refine fin_then ?_
    refine st_if (b := decide ((k.length : Int) ≤ c_3)) rfl (fun hc11 => ?_) (fun hc11 => ?_)
    · --
     have hp := cnd_t hc11 hp
     refine st_seq ?_
     refine st_region [oF 0, oF 1] (by rfl) ?_
     refine oR [oF 0, oF 1] [(5, vI 1), (4, .slice none 0 0)] [5, 4] (by kernel_rfl) ?_
     refine ops_nil ?_
     refine fin_then ?_
     refine st_ret ?_
     refine fin_ret_then ?_
     refine fin_ret_block ?_
     refine fin_ret_then ?_
     have hq_ := Option.some.inj hp
     have hr0_ := hq_
     subst hr0_
     refine fin_ret [.tmp 4, .tmp 5] [.slice none 0 0, vI 1] rfl rfl (fun w_ hM => (.tmp rfl (.tmp rfl .nil))) (fun w_ hM => ?_)
     exact ⟨F, W, (Ext.refl _ _ _), rfl, hM.pick 2 [1] (by kernel_rfl) (by decide) rfl⟩
    · --
     have hp := cnd_f hc11 hp
     refine st_skip ?_
     refine fin_then ?_
     refine st_seq ?_
     refine st_region [oF 0, oF 1] (by rfl) ?_
     refine oR [oF 0, oF 1] [(5, vI 0), (4, .slice none 0 0)] [5, 4] (by kernel_rfl) ?_
     refine ops_nil ?_
     refine fin_then ?_
     refine st_ret ?_
     refine fin_ret_block ?_
     refine fin_ret_then ?_
     have hq_ := Option.some.inj hp
     have hr0_ := hq_
     subst hr0_
     refine fin_ret [.tmp 4, .tmp 5] [.slice none 0 0, vI 0] rfl rfl (fun w_ hM => (.tmp rfl (.tmp rfl .nil))) (fun w_ hM => ?_)
     exact ⟨F, W, (Ext.refl _ _ _), rfl, hM.pick 2 [1] (by kernel_rfl) (by decide) rfl⟩
  · --
   have hp := cnd_f hc9 hp
   refine st_seq ?_
   refine st_region [oF 0, oF 1] (by rfl) ?_
   refine oR [oF 0, oF 1] [(32, .bool (c_0 == 2)), (7, vI c_0), (3, vP b1 0), (0, .slice A_k k.length c_k)] [32, 7, 3, 0] (by kernel_rfl) ?_
   refine ops_nil ?_
   refine fin_then ?_
   refine st_if (b := (c_0 == 2)) rfl (fun hc12 => ?_) (fun hc12 => ?_)
   · --
    have hp := cnd_t hc12 hp
    refine st_seq ?_
    refine st_region [oF 0, oF 1] (by rfl) ?_
    refine oR [oF 0, oF 1] [(5, vI 0), (4, .slice none 0 0)] [5, 4] (by kernel_rfl) ?_
    refine ops_nil ?_
    refine fin_then ?_
    refine st_ret ?_
    refine fin_ret_block ?_
    refine fin_ret_then ?_
    have hq_ := Option.some.inj hp
    have hr0_ := hq_
    subst hr0_
    refine fin_ret [.tmp 4, .tmp 5] [.slice none 0 0, vI 0] rfl rfl (fun w_ hM => (.tmp rfl (.tmp rfl .nil))) (fun w_ hM => ?_)
    exact ⟨F, W, (Ext.refl _ _ _), rfl, hM.pick 2 [1] (by kernel_rfl) (by decide) rfl⟩
   · --
    have hp := cnd_f hc12 hp
    refine st_seq ?_
    refine st_region [oF 0, oF 1] (by rfl) ?_
    refine oR [oF 0, oF 1] [(34, .bool (c_0 == 3)), (3, vP b1 0), (0, .slice A_k k.length c_k)] [34, 3, 0] (by kernel_rfl) ?_
    refine ops_nil ?_
    refine fin_then ?_
    refine st_if (b := (c_0 == 3)) rfl (fun hc13 => ?_) (fun hc13 => ?_)
    · --
     have hp := cnd_t hc13 hp
     refine st_seq ?_
     refine st_region [oF 0, oF 1, oF 2, oF 3, oF 4, oF 5, oF 6, oF 7] (by rfl) ?_
     refine oR [oF 0, oF 1] [(37, vP b1 4), (36, .slice A_k k.length c_k)] [37, 36] (by kernel_rfl) ?_
     refine ops_mem (d := some 38) (an := [.v (.slice A_c_4 c_4.length c_c_4)]) (evs := [.load ⟨b1, 4, none⟩ (.slice A_c_4 c_4.length c_c_4)]) (v := .slice A_c_4 c_4.length c_c_4) (M' := Mem w0 (.blk b1 [vI c_0, vI c_1, vI c_2, vI c_3, .slice A_c_4 c_4.length c_c_4] 27 :: Fz F W :: cs)) ⟨by kernel_rfl⟩ (fun w_ hM hS => ⟨w_, ⟨hM.cell 0 rfl rfl, rfl⟩, hM, trivial⟩) ?_
     refine oR [] [(38, .slice A_c_4 c_4.length c_c_4), (36, .slice A_k k.length c_k)] [38, 36] (by kernel_rfl) ?_
     obtain ⟨x14, hv15, hp⟩ := obind hp
     refine ops_callI (σ := (Nat → Prop) × World) (d := some 39) (f := 112) (args := #[.slice A_k k.length c_k, .slice A_c_4 c_4.length c_c_4]) (v := (fun x_ => match x_ with | (F16, W17) => .tuple #[.slice none 0 0, vI x14])) (I := (fun x_ => match x_ with | (F16, W17) => (Ext w0 F W F16 W17))) (M' := (fun x_ => match x_ with | (F16, W17) => Mem w0 (.blk b1 [vI c_0, vI c_1, vI c_2, vI c_3, .slice A_c_4 c_4.length c_c_4] 27 :: Fz F16 W17 :: cs))) ⟨by kernel_rfl⟩ (fun w_ hM hS => (world_Fit_ok w0 w_ (.blk b1 [vI c_0, vI c_1, vI c_2, vI c_3, .slice A_c_4 c_4.length c_c_4] 27 :: cs) F W A_k c_k k A_c_4 c_c_4 c_4 (hM.pick 2 [1, 0] (by kernel_rfl) (by decide) rfl) h_k h_c_4 x14 hv15).mono (by rintro e w' ⟨F16, W17, h18, rfl, h'⟩; have h' : Mem w0 (.blk b1 [vI c_0, vI c_1, vI c_2, vI c_3, .slice A_c_4 c_4.length c_c_4] 27 :: Fz F16 W17 :: cs) w' := (h'.pick 2 [1, 0] (by kernel_rfl) (by decide) rfl); exact ⟨(F16, W17), h18, rfl, h', trivial⟩)) ?_
     rintro ⟨F16, W17⟩ h18
     have h_c_4 := h_c_4.ext h18
     have h_k := h_k.ext h18
     refine ops_conv (l' := [(39, .tuple #[.slice none 0 0, vI x14]), (38, .slice A_c_4 c_4.length c_c_4), (36, .slice A_k k.length c_k)]) (M' := Mem w0 (.blk b1 [vI c_0, vI c_1, vI c_2, vI c_3, .slice A_c_4 c_4.length c_c_4] 27 :: Fz F16 W17 :: cs)) rfl (fun _ h => h) ?_
     refine oR [oF 4, oF 5, oF 6, oF 7] [(5, vI x14), (4, .slice none 0 0)] [5, 4] (by kernel_rfl) ?_
     refine ops_nil ?_
     refine fin_then ?_
     refine st_ret ?_
     refine fin_ret_block ?_
     refine fin_ret_then ?_
     have hq_ := Option.some.inj hp
     have hr0_ := hq_
     subst hr0_
     refine fin_ret [.tmp 4, .tmp 5] [.slice none 0 0, vI x14] rfl rfl (fun w_ hM => (.tmp rfl (.tmp rfl .nil))) (fun w_ hM => ?_)
     exact ⟨F16, W17, h18, rfl, hM.pick 2 [1] (by kernel_rfl) (by decide) rfl⟩
    · --
     have hp := cnd_f hc13 hp
     refine st_skip ?_
     refine fin_block ?_
     refine fin_then ?_
     refine st_seq ?_
     refine st_region [oF 0, oF 1] (by rfl) ?_
     refine oR [oF 0, oF 1] [(5, vI 1), (4, .slice none 0 0)] [5, 4] (by kernel_rfl) ?_
     refine ops_nil ?_
     refine fin_then ?_
     refine st_ret ?_
     have hq_ := Option.some.inj hp
     have hr0_ := hq_
     subst hr0_
     refine fin_ret [.tmp 4, .tmp 5] [.slice none 0 0, vI 1] rfl rfl (fun w_ hM => (.tmp rfl (.tmp rfl .nil))) (fun w_ hM => ?_)
     exact ⟨F, W, (Ext.refl _ _ _), rfl, hM.pick 2 [1] (by kernel_rfl) (by decide) rfl⟩
set_option maxHeartbeats 4000000 in
set_option maxRecDepth 100000 in
theorem cmd_Check_ok (w0 w : World) (cs : List Chunk) (F : Nat → Prop) (W : World) (A_w_0 : Option Addr) (c_w_0 : Nat) (w_0 : List api_Kind) (A_w_1 : Option Addr) (c_w_1 : Nat) (w_1 : List Int) (A_w_2 : Option Addr) (c_w_2 : Nat) (w_2 : List api_Item) (A_l : Option Addr) (c_l : Nat) (l : List api_Cmd) (hM0 : Mem w0 (Fz F W :: cs) w) (h_w_0 : RdS R_api_Kind F W A_w_0 c_w_0 w_0) (h_w_1 : RdS (Rep.int .i64) F W A_w_1 c_w_1 w_1) (h_w_2 : RdS R_api_Item F W A_w_2 c_w_2 w_2) (h_l : RdS R_api_Cmd F W A_l c_l l) (i9001 : Int) (hp : cmd_Check w_0 w_1 w_2 l = some i9001) : Calls Try.prog 52 #[.agg #[.slice A_w_0 w_0.length c_w_0, .slice A_w_1 w_1.length c_w_1, .slice A_w_2 w_2.length c_w_2], .slice A_l l.length c_l] w fun e w' => ∃ (F9002 : Nat → Prop), ∃ (W9003 : World), ((Ext w0 F W F9002 W9003)) ∧ e = .returned (vI i9001) ∧ Mem w0 (Fz F9002 W9003 :: cs) w' := by
 unfold cmd_Check at hp
 refine sx_calls Try.func52 rfl (n := 35) (by kernel_rfl) (l := [(0, .agg #[.slice A_w_0 w_0.length c_w_0, .slice A_w_1 w_1.length c_w_1, .slice A_w_2 w_2.length c_w_2]), (1, .slice A_l l.length c_l)]) rfl (by rfl) hM0 ?_
 refine st_seq ?_
 refine st_region [oF 0, oF 1] (by rfl) ?_
 refine ops_new (d := some 2) (o := .cells #[.slice A_w_0 w_0.length c_w_0, .slice A_w_1 w_1.length c_w_1, .slice A_w_2 w_2.length c_w_2] 49) (v := fun b1 => vP b1 0) (M' := fun b1 => Mem w0 (.blk b1 [.slice A_w_0 w_0.length c_w_0, .slice A_w_1 w_1.length c_w_1, .slice A_w_2 w_2.length c_w_2] 49 :: Fz F W :: cs)) (fun b1 => ⟨by kernel_rfl⟩) (fun w_ hM hS => ⟨hM.blk [.slice A_w_0 w_0.length c_w_0, .slice A_w_1 w_1.length c_w_1, .slice A_w_2 w_2.length c_w_2] 49, trivial⟩) (fun b1 => ?_)
 refine oR [oF 1] [(2, vP b1 0), (1, .slice A_l l.length c_l)] [2, 1] (by kernel_rfl) ?_
 refine ops_nil ?_
 refine fin_then ?_
 refine st_seq ?_
 refine st_seq ?_
 refine st_region [oF 0, oF 1, oF 2] (by rfl) ?_
 refine ops_mem (d := some 10) (an := [.v (.slice A_w_0 w_0.length c_w_0), .v (.slice A_w_1 w_1.length c_w_1), .v (.slice A_w_2 w_2.length c_w_2)]) (evs := [.load ⟨b1, 0, none⟩ (.slice A_w_0 w_0.length c_w_0), .load ⟨b1, 1, none⟩ (.slice A_w_1 w_1.length c_w_1), .load ⟨b1, 2, none⟩ (.slice A_w_2 w_2.length c_w_2)]) (v := .agg #[.slice A_w_0 w_0.length c_w_0, .slice A_w_1 w_1.length c_w_1, .slice A_w_2 w_2.length c_w_2]) (M' := Mem w0 (.blk b1 [.slice A_w_0 w_0.length c_w_0, .slice A_w_1 w_1.length c_w_1, .slice A_w_2 w_2.length c_w_2] 49 :: Fz F W :: cs)) ⟨by kernel_rfl⟩ (fun w_ hM hS => ⟨w_, ⟨hM.cell 0 rfl rfl, hM.cell 0 rfl rfl, hM.cell 0 rfl rfl, rfl⟩, hM, trivial⟩) ?_
 obtain ⟨x2, hv3, hp⟩ := obind hp
 refine ops_callI (σ := Unit) (d := some 11) (f := 94) (args := #[.agg #[.slice A_w_0 w_0.length c_w_0, .slice A_w_1 w_1.length c_w_1, .slice A_w_2 w_2.length c_w_2]]) (v := (fun _ => vI x2)) (I := (fun _ => True)) (M' := (fun _ => Mem w0 (.blk b1 [.slice A_w_0 w_0.length c_w_0, .slice A_w_1 w_1.length c_w_1, .slice A_w_2 w_2.length c_w_2] 49 :: Fz F W :: cs))) ⟨by kernel_rfl⟩ (fun w_ hM hS => (world_Check_ok w0 w_ (.blk b1 [.slice A_w_0 w_0.length c_w_0, .slice A_w_1 w_1.length c_w_1, .slice A_w_2 w_2.length c_w_2] 49 :: cs) F W A_w_0 c_w_0 w_0 A_w_1 c_w_1 w_1 A_w_2 c_w_2 w_2 (hM.pick 2 [1, 0] (by kernel_rfl) (by decide) rfl) h_w_0 h_w_1 h_w_2 x2 hv3).mono (by rintro e w' ⟨-, rfl, h'⟩; have h' : Mem w0 (.blk b1 [.slice A_w_0 w_0.length c_w_0, .slice A_w_1 w_1.length c_w_1, .slice A_w_2 w_2.length c_w_2] 49 :: Fz F W :: cs) w' := (h'.pick 2 [1, 0] (by kernel_rfl) (by decide) rfl); exact ⟨(), trivial, rfl, h', trivial⟩)) ?_
 rintro _ -
 refine ops_conv (l' := [(11, vI x2), (10, .agg #[.slice A_w_0 w_0.length c_w_0, .slice A_w_1 w_1.length c_w_1, .slice A_w_2 w_2.length c_w_2]), (2, vP b1 0), (1, .slice A_l l.length c_l)]) (M' := Mem w0 (.blk b1 [.slice A_w_0 w_0.length c_w_0, .slice A_w_1 w_1.length c_w_1, .slice A_w_2 w_2.length c_w_2] 49 :: Fz F W :: cs)) rfl (fun _ h => h) ?_
 refine oR [oF 2] [(5, vI x2), (2, vP b1 0), (1, .slice A_l l.length c_l)] [5, 2, 1] (by kernel_rfl) ?_
 refine ops_nil ?_
 refine fin_then ?_
 refine st_seq ?_
 refine st_region [oF 0, oF 1] (by rfl) ?_
 refine oR [oF 0, oF 1] [(13, .bool (!(x2 == 0))), (5, vI x2), (2, vP b1 0), (1, .slice A_l l.length c_l)] [13, 5, 2, 1] (by kernel_rfl) ?_
 refine ops_nil ?_
 refine fin_then ?_
 refine st_if (b := !(x2 == 0)) rfl (fun hc4 => ?_) (fun hc4 => ?_)
 · --
  have hp := cnd_t hc4 hp
  refine st_seq ?_
  refine st_region [oF 0, oF 1] (by rfl) ?_
  refine oR [oF 0, oF 1] [(4, vI x2)] [4] (by kernel_rfl) ?_
  refine ops_nil ?_
  refine fin_then ?_
  refine st_ret ?_
  refine fin_ret_then ?_
  have hq_ := Option.some.inj hp
  have hr0_ := hq_
  subst hr0_
  refine fin_ret [.tmp 4] [vI x2] rfl rfl (fun w_ hM => (.tmp rfl .nil)) (fun w_ hM => ?_)
  exact ⟨F, W, (Ext.refl _ _ _), rfl, hM.pick 2 [1] (by kernel_rfl) (by decide) rfl⟩
 · --
  have hp := cnd_f hc4 hp
  refine st_skip ?_
  refine fin_then ?_
  refine st_seq ?_
  refine st_seq ?_
  refine st_region [oF 0, oF 1, oF 2] (by rfl) ?_
  refine oR [oF 0, oF 1, oF 2] [(17, .bool (decide (131072 < (l.length : Int)))), (2, vP b1 0), (1, .slice A_l l.length c_l)] [17, 2, 1] (by kernel_rfl) ?_
  refine ops_nil ?_
  refine fin_then ?_
  refine st_if (b := decide (131072 < (l.length : Int))) rfl (fun hc5 => ?_) (fun hc5 => ?_)
  · --
   have hp := cnd_t hc5 hp
   refine st_seq ?_
   refine st_region [oF 0] (by rfl) ?_
   refine oR [oF 0] [(4, vI 2)] [4] (by kernel_rfl) ?_
   refine ops_nil ?_
   refine fin_then ?_
   refine st_ret ?_
   refine fin_ret_then ?_
   have hq_ := Option.some.inj hp
   have hr0_ := hq_
   subst hr0_
   refine fin_ret [.tmp 4] [vI 2] rfl rfl (fun w_ hM => (.tmp rfl .nil)) (fun w_ hM => ?_)
   exact ⟨F, W, (Ext.refl _ _ _), rfl, hM.pick 2 [1] (by kernel_rfl) (by decide) rfl⟩
  · --
   have hp := cnd_f hc5 hp
   refine st_skip ?_
   refine fin_then ?_
   refine st_join1 (σ := (Nat → Prop) × World) (L := fun x_ => match x_ with | (F6, W7) => []) (N := fun x_ => match x_ with | (F6, W7) => Mem w0 (Fz F6 W7 :: cs)) (I := fun x_ => match x_ with | (F6, W7) => (cmd_Check_j1 = some i9001) ∧ (Ext w0 F W F6 W7)) ?_ ?_
   · --
    rintro ⟨F6, W7⟩ ⟨hp, hx1⟩
    refine st_conv (l' := []) (M' := Mem w0 (Fz F6 W7 :: cs)) rfl (fun _ h => h) ?_
    unfold cmd_Check_j1 at hp
    refine st_seq ?_
    refine st_region [oF 0] (by rfl) ?_
    refine oR [oF 0] [(4, vI 0)] [4] (by kernel_rfl) ?_
    refine ops_nil ?_
    refine fin_then ?_
    refine st_ret ?_
    have hq_ := Option.some.inj hp
    have hr0_ := hq_
    subst hr0_
    refine fin_ret [.tmp 4] [vI 0] rfl rfl (fun w_ hM => (.tmp rfl .nil)) (fun w_ hM => ?_)
    exact ⟨F6, W7, hx1, rfl, hM⟩
   · --
    intro HJ1
    refine st_seq ?_
    refine st_seq ?_
    refine st_region [oF 0, oF 1, oF 2] (by rfl) ?_
    refine oR [oF 0, oF 1, oF 2] [(20, vI 0), (19, vI (l.length : Int)), (18, .slice A_l l.length c_l), (2, vP b1 0)] [20, 19, 18, 2] (by kernel_rfl) ?_
    refine ops_nil ?_
    refine fin_then ?_
    refine st_block ?_
    obtain ⟨r2, hl2, hk2⟩ := obind hp
    refine st_loopP (σ := Int) (ρ := (Int ⊕ Unit)) (γ := (Nat → Prop) × World) hl2 (F, W) (fun s_ g_ => match s_, g_ with | i8, (F9, W10) => [(2, vP b1 0), (18, .slice A_l l.length c_l), (19, vI (l.length : Int)), (20, vI i8)]) (fun s_ g_ => match s_, g_ with | i8, (F9, W10) => Mem w0 (.blk b1 [.slice A_w_0 w_0.length c_w_0, .slice A_w_1 w_1.length c_w_1, .slice A_w_2 w_2.length c_w_2] 49 :: Fz F9 W10 :: cs)) (fun s_ g_ => match s_, g_ with | i8, (F9, W10) => (Ext w0 F W F9 W10)) (Ext.refl _ _ _) (look_has ⟨rfl, rfl, rfl, rfl, trivial⟩) (fun w_ hM => hM) ?_
    rintro i8 ⟨F9, W10⟩ o2 hx2 hs_ hd2
    have hp : (cmd_Check_l2 l w_0) i8 = some o2 := hs_
    clear hs_
    unfold cmd_Check_l2 at hp
    refine st_conv (l' := [(2, vP b1 0), (18, .slice A_l l.length c_l), (19, vI (l.length : Int)), (20, vI i8)]) (M' := Mem w0 (.blk b1 [.slice A_w_0 w_0.length c_w_0, .slice A_w_1 w_1.length c_w_1, .slice A_w_2 w_2.length c_w_2] 49 :: Fz F9 W10 :: cs)) rfl (fun _ h => h) ?_
    have h_l := h_l.ext hx2
    have h_w_0 := h_w_0.ext hx2
    have h_w_1 := h_w_1.ext hx2
    have h_w_2 := h_w_2.ext hx2
    refine st_seq ?_
    refine st_region [oF 0] (by rfl) ?_
    refine oR [oF 0] [(21, .bool (decide (i8 < (l.length : Int)))), (2, vP b1 0), (18, .slice A_l l.length c_l), (19, vI (l.length : Int)), (20, vI i8)] [21, 2, 18, 19, 20] (by kernel_rfl) ?_
    refine ops_nil ?_
    refine fin_then ?_
    refine st_seq ?_
    refine st_if (b := decide (i8 < (l.length : Int))) rfl (fun hc11 => ?_) (fun hc11 => ?_)
    · --
     have hp := cnd_t hc11 hp
     refine st_skip ?_
     refine fin_then ?_
     refine st_seq ?_
     refine st_block ?_
     refine st_seq ?_
     refine st_region [oF 0, oF 1, oF 2, oF 3] (by rfl) ?_
     refine oR [] [(2, vP b1 0), (18, .slice A_l l.length c_l), (19, vI (l.length : Int)), (20, vI i8)] [2, 18, 19, 20] (by kernel_rfl) ?_
     obtain ⟨x12, hv13, hp⟩ := obind hp
     obtain ⟨m14, hm15, hx16⟩ := idx_some hv13
     have hl19 := (List.getElem?_eq_some_iff.1 hx16).1
     obtain ⟨ad20, vs17, hA21, hr18, hq22⟩ := RdS.el h_l hx16
     obtain ⟨A23, c24, rfl, h25⟩ := dec_api_Cmd hr18
     refine ops_val (op := (Go.Op.indexAddr 28 (Go.Operand.tmp 18) (Go.Operand.tmp 20))) (d := some 22) (v := .pointer (some (ad20.add (m14 * 5)))) ⟨by kernel_rfl⟩ (run_indexA hA21 Try.underlying28 (z := 5) (by kernel_rfl) rfl rfl hm15 hl19) ?_
     refine ops_mem (d := some 23) (an := [.v (vI x12.Do), .v (vI x12.Ent.N), .v (vI x12.Ent.Gen), .v (vI x12.Kind), .v (.slice A23 x12.Comps.length c24)]) (evs := [.load (ad20.add (m14 * 5)) (vI x12.Do), .load ((ad20.add (m14 * 5)).add 1) (vI x12.Ent.N), .load ((ad20.add (m14 * 5)).add 2) (vI x12.Ent.Gen), .load ((ad20.add (m14 * 5)).add 3) (vI x12.Kind), .load ((ad20.add (m14 * 5)).add 4) (.slice A23 x12.Comps.length c24)]) (v := .agg #[vI x12.Do, vI x12.Ent.N, vI x12.Ent.Gen, vI x12.Kind, .slice A23 x12.Comps.length c24]) (M' := Mem w0 (.blk b1 [.slice A_w_0 w_0.length c_w_0, .slice A_w_1 w_1.length c_w_1, .slice A_w_2 w_2.length c_w_2] 49 :: Fz F9 W10 :: cs)) ⟨by kernel_rfl⟩ (fun w_ hM hS => ⟨w_, ⟨hM.elcell 1 rfl hq22 0 rfl, hM.elcell 1 rfl hq22 1 rfl, hM.elcell 1 rfl hq22 2 rfl, hM.elcell 1 rfl hq22 3 rfl, hM.elcell 1 rfl hq22 4 rfl, rfl⟩, hM, trivial⟩) ?_
     refine oR [] [(23, .agg #[vI x12.Do, vI x12.Ent.N, vI x12.Ent.Gen, vI x12.Kind, .slice A23 x12.Comps.length c24]), (2, vP b1 0), (18, .slice A_l l.length c_l), (19, vI (l.length : Int)), (20, vI i8)] [23, 2, 18, 19, 20] (by kernel_rfl) ?_
     refine ops_new (d := some 7) (o := .cells #[vI 0, vI 0, vI 0, vI 0, .slice none 0 0] 27) (v := fun b26 => vP b26 0) (M' := fun b26 => Mem w0 (.blk b26 [vI 0, vI 0, vI 0, vI 0, .slice none 0 0] 27 :: .blk b1 [.slice A_w_0 w_0.length c_w_0, .slice A_w_1 w_1.length c_w_1, .slice A_w_2 w_2.length c_w_2] 49 :: Fz F9 W10 :: cs)) (fun b26 => ⟨by kernel_rfl⟩) (fun w_ hM hS => ⟨hM.blk [vI 0, vI 0, vI 0, vI 0, .slice none 0 0] 27, trivial⟩) (fun b26 => ?_)
     refine ops_store (an := []) (evs := [.store ⟨b26, 0, none⟩ (vI x12.Do), .store ⟨b26, 1, none⟩ (vI x12.Ent.N), .store ⟨b26, 2, none⟩ (vI x12.Ent.Gen), .store ⟨b26, 3, none⟩ (vI x12.Kind), .store ⟨b26, 4, none⟩ (.slice A23 x12.Comps.length c24)]) (M' := Mem w0 (.blk b26 [vI x12.Do, vI x12.Ent.N, vI x12.Ent.Gen, vI x12.Kind, .slice A23 x12.Comps.length c24] 27 :: .blk b1 [.slice A_w_0 w_0.length c_w_0, .slice A_w_1 w_1.length c_w_1, .slice A_w_2 w_2.length c_w_2] 49 :: Fz F9 W10 :: cs)) ⟨by kernel_rfl⟩ (fun w_ hM hS => let ⟨w', he, h'⟩ := hM.evs_stores [vI x12.Do, vI x12.Ent.N, vI x12.Ent.Gen, vI x12.Kind, .slice A23 x12.Comps.length c24] 0 rfl 0 (Nat.le_of_ble_eq_true rfl); ⟨w', he, h', trivial⟩) ?_
     refine oR [] [(7, vP b26 0), (2, vP b1 0), (18, .slice A_l l.length c_l), (19, vI (l.length : Int)), (20, vI i8)] [7, 2, 18, 19, 20] (by kernel_rfl) ?_
     refine ops_nil ?_
     refine fin_then ?_
     refine st_seq ?_
     refine st_region [oF 0, oF 1, oF 2, oF 3, oF 4, oF 5, oF 6, oF 7, oF 8] (by rfl) ?_
     refine oR [oF 0] [(25, vP b1 0), (7, vP b26 0), (2, vP b1 0), (18, .slice A_l l.length c_l), (19, vI (l.length : Int)), (20, vI i8)] [25, 7, 2, 18, 19, 20] (by kernel_rfl) ?_
     refine ops_mem (d := some 26) (an := [.v (.slice A_w_0 w_0.length c_w_0)]) (evs := [.load ⟨b1, 0, none⟩ (.slice A_w_0 w_0.length c_w_0)]) (v := .slice A_w_0 w_0.length c_w_0) (M' := Mem w0 (.blk b26 [vI x12.Do, vI x12.Ent.N, vI x12.Ent.Gen, vI x12.Kind, .slice A23 x12.Comps.length c24] 27 :: .blk b1 [.slice A_w_0 w_0.length c_w_0, .slice A_w_1 w_1.length c_w_1, .slice A_w_2 w_2.length c_w_2] 49 :: Fz F9 W10 :: cs)) ⟨by kernel_rfl⟩ (fun w_ hM hS => ⟨w_, ⟨hM.cell 1 rfl rfl, rfl⟩, hM, trivial⟩) ?_
     refine oR [] [(26, .slice A_w_0 w_0.length c_w_0), (7, vP b26 0), (2, vP b1 0), (18, .slice A_l l.length c_l), (19, vI (l.length : Int)), (20, vI i8)] [26, 7, 2, 18, 19, 20] (by kernel_rfl) ?_
     refine ops_mem (d := some 27) (an := [.v (vI x12.Do), .v (vI x12.Ent.N), .v (vI x12.Ent.Gen), .v (vI x12.Kind), .v (.slice A23 x12.Comps.length c24)]) (evs := [.load ⟨b26, 0, none⟩ (vI x12.Do), .load ⟨b26, 1, none⟩ (vI x12.Ent.N), .load ⟨b26, 2, none⟩ (vI x12.Ent.Gen), .load ⟨b26, 3, none⟩ (vI x12.Kind), .load ⟨b26, 4, none⟩ (.slice A23 x12.Comps.length c24)]) (v := .agg #[vI x12.Do, vI x12.Ent.N, vI x12.Ent.Gen, vI x12.Kind, .slice A23 x12.Comps.length c24]) (M' := Mem w0 (.blk b26 [vI x12.Do, vI x12.Ent.N, vI x12.Ent.Gen, vI x12.Kind, .slice A23 x12.Comps.length c24] 27 :: .blk b1 [.slice A_w_0 w_0.length c_w_0, .slice A_w_1 w_1.length c_w_1, .slice A_w_2 w_2.length c_w_2] 49 :: Fz F9 W10 :: cs)) ⟨by kernel_rfl⟩ (fun w_ hM hS => ⟨w_, ⟨hM.cell 0 rfl rfl, hM.cell 0 rfl rfl, hM.cell 0 rfl rfl, hM.cell 0 rfl rfl, hM.cell 0 rfl rfl, rfl⟩, hM, trivial⟩) ?_
     refine oR [] [(27, .agg #[vI x12.Do, vI x12.Ent.N, vI x12.Ent.Gen, vI x12.Kind, .slice A23 x12.Comps.length c24]), (26, .slice A_w_0 w_0.length c_w_0), (2, vP b1 0), (18, .slice A_l l.length c_l), (19, vI (l.length : Int)), (20, vI i8)] [27, 26, 2, 18, 19, 20] (by kernel_rfl) ?_
     obtain ⟨x27, hv28, hp⟩ := obind hp
     refine ops_callI (σ := (Nat → Prop) × World) (d := some 28) (f := 95) (args := #[.slice A_w_0 w_0.length c_w_0, .agg #[vI x12.Do, vI x12.Ent.N, vI x12.Ent.Gen, vI x12.Kind, .slice A23 x12.Comps.length c24]]) (v := (fun x_ => match x_ with | (F29, W30) => .tuple #[.slice none 0 0, vI x27])) (I := (fun x_ => match x_ with | (F29, W30) => (Ext w0 F9 W10 F29 W30))) (M' := (fun x_ => match x_ with | (F29, W30) => Mem w0 (.blk b26 [vI x12.Do, vI x12.Ent.N, vI x12.Ent.Gen, vI x12.Kind, .slice A23 x12.Comps.length c24] 27 :: .blk b1 [.slice A_w_0 w_0.length c_w_0, .slice A_w_1 w_1.length c_w_1, .slice A_w_2 w_2.length c_w_2] 49 :: Fz F29 W30 :: cs))) ⟨by kernel_rfl⟩ (fun w_ hM hS => (cmd_one_ok w0 w_ (.blk b26 [vI x12.Do, vI x12.Ent.N, vI x12.Ent.Gen, vI x12.Kind, .slice A23 x12.Comps.length c24] 27 :: .blk b1 [.slice A_w_0 w_0.length c_w_0, .slice A_w_1 w_1.length c_w_1, .slice A_w_2 w_2.length c_w_2] 49 :: cs) F9 W10 A_w_0 c_w_0 w_0 x12.Do x12.Ent.N x12.Ent.Gen x12.Kind A23 c24 x12.Comps (hM.pick 3 [2, 0, 1] (by kernel_rfl) (by decide) rfl) h_w_0 h25 x27 hv28).mono (by rintro e w' ⟨F29, W30, h31, rfl, h'⟩; have h' : Mem w0 (.blk b26 [vI x12.Do, vI x12.Ent.N, vI x12.Ent.Gen, vI x12.Kind, .slice A23 x12.Comps.length c24] 27 :: .blk b1 [.slice A_w_0 w_0.length c_w_0, .slice A_w_1 w_1.length c_w_1, .slice A_w_2 w_2.length c_w_2] 49 :: Fz F29 W30 :: cs) w' := (h'.pick 3 [1, 2, 0] (by kernel_rfl) (by decide) rfl); exact ⟨(F29, W30), h31, rfl, h', trivial⟩)) ?_
     rintro ⟨F29, W30⟩ h31
     have h25 := h25.ext h31
     have h_w_0 := h_w_0.ext h31
     have h_l := h_l.ext h31
     have h_w_1 := h_w_1.ext h31
     have h_w_2 := h_w_2.ext h31
     refine ops_conv (l' := [(28, .tuple #[.slice none 0 0, vI x27]), (27, .agg #[vI x12.Do, vI x12.Ent.N, vI x12.Ent.Gen, vI x12.Kind, .slice A23 x12.Comps.length c24]), (26, .slice A_w_0 w_0.length c_w_0), (2, vP b1 0), (18, .slice A_l l.length c_l), (19, vI (l.length : Int)), (20, vI i8)]) (M' := Mem w0 (.blk b26 [vI x12.Do, vI x12.Ent.N, vI x12.Ent.Gen, vI x12.Kind, .slice A23 x12.Comps.length c24] 27 :: .blk b1 [.slice A_w_0 w_0.length c_w_0, .slice A_w_1 w_1.length c_w_1, .slice A_w_2 w_2.length c_w_2] 49 :: Fz F29 W30 :: cs)) rfl (fun _ h => h) ?_
     refine oR [oF 4, oF 5, oF 6, oF 7, oF 8] [(9, vI x27), (2, vP b1 0), (18, .slice A_l l.length c_l), (19, vI (l.length : Int)), (20, vI i8)] [9, 2, 18, 19, 20] (by kernel_rfl) ?_
     refine ops_nil ?_
     refine fin_then ?_
     refine st_seq ?_
     refine st_region [oF 0, oF 1] (by rfl) ?_
     refine oR [oF 0, oF 1] [(32, .bool (!(x27 == 0))), (9, vI x27), (2, vP b1 0), (18, .slice A_l l.length c_l), (19, vI (l.length : Int)), (20, vI i8)] [32, 9, 2, 18, 19, 20] (by kernel_rfl) ?_
     refine ops_nil ?_
     refine fin_then ?_
     refine st_if (b := !(x27 == 0)) rfl (fun hc32 => ?_) (fun hc32 => ?_)
     · --
      have hp := cnd_t hc32 hp
      refine st_seq ?_
      refine st_region [oF 0, oF 1] (by rfl) ?_
      refine oR [oF 0, oF 1] [(4, vI x27)] [4] (by kernel_rfl) ?_
      refine ops_nil ?_
      refine fin_then ?_
      refine st_ret ?_
      refine fin_ret_block ?_
      refine fin_ret_then ?_
      refine fin_ret_then ?_
      refine fin_ret_block ?_
      refine fin_ret_then ?_
      obtain hq_ := Option.some.inj hp
      subst hq_
      obtain hq_ := hd2 _ rfl
      subst hq_
      have hp : some x27 = some i9001 := hk2
      have hq_ := Option.some.inj hp
      have hr0_ := hq_
      subst hr0_
      refine fin_ret [.tmp 4] [vI x27] rfl rfl (fun w_ hM => (.tmp rfl .nil)) (fun w_ hM => ?_)
      exact ⟨F29, W30, (hx2.trans h31), rfl, hM.pick 3 [2] (by kernel_rfl) (by decide) rfl⟩
     · --
      have hp := cnd_f hc32 hp
      refine st_skip ?_
      refine fin_block ?_
      refine fin_then ?_
      refine st_region [oF 0, oF 1] (by rfl) ?_
      refine oR [oF 0, oF 1] [(20, vI (IntKind.i64.wrap (i8 + 1))), (2, vP b1 0), (18, .slice A_l l.length c_l), (19, vI (l.length : Int))] [20, 2, 18, 19] (by kernel_rfl) ?_
      refine ops_nil ?_
      exact fin_again (IntKind.i64.wrap (i8 + 1)) (F29, W30) (Option.some.inj hp).symm (hx2.trans h31) (look_has ⟨rfl, rfl, rfl, rfl, trivial⟩) (fun w_ hM => hM.pick 3 [1, 2] (by kernel_rfl) (by decide) rfl)
    · --
     have hp := cnd_f hc11 hp
     refine st_exit ?_
     refine fin_exit_then ?_
     refine fin_exit_then ?_
     refine fin_exit ?_
     obtain hq_ := Option.some.inj hp
     subst hq_
     obtain hq_ := hd2 _ rfl
     subst hq_
     have hp : cmd_Check_j1 = some i9001 := hk2
     exact fin_join HJ1 (F9, W10) ⟨hp, hx2⟩ (look_has trivial) (fun w_ hM => hM.pick 2 [1] (by kernel_rfl) (by decide) rfl)
end Go.Proofs.Ythcbepikeinglaa.M
