/- The Go functions come to what the plain functions tell. No condition. -/
import Derived.Test.YthcbepikeinglaaProg
import Derived.Test.YthcbepikeinglaaFnM
import Derived.Test.YthcbepikeinglaaWkM1
import Derived.Test.YthcbepikeinglaaWkM2
import Derived.Test.YthcbepikeinglaaWkM5
namespace Go.Proofs.Ythcbepikeinglaa.M
open Go Go.RowKit Go.Proofs.Ythcbepikeinglaa.Sx
set_option linter.unusedVariables false
set_option maxHeartbeats 4000000 in
set_option maxRecDepth 100000 in
theorem tourlaw3_CmdLimits_ok (w0 w : World) (cs : List Chunk) (F : Nat → Prop) (W : World) (n : Int) (hM0 : Mem w0 (Fz F W :: cs) w) (t9001 : Bool) (hp : tourlaw3_CmdLimits n = some t9001) : Calls Try.prog 9 #[vI n] w fun e w' => ∃ (F9002 : Nat → Prop), ∃ (W9003 : World), ((Ext w0 F W F9002 W9003)) ∧ e = .returned (.bool t9001) ∧ Mem w0 (Fz F9002 W9003 :: cs) w' := by
 unfold tourlaw3_CmdLimits at hp
 refine sx_calls Try.func9 rfl (n := 63) (by kernel_rfl) (l := [(0, vI n)]) rfl (by rfl) hM0 ?_
 refine st_seq ?_
 refine st_region [oF 0] (by rfl) ?_
 refine oR [oF 0] [(0, vI n)] [0] (by kernel_rfl) ?_
 refine ops_nil ?_
 refine fin_then ?_
 refine st_seq ?_
 refine st_region [oF 0, oF 1] (by rfl) ?_
 obtain ⟨l1, hv2, hp⟩ := obind hp
 obtain ⟨m3, hm4, he5, hb6⟩ := mk_some hv2
 have hl7 : l1.length = m3 := by rw [he5, List.length_replicate]
 obtain ⟨y8, hy9⟩ : ∃ y_, (Sx.madeOf [vI 0, vI 0, vI 0, vI 0, .slice none 0 0] (l1.length * 5)).toList = y_ := ⟨_, rfl⟩
 have h10 : RepL R_api_Cmd F W l1 y8 := by rw [← hy9, hl7, he5]; exact RepL.made (enc_api_Cmd (RdS.empty _)) (by decide) _
 refine ops_makeO (t := 28) (x := (Go.Operand.const (Go.Value.int Go.IntKind.i64 8192))) (y := (Go.Operand.const (Go.Value.int Go.IntKind.i64 8192))) (d := some 8) (nn := l1.length) (z := 5) (bytes := 56) (xs := y8) (zv := .agg #[vI 0, vI 0, vI 0, vI 0, .slice none 0 0]) ⟨by kernel_rfl⟩ rfl rfl (by rw [hl7]; exact hm4) (by rw [hl7]; exact hm4) Try.underlying28 (by kernel_rfl) (by rw [hl7]; exact hb6) (by rfl) hy9 (fun _ _ _ hS h' => trivial) (fun g11 => ?_)
 refine oR [oF 1] [(3, .slice (some ⟨g11, 0, none⟩) l1.length l1.length), (0, vI n)] [3, 0] (by kernel_rfl) ?_
 refine ops_nil ?_
 refine fin_then ?_
 refine st_join1 (σ := (List api_Cmd) × (List Value)) (L := fun x_ => match x_ with | (l12, y13) => [(0, vI n), (3, .slice (some ⟨g11, 0, none⟩) l12.length l1.length)]) (N := fun x_ => match x_ with | (l12, y13) => Mem w0 (orow (some ⟨g11, 0, none⟩) l12.length l1.length 27 5 y13 :: Fz F W :: cs)) (I := fun x_ => match x_ with | (l12, y13) => ((tourlaw3_CmdLimits_j1 n) l12 = some t9001) ∧ (RepL R_api_Cmd F W l12 y13)) ?_ ?_
 · --
  rintro ⟨l12, y13⟩ ⟨hp, h14⟩
  refine st_conv (l' := [(0, vI n), (3, .slice (some ⟨g11, 0, none⟩) l12.length l1.length)]) (M' := Mem w0 (orow (some ⟨g11, 0, none⟩) l12.length l1.length 27 5 y13 :: Fz F W :: cs)) rfl (fun _ h => h) ?_
  unfold tourlaw3_CmdLimits_j1 at hp
  refine st_seq ?_
  refine st_region [oF 0] (by rfl) ?_
  refine oR [oF 0] [(5, .slice none 0 0), (0, vI n), (3, .slice (some ⟨g11, 0, none⟩) l12.length l1.length)] [5, 0, 3] (by kernel_rfl) ?_
  refine ops_nil ?_
  refine fin_then ?_
  refine st_join1 (σ := (Option Addr) × Nat × (List (List api_Cmd)) × (List Value) × (Nat → Prop) × World) (L := fun x_ => match x_ with | (A15, c16, l17, y18, F20, W21) => [(5, .slice A15 l17.length c16)]) (N := fun x_ => match x_ with | (A15, c16, l17, y18, F20, W21) => Mem w0 (orow A15 l17.length c16 28 1 y18 :: Fz F20 W21 :: cs)) (I := fun x_ => match x_ with | (A15, c16, l17, y18, F20, W21) => (tourlaw3_CmdLimits_j2 l17 = some t9001) ∧ (RepL (Rep.sl R_api_Cmd) F20 W21 l17 y18) ∧ (Ext w0 F W F20 W21)) ?_ ?_
  · --
   rintro ⟨A15, c16, l17, y18, F20, W21⟩ ⟨hp, h19, hx2⟩
   refine st_conv (l' := [(5, .slice A15 l17.length c16)]) (M' := Mem w0 (orow A15 l17.length c16 28 1 y18 :: Fz F20 W21 :: cs)) rfl (fun _ h => h) ?_
   unfold tourlaw3_CmdLimits_j2 at hp
   refine st_seq ?_
   refine st_region [oF 0, oF 1, oF 2, oF 3, oF 4, oF 5, oF 6] (by rfl) ?_
   refine oR [oF 0] [(32, .slice A15 l17.length c16), (5, .slice A15 l17.length c16)] [32, 5] (by kernel_rfl) ?_
   refine ops_ex (σ := (Nat → Prop) × World) (I := fun x_ => Ext w0 F20 W21 x_.1 x_.2 ∧ RdS (Rep.sl R_api_Cmd) x_.1 x_.2 A15 c16 l17) (M' := fun x_ => Mem w0 (Fz x_.1 x_.2 :: cs)) (fun w_ hM => ?_) ?_
   · obtain ⟨F_, h1_, h2_, h3_⟩ := (hM.pick 2 [0, 1] (by kernel_rfl) (by decide) rfl : Mem w0 (orow A15 l17.length c16 28 1 y18 :: Fz F20 W21 :: cs) w_).freeze (z := 1) h19 rfl rfl
     exact ⟨(F_, w_), ⟨h1_, h2_⟩, h3_.pick 1 [0] (by kernel_rfl) (by decide) rfl⟩
   rintro ⟨F22, W23⟩ ⟨hx24, h25⟩
   have hx24 : Ext w0 F20 W21 F22 W23 := hx24
   have h25 : RdS (Rep.sl R_api_Cmd) F22 W23 A15 c16 l17 := h25
   refine ops_conv (l' := [(32, .slice A15 l17.length c16), (5, .slice A15 l17.length c16)]) (M' := Mem w0 (Fz F22 W23 :: cs)) rfl (fun _ h => h) ?_
   obtain ⟨x26, x27, hv28, hp⟩ := obind2 hp
   refine ops_callI (σ := (Option Addr) × Nat × (List Value) × (Nat → Prop) × World) (d := some 33) (f := 10) (args := #[.slice A15 l17.length c16]) (v := (fun x_ => match x_ with | (A29, c30, y31, F32, W33) => .tuple #[.slice A29 x26.length c30, vI x27])) (I := (fun x_ => match x_ with | (A29, c30, y31, F32, W33) => (RepL R_api_Cmd F32 W33 x26 y31) ∧ (Ext w0 F22 W23 F32 W33))) (M' := (fun x_ => match x_ with | (A29, c30, y31, F32, W33) => Mem w0 (orow A29 x26.length c30 27 5 y31 :: Fz F32 W33 :: cs))) ⟨by kernel_rfl⟩ (fun w_ hM hS => (cmd_Join_ok w0 w_ (cs) F22 W23 A15 c16 l17 hM h25 x26 x27 hv28).mono (by rintro e w' ⟨A29, c30, y31, F32, W33, ⟨h34, h35⟩, rfl, h'⟩; have h' : Mem w0 (orow A29 x26.length c30 27 5 y31 :: Fz F32 W33 :: cs) w' := h'; exact ⟨(A29, c30, y31, F32, W33), ⟨h34, h35⟩, rfl, h', trivial⟩)) ?_
   rintro ⟨A29, c30, y31, F32, W33⟩ ⟨h34, h35⟩
   have h25 := h25.ext h35
   refine ops_conv (l' := [(33, .tuple #[.slice A29 x26.length c30, vI x27]), (32, .slice A15 l17.length c16), (5, .slice A15 l17.length c16)]) (M' := Mem w0 (orow A29 x26.length c30 27 5 y31 :: Fz F32 W33 :: cs)) rfl (fun _ h => h) ?_
   refine oR [oF 2, oF 3, oF 4, oF 5, oF 6] [(7, vI x27), (6, .slice A29 x26.length c30), (5, .slice A15 l17.length c16)] [7, 6, 5] (by kernel_rfl) ?_
   refine ops_nil ?_
   refine fin_then ?_
   refine st_seq ?_
   refine st_seq ?_
   refine st_region [oF 0, oF 1, oF 2] (by rfl) ?_
   refine oR [oF 0, oF 1, oF 2] [(38, .bool (decide (16 < (l17.length : Int)))), (7, vI x27), (6, .slice A29 x26.length c30), (5, .slice A15 l17.length c16)] [38, 7, 6, 5] (by kernel_rfl) ?_
   refine ops_nil ?_
   refine fin_then ?_
   refine st_if (b := decide (16 < (l17.length : Int))) rfl (fun hc36 => ?_) (fun hc36 => ?_)
   · --
    have hp := cnd_t hc36 hp
    refine st_join1 (σ := Bool × (Nat → Prop) × World) (L := fun x_ => match x_ with | (t37, F38, W39) => [(2, .bool t37)]) (N := fun x_ => match x_ with | (t37, F38, W39) => Mem w0 (Fz F38 W39 :: cs)) (I := fun x_ => match x_ with | (t37, F38, W39) => (tourlaw3_CmdLimits_j3 t37 = some t9001) ∧ (Ext w0 F32 W33 F38 W39)) ?_ ?_
    · --
     rintro ⟨t37, F38, W39⟩ ⟨hp, hx3⟩
     refine st_conv (l' := [(2, .bool t37)]) (M' := Mem w0 (Fz F38 W39 :: cs)) rfl (fun _ h => h) ?_
     unfold tourlaw3_CmdLimits_j3 at hp
     refine st_ret ?_
     refine fin_ret_then ?_
     have hq_ := Option.some.inj hp
     have hr0_ := hq_
     subst hr0_
     refine fin_ret [.tmp 2] [.bool t37] rfl rfl (fun w_ hM => (.tmp rfl .nil)) (fun w_ hM => ?_)
     exact ⟨F38, W39, (((hx2.trans hx24).trans h35).trans hx3), rfl, hM⟩
    · --
     intro HJ3
     refine st_seq ?_
     refine st_region [oF 0, oF 1, oF 2, oF 3, oF 4, oF 5, oF 6, oF 7, oF 8, oF 9, oF 10, oF 11, oF 12, oF 13, oF 14] (by rfl) ?_
     refine oR [oF 0, oF 1, oF 2] [(41, .bool (x27 == 2)), (6, .slice A29 x26.length c30), (5, .slice A15 l17.length c16)] [41, 6, 5] (by kernel_rfl) ?_
     refine ops_bool (t := (x27 == 2)) (l1 := [(41, .bool true), (6, .slice A29 x26.length c30), (5, .slice A15 l17.length c16)]) (l2 := [(41, .bool false), (6, .slice A29 x26.length c30), (5, .slice A15 l17.length c16)]) (fun h => by rw [h]) (fun h => by rw [h]) (fun hc40 => ?_) (fun hc40 => ?_)
     · --
      have hp := cnd_t hc40 hp
      refine oR [oF 3, oF 4, oF 5, oF 6, oF 7] [(46, .bool ((x26.length : Int) == 0)), (5, .slice A15 l17.length c16)] [46, 5] (by kernel_rfl) ?_
      refine ops_bool (t := ((x26.length : Int) == 0)) (l1 := [(46, .bool true), (5, .slice A15 l17.length c16)]) (l2 := [(46, .bool false), (5, .slice A15 l17.length c16)]) (fun h => by rw [h]) (fun h => by rw [h]) (fun hc41 => ?_) (fun hc41 => ?_)
      · --
       have hp := cnd_t hc41 hp
       obtain ⟨x42, x43, x44, hv45, hp⟩ := obind3 hp
       refine ops_callI (σ := (Option Addr) × (List Value) × (Option Addr) × (List Value) × (Option Addr) × (List Value) × (Nat → Prop) × World) (d := some 47) (f := 19) (args := #[]) (v := (fun x_ => match x_ with | (A46, y47, A48, y49, A50, y51, F52, W53) => .agg #[.slice A46 x42.length 2, .slice A48 x43.length 2, .slice A50 x44.length 2])) (I := (fun x_ => match x_ with | (A46, y47, A48, y49, A50, y51, F52, W53) => (RepL R_api_Kind F52 W53 x42 y47) ∧ (RepL (Rep.int .i64) F52 W53 x43 y49) ∧ (RepL R_api_Item F52 W53 x44 y51) ∧ (Ext w0 F32 W33 F52 W53))) (M' := (fun x_ => match x_ with | (A46, y47, A48, y49, A50, y51, F52, W53) => Mem w0 (orow A46 x42.length 2 176 2 y47 :: orow A48 x43.length 2 3 1 y49 :: orow A50 x44.length 2 58 3 y51 :: orow A29 x26.length c30 27 5 y31 :: Fz F52 W53 :: cs))) ⟨by kernel_rfl⟩ (fun w_ hM hS => (tourlaw3_pair_ok w0 w_ (orow A29 x26.length c30 27 5 y31 :: cs) F32 W33  (hM.pick 2 [1, 0] (by kernel_rfl) (by decide) rfl)  x42 x43 x44 hv45).mono (by rintro e w' ⟨A46, y47, A48, y49, A50, y51, F52, W53, ⟨h54, h55, h56, h57⟩, rfl, h'⟩; have h' : Mem w0 (orow A46 x42.length 2 176 2 y47 :: orow A48 x43.length 2 3 1 y49 :: orow A50 x44.length 2 58 3 y51 :: orow A29 x26.length c30 27 5 y31 :: Fz F52 W53 :: cs) w' := (h'.pick 5 [0, 1, 2, 4, 3] (by kernel_rfl) (by decide) rfl); exact ⟨(A46, y47, A48, y49, A50, y51, F52, W53), ⟨h54, h55, h56, h57⟩, rfl, h', trivial⟩)) ?_
       rintro ⟨A46, y47, A48, y49, A50, y51, F52, W53⟩ ⟨h54, h55, h56, h57⟩
       have h25 := h25.ext h57
       have h34 := h34.ext h57
       refine ops_conv (l' := [(47, .agg #[.slice A46 x42.length 2, .slice A48 x43.length 2, .slice A50 x44.length 2]), (46, .bool true), (5, .slice A15 l17.length c16)]) (M' := Mem w0 (orow A46 x42.length 2 176 2 y47 :: orow A48 x43.length 2 3 1 y49 :: orow A50 x44.length 2 58 3 y51 :: orow A29 x26.length c30 27 5 y31 :: Fz F52 W53 :: cs)) rfl (fun _ h => h) ?_
       refine oR [oF 9] [(48, .slice A15 l17.length c16), (47, .agg #[.slice A46 x42.length 2, .slice A48 x43.length 2, .slice A50 x44.length 2]), (46, .bool true)] [48, 47, 46] (by kernel_rfl) ?_
       obtain ⟨x58, hv59, hp⟩ := obind hp
       refine ops_callI (σ := (Option Addr) × Nat × (List Value)) (d := some 49) (f := 12) (args := #[.slice A15 l17.length c16]) (v := (fun x_ => match x_ with | (A60, c61, y62) => .slice A60 x58.length c61)) (I := (fun x_ => match x_ with | (A60, c61, y62) => (RepL R_api_Cmd F52 W53 x58 y62))) (M' := (fun x_ => match x_ with | (A60, c61, y62) => Mem w0 (orow A60 x58.length c61 27 5 y62 :: orow A46 x42.length 2 176 2 y47 :: orow A48 x43.length 2 3 1 y49 :: orow A50 x44.length 2 58 3 y51 :: orow A29 x26.length c30 27 5 y31 :: Fz F52 W53 :: cs))) ⟨by kernel_rfl⟩ (fun w_ hM hS => (slices_Concat_api_Cmd_api_Cmd_ok w0 w_ (orow A46 x42.length 2 176 2 y47 :: orow A48 x43.length 2 3 1 y49 :: orow A50 x44.length 2 58 3 y51 :: orow A29 x26.length c30 27 5 y31 :: cs) F52 W53 A15 c16 l17 (hM.pick 5 [4, 0, 1, 2, 3] (by kernel_rfl) (by decide) rfl) h25 x58 hv59).mono (by rintro e w' ⟨A60, c61, y62, h63, rfl, h'⟩; have h' : Mem w0 (orow A60 x58.length c61 27 5 y62 :: orow A46 x42.length 2 176 2 y47 :: orow A48 x43.length 2 3 1 y49 :: orow A50 x44.length 2 58 3 y51 :: orow A29 x26.length c30 27 5 y31 :: Fz F52 W53 :: cs) w' := (h'.pick 6 [0, 2, 3, 4, 5, 1] (by kernel_rfl) (by decide) rfl); exact ⟨(A60, c61, y62), h63, rfl, h', trivial⟩)) ?_
       rintro ⟨A60, c61, y62⟩ h63
       refine ops_conv (l' := [(49, .slice A60 x58.length c61), (48, .slice A15 l17.length c16), (47, .agg #[.slice A46 x42.length 2, .slice A48 x43.length 2, .slice A50 x44.length 2]), (46, .bool true)]) (M' := Mem w0 (orow A60 x58.length c61 27 5 y62 :: orow A46 x42.length 2 176 2 y47 :: orow A48 x43.length 2 3 1 y49 :: orow A50 x44.length 2 58 3 y51 :: orow A29 x26.length c30 27 5 y31 :: Fz F52 W53 :: cs)) rfl (fun _ h => h) ?_
       refine oR [] [(49, .slice A60 x58.length c61), (47, .agg #[.slice A46 x42.length 2, .slice A48 x43.length 2, .slice A50 x44.length 2]), (46, .bool true)] [49, 47, 46] (by kernel_rfl) ?_
       refine ops_ex (σ := (Nat → Prop) × World) (I := fun x_ => Ext w0 F52 W53 x_.1 x_.2 ∧ RdS R_api_Kind x_.1 x_.2 A46 2 x42) (M' := fun x_ => Mem w0 (orow A60 x58.length c61 27 5 y62 :: orow A48 x43.length 2 3 1 y49 :: orow A50 x44.length 2 58 3 y51 :: orow A29 x26.length c30 27 5 y31 :: Fz x_.1 x_.2 :: cs)) (fun w_ hM => ?_) ?_
       · obtain ⟨F_, h1_, h2_, h3_⟩ := (hM.pick 6 [1, 5, 0, 2, 3, 4] (by kernel_rfl) (by decide) rfl : Mem w0 (orow A46 x42.length 2 176 2 y47 :: Fz F52 W53 :: orow A60 x58.length c61 27 5 y62 :: orow A48 x43.length 2 3 1 y49 :: orow A50 x44.length 2 58 3 y51 :: orow A29 x26.length c30 27 5 y31 :: cs) w_).freeze (z := 2) h54 rfl rfl
         exact ⟨(F_, w_), ⟨h1_, h2_⟩, h3_.pick 5 [1, 2, 3, 4, 0] (by kernel_rfl) (by decide) rfl⟩
       rintro ⟨F64, W65⟩ ⟨hx66, h67⟩
       have hx66 : Ext w0 F52 W53 F64 W65 := hx66
       have h67 : RdS R_api_Kind F64 W65 A46 2 x42 := h67
       have h63 := h63.ext hx66
       have h55 := h55.ext hx66
       have h56 := h56.ext hx66
       have h34 := h34.ext hx66
       refine ops_conv (l' := [(49, .slice A60 x58.length c61), (47, .agg #[.slice A46 x42.length 2, .slice A48 x43.length 2, .slice A50 x44.length 2]), (46, .bool true)]) (M' := Mem w0 (orow A60 x58.length c61 27 5 y62 :: orow A48 x43.length 2 3 1 y49 :: orow A50 x44.length 2 58 3 y51 :: orow A29 x26.length c30 27 5 y31 :: Fz F64 W65 :: cs)) rfl (fun _ h => h) ?_
       refine ops_ex (σ := (Nat → Prop) × World) (I := fun x_ => Ext w0 F64 W65 x_.1 x_.2 ∧ RdS (Rep.int .i64) x_.1 x_.2 A48 2 x43) (M' := fun x_ => Mem w0 (orow A60 x58.length c61 27 5 y62 :: orow A50 x44.length 2 58 3 y51 :: orow A29 x26.length c30 27 5 y31 :: Fz x_.1 x_.2 :: cs)) (fun w_ hM => ?_) ?_
       · obtain ⟨F_, h1_, h2_, h3_⟩ := (hM.pick 5 [1, 4, 0, 2, 3] (by kernel_rfl) (by decide) rfl : Mem w0 (orow A48 x43.length 2 3 1 y49 :: Fz F64 W65 :: orow A60 x58.length c61 27 5 y62 :: orow A50 x44.length 2 58 3 y51 :: orow A29 x26.length c30 27 5 y31 :: cs) w_).freeze (z := 1) h55 rfl rfl
         exact ⟨(F_, w_), ⟨h1_, h2_⟩, h3_.pick 4 [1, 2, 3, 0] (by kernel_rfl) (by decide) rfl⟩
       rintro ⟨F68, W69⟩ ⟨hx70, h71⟩
       have hx70 : Ext w0 F64 W65 F68 W69 := hx70
       have h71 : RdS (Rep.int .i64) F68 W69 A48 2 x43 := h71
       have h67 := h67.ext hx70
       have h63 := h63.ext hx70
       have h56 := h56.ext hx70
       have h34 := h34.ext hx70
       refine ops_conv (l' := [(49, .slice A60 x58.length c61), (47, .agg #[.slice A46 x42.length 2, .slice A48 x43.length 2, .slice A50 x44.length 2]), (46, .bool true)]) (M' := Mem w0 (orow A60 x58.length c61 27 5 y62 :: orow A50 x44.length 2 58 3 y51 :: orow A29 x26.length c30 27 5 y31 :: Fz F68 W69 :: cs)) rfl (fun _ h => h) ?_
       refine ops_ex (σ := (Nat → Prop) × World) (I := fun x_ => Ext w0 F68 W69 x_.1 x_.2 ∧ RdS R_api_Item x_.1 x_.2 A50 2 x44) (M' := fun x_ => Mem w0 (orow A60 x58.length c61 27 5 y62 :: orow A29 x26.length c30 27 5 y31 :: Fz x_.1 x_.2 :: cs)) (fun w_ hM => ?_) ?_
       · obtain ⟨F_, h1_, h2_, h3_⟩ := (hM.pick 4 [1, 3, 0, 2] (by kernel_rfl) (by decide) rfl : Mem w0 (orow A50 x44.length 2 58 3 y51 :: Fz F68 W69 :: orow A60 x58.length c61 27 5 y62 :: orow A29 x26.length c30 27 5 y31 :: cs) w_).freeze (z := 3) h56 rfl rfl
         exact ⟨(F_, w_), ⟨h1_, h2_⟩, h3_.pick 3 [1, 2, 0] (by kernel_rfl) (by decide) rfl⟩
       rintro ⟨F72, W73⟩ ⟨hx74, h75⟩
       have hx74 : Ext w0 F68 W69 F72 W73 := hx74
       have h75 : RdS R_api_Item F72 W73 A50 2 x44 := h75
       have h67 := h67.ext hx74
       have h71 := h71.ext hx74
       have h63 := h63.ext hx74
       have h34 := h34.ext hx74
       refine ops_conv (l' := [(49, .slice A60 x58.length c61), (47, .agg #[.slice A46 x42.length 2, .slice A48 x43.length 2, .slice A50 x44.length 2]), (46, .bool true)]) (M' := Mem w0 (orow A60 x58.length c61 27 5 y62 :: orow A29 x26.length c30 27 5 y31 :: Fz F72 W73 :: cs)) rfl (fun _ h => h) ?_
       refine ops_ex (σ := (Nat → Prop) × World) (I := fun x_ => Ext w0 F72 W73 x_.1 x_.2 ∧ RdS R_api_Cmd x_.1 x_.2 A60 c61 x58) (M' := fun x_ => Mem w0 (orow A29 x26.length c30 27 5 y31 :: Fz x_.1 x_.2 :: cs)) (fun w_ hM => ?_) ?_
       · obtain ⟨F_, h1_, h2_, h3_⟩ := (hM.pick 3 [0, 2, 1] (by kernel_rfl) (by decide) rfl : Mem w0 (orow A60 x58.length c61 27 5 y62 :: Fz F72 W73 :: orow A29 x26.length c30 27 5 y31 :: cs) w_).freeze (z := 5) h63 rfl rfl
         exact ⟨(F_, w_), ⟨h1_, h2_⟩, h3_.pick 2 [1, 0] (by kernel_rfl) (by decide) rfl⟩
       rintro ⟨F76, W77⟩ ⟨hx78, h79⟩
       have hx78 : Ext w0 F72 W73 F76 W77 := hx78
       have h79 : RdS R_api_Cmd F76 W77 A60 c61 x58 := h79
       have h67 := h67.ext hx78
       have h71 := h71.ext hx78
       have h75 := h75.ext hx78
       have h34 := h34.ext hx78
       refine ops_conv (l' := [(49, .slice A60 x58.length c61), (47, .agg #[.slice A46 x42.length 2, .slice A48 x43.length 2, .slice A50 x44.length 2]), (46, .bool true)]) (M' := Mem w0 (orow A29 x26.length c30 27 5 y31 :: Fz F76 W77 :: cs)) rfl (fun _ h => h) ?_
       obtain ⟨x80, hv81, hp⟩ := obind hp
       refine ops_callI (σ := (Nat → Prop) × World) (d := some 50) (f := 52) (args := #[.agg #[.slice A46 x42.length 2, .slice A48 x43.length 2, .slice A50 x44.length 2], .slice A60 x58.length c61]) (v := (fun x_ => match x_ with | (F82, W83) => vI x80)) (I := (fun x_ => match x_ with | (F82, W83) => (Ext w0 F76 W77 F82 W83))) (M' := (fun x_ => match x_ with | (F82, W83) => Mem w0 (orow A29 x26.length c30 27 5 y31 :: Fz F82 W83 :: cs))) ⟨by kernel_rfl⟩ (fun w_ hM hS => (cmd_Check_ok w0 w_ (orow A29 x26.length c30 27 5 y31 :: cs) F76 W77 A46 2 x42 A48 2 x43 A50 2 x44 A60 c61 x58 (hM.pick 2 [1, 0] (by kernel_rfl) (by decide) rfl) h67 h71 h75 h79 x80 hv81).mono (by rintro e w' ⟨F82, W83, h84, rfl, h'⟩; have h' : Mem w0 (orow A29 x26.length c30 27 5 y31 :: Fz F82 W83 :: cs) w' := (h'.pick 2 [1, 0] (by kernel_rfl) (by decide) rfl); exact ⟨(F82, W83), h84, rfl, h', trivial⟩)) ?_
       rintro ⟨F82, W83⟩ h84
       have h79 := h79.ext h84
       have h67 := h67.ext h84
       have h71 := h71.ext h84
       have h75 := h75.ext h84
       have h34 := h34.ext h84
       refine ops_conv (l' := [(50, vI x80), (49, .slice A60 x58.length c61), (47, .agg #[.slice A46 x42.length 2, .slice A48 x43.length 2, .slice A50 x44.length 2]), (46, .bool true)]) (M' := Mem w0 (orow A29 x26.length c30 27 5 y31 :: Fz F82 W83 :: cs)) rfl (fun _ h => h) ?_
       refine oR [oF 12, oF 13, oF 14] [(2, .bool (x80 == 2))] [2] (by kernel_rfl) ?_
       refine ops_nil ?_
       exact fin_join HJ3 ((x80 == 2), F82, W83) ⟨hp, (((((h57.trans hx66).trans hx70).trans hx74).trans hx78).trans h84)⟩ (look_has ⟨rfl, trivial⟩) (fun w_ hM => hM.pick 2 [1] (by kernel_rfl) (by decide) rfl)
      · --
       have hp := cnd_f hc41 hp
       refine oR [oF 8, oF 9, oF 10, oF 11, oF 12, oF 13, oF 14] [(2, .bool false)] [2] (by kernel_rfl) ?_
       refine ops_nil ?_
       exact fin_join HJ3 (false, F32, W33) ⟨hp, (Ext.refl _ _ _)⟩ (look_has ⟨rfl, trivial⟩) (fun w_ hM => hM.pick 2 [1] (by kernel_rfl) (by decide) rfl)
     · --
      have hp := cnd_f hc40 hp
      refine oR [oF 3, oF 4, oF 5, oF 6, oF 7, oF 8, oF 9, oF 10, oF 11, oF 12, oF 13, oF 14] [(2, .bool false)] [2] (by kernel_rfl) ?_
      refine ops_nil ?_
      exact fin_join HJ3 (false, F32, W33) ⟨hp, (Ext.refl _ _ _)⟩ (look_has ⟨rfl, trivial⟩) (fun w_ hM => hM.pick 2 [1] (by kernel_rfl) (by decide) rfl)
   · --
    have hp := cnd_f hc36 hp
    refine st_skip ?_
    refine fin_then ?_
    refine st_join1 (σ := Bool) (L := fun x_ => match x_ with | t85 => [(2, .bool t85)]) (N := fun x_ => match x_ with | t85 => Mem w0 (Fz F32 W33 :: cs)) (I := fun x_ => match x_ with | t85 => (tourlaw3_CmdLimits_j4 t85 = some t9001)) ?_ ?_
    · --
     rintro t85 hp
     refine st_conv (l' := [(2, .bool t85)]) (M' := Mem w0 (Fz F32 W33 :: cs)) rfl (fun _ h => h) ?_
     unfold tourlaw3_CmdLimits_j4 at hp
     refine st_ret ?_
     have hq_ := Option.some.inj hp
     have hr0_ := hq_
     subst hr0_
     refine fin_ret [.tmp 2] [.bool t85] rfl rfl (fun w_ hM => (.tmp rfl .nil)) (fun w_ hM => ?_)
     exact ⟨F32, W33, ((hx2.trans hx24).trans h35), rfl, hM⟩
    · --
     intro HJ4
     refine st_seq ?_
     refine st_region [oF 0, oF 1, oF 2, oF 3, oF 4, oF 5, oF 6, oF 7, oF 8, oF 9, oF 10] (by rfl) ?_
     refine oR [oF 0, oF 1, oF 2] [(55, .bool (x27 == 0)), (6, .slice A29 x26.length c30), (5, .slice A15 l17.length c16)] [55, 6, 5] (by kernel_rfl) ?_
     refine ops_bool (t := (x27 == 0)) (l1 := [(55, .bool true), (6, .slice A29 x26.length c30), (5, .slice A15 l17.length c16)]) (l2 := [(55, .bool false), (6, .slice A29 x26.length c30), (5, .slice A15 l17.length c16)]) (fun h => by rw [h]) (fun h => by rw [h]) (fun hc86 => ?_) (fun hc86 => ?_)
     · --
      have hp := cnd_t hc86 hp
      refine oR [oF 3, oF 4, oF 5, oF 6, oF 7, oF 8, oF 9, oF 10] [(2, .bool ((x26.length : Int) == IntKind.i64.wrap ((l17.length : Int) * 8192)))] [2] (by kernel_rfl) ?_
      refine ops_nil ?_
      exact fin_join HJ4 ((x26.length : Int) == IntKind.i64.wrap ((l17.length : Int) * 8192)) hp (look_has ⟨rfl, trivial⟩) (fun w_ hM => hM.pick 2 [1] (by kernel_rfl) (by decide) rfl)
     · --
      have hp := cnd_f hc86 hp
      refine oR [oF 3, oF 4, oF 5, oF 6, oF 7, oF 8, oF 9, oF 10] [(2, .bool false)] [2] (by kernel_rfl) ?_
      refine ops_nil ?_
      exact fin_join HJ4 false hp (look_has ⟨rfl, trivial⟩) (fun w_ hM => hM.pick 2 [1] (by kernel_rfl) (by decide) rfl)
  · --
   intro HJ2
   refine st_seq ?_
   refine st_seq ?_
   refine st_region [oF 0, oF 1, oF 2, oF 3, oF 4, oF 5] (by rfl) ?_
   refine oR [oF 0, oF 1, oF 2, oF 3, oF 4, oF 5] [(24, vI 0), (23, vI (IntKind.i64.wrap (15 + Int.tmod (IntKind.i64.wrap (Int.tmod n 4 + 4)) 4))), (5, .slice none 0 0), (3, .slice (some ⟨g11, 0, none⟩) l12.length l1.length)] [24, 23, 5, 3] (by kernel_rfl) ?_
   obtain ⟨x87, hv88, hp⟩ := obind hp
   refine ops_conv (l' := [(24, vI 0), (23, vI x87), (5, .slice none 0 0), (3, .slice (some ⟨g11, 0, none⟩) l12.length l1.length)]) (by rw [← Option.some.inj hv88]) (fun _ h => h) ?_
   refine ops_nil ?_
   refine fin_then ?_
   refine st_block ?_
   refine st_ex (σ := (Nat → Prop) × World) (I := fun x_ => Ext w0 F W x_.1 x_.2 ∧ RdS R_api_Cmd x_.1 x_.2 (some ⟨g11, 0, none⟩) l1.length l12) (M' := fun x_ => Mem w0 (Fz x_.1 x_.2 :: cs)) (fun w_ hM => ?_) ?_
   · obtain ⟨F_, h1_, h2_, h3_⟩ := (hM.pick 2 [0, 1] (by kernel_rfl) (by decide) rfl : Mem w0 (orow (some ⟨g11, 0, none⟩) l12.length l1.length 27 5 y13 :: Fz F W :: cs) w_).freeze (z := 5) h14 rfl rfl
     exact ⟨(F_, w_), ⟨h1_, h2_⟩, h3_.pick 1 [0] (by kernel_rfl) (by decide) rfl⟩
   rintro ⟨F98, W99⟩ ⟨hx100, h101⟩
   have hx100 : Ext w0 F W F98 W99 := hx100
   have h101 : RdS R_api_Cmd F98 W99 (some ⟨g11, 0, none⟩) l1.length l12 := h101
   refine st_conv (l' := [(24, vI 0), (23, vI x87), (5, .slice none 0 0), (3, .slice (some ⟨g11, 0, none⟩) l12.length l1.length)]) (M' := Mem w0 (Fz F98 W99 :: cs)) rfl (fun _ h => h) ?_
   refine st_conv (l' := [(24, vI 0), (23, vI x87), (5, .slice none 0 0), (3, .slice (some ⟨g11, 0, none⟩) l12.length l1.length)]) (M' := Mem w0 (orow none ([] : List (List api_Cmd)).length 0 28 1 [] :: Fz F98 W99 :: cs)) rfl (fun w_ h => h.onil none 28 1) ?_
   refine st_conv (l' := [(24, vI 0), (23, vI x87), (5, .slice none ([] : List (List api_Cmd)).length 0), (3, .slice (some ⟨g11, 0, none⟩) l12.length l1.length)]) (M' := Mem w0 (orow none ([] : List (List api_Cmd)).length 0 28 1 [] :: Fz F98 W99 :: cs)) rfl (fun _ h => h) ?_
   obtain ⟨r5, hl5, hk5⟩ := obind hp
   refine st_loopP (σ := (List (List api_Cmd)) × Int) (ρ := (List (List api_Cmd))) (γ := (Option Addr) × Nat × (List Value) × (Nat → Prop) × World) hl5 (none, 0, [], F98, W99) (fun s_ g_ => match s_, g_ with | (l92, i95), (A90, c91, y93, F96, W97) => [(3, .slice (some ⟨g11, 0, none⟩) l12.length l1.length), (5, .slice A90 l92.length c91), (23, vI x87), (24, vI i95)]) (fun s_ g_ => match s_, g_ with | (l92, i95), (A90, c91, y93, F96, W97) => Mem w0 (orow A90 l92.length c91 28 1 y93 :: Fz F96 W97 :: cs)) (fun s_ g_ => match s_, g_ with | (l92, i95), (A90, c91, y93, F96, W97) => (RdS R_api_Cmd F96 W97 (some ⟨g11, 0, none⟩) l1.length l12) ∧ (RepL (Rep.sl R_api_Cmd) F96 W97 l92 y93) ∧ (Ext w0 F W F96 W97)) ⟨h101, (RepL.nil (R := (Rep.sl R_api_Cmd))), hx100⟩ (look_has ⟨rfl, rfl, rfl, rfl, trivial⟩) (fun w_ hM => hM) ?_
   rintro ⟨l92, i95⟩ ⟨A90, c91, y93, F96, W97⟩ o5 ⟨h89, h94, hx5⟩ hs_ hd5
   have hp : (tourlaw3_CmdLimits_l5 x87 l12) l92 i95 = some o5 := hs_
   clear hs_
   unfold tourlaw3_CmdLimits_l5 at hp
   refine st_conv (l' := [(3, .slice (some ⟨g11, 0, none⟩) l12.length l1.length), (5, .slice A90 l92.length c91), (23, vI x87), (24, vI i95)]) (M' := Mem w0 (orow A90 l92.length c91 28 1 y93 :: Fz F96 W97 :: cs)) rfl (fun _ h => h) ?_
   refine st_seq ?_
   refine st_region [oF 0] (by rfl) ?_
   refine oR [oF 0] [(25, .bool (decide (i95 < x87))), (3, .slice (some ⟨g11, 0, none⟩) l12.length l1.length), (5, .slice A90 l92.length c91), (23, vI x87), (24, vI i95)] [25, 3, 5, 23, 24] (by kernel_rfl) ?_
   refine ops_nil ?_
   refine fin_then ?_
   refine st_seq ?_
   refine st_if (b := decide (i95 < x87)) rfl (fun hc102 => ?_) (fun hc102 => ?_)
   · --
    have hp := cnd_t hc102 hp
    refine st_skip ?_
    refine fin_then ?_
    refine st_seq ?_
    refine st_block ?_
    refine st_region [oF 0, oF 1, oF 2, oF 3, oF 4] (by rfl) ?_
    refine oR [oF 0, oF 1] [(27, .slice (some ⟨g11, 0, none⟩) l12.length l1.length), (26, .slice A90 l92.length c91), (3, .slice (some ⟨g11, 0, none⟩) l12.length l1.length), (5, .slice A90 l92.length c91), (23, vI x87), (24, vI i95)] [27, 26, 3, 5, 23, 24] (by kernel_rfl) ?_
    have h103 : RepL (Rep.sl R_api_Cmd) F96 W97 ([l12] : List (List api_Cmd)) ([.slice (some ⟨g11, 0, none⟩) l12.length l1.length]) := (RepL.cons (R := (Rep.sl R_api_Cmd)) (F := F96) (w := W97) (vs := [.slice (some ⟨g11, 0, none⟩) l12.length l1.length]) (ys := []) (slrd h89) RepL.nil)
    refine ops_new (d := some 28) (o := .cells ([.slice (some ⟨g11, 0, none⟩) l12.length l1.length]).toArray 28) (v := fun g104 => .slice (some ⟨g104, 0, none⟩) ([l12] : List (List api_Cmd)).length 1) (M' := fun g104 => Mem w0 (orow (some ⟨g104, 0, none⟩) ([l12] : List (List api_Cmd)).length 1 28 1 ([.slice (some ⟨g11, 0, none⟩) l12.length l1.length]) :: orow A90 l92.length c91 28 1 y93 :: Fz F96 W97 :: cs)) (fun g104 => ⟨by kernel_rfl⟩) (fun w_ hM hS => ⟨hM.onew [.slice (some ⟨g11, 0, none⟩) l12.length l1.length] 28 1 1 rfl (by decide), trivial⟩) (fun g104 => ?_)
    refine oR [] [(28, .slice (some ⟨g104, 0, none⟩) ([l12] : List (List api_Cmd)).length 1), (26, .slice A90 l92.length c91), (3, .slice (some ⟨g11, 0, none⟩) l12.length l1.length), (5, .slice A90 l92.length c91), (23, vI x87), (24, vI i95)] [28, 26, 3, 5, 23, 24] (by kernel_rfl) ?_
    obtain ⟨l105, hv106, hp⟩ := obind hp
    obtain ⟨he107, hb108⟩ := app_some hv106
    obtain ⟨y109, hy110⟩ : ∃ y_, y93 ++ ([.slice (some ⟨g11, 0, none⟩) l12.length l1.length]) = y_ := ⟨_, rfl⟩
    have h111 : RepL (Rep.sl R_api_Cmd) F96 W97 l105 y109 := by rw [he107, ← hy110]; exact RepL.app h94 h103
    refine ops_appendO (x := (Go.Operand.tmp 26)) (y := (Go.Operand.tmp 28)) (t := 22) (e := 28) (d := some 29) (n' := l105.length) (z := 1) (m := ([l12] : List (List api_Cmd)).length) (bytes := 24) (xs' := y109) (news := ([.slice (some ⟨g11, 0, none⟩) l12.length l1.length])) (zv := .slice none 0 0) 1 ⟨by kernel_rfl⟩ rfl rfl Try.underlying22 (by kernel_rfl) (by rfl) rfl (fun w_ hM => hM.srcO 0 rfl) h103.len h103.one hb108 (by have z_ := congrArg List.length he107; rw [List.length_append] at z_; exact z_.symm) hy110 (fun _ _ _ _ hS h' => trivial) ?_
    rintro ⟨A112, c113⟩
    refine ops_conv (l' := [(29, .slice A112 l105.length c113), (28, .slice (some ⟨g104, 0, none⟩) ([l12] : List (List api_Cmd)).length 1), (26, .slice A90 l92.length c91), (3, .slice (some ⟨g11, 0, none⟩) l12.length l1.length), (5, .slice A90 l92.length c91), (23, vI x87), (24, vI i95)]) (M' := Mem w0 (orow (some ⟨g104, 0, none⟩) ([l12] : List (List api_Cmd)).length 1 28 1 ([.slice (some ⟨g11, 0, none⟩) l12.length l1.length]) :: orow A112 l105.length c113 28 1 y109 :: Fz F96 W97 :: cs)) rfl (fun _ h => h) ?_
    refine oR [oF 4] [(5, .slice A112 l105.length c113), (3, .slice (some ⟨g11, 0, none⟩) l12.length l1.length), (23, vI x87), (24, vI i95)] [5, 3, 23, 24] (by kernel_rfl) ?_
    refine ops_nil ?_
    refine fin_block ?_
    refine fin_then ?_
    refine st_region [oF 0, oF 1] (by rfl) ?_
    refine oR [oF 0, oF 1] [(24, vI (IntKind.i64.wrap (i95 + 1))), (5, .slice A112 l105.length c113), (3, .slice (some ⟨g11, 0, none⟩) l12.length l1.length), (23, vI x87)] [24, 5, 3, 23] (by kernel_rfl) ?_
    refine ops_nil ?_
    exact fin_again (l105, IntKind.i64.wrap (i95 + 1)) (A112, c113, y109, F96, W97) (Option.some.inj hp).symm ⟨h89, h111, hx5⟩ (look_has ⟨rfl, rfl, rfl, rfl, trivial⟩) (fun w_ hM => hM.pick 3 [1, 2] (by kernel_rfl) (by decide) rfl)
   · --
    have hp := cnd_f hc102 hp
    refine st_exit ?_
    refine fin_exit_then ?_
    refine fin_exit_then ?_
    refine fin_exit ?_
    obtain hq_ := Option.some.inj hp
    subst hq_
    obtain hq_ := hd5 _ rfl
    subst hq_
    have hp : tourlaw3_CmdLimits_j2 l92 = some t9001 := hk5
    exact fin_join HJ2 (A90, c91, l92, y93, F96, W97) ⟨hp, h94, hx5⟩ (look_has ⟨rfl, trivial⟩) (fun w_ hM => hM)
 · --
  intro HJ1
  refine st_seq ?_
  refine st_seq ?_
  refine st_region [oF 0, oF 1, oF 2] (by rfl) ?_
  refine oR [oF 0, oF 1, oF 2] [(11, vI 0), (10, vI (l1.length : Int)), (3, .slice (some ⟨g11, 0, none⟩) l1.length l1.length), (0, vI n)] [11, 10, 3, 0] (by kernel_rfl) ?_
  refine ops_nil ?_
  refine fin_then ?_
  refine st_block ?_
  obtain ⟨r6, hl6, hk6⟩ := obind hp
  refine st_loopP (σ := (List api_Cmd) × Int) (ρ := (List api_Cmd)) (γ := (List Value)) hl6 y8 (fun s_ g_ => match s_, g_ with | (l114, i117), y115 => [(0, vI n), (3, .slice (some ⟨g11, 0, none⟩) l114.length l1.length), (10, vI (l1.length : Int)), (11, vI i117)]) (fun s_ g_ => match s_, g_ with | (l114, i117), y115 => Mem w0 (orow (some ⟨g11, 0, none⟩) l114.length l1.length 27 5 y115 :: Fz F W :: cs)) (fun s_ g_ => match s_, g_ with | (l114, i117), y115 => (RepL R_api_Cmd F W l114 y115)) h10 (look_has ⟨rfl, rfl, rfl, rfl, trivial⟩) (fun w_ hM => hM) ?_
  rintro ⟨l114, i117⟩ y115 o6 h116 hs_ hd6
  have hp : (tourlaw3_CmdLimits_l6 l1) l114 i117 = some o6 := hs_
  clear hs_
  unfold tourlaw3_CmdLimits_l6 at hp
  refine st_conv (l' := [(0, vI n), (3, .slice (some ⟨g11, 0, none⟩) l114.length l1.length), (10, vI (l1.length : Int)), (11, vI i117)]) (M' := Mem w0 (orow (some ⟨g11, 0, none⟩) l114.length l1.length 27 5 y115 :: Fz F W :: cs)) rfl (fun _ h => h) ?_
  refine st_seq ?_
  refine st_region [oF 0] (by rfl) ?_
  refine oR [oF 0] [(12, .bool (decide (i117 < (l1.length : Int)))), (0, vI n), (3, .slice (some ⟨g11, 0, none⟩) l114.length l1.length), (10, vI (l1.length : Int)), (11, vI i117)] [12, 0, 3, 10, 11] (by kernel_rfl) ?_
  refine ops_nil ?_
  refine fin_then ?_
  refine st_seq ?_
  refine st_if (b := decide (i117 < (l1.length : Int))) rfl (fun hc118 => ?_) (fun hc118 => ?_)
  · --
   have hp := cnd_t hc118 hp
   refine st_skip ?_
   refine fin_then ?_
   refine st_seq ?_
   refine st_block ?_
   refine st_seq ?_
   refine st_region [oF 0, oF 1] (by rfl) ?_
   refine oR [oF 0, oF 1] [(4, vI i117), (0, vI n), (3, .slice (some ⟨g11, 0, none⟩) l114.length l1.length), (10, vI (l1.length : Int)), (11, vI i117)] [4, 0, 3, 10, 11] (by kernel_rfl) ?_
   refine ops_nil ?_
   refine fin_then ?_
   refine st_region [oF 0, oF 1, oF 2, oF 3, oF 4] (by rfl) ?_
   refine oR [oF 0, oF 1] [(15, vI i117), (14, .slice (some ⟨g11, 0, none⟩) l114.length l1.length), (0, vI n), (3, .slice (some ⟨g11, 0, none⟩) l114.length l1.length), (10, vI (l1.length : Int)), (11, vI i117)] [15, 14, 0, 3, 10, 11] (by kernel_rfl) ?_
   obtain ⟨x119, hv120, hp⟩ := obind hp
   obtain ⟨m121, hm122, hx123⟩ := idx_some hv120
   have hl126 := (List.getElem?_eq_some_iff.1 hx123).1
   obtain ⟨vs124, hr125, hq127⟩ := h116.at_ m121 x119 hx123
   obtain ⟨A128, c129, rfl, h130⟩ := dec_api_Cmd hr125
   refine ops_val (op := (Go.Op.indexAddr 28 (Go.Operand.tmp 14) (Go.Operand.tmp 15))) (d := some 16) (v := vP g11 (m121 * 5)) ⟨by kernel_rfl⟩ (run_indexRow Try.underlying28 (z := 5) (by kernel_rfl) rfl rfl hm122 hl126 rfl) ?_
   refine oR [oF 3] [(17, vP g11 (m121 * 5)), (0, vI n), (3, .slice (some ⟨g11, 0, none⟩) l114.length l1.length), (10, vI (l1.length : Int)), (11, vI i117)] [17, 0, 3, 10, 11] (by kernel_rfl) ?_
   obtain ⟨l131, hv132, hp⟩ := obind hp
   obtain ⟨m133, hm134, hl135, he136⟩ := upd_some hv132
   obtain rfl : m121 = m133 := by have := hm122; omega
   have hl137 : l114.length = l131.length := by rw [he136, List.length_set]
   obtain ⟨y138, hy139⟩ : ∃ y_, setAll y115 (m121 * 5 + 0) [vI 2] = y_ := ⟨_, rfl⟩
   have h140 : RepL R_api_Cmd F W l131 y138 := by rw [he136, ← hy139]; exact RepL.set h116 hx123 (fun vs_ hr_ _ => by obtain ⟨A142, c143, rfl, h144⟩ := dec_api_Cmd hr_; exact ⟨(enc_api_Cmd h144), Nat.le_of_ble_eq_true rfl⟩)
   refine ops_store (an := []) (evs := [.store ⟨g11, m121 * 5, none⟩ (vI 2)]) (M' := Mem w0 (orow (some ⟨g11, 0, none⟩) l131.length l1.length 27 5 y138 :: Fz F W :: cs)) ⟨by kernel_rfl⟩ (fun w_ hM hS => let ⟨w', he, h'⟩ := hM.ostore' 0 rfl (m121 * 5 + 0) [vI 2] (by have z_ : y115.length = l114.length * 5 := h116.len; have y_ : (m121 + 1) * 5 ≤ l114.length * 5 := Nat.mul_le_mul_right _ hl135; rw [Nat.add_mul] at y_; simp only [List.length_cons, List.length_nil]; omega) hl137 hy139; ⟨w', he, h', trivial⟩) ?_
   refine ops_conv (l' := [(17, vP g11 (m121 * 5)), (0, vI n), (3, .slice (some ⟨g11, 0, none⟩) l131.length l1.length), (10, vI (l1.length : Int)), (11, vI i117)]) (M' := Mem w0 (orow (some ⟨g11, 0, none⟩) l131.length l1.length 27 5 y138 :: Fz F W :: cs)) (by first | rfl | rw [hl137]) (fun w_ hM => by first | exact hM | (rw [hl137] at hM; exact hM)) ?_
   refine oR [] [(0, vI n), (3, .slice (some ⟨g11, 0, none⟩) l131.length l1.length), (10, vI (l1.length : Int)), (11, vI i117)] [0, 3, 10, 11] (by kernel_rfl) ?_
   refine ops_nil ?_
   refine fin_block ?_
   refine fin_then ?_
   refine st_region [oF 0, oF 1] (by rfl) ?_
   refine oR [oF 0, oF 1] [(11, vI (IntKind.i64.wrap (i117 + 1))), (0, vI n), (3, .slice (some ⟨g11, 0, none⟩) l131.length l1.length), (10, vI (l1.length : Int))] [11, 0, 3, 10] (by kernel_rfl) ?_
   refine ops_nil ?_
   exact fin_again (l131, IntKind.i64.wrap (i117 + 1)) y138 (Option.some.inj hp).symm h140 (look_has ⟨rfl, rfl, rfl, rfl, trivial⟩) (fun w_ hM => hM)
  · --
   have hp := cnd_f hc118 hp
   refine st_exit ?_
   refine fin_exit_then ?_
   refine fin_exit_then ?_
   refine fin_exit ?_
   obtain hq_ := Option.some.inj hp
   subst hq_
   obtain hq_ := hd6 _ rfl
   subst hq_
   have hp : (tourlaw3_CmdLimits_j1 n) l114 = some t9001 := hk6
   exact fin_join HJ1 (l114, y115) ⟨hp, h116⟩ (look_has ⟨rfl, rfl, trivial⟩) (fun w_ hM => hM)
end Go.Proofs.Ythcbepikeinglaa.M
