/- The Go functions come to what the plain functions tell. No condition. -/
import Derived.Test.YtnnhijlgohlaeaaProg
import Derived.Test.YtnnhijlgohlaeaaFnP
import Derived.Test.YtnnhijlgohlaeaaWkP2
import Derived.Test.YtnnhijlgohlaeaaExOwn
namespace Go.Proofs.Ytnnhijlgohlaeaa.P
open Go Go.RowKit Go.Proofs.Ytnnhijlgohlaeaa.Sx
set_option linter.unusedVariables false
set_option maxHeartbeats 4000000
set_option maxRecDepth 100000
def tourref3_Rounds__t0 : List Row := [⟨0, 8589934592, 256⟩, ⟨1, 17179869184, 8589934592⟩, ⟨2, 34359738368, 17179869192⟩, ⟨2, 68719476736, 17179869696⟩, ⟨14, 137438953472, 120259084288⟩, ⟨18, 274877906944, 154618822656⟩, ⟨34, 549755813888, 292057776128⟩, ⟨64, 1099511627776, 549755813889⟩, ⟨64, 2199023255552, 549755814400⟩, ⟨448, 4398046511104, 3848290697216⟩, ⟨576, 8796093022208, 4947802324992⟩, ⟨64, 17592186044416, 549755813889⟩, ⟨64, 35184372088832, 549755814016⟩, ⟨6208, 70368744177664, 53326313947136⟩, ⟨8256, 140737488355328, 70918499991552⟩, ⟨17472, 281474976710656, 150083337191424⟩, ⟨32832, 562949953421312, 282024732524544⟩, ⟨65602, 1125899906842624, 563516889104384⟩, ⟨131074, 2251799813685248, 1125917086711808⟩, ⟨524287, 256, 2251799813685248⟩]
theorem tourref3_Rounds_ok (w0 w : World) (cs : List Chunk) (F : Nat → Prop) (W : World) (A_l : Option Addr) (c_l : Nat) (l : List api_System) (hM0 : Mem w0 (Fz F W :: cs) w) (h_l : RdS R_api_System F W A_l c_l l) (l9003 : List (List Int)) (hp : tourref3_Rounds l = some l9003) : Calls Try.prog 28 #[sl A_l l c_l] w fun e w' => ∃ (A9001 : Option Addr), ∃ (c9002 : Nat), ∃ (y9004 : List Value), ∃ (F9006 : Nat → Prop), ∃ (W9007 : World), ((RepL (Rep.sl (Rep.int .i64)) F9006 W9007 l9003 y9004) ∧ (Ext w0 F W F9006 W9007)) ∧ e = .returned (sl A9001 l9003 c9002) ∧ Mem w0 (ow A9001 l9003 c9002 26 1 y9004 :: Fz F9006 W9007 :: cs) w' := by
 unfold tourref3_Rounds at hp
 refine sx_calls Try.func28 rfl (n := 78) (by kernel_rfl) (l := [(0, sl A_l l c_l)]) rfl (by rfl) hM0 ?_
 refine st_seq (st_region [oF 0] (by rfl) ?_)
 refine oQ [oF 0] [(0, sl A_l l c_l)] (by kernel_rfl) ?_
 refine ops_nil (fin_then (st_seq (st_region [oF 0, oF 1, oF 2, oF 3] (by rfl) ?_)))
 refine oQ [oF 0, oF 1] [(13, vI (l.length : Int)), (0, sl A_l l c_l)] (by kernel_rfl) ?_
 obtain ⟨l1, hv2, hp⟩ := obind hp
 obtain ⟨m3, hm4, he5, hb6⟩ := mk_some hv2
 have hl7 : l1.length = m3 := by rw [he5, List.length_replicate]
 obtain ⟨y8, hy9⟩ : ∃ y_, (Sx.madeOf [.bool false] (l1.length * 1)).toList = y_ := ⟨_, rfl⟩
 have h10 : RepL Rep.bool F W l1 y8 := by rw [← hy9, hl7, he5]; exact RepL.made rfl (by decide) _
 refine ops_makeO (t := 100) (x := (Go.Operand.tmp 13)) (y := (Go.Operand.tmp 13)) (d := some 14) (nn := l1.length) (z := 1) (bytes := 1) (xs := y8) (zv := .bool false) ⟨by kernel_rfl⟩ rfl rfl (by rw [hl7]; exact hm4) (by rw [hl7]; exact hm4) Try.underlying100 (by kernel_rfl) (by rw [hl7]; exact hb6) (by rfl) hy9 (fun _ _ _ hS h' => trivial) (fun g11 => ?_)
 refine oQ [oF 3] [(3, sl (sa g11) l1 l1.length), (0, sl A_l l c_l)] (by kernel_rfl) ?_
 refine ops_nil (fin_then (st_seq (st_region [oF 0] (by rfl) ?_)))
 refine oQ [oF 0] [(4, .slice none 0 0), (3, sl (sa g11) l1 l1.length), (0, sl A_l l c_l)] (by kernel_rfl) ?_
 refine ops_nil (fin_then ?_)
 refine st_join1 (σ := (Option Addr) × Nat × (List (List Int)) × (List Value) × (Nat → Prop) × World) (L := fun x_ => match x_ with | (A12, c13, l14, y15, F17, W18) => [(4, sl A12 l14 c13)]) (N := fun x_ => match x_ with | (A12, c13, l14, y15, F17, W18) => Mem w0 (ow A12 l14 c13 26 1 y15 :: Fz F17 W18 :: cs)) (I := fun x_ => match x_ with | (A12, c13, l14, y15, F17, W18) => (tourref3_Rounds_j1 l14 = some l9003) ∧ (RepL (Rep.sl (Rep.int .i64)) F17 W18 l14 y15) ∧ (Ext w0 F W F17 W18)) ?_ ?_
 ·
  rintro ⟨A12, c13, l14, y15, F17, W18⟩ ⟨hp, h16, hx1⟩
  unfold tourref3_Rounds_j1 at hp
  refine st_seq (st_region [oF 0, oF 1] (by rfl) ?_)
  refine oQ [oF 0, oF 1] [(2, sl A12 l14 c13)] (by kernel_rfl) ?_
  refine ops_nil (fin_then (st_ret ?_))
  have hq_ := Option.some.inj hp
  have hr0_ := hq_
  subst hr0_
  refine fin_ret [.tmp 2] [sl A12 l14 c13] rfl rfl (fun w_ hM => (.tmp rfl .nil)) (fun w_ hM => ?_)
  exact ⟨A12, c13, y15, F17, W18, ⟨h16, hx1⟩, rfl, hM⟩
 ·
  intro HJ1
  refine st_seq (st_seq (st_region [oF 0, oF 1, oF 2] (by rfl) ?_))
  refine oQ [oF 0, oF 1, oF 2] [(5, vI (l.length : Int)), (4, .slice none 0 0), (3, sl (sa g11) l1 l1.length), (0, sl A_l l c_l)] (by kernel_rfl) ?_
  refine ops_nil (fin_then (st_block ?_))
  refine st_conv (l' := [(5, vI (l.length : Int)), (4, .slice none 0 0), (3, sl (sa g11) l1 l1.length), (0, sl A_l l c_l)]) (M' := Mem w0 (orow none ([] : List (List Int)).length 0 26 1 [] :: ow (sa g11) l1 l1.length 4 1 y8 :: Fz F W :: cs)) rfl (fun w_ h => h.onil none 26 1) ?_
  obtain ⟨r2, hl2, hk2⟩ := obind hp
  refine st_loopP (σ := (List Bool) × (List (List Int)) × Int) (ρ := (List (List Int))) (γ := (List Value) × (Option Addr) × Nat × (List Value) × (Nat → Prop) × World) hl2 (y8, none, 0, [], F, W) (fun s_ g_ => match s_, g_ with | (l19, l24, i27), (y20, A22, c23, y25, F28, W29) => [(0, sl A_l l c_l), (3, sl (sa g11) l19 l1.length), (4, sl A22 l24 c23), (5, vI i27)]) (fun s_ g_ => match s_, g_ with | (l19, l24, i27), (y20, A22, c23, y25, F28, W29) => Mem w0 (ow (sa g11) l19 l1.length 4 1 y20 :: ow A22 l24 c23 26 1 y25 :: Fz F28 W29 :: cs)) (fun s_ g_ => match s_, g_ with | (l19, l24, i27), (y20, A22, c23, y25, F28, W29) => (RepL Rep.bool F28 W29 l19 y20) ∧ (RepL (Rep.sl (Rep.int .i64)) F28 W29 l24 y25) ∧ (Ext w0 F W F28 W29)) ⟨h10, (RepL.nil (R := (Rep.sl (Rep.int .i64)))), (Ext.refl _ _ _)⟩ (look_has ⟨rfl, rfl, rfl, rfl, trivial⟩) (fun w_ hM => hM.pick 3 [1, 0, 2] (by kernel_rfl) (by decide) rfl) ?_
  rintro ⟨l19, l24, i27⟩ ⟨y20, A22, c23, y25, F28, W29⟩ o2 ⟨h21, h26, hx2⟩ hs_ hd2
  have hp : (tourref3_Rounds_l2 l) l19 l24 i27 = some o2 := hs_
  clear hs_
  unfold tourref3_Rounds_l2 at hp
  have h_l := h_l.ext hx2
  refine st_seq (st_seq (st_region [oF 0, oF 1] (by rfl) ?_))
  refine oQ [oF 0, oF 1] [(18, .bool (decide (0 < i27))), (0, sl A_l l c_l), (3, sl (sa g11) l19 l1.length), (4, sl A22 l24 c23), (5, vI i27)] (by kernel_rfl) ?_
  refine ops_nil (fin_then ?_)
  refine st_if (b := decide (0 < i27)) rfl (fun hc30 => ?_) (fun hc30 => ?_)
  ·
   have hp := cnd_t hc30 hp
   refine st_skip (fin_then (st_block (st_seq (st_region [oF 0] (by rfl) ?_))))
   refine oQ [oF 0] [(6, .slice none 0 0), (0, sl A_l l c_l), (3, sl (sa g11) l19 l1.length), (4, sl A22 l24 c23), (5, vI i27)] (by kernel_rfl) ?_
   refine ops_nil (fin_then ?_)
   refine st_join1 (σ := (Option Addr) × Nat × (List Int) × (List Value)) (L := fun x_ => match x_ with | (A31, c32, l33, y34) => [(0, sl A_l l c_l), (3, sl (sa g11) l19 l1.length), (4, sl A22 l24 c23), (5, vI i27), (6, sl A31 l33 c32)]) (N := fun x_ => match x_ with | (A31, c32, l33, y34) => Mem w0 (ow (sa g11) l19 l1.length 4 1 y20 :: ow A22 l24 c23 26 1 y25 :: ow A31 l33 c32 3 1 y34 :: Fz F28 W29 :: cs)) (I := fun x_ => match x_ with | (A31, c32, l33, y34) => ((tourref3_Rounds_j3 l19 l24 i27) l33 = some o2) ∧ (RepL (Rep.int .i64) F28 W29 l33 y34)) ?_ ?_
   ·
    rintro ⟨A31, c32, l33, y34⟩ ⟨hp, h35⟩
    unfold tourref3_Rounds_j3 at hp
    refine st_join1 (σ := (List Bool) × (List Value)) (L := fun x_ => match x_ with | (l36, y37) => [(0, sl A_l l c_l), (3, sl (sa g11) l36 l1.length), (4, sl A22 l24 c23), (5, vI i27), (6, sl A31 l33 c32)]) (N := fun x_ => match x_ with | (l36, y37) => Mem w0 (ow (sa g11) l36 l1.length 4 1 y37 :: ow A22 l24 c23 26 1 y25 :: ow A31 l33 c32 3 1 y34 :: Fz F28 W29 :: cs)) (I := fun x_ => match x_ with | (l36, y37) => ((tourref3_Rounds_j4 l24 l33 i27) l36 = some o2) ∧ (RepL Rep.bool F28 W29 l36 y37)) ?_ ?_
    ·
     rintro ⟨l36, y37⟩ ⟨hp, h38⟩
     unfold tourref3_Rounds_j4 at hp
     refine st_region [oF 0, oF 1, oF 2, oF 3, oF 4, oF 5, oF 6, oF 7, oF 8, oF 9] (by rfl) ?_
     refine oQ [oF 0, oF 1] [(70, sl A31 l33 c32), (69, sl A22 l24 c23), (0, sl A_l l c_l), (3, sl (sa g11) l36 l1.length), (4, sl A22 l24 c23), (5, vI i27), (6, sl A31 l33 c32)] (by kernel_rfl) ?_
     refine ops_ex (σ := (Nat → Prop) × World) (I := fun x_ => Ext w0 F28 W29 x_.1 x_.2 ∧ RdS (Rep.int .i64) x_.1 x_.2 A31 c32 l33) (M' := fun x_ => Mem w0 (ow (sa g11) l36 l1.length 4 1 y37 :: ow A22 l24 c23 26 1 y25 :: Fz x_.1 x_.2 :: cs)) (fun w_ hM => ?_) ?_
     · obtain ⟨F_, h1_, h2_, h3_⟩ := (hM.pick 4 [2, 3, 0, 1] (by kernel_rfl) (by decide) rfl : Mem w0 (ow A31 l33 c32 3 1 y34 :: Fz F28 W29 :: ow (sa g11) l36 l1.length 4 1 y37 :: ow A22 l24 c23 26 1 y25 :: cs) w_).freeze (z := 1) h35 rfl rfl
       exact ⟨(F_, w_), ⟨h1_, h2_⟩, h3_.pick 3 [1, 2, 0] (by kernel_rfl) (by decide) rfl⟩
     rintro ⟨F39, W40⟩ ⟨hx41, h42⟩
     have hx41 : Ext w0 F28 W29 F39 W40 := hx41
     have h42 : RdS (Rep.int .i64) F39 W40 A31 c32 l33 := h42
     have h_l := h_l.ext hx41
     have h38 := h38.ext hx41
     have h26 := h26.ext hx41
     have h43 : RepL (Rep.sl (Rep.int .i64)) F39 W40 ([l33] : List (List Int)) ([sl A31 l33 c32]) := (RepL.cons (R := (Rep.sl (Rep.int .i64))) (F := F39) (w := W40) (vs := [sl A31 l33 c32]) (ys := []) (slrd h42) RepL.nil)
     refine ops_new (d := some 71) (o := .cells ([sl A31 l33 c32]).toArray 26) (v := fun g44 => .slice (sa g44) ([l33] : List (List Int)).length 1) (M' := fun g44 => Mem w0 (orow (sa g44) ([l33] : List (List Int)).length 1 26 1 ([sl A31 l33 c32]) :: ow (sa g11) l36 l1.length 4 1 y37 :: ow A22 l24 c23 26 1 y25 :: Fz F39 W40 :: cs)) (fun g44 => ⟨by kernel_rfl⟩) (fun w_ hM hS => ⟨hM.onew [sl A31 l33 c32] 26 1 1 rfl (by decide), trivial⟩) (fun g44 => ?_)
     obtain ⟨l45, hv46, hp⟩ := obind hp
     obtain ⟨he47, hb48⟩ := app_some hv46
     obtain ⟨y49, hy50⟩ : ∃ y_, y25 ++ ([sl A31 l33 c32]) = y_ := ⟨_, rfl⟩
     have h51 : RepL (Rep.sl (Rep.int .i64)) F39 W40 l45 y49 := by rw [he47, ← hy50]; exact RepL.app h26 h43
     refine ops_appendO (x := (Go.Operand.tmp 69)) (y := (Go.Operand.tmp 71)) (t := 23) (e := 26) (d := some 72) (n' := l45.length) (z := 1) (m := ([l33] : List (List Int)).length) (bytes := 24) (xs' := y49) (news := ([sl A31 l33 c32])) (zv := .slice none 0 0) 2 ⟨by kernel_rfl⟩ rfl rfl Try.underlying23 (by kernel_rfl) (by rfl) rfl (fun w_ hM => hM.srcO 0 rfl) h43.len h43.one hb48 (by have z_ := congrArg List.length he47; rw [List.length_append] at z_; exact z_.symm) hy50 (fun _ _ _ _ hS h' => trivial) ?_
     rintro ⟨A52, c53⟩
     refine oQ [oF 4, oF 5, oF 6, oF 7, oF 8, oF 9] [(5, vI (IntKind.i64.wrap (i27 - (l33.length : Int)))), (4, sl A52 l45 c53), (0, sl A_l l c_l), (3, sl (sa g11) l36 l1.length)] (by kernel_rfl) ?_
     refine ops_nil (fin_block ?_)
     exact fin_again (l36, l45, IntKind.i64.wrap (i27 - (l33.length : Int))) (y37, A52, c53, y49, F39, W40) (Option.some.inj hp).symm ⟨h38, h51, (hx2.trans hx41)⟩ (look_has ⟨rfl, rfl, rfl, rfl, trivial⟩) (fun w_ hM => hM.pick 4 [1, 2, 3] (by kernel_rfl) (by decide) rfl)
    ·
     intro HJ4
     refine st_seq (st_seq (st_region [oF 0, oF 1, oF 2] (by rfl) ?_))
     refine oQ [oF 0, oF 1, oF 2] [(61, vI 0), (60, vI (l33.length : Int)), (59, sl A31 l33 c32), (0, sl A_l l c_l), (3, sl (sa g11) l19 l1.length), (4, sl A22 l24 c23), (5, vI i27), (6, sl A31 l33 c32)] (by kernel_rfl) ?_
     refine ops_nil (fin_then (st_block ?_))
     obtain ⟨r5, hl5, hk5⟩ := obind hp
     refine st_loopP (σ := (List Bool) × Int) (ρ := (List Bool)) (γ := (List Value)) hl5 y20 (fun s_ g_ => match s_, g_ with | (l54, i57), y55 => [(0, sl A_l l c_l), (3, sl (sa g11) l54 l1.length), (4, sl A22 l24 c23), (5, vI i27), (6, sl A31 l33 c32), (59, sl A31 l33 c32), (60, vI (l33.length : Int)), (61, vI i57)]) (fun s_ g_ => match s_, g_ with | (l54, i57), y55 => Mem w0 (ow (sa g11) l54 l1.length 4 1 y55 :: ow A22 l24 c23 26 1 y25 :: ow A31 l33 c32 3 1 y34 :: Fz F28 W29 :: cs)) (fun s_ g_ => match s_, g_ with | (l54, i57), y55 => (RepL Rep.bool F28 W29 l54 y55)) h21 (look_has ⟨rfl, rfl, rfl, rfl, rfl, rfl, rfl, rfl, trivial⟩) (fun w_ hM => hM) ?_
     rintro ⟨l54, i57⟩ y55 o5 h56 hs_ hd5
     have hp : (tourref3_Rounds_l5 l33) l54 i57 = some o5 := hs_
     clear hs_
     unfold tourref3_Rounds_l5 at hp
     refine st_seq (st_region [oF 0] (by rfl) ?_)
     refine oQ [oF 0] [(62, .bool (decide (i57 < (l33.length : Int)))), (0, sl A_l l c_l), (3, sl (sa g11) l54 l1.length), (4, sl A22 l24 c23), (5, vI i27), (6, sl A31 l33 c32), (59, sl A31 l33 c32), (60, vI (l33.length : Int)), (61, vI i57)] (by kernel_rfl) ?_
     refine ops_nil (fin_then (st_seq ?_))
     refine st_if (b := decide (i57 < (l33.length : Int))) rfl (fun hc58 => ?_) (fun hc58 => ?_)
     ·
      have hp := cnd_t hc58 hp
      refine st_skip (fin_then (st_seq (st_block (st_seq (st_region [oF 0, oF 1, oF 2] (by rfl) ?_)))))
      obtain ⟨x59, hv60, hp⟩ := obind hp
      obtain ⟨m61, hm62, hx63⟩ := idx_some hv60
      have hl66 := (List.getElem?_eq_some_iff.1 hx63).1
      refine ops_fact (fun w_ hM => hM.orowSome 2 rfl (Nat.lt_of_le_of_lt (Nat.zero_le _) hl66)) ?_
      rintro ⟨g67, rfl, -⟩
      obtain ⟨vs64, hr65, hq68⟩ := h35.at_ m61 x59 hx63
      obtain rfl := hr65
      refine ops_val (op := (.indexAddr 26 (.tmp 59) (.tmp 61))) (d := some 63) (v := vP g67 (m61 * 1)) ⟨by kernel_rfl⟩ (run_indexRow Try.underlying26 (z := 1) (by kernel_rfl) rfl rfl hm62 hl66 rfl) ?_
      refine ops_mem (d := some 64) (an := [.v (vI x59)]) (evs := [.load ⟨g67, m61 * 1, none⟩ (vI x59)]) (v := vI x59) ⟨by kernel_rfl⟩ (fun w_ hM hS => ⟨w_, ⟨hM.ocell 2 rfl (hq68 0 _ rfl), rfl⟩, hM, trivial⟩) ?_
      refine oQ [oF 2] [(11, vI x59), (0, sl A_l l c_l), (3, sl (sa g11) l54 l1.length), (4, sl A22 l24 c23), (5, vI i27), (6, sl (sa g67) l33 c32), (59, sl (sa g67) l33 c32), (60, vI (l33.length : Int)), (61, vI i57)] (by kernel_rfl) ?_
      refine ops_nil (fin_then (st_region [oF 0, oF 1, oF 2, oF 3] (by rfl) ?_))
      refine oQ [oF 0, oF 1] [(66, vI x59), (65, sl (sa g11) l54 l1.length), (0, sl A_l l c_l), (3, sl (sa g11) l54 l1.length), (4, sl A22 l24 c23), (5, vI i27), (6, sl (sa g67) l33 c32), (59, sl (sa g67) l33 c32), (60, vI (l33.length : Int)), (61, vI i57)] (by kernel_rfl) ?_
      obtain ⟨x69, hv70, hp⟩ := obind hp
      obtain ⟨m71, hm72, hx73⟩ := idx_some hv70
      have hl76 := (List.getElem?_eq_some_iff.1 hx73).1
      obtain ⟨vs74, hr75, hq77⟩ := h56.at_ m71 x69 hx73
      obtain rfl := hr75
      refine ops_val (op := (.indexAddr 100 (.tmp 65) (.tmp 66))) (d := some 67) (v := vP g11 (m71 * 1)) ⟨by kernel_rfl⟩ (run_indexRow Try.underlying100 (z := 1) (by kernel_rfl) rfl rfl hm72 hl76 rfl) ?_
      refine oQ [] [(67, vP g11 (m71 * 1)), (0, sl A_l l c_l), (3, sl (sa g11) l54 l1.length), (4, sl A22 l24 c23), (5, vI i27), (6, sl (sa g67) l33 c32), (59, sl (sa g67) l33 c32), (60, vI (l33.length : Int)), (61, vI i57)] (by kernel_rfl) ?_
      obtain ⟨l78, hv79, hp⟩ := obind hp
      obtain ⟨m80, hm81, hl82, he83⟩ := upd_some hv79
      obtain rfl : m71 = m80 := by have := hm72; omega
      have hl84 : l54.length = l78.length := by rw [he83, List.length_set]
      obtain ⟨y85, hy86⟩ : ∃ y_, setAll y55 (m71 * 1 + 0) [.bool true] = y_ := ⟨_, rfl⟩
      have h87 : RepL Rep.bool F28 W29 l78 y85 := by rw [he83, ← hy86]; exact RepL.set h56 (List.getElem?_eq_getElem hl82) (fun vs_ hr_ _ => by obtain rfl := hr_; exact ⟨rfl, Nat.le_of_ble_eq_true rfl⟩)
      refine ops_store (an := []) (evs := [.store ⟨g11, m71 * 1, none⟩ (.bool true)]) ⟨by kernel_rfl⟩ (fun w_ hM hS => let ⟨w', he, h'⟩ := hM.ostore' 0 rfl (m71 * 1 + 0) [.bool true] (by have z_ : y55.length = l54.length * 1 := h56.len; have y_ : (m71 + 1) * 1 ≤ l54.length * 1 := Nat.mul_le_mul_right _ hl82; rw [Nat.add_mul] at y_; simp only [List.length_cons, List.length_nil]; omega) hl84 hy86; ⟨w', he, h', trivial⟩) ?_
      refine ops_conv (l' := [(67, vP g11 (m71 * 1)), (0, sl A_l l c_l), (3, sl (sa g11) l78 l1.length), (4, sl A22 l24 c23), (5, vI i27), (6, sl (sa g67) l33 c32), (59, sl (sa g67) l33 c32), (60, vI (l33.length : Int)), (61, vI i57)]) (M' := Mem w0 (ow (sa g11) l78 l1.length 4 1 y85 :: ow A22 l24 c23 26 1 y25 :: ow (sa g67) l33 c32 3 1 y34 :: Fz F28 W29 :: cs)) (by first | rfl | ((try dsimp only [sl, ow]); rw [hl84])) (fun w_ hM => by first | exact hM | ((try dsimp only [sl, ow] at hM ⊢); rw [hl84] at hM; exact hM)) ?_
      refine ops_nil (fin_block (fin_then (st_region [oF 0, oF 1] (by rfl) ?_)))
      refine oQ [oF 0, oF 1] [(61, vI (IntKind.i64.wrap (i57 + 1))), (0, sl A_l l c_l), (3, sl (sa g11) l78 l1.length), (4, sl A22 l24 c23), (5, vI i27), (6, sl (sa g67) l33 c32), (59, sl (sa g67) l33 c32), (60, vI (l33.length : Int))] (by kernel_rfl) ?_
      refine ops_nil ?_
      exact fin_again (l78, IntKind.i64.wrap (i57 + 1)) y85 (Option.some.inj hp).symm h87 (look_has ⟨rfl, rfl, rfl, rfl, rfl, rfl, rfl, rfl, trivial⟩) (fun w_ hM => hM)
     ·
      have hp := cnd_f hc58 hp
      refine st_exit (fin_exit_then (fin_exit_then (fin_exit ?_)))
      obtain hq_ := Option.some.inj hp
      subst hq_
      obtain hq_ := hd5 _ rfl
      subst hq_
      have hp : (tourref3_Rounds_j4 l24 l33 i27) l54 = some o2 := hk5
      exact fin_join HJ4 (l54, y55) ⟨hp, h56⟩ (look_has ⟨rfl, rfl, rfl, rfl, rfl, trivial⟩) (fun w_ hM => hM)
   ·
    intro HJ3
    refine st_seq (st_seq (st_region [oF 0, oF 1, oF 2] (by rfl) ?_))
    refine oQ [oF 0, oF 1, oF 2] [(21, vI 0), (20, vI (l.length : Int)), (6, .slice none 0 0), (0, sl A_l l c_l), (3, sl (sa g11) l19 l1.length), (4, sl A22 l24 c23), (5, vI i27)] (by kernel_rfl) ?_
    refine ops_nil (fin_then (st_block ?_))
    refine st_conv (l' := [(21, vI 0), (20, vI (l.length : Int)), (6, .slice none 0 0), (0, sl A_l l c_l), (3, sl (sa g11) l19 l1.length), (4, sl A22 l24 c23), (5, vI i27)]) (M' := Mem w0 (ow none ([] : List Int) 0 3 1 [] :: ow (sa g11) l19 l1.length 4 1 y20 :: ow A22 l24 c23 26 1 y25 :: Fz F28 W29 :: cs)) rfl (fun w_ h => h.onil none 3 1) ?_
    obtain ⟨r6, hl6, hk6⟩ := obind hp
    refine st_loopP (σ := (List Int) × Int) (ρ := (List Int)) (γ := (Option Addr) × Nat × (List Value)) hl6 (none, 0, []) (fun s_ g_ => match s_, g_ with | (l91, i94), (A89, c90, y92) => [(0, sl A_l l c_l), (3, sl (sa g11) l19 l1.length), (4, sl A22 l24 c23), (5, vI i27), (6, sl A89 l91 c90), (20, vI (l.length : Int)), (21, vI i94)]) (fun s_ g_ => match s_, g_ with | (l91, i94), (A89, c90, y92) => Mem w0 (ow (sa g11) l19 l1.length 4 1 y20 :: ow A22 l24 c23 26 1 y25 :: ow A89 l91 c90 3 1 y92 :: Fz F28 W29 :: cs)) (fun s_ g_ => match s_, g_ with | (l91, i94), (A89, c90, y92) => (RepL (Rep.int .i64) F28 W29 l91 y92)) (RepL.nil (R := (Rep.int .i64))) (look_has ⟨rfl, rfl, rfl, rfl, rfl, rfl, rfl, trivial⟩) (fun w_ hM => hM.pick 4 [1, 2, 0, 3] (by kernel_rfl) (by decide) rfl) ?_
    rintro ⟨l91, i94⟩ ⟨A89, c90, y92⟩ o6 h93 hs_ hd6
    have hp : (tourref3_Rounds_l6 l l19) l91 i94 = some o6 := hs_
    clear hs_
    unfold tourref3_Rounds_l6 at hp
    refine st_seq (st_region [oF 0] (by rfl) ?_)
    refine oQ [oF 0] [(22, .bool (decide (i94 < (l.length : Int)))), (0, sl A_l l c_l), (3, sl (sa g11) l19 l1.length), (4, sl A22 l24 c23), (5, vI i27), (6, sl A89 l91 c90), (20, vI (l.length : Int)), (21, vI i94)] (by kernel_rfl) ?_
    refine ops_nil (fin_then (st_seq ?_))
    refine st_if (b := decide (i94 < (l.length : Int))) rfl (fun hc95 => ?_) (fun hc95 => ?_)
    ·
     have hp := cnd_t hc95 hp
     refine st_skip (fin_then ?_)
     refine st_join1 (σ := (Option Addr) × Nat × (List Int) × (List Value)) (L := fun x_ => match x_ with | (A96, c97, l98, y99) => [(0, sl A_l l c_l), (3, sl (sa g11) l19 l1.length), (4, sl A22 l24 c23), (5, vI i27), (6, sl A96 l98 c97), (20, vI (l.length : Int)), (21, vI i94)]) (N := fun x_ => match x_ with | (A96, c97, l98, y99) => Mem w0 (ow (sa g11) l19 l1.length 4 1 y20 :: ow A22 l24 c23 26 1 y25 :: ow A96 l98 c97 3 1 y99 :: Fz F28 W29 :: cs)) (I := fun x_ => match x_ with | (A96, c97, l98, y99) => ((tourref3_Rounds_j7 i94) l98 = some o6) ∧ (RepL (Rep.int .i64) F28 W29 l98 y99)) ?_ ?_
     ·
      rintro ⟨A96, c97, l98, y99⟩ ⟨hp, h100⟩
      unfold tourref3_Rounds_j7 at hp
      refine st_region [oF 0, oF 1] (by rfl) ?_
      refine oQ [oF 0, oF 1] [(21, vI (IntKind.i64.wrap (i94 + 1))), (0, sl A_l l c_l), (3, sl (sa g11) l19 l1.length), (4, sl A22 l24 c23), (5, vI i27), (6, sl A96 l98 c97), (20, vI (l.length : Int))] (by kernel_rfl) ?_
      refine ops_nil ?_
      exact fin_again (l98, IntKind.i64.wrap (i94 + 1)) (A96, c97, y99) (Option.some.inj hp).symm h100 (look_has ⟨rfl, rfl, rfl, rfl, rfl, rfl, rfl, trivial⟩) (fun w_ hM => hM)
     ·
      intro HJ7
      refine st_seq (st_block (st_seq (st_region [oF 0, oF 1] (by rfl) ?_)))
      refine oQ [oF 0, oF 1] [(7, vI i94), (0, sl A_l l c_l), (3, sl (sa g11) l19 l1.length), (4, sl A22 l24 c23), (5, vI i27), (6, sl A89 l91 c90), (20, vI (l.length : Int)), (21, vI i94)] (by kernel_rfl) ?_
      refine ops_nil (fin_then (st_seq (st_region [oF 0, oF 1, oF 2, oF 3, oF 4, oF 5] (by rfl) ?_)))
      refine oQ [oF 0, oF 1] [(25, vI i94), (24, sl (sa g11) l19 l1.length), (7, vI i94), (0, sl A_l l c_l), (3, sl (sa g11) l19 l1.length), (4, sl A22 l24 c23), (5, vI i27), (6, sl A89 l91 c90), (20, vI (l.length : Int)), (21, vI i94)] (by kernel_rfl) ?_
      obtain ⟨x101, hv102, hp⟩ := obind hp
      obtain ⟨m103, hm104, hx105⟩ := idx_some hv102
      have hl108 := (List.getElem?_eq_some_iff.1 hx105).1
      obtain ⟨vs106, hr107, hq109⟩ := h21.at_ m103 x101 hx105
      obtain rfl := hr107
      refine ops_val (op := (.indexAddr 100 (.tmp 24) (.tmp 25))) (d := some 26) (v := vP g11 (m103 * 1)) ⟨by kernel_rfl⟩ (run_indexRow Try.underlying100 (z := 1) (by kernel_rfl) rfl rfl hm104 hl108 rfl) ?_
      refine ops_mem (d := some 27) (an := [.v (.bool x101)]) (evs := [.load ⟨g11, m103 * 1, none⟩ (.bool x101)]) (v := .bool x101) ⟨by kernel_rfl⟩ (fun w_ hM hS => ⟨w_, ⟨hM.ocell 0 rfl (hq109 0 _ rfl), rfl⟩, hM, trivial⟩) ?_
      refine oQ [oF 4, oF 5] [(8, .bool (!x101)), (7, vI i94), (0, sl A_l l c_l), (3, sl (sa g11) l19 l1.length), (4, sl A22 l24 c23), (5, vI i27), (6, sl A89 l91 c90), (20, vI (l.length : Int)), (21, vI i94)] (by kernel_rfl) ?_
      refine ops_nil (fin_then ?_)
      refine st_join1 (σ := Bool) (L := fun x_ => match x_ with | t110 => [(0, sl A_l l c_l), (3, sl (sa g11) l19 l1.length), (4, sl A22 l24 c23), (5, vI i27), (6, sl A89 l91 c90), (7, vI i94), (8, .bool t110), (20, vI (l.length : Int)), (21, vI i94)]) (N := fun x_ => match x_ with | t110 => Mem w0 (ow (sa g11) l19 l1.length 4 1 y20 :: ow A22 l24 c23 26 1 y25 :: ow A89 l91 c90 3 1 y92 :: Fz F28 W29 :: cs)) (I := fun x_ => match x_ with | t110 => ((tourref3_Rounds_j8 l91 i94) t110 = some o6)) ?_ ?_
      ·
       rintro t110 hp
       unfold tourref3_Rounds_j8 at hp
       refine st_seq (st_region [oF 0] (by rfl) ?_)
       refine oQ [oF 0] [(53, .bool t110), (0, sl A_l l c_l), (3, sl (sa g11) l19 l1.length), (4, sl A22 l24 c23), (5, vI i27), (6, sl A89 l91 c90), (7, vI i94), (20, vI (l.length : Int)), (21, vI i94)] (by kernel_rfl) ?_
       refine ops_nil (fin_then ?_)
       refine st_if (b := t110) rfl (fun hc111 => ?_) (fun hc111 => ?_)
       ·
        have hp := cnd_t hc111 hp
        refine st_region [oF 0, oF 1, oF 2, oF 3, oF 4] (by rfl) ?_
        refine oQ [oF 0, oF 1] [(55, vI i94), (54, sl A89 l91 c90), (0, sl A_l l c_l), (3, sl (sa g11) l19 l1.length), (4, sl A22 l24 c23), (5, vI i27), (6, sl A89 l91 c90), (20, vI (l.length : Int)), (21, vI i94)] (by kernel_rfl) ?_
        have h112 : RepL (Rep.int .i64) F28 W29 ([i94] : List Int) ([vI i94]) := (RepL.cons (R := (Rep.int .i64)) (F := F28) (w := W29) (vs := [vI i94]) (ys := []) rfl RepL.nil)
        refine ops_new (d := some 56) (o := .cells ([vI i94]).toArray 3) (v := fun g113 => .slice (sa g113) ([i94] : List Int).length 1) (M' := fun g113 => Mem w0 (orow (sa g113) ([i94] : List Int).length 1 3 1 ([vI i94]) :: ow (sa g11) l19 l1.length 4 1 y20 :: ow A22 l24 c23 26 1 y25 :: ow A89 l91 c90 3 1 y92 :: Fz F28 W29 :: cs)) (fun g113 => ⟨by kernel_rfl⟩) (fun w_ hM hS => ⟨hM.onew [vI i94] 3 1 1 rfl (by decide), trivial⟩) (fun g113 => ?_)
        obtain ⟨l114, hv115, hp⟩ := obind hp
        obtain ⟨he116, hb117⟩ := app_some hv115
        obtain ⟨y118, hy119⟩ : ∃ y_, y92 ++ ([vI i94]) = y_ := ⟨_, rfl⟩
        have h120 : RepL (Rep.int .i64) F28 W29 l114 y118 := by rw [he116, ← hy119]; exact RepL.app h93 h112
        refine ops_appendO (x := (Go.Operand.tmp 54)) (y := (Go.Operand.tmp 56)) (t := 26) (e := 3) (d := some 57) (n' := l114.length) (z := 1) (m := ([i94] : List Int).length) (bytes := 8) (xs' := y118) (news := ([vI i94])) (zv := vI 0) 3 ⟨by kernel_rfl⟩ rfl rfl Try.underlying26 (by kernel_rfl) (by rfl) rfl (fun w_ hM => hM.srcO 0 rfl) h112.len h112.one hb117 (by have z_ := congrArg List.length he116; rw [List.length_append] at z_; exact z_.symm) hy119 (fun _ _ _ _ hS h' => trivial) ?_
        rintro ⟨A121, c122⟩
        refine oQ [oF 4] [(6, sl A121 l114 c122), (0, sl A_l l c_l), (3, sl (sa g11) l19 l1.length), (4, sl A22 l24 c23), (5, vI i27), (20, vI (l.length : Int)), (21, vI i94)] (by kernel_rfl) ?_
        refine ops_nil (fin_block ?_)
        exact fin_join HJ7 (A121, c122, l114, y118) ⟨hp, h120⟩ (look_has ⟨rfl, rfl, rfl, rfl, rfl, rfl, rfl, trivial⟩) (fun w_ hM => hM.pick 5 [1, 2, 3, 4] (by kernel_rfl) (by decide) rfl)
       ·
        have hp := cnd_f hc111 hp
        refine st_skip (fin_block ?_)
        exact fin_join HJ7 (A89, c90, l91, y92) ⟨hp, h93⟩ (look_has ⟨rfl, rfl, rfl, rfl, rfl, rfl, rfl, trivial⟩) (fun w_ hM => hM)
      ·
       intro HJ8
       refine st_seq (st_seq (st_region [oF 0, oF 1] (by rfl) ?_))
       refine oQ [oF 0, oF 1] [(30, vI 0), (29, vI i94), (8, .bool (!x101)), (7, vI i94), (0, sl A_l l c_l), (3, sl (sa g11) l19 l1.length), (4, sl A22 l24 c23), (5, vI i27), (6, sl A89 l91 c90), (20, vI (l.length : Int)), (21, vI i94)] (by kernel_rfl) ?_
       refine ops_nil (fin_then (st_block ?_))
       obtain ⟨r9, hl9, hk9⟩ := obind hp
       refine st_loopP (σ := Bool × Int) (ρ := Bool) (γ := Unit) hl9 () (fun s_ g_ => match s_, g_ with | (t123, i124), _ => [(0, sl A_l l c_l), (3, sl (sa g11) l19 l1.length), (4, sl A22 l24 c23), (5, vI i27), (6, sl A89 l91 c90), (7, vI i94), (8, .bool t123), (20, vI (l.length : Int)), (21, vI i94), (29, vI i94), (30, vI i124)]) (fun s_ g_ => match s_, g_ with | (t123, i124), _ => Mem w0 (ow (sa g11) l19 l1.length 4 1 y20 :: ow A22 l24 c23 26 1 y25 :: ow A89 l91 c90 3 1 y92 :: Fz F28 W29 :: cs)) (fun s_ g_ => match s_, g_ with | (t123, i124), _ => True) trivial (look_has ⟨rfl, rfl, rfl, rfl, rfl, rfl, rfl, rfl, rfl, rfl, rfl, trivial⟩) (fun w_ hM => hM) ?_
       rintro ⟨t123, i124⟩ _ o9 - hs_ hd9
       have hp : (tourref3_Rounds_l9 i94 l19 l) t123 i124 = some o9 := hs_
       clear hs_
       unfold tourref3_Rounds_l9 at hp
       refine st_seq (st_region [oF 0] (by rfl) ?_)
       refine oQ [oF 0] [(31, .bool (decide (i124 < i94))), (0, sl A_l l c_l), (3, sl (sa g11) l19 l1.length), (4, sl A22 l24 c23), (5, vI i27), (6, sl A89 l91 c90), (7, vI i94), (8, .bool t123), (20, vI (l.length : Int)), (21, vI i94), (29, vI i94), (30, vI i124)] (by kernel_rfl) ?_
       refine ops_nil (fin_then (st_seq ?_))
       refine st_if (b := decide (i124 < i94)) rfl (fun hc125 => ?_) (fun hc125 => ?_)
       ·
        have hp := cnd_t hc125 hp
        refine st_skip (fin_then ?_)
        refine st_join1 (σ := Bool) (L := fun x_ => match x_ with | t126 => [(0, sl A_l l c_l), (3, sl (sa g11) l19 l1.length), (4, sl A22 l24 c23), (5, vI i27), (6, sl A89 l91 c90), (7, vI i94), (8, .bool t126), (20, vI (l.length : Int)), (21, vI i94), (29, vI i94), (30, vI i124)]) (N := fun x_ => match x_ with | t126 => Mem w0 (ow (sa g11) l19 l1.length 4 1 y20 :: ow A22 l24 c23 26 1 y25 :: ow A89 l91 c90 3 1 y92 :: Fz F28 W29 :: cs)) (I := fun x_ => match x_ with | t126 => ((tourref3_Rounds_j10 i124) t126 = some o9)) ?_ ?_
        ·
         rintro t126 hp
         unfold tourref3_Rounds_j10 at hp
         refine st_region [oF 0, oF 1] (by rfl) ?_
         refine oQ [oF 0, oF 1] [(30, vI (IntKind.i64.wrap (i124 + 1))), (0, sl A_l l c_l), (3, sl (sa g11) l19 l1.length), (4, sl A22 l24 c23), (5, vI i27), (6, sl A89 l91 c90), (7, vI i94), (8, .bool t126), (20, vI (l.length : Int)), (21, vI i94), (29, vI i94)] (by kernel_rfl) ?_
         refine ops_nil ?_
         exact fin_again (t126, IntKind.i64.wrap (i124 + 1)) () (Option.some.inj hp).symm trivial (look_has ⟨rfl, rfl, rfl, rfl, rfl, rfl, rfl, rfl, rfl, rfl, rfl, trivial⟩) (fun w_ hM => hM)
        ·
         intro HJ10
         refine st_seq (st_block (st_seq (st_region [oF 0, oF 1] (by rfl) ?_)))
         refine oQ [oF 0, oF 1] [(9, vI i124), (0, sl A_l l c_l), (3, sl (sa g11) l19 l1.length), (4, sl A22 l24 c23), (5, vI i27), (6, sl A89 l91 c90), (7, vI i94), (8, .bool t123), (20, vI (l.length : Int)), (21, vI i94), (29, vI i94), (30, vI i124)] (by kernel_rfl) ?_
         refine ops_nil (fin_then ?_)
         refine st_region_fast tourref3_Rounds__t0 [oT 0, oT 1, oT 2, oT 3, oT 4, oT 5, oT 6, oT 7, oT 8, oT 9, oT 10, oT 11, oT 12, oT 13, oT 14, oF 15, oT 16, oT 17, oT 18, oT 19] (Mem w0 (ow (sa g11) l19 l1.length 4 1 y20 :: ow A22 l24 c23 26 1 y25 :: ow A89 l91 c90 3 1 y92 :: Fz F28 W29 :: cs)) (by kernel_rfl) (by kernel_rfl) (by kernel_rfl) (by kernel_rfl) (by kernel_rfl) (fun _ d _ _ _ h => by cases d <;> exact h) (M' := Mem w0 (ow (sa g11) l19 l1.length 4 1 y20 :: ow A22 l24 c23 26 1 y25 :: ow A89 l91 c90 3 1 y92 :: Fz F28 W29 :: cs)) (fun w_ hM => ⟨hM.drew, hM.drew.sub (.cons_cons _ (.cons_cons _ (.cons_cons _ (.cons_cons _ (.refl _)))))⟩) ?_
         refine oQ [oT 0, oT 1] [(34, .bool t123), (9, vI i124), (0, sl A_l l c_l), (3, sl (sa g11) l19 l1.length), (4, sl A22 l24 c23), (5, vI i27), (6, sl A89 l91 c90), (7, vI i94), (8, .bool t123), (20, vI (l.length : Int)), (21, vI i94), (29, vI i94), (30, vI i124)] (by kernel_rfl) ?_
         refine ops_bool (t := t123) (l1 := [(34, .bool true), (9, vI i124), (0, sl A_l l c_l), (3, sl (sa g11) l19 l1.length), (4, sl A22 l24 c23), (5, vI i27), (6, sl A89 l91 c90), (7, vI i94), (8, .bool true), (20, vI (l.length : Int)), (21, vI i94), (29, vI i94), (30, vI i124)]) (l2 := [(34, .bool false), (9, vI i124), (0, sl A_l l c_l), (3, sl (sa g11) l19 l1.length), (4, sl A22 l24 c23), (5, vI i27), (6, sl A89 l91 c90), (7, vI i94), (8, .bool false), (20, vI (l.length : Int)), (21, vI i94), (29, vI i94), (30, vI i124)]) (fun h => by rw [h]) (fun h => by rw [h]) (fun hc127 => ?_) (fun hc127 => ?_)
         ·
          have hp := cnd_t hc127 hp
          refine oQ [oT 2, oT 3] [(36, vI i124), (35, sl (sa g11) l19 l1.length), (34, .bool true), (9, vI i124), (0, sl A_l l c_l), (3, sl (sa g11) l19 l1.length), (4, sl A22 l24 c23), (5, vI i27), (6, sl A89 l91 c90), (7, vI i94), (8, .bool true), (20, vI (l.length : Int)), (21, vI i94), (29, vI i94), (30, vI i124)] (by kernel_rfl) ?_
          obtain ⟨x128, hv129, hp⟩ := obind hp
          obtain ⟨m130, hm131, hx132⟩ := idx_some hv129
          have hl135 := (List.getElem?_eq_some_iff.1 hx132).1
          obtain ⟨vs133, hr134, hq136⟩ := h21.at_ m130 x128 hx132
          obtain rfl := hr134
          refine ops_val (op := (.indexAddr 100 (.tmp 35) (.tmp 36))) (d := some 37) (v := vP g11 (m130 * 1)) ⟨by kernel_rfl⟩ (run_indexRow Try.underlying100 (z := 1) (by kernel_rfl) rfl rfl hm131 hl135 rfl) ?_
          refine ops_load (d := some 38) (an := [.v (.bool x128)]) (evs := [.load ⟨g11, m130 * 1, none⟩ (.bool x128)]) (v := .bool x128) ⟨by kernel_rfl⟩ (fun w_ hM => ⟨hM.ocell 0 rfl (hq136 0 _ rfl), rfl⟩) ?_
          refine oQ [oT 6] [(39, .bool x128), (34, .bool true), (9, vI i124), (0, sl A_l l c_l), (3, sl (sa g11) l19 l1.length), (4, sl A22 l24 c23), (5, vI i27), (6, sl A89 l91 c90), (7, vI i94), (8, .bool true), (20, vI (l.length : Int)), (21, vI i94), (29, vI i94), (30, vI i124)] (by kernel_rfl) ?_
          refine ops_bool (t := x128) (l1 := [(39, .bool true), (34, .bool true), (9, vI i124), (0, sl A_l l c_l), (3, sl (sa g11) l19 l1.length), (4, sl A22 l24 c23), (5, vI i27), (6, sl A89 l91 c90), (7, vI i94), (8, .bool true), (20, vI (l.length : Int)), (21, vI i94), (29, vI i94), (30, vI i124)]) (l2 := [(39, .bool false), (34, .bool true), (9, vI i124), (0, sl A_l l c_l), (3, sl (sa g11) l19 l1.length), (4, sl A22 l24 c23), (5, vI i27), (6, sl A89 l91 c90), (7, vI i94), (8, .bool true), (20, vI (l.length : Int)), (21, vI i94), (29, vI i94), (30, vI i124)]) (fun h => by rw [h]) (fun h => by rw [h]) (fun hc137 => ?_) (fun hc137 => ?_)
          ·
           have hp := cnd_t hc137 hp
           refine oQ [oT 7, oT 8, oT 9, oT 10, oT 11, oT 12, oT 13, oT 14, oF 15, oT 16, oT 17, oT 18, oT 19] [(8, .bool true), (0, sl A_l l c_l), (3, sl (sa g11) l19 l1.length), (4, sl A22 l24 c23), (5, vI i27), (6, sl A89 l91 c90), (7, vI i94), (20, vI (l.length : Int)), (21, vI i94), (29, vI i94), (30, vI i124)] (by kernel_rfl) ?_
           refine ops_nil (fin_block ?_)
           exact fin_join HJ10 true hp (look_has ⟨rfl, rfl, rfl, rfl, rfl, rfl, rfl, rfl, rfl, rfl, rfl, trivial⟩) (fun w_ hM => hM)
          ·
           have hp := cnd_f hc137 hp
           refine oQ [oT 7, oT 8] [(41, vI i124), (40, sl A_l l c_l), (39, .bool false), (34, .bool true), (0, sl A_l l c_l), (3, sl (sa g11) l19 l1.length), (4, sl A22 l24 c23), (5, vI i27), (6, sl A89 l91 c90), (7, vI i94), (8, .bool true), (20, vI (l.length : Int)), (21, vI i94), (29, vI i94), (30, vI i124)] (by kernel_rfl) ?_
           obtain ⟨x138, hv139, hp⟩ := obind hp
           obtain ⟨m140, hm141, hx142⟩ := idx_some hv139
           have hl145 := (List.getElem?_eq_some_iff.1 hx142).1
           obtain ⟨ad146, vs143, hA147, hr144, hq148⟩ := RdS.el h_l hx142
           obtain ⟨A149, c150, A152, c153, A155, c156, A158, c159, A161, c162, A164, c165, rfl, h151, h154, h157, h160, h163, h166⟩ := dec_api_System hr144
           refine ops_val (op := (.indexAddr 22 (.tmp 40) (.tmp 41))) (d := some 42) (v := .pointer (some (ad146.add (m140 * 7)))) ⟨by kernel_rfl⟩ (run_indexA hA147 Try.underlying22 (z := 7) (by kernel_rfl) rfl rfl hm141 hl145) ?_
           refine ops_load (d := some 43) (an := [.v (.string x138.Name), .v (sl A149 x138.With c150), .v (sl A152 x138.Without c153), .v (sl A155 x138.Reads c156), .v (sl A158 x138.Writes c159), .v (sl A161 x138.Ops c162), .v (sl A164 x138.Spawn c165)]) (evs := [.load (ad146.add (m140 * 7)) (.string x138.Name), .load ((ad146.add (m140 * 7)).add 1) (sl A149 x138.With c150), .load ((ad146.add (m140 * 7)).add 2) (sl A152 x138.Without c153), .load ((ad146.add (m140 * 7)).add 3) (sl A155 x138.Reads c156), .load ((ad146.add (m140 * 7)).add 4) (sl A158 x138.Writes c159), .load ((ad146.add (m140 * 7)).add 5) (sl A161 x138.Ops c162), .load ((ad146.add (m140 * 7)).add 6) (sl A164 x138.Spawn c165)]) (v := .agg #[.string x138.Name, sl A149 x138.With c150, sl A152 x138.Without c153, sl A155 x138.Reads c156, sl A158 x138.Writes c159, sl A161 x138.Ops c162, sl A164 x138.Spawn c165]) ⟨by kernel_rfl⟩ (fun w_ hM => ⟨hM.elcell 3 rfl hq148 0 rfl, hM.elcell 3 rfl hq148 1 rfl, hM.elcell 3 rfl hq148 2 rfl, hM.elcell 3 rfl hq148 3 rfl, hM.elcell 3 rfl hq148 4 rfl, hM.elcell 3 rfl hq148 5 rfl, hM.elcell 3 rfl hq148 6 rfl, rfl⟩) ?_
           refine oQ [oT 11, oT 12] [(45, vI i94), (44, sl A_l l c_l), (43, .agg #[.string x138.Name, sl A149 x138.With c150, sl A152 x138.Without c153, sl A155 x138.Reads c156, sl A158 x138.Writes c159, sl A161 x138.Ops c162, sl A164 x138.Spawn c165]), (39, .bool false), (34, .bool true), (0, sl A_l l c_l), (3, sl (sa g11) l19 l1.length), (4, sl A22 l24 c23), (5, vI i27), (6, sl A89 l91 c90), (7, vI i94), (8, .bool true), (20, vI (l.length : Int)), (21, vI i94), (29, vI i94), (30, vI i124)] (by kernel_rfl) ?_
           obtain ⟨x167, hv168, hp⟩ := obind hp
           obtain ⟨m169, hm170, hx171⟩ := idx_some hv168
           have hl174 := (List.getElem?_eq_some_iff.1 hx171).1
           obtain ⟨ad175, vs172, hA176, hr173, hq177⟩ := RdS.el h_l hx171
           obtain ⟨A178, c179, A181, c182, A184, c185, A187, c188, A190, c191, A193, c194, rfl, h180, h183, h186, h189, h192, h195⟩ := dec_api_System hr173
           refine ops_val (op := (.indexAddr 22 (.tmp 44) (.tmp 45))) (d := some 46) (v := .pointer (some (ad175.add (m169 * 7)))) ⟨by kernel_rfl⟩ (run_indexA hA176 Try.underlying22 (z := 7) (by kernel_rfl) rfl rfl hm170 hl174) ?_
           refine ops_load (d := some 47) (an := [.v (.string x167.Name), .v (sl A178 x167.With c179), .v (sl A181 x167.Without c182), .v (sl A184 x167.Reads c185), .v (sl A187 x167.Writes c188), .v (sl A190 x167.Ops c191), .v (sl A193 x167.Spawn c194)]) (evs := [.load (ad175.add (m169 * 7)) (.string x167.Name), .load ((ad175.add (m169 * 7)).add 1) (sl A178 x167.With c179), .load ((ad175.add (m169 * 7)).add 2) (sl A181 x167.Without c182), .load ((ad175.add (m169 * 7)).add 3) (sl A184 x167.Reads c185), .load ((ad175.add (m169 * 7)).add 4) (sl A187 x167.Writes c188), .load ((ad175.add (m169 * 7)).add 5) (sl A190 x167.Ops c191), .load ((ad175.add (m169 * 7)).add 6) (sl A193 x167.Spawn c194)]) (v := .agg #[.string x167.Name, sl A178 x167.With c179, sl A181 x167.Without c182, sl A184 x167.Reads c185, sl A187 x167.Writes c188, sl A190 x167.Ops c191, sl A193 x167.Spawn c194]) ⟨by kernel_rfl⟩ (fun w_ hM => ⟨hM.elcell 3 rfl hq177 0 rfl, hM.elcell 3 rfl hq177 1 rfl, hM.elcell 3 rfl hq177 2 rfl, hM.elcell 3 rfl hq177 3 rfl, hM.elcell 3 rfl hq177 4 rfl, hM.elcell 3 rfl hq177 5 rfl, hM.elcell 3 rfl hq177 6 rfl, rfl⟩) ?_
           obtain ⟨x196, hv197, hp⟩ := obind hp
           refine ops_callI (σ := Unit) (d := some 48) (f := 26) (args := #[.agg #[.string x138.Name, sl A149 x138.With c150, sl A152 x138.Without c153, sl A155 x138.Reads c156, sl A158 x138.Writes c159, sl A161 x138.Ops c162, sl A164 x138.Spawn c165], .agg #[.string x167.Name, sl A178 x167.With c179, sl A181 x167.Without c182, sl A184 x167.Reads c185, sl A187 x167.Writes c188, sl A190 x167.Ops c191, sl A193 x167.Spawn c194]]) (v := (fun _ => .bool x196)) (I := (fun _ => True)) (M' := (fun _ => Mem w0 (ow (sa g11) l19 l1.length 4 1 y20 :: ow A22 l24 c23 26 1 y25 :: ow A89 l91 c90 3 1 y92 :: Fz F28 W29 :: cs))) ⟨by kernel_rfl⟩ (fun w_ hM hS => (tourref3_Clash_ok w0 w_ (ow (sa g11) l19 l1.length 4 1 y20 :: ow A22 l24 c23 26 1 y25 :: ow A89 l91 c90 3 1 y92 :: cs) F28 W29 x138.Name A149 c150 x138.With A152 c153 x138.Without A155 c156 x138.Reads A158 c159 x138.Writes A161 c162 x138.Ops A164 c165 x138.Spawn x167.Name A178 c179 x167.With A181 c182 x167.Without A184 c185 x167.Reads A187 c188 x167.Writes A190 c191 x167.Ops A193 c194 x167.Spawn (hM.pick 4 [3, 0, 1, 2] (by kernel_rfl) (by decide) rfl) h151 h154 h157 h160 h163 h166 h180 h183 h186 h189 h192 h195 x196 hv197).mono (by rintro e w' ⟨-, rfl, h'⟩; have h' : Mem w0 (ow (sa g11) l19 l1.length 4 1 y20 :: ow A22 l24 c23 26 1 y25 :: ow A89 l91 c90 3 1 y92 :: Fz F28 W29 :: cs) w' := (h'.pick 4 [1, 2, 3, 0] (by kernel_rfl) (by decide) rfl); exact ⟨(), trivial, rfl, h', (by exact h'.sub (.cons_cons _ (.cons_cons _ (.cons_cons _ (.cons_cons _ (.refl _))))))⟩)) ?_
           rintro _ -
           refine oQ [oT 16, oT 17, oT 18, oT 19] [(8, .bool (!x196)), (0, sl A_l l c_l), (3, sl (sa g11) l19 l1.length), (4, sl A22 l24 c23), (5, vI i27), (6, sl A89 l91 c90), (7, vI i94), (20, vI (l.length : Int)), (21, vI i94), (29, vI i94), (30, vI i124)] (by kernel_rfl) ?_
           refine ops_nil (fin_block ?_)
           exact fin_join HJ10 (!x196) hp (look_has ⟨rfl, rfl, rfl, rfl, rfl, rfl, rfl, rfl, rfl, rfl, rfl, trivial⟩) (fun w_ hM => hM)
         ·
          have hp := cnd_f hc127 hp
          refine oQ [oT 2, oT 3, oT 4, oT 5, oT 6, oT 7, oT 8, oT 9, oT 10, oT 11, oT 12, oT 13, oT 14, oF 15, oT 16, oT 17, oT 18, oT 19] [(8, .bool false), (0, sl A_l l c_l), (3, sl (sa g11) l19 l1.length), (4, sl A22 l24 c23), (5, vI i27), (6, sl A89 l91 c90), (7, vI i94), (20, vI (l.length : Int)), (21, vI i94), (29, vI i94), (30, vI i124)] (by kernel_rfl) ?_
          refine ops_nil (fin_block ?_)
          exact fin_join HJ10 false hp (look_has ⟨rfl, rfl, rfl, rfl, rfl, rfl, rfl, rfl, rfl, rfl, rfl, trivial⟩) (fun w_ hM => hM)
       ·
        have hp := cnd_f hc125 hp
        refine st_exit (fin_exit_then (fin_exit_then (fin_exit ?_)))
        obtain hq_ := Option.some.inj hp
        subst hq_
        obtain hq_ := hd9 _ rfl
        subst hq_
        have hp : (tourref3_Rounds_j8 l91 i94) t123 = some o6 := hk9
        exact fin_join HJ8 t123 hp (look_has ⟨rfl, rfl, rfl, rfl, rfl, rfl, rfl, rfl, rfl, trivial⟩) (fun w_ hM => hM)
    ·
     have hp := cnd_f hc95 hp
     refine st_exit (fin_exit_then (fin_exit_then (fin_exit ?_)))
     obtain hq_ := Option.some.inj hp
     subst hq_
     obtain hq_ := hd6 _ rfl
     subst hq_
     have hp : (tourref3_Rounds_j3 l19 l24 i27) l91 = some o2 := hk6
     exact fin_join HJ3 (A89, c90, l91, y92) ⟨hp, h93⟩ (look_has ⟨rfl, rfl, rfl, rfl, rfl, trivial⟩) (fun w_ hM => hM)
  ·
   have hp := cnd_f hc30 hp
   refine st_exit (fin_exit_then (fin_exit_then (fin_exit ?_)))
   obtain hq_ := Option.some.inj hp
   subst hq_
   obtain hq_ := hd2 _ rfl
   subst hq_
   have hp : tourref3_Rounds_j1 l24 = some l9003 := hk2
   exact fin_join HJ1 (A22, c23, l24, y25, F28, W29) ⟨hp, h26, hx2⟩ (look_has ⟨rfl, trivial⟩) (fun w_ hM => hM.pick 3 [1, 2] (by kernel_rfl) (by decide) rfl)
theorem slices_Equal_int_int_ok (w0 w : World) (cs : List Chunk) (F : Nat → Prop) (W : World) (A_s1 : Option Addr) (c_s1 : Nat) (s1_1 : List Int) (A_s2 : Option Addr) (c_s2 : Nat) (s2_1 : List Int) (hM0 : Mem w0 (Fz F W :: cs) w) (h_s1 : RdS (Rep.int .i64) F W A_s1 c_s1 s1_1) (h_s2 : RdS (Rep.int .i64) F W A_s2 c_s2 s2_1) (t9001 : Bool) (hp : slices_Equal_int_int s1_1 s2_1 = some t9001) : Calls Try.prog 22 #[sl A_s1 s1_1 c_s1, sl A_s2 s2_1 c_s2] w fun e w' => (True) ∧ e = .returned (.bool t9001) ∧ Mem w0 (Fz F W :: cs) w' := by
 unfold slices_Equal_int_int at hp
 refine sx_calls Try.func22 rfl (n := 26) (by kernel_rfl) (l := [(0, sl A_s1 s1_1 c_s1), (1, sl A_s2 s2_1 c_s2)]) rfl (by rfl) hM0 ?_
 refine st_seq (st_region [oF 0] (by rfl) ?_)
 refine oQ [oF 0] [(0, sl A_s1 s1_1 c_s1), (1, sl A_s2 s2_1 c_s2)] (by kernel_rfl) ?_
 refine ops_nil (fin_then (st_seq (st_seq (st_region [oF 0, oF 1, oF 2, oF 3, oF 4] (by rfl) ?_))))
 refine oQ [oF 0, oF 1, oF 2, oF 3, oF 4] [(10, .bool (!((s1_1.length : Int) == (s2_1.length : Int)))), (0, sl A_s1 s1_1 c_s1), (1, sl A_s2 s2_1 c_s2)] (by kernel_rfl) ?_
 refine ops_nil (fin_then ?_)
 refine st_if (b := !((s1_1.length : Int) == (s2_1.length : Int))) rfl (fun hc1 => ?_) (fun hc1 => ?_)
 ·
  have hp := cnd_t hc1 hp
  refine st_seq (st_region [oF 0] (by rfl) ?_)
  refine oQ [oF 0] [(4, .bool false)] (by kernel_rfl) ?_
  refine ops_nil (fin_then (st_ret (fin_ret_then ?_)))
  have hq_ := Option.some.inj hp
  have hr0_ := hq_
  subst hr0_
  refine fin_ret [.tmp 4] [.bool false] rfl rfl (fun w_ hM => (.tmp rfl .nil)) (fun w_ hM => ?_)
  exact ⟨trivial, rfl, hM⟩
 ·
  have hp := cnd_f hc1 hp
  refine st_skip (fin_then ?_)
  refine st_join1 (σ := Unit) (L := fun _ => []) (N := fun _ => Mem w0 (Fz F W :: cs)) (I := fun _ => (slices_Equal_int_int_j1 = some t9001)) ?_ ?_
  ·
   rintro _ hp
   unfold slices_Equal_int_int_j1 at hp
   refine st_seq (st_region [oF 0] (by rfl) ?_)
   refine oQ [oF 0] [(4, .bool true)] (by kernel_rfl) ?_
   refine ops_nil (fin_then (st_ret ?_))
   have hq_ := Option.some.inj hp
   have hr0_ := hq_
   subst hr0_
   refine fin_ret [.tmp 4] [.bool true] rfl rfl (fun w_ hM => (.tmp rfl .nil)) (fun w_ hM => ?_)
   exact ⟨trivial, rfl, hM⟩
  ·
   intro HJ1
   refine st_seq (st_seq (st_region [oF 0, oF 1, oF 2] (by rfl) ?_))
   refine oQ [oF 0, oF 1, oF 2] [(13, vI 0), (12, vI (s1_1.length : Int)), (0, sl A_s1 s1_1 c_s1), (1, sl A_s2 s2_1 c_s2)] (by kernel_rfl) ?_
   refine ops_nil (fin_then (st_block ?_))
   obtain ⟨r2, hl2, hk2⟩ := obind hp
   refine st_loopP (σ := Int) (ρ := (Bool ⊕ Unit)) (γ := Unit) hl2 () (fun s_ g_ => match s_, g_ with | i2, _ => [(0, sl A_s1 s1_1 c_s1), (1, sl A_s2 s2_1 c_s2), (12, vI (s1_1.length : Int)), (13, vI i2)]) (fun s_ g_ => match s_, g_ with | i2, _ => Mem w0 (Fz F W :: cs)) (fun s_ g_ => match s_, g_ with | i2, _ => True) trivial (look_has ⟨rfl, rfl, rfl, rfl, trivial⟩) (fun w_ hM => hM) ?_
   rintro i2 _ o2 - hs_ hd2
   have hp : (slices_Equal_int_int_l2 s1_1 s2_1) i2 = some o2 := hs_
   clear hs_
   unfold slices_Equal_int_int_l2 at hp
   refine st_seq (st_region [oF 0] (by rfl) ?_)
   refine oQ [oF 0] [(14, .bool (decide (i2 < (s1_1.length : Int)))), (0, sl A_s1 s1_1 c_s1), (1, sl A_s2 s2_1 c_s2), (12, vI (s1_1.length : Int)), (13, vI i2)] (by kernel_rfl) ?_
   refine ops_nil (fin_then (st_seq ?_))
   refine st_if (b := decide (i2 < (s1_1.length : Int))) rfl (fun hc3 => ?_) (fun hc3 => ?_)
   ·
    have hp := cnd_t hc3 hp
    refine st_skip (fin_then (st_seq (st_block (st_seq (st_region [oF 0, oF 1] (by rfl) ?_)))))
    refine oQ [oF 0, oF 1] [(5, vI i2), (0, sl A_s1 s1_1 c_s1), (1, sl A_s2 s2_1 c_s2), (12, vI (s1_1.length : Int)), (13, vI i2)] (by kernel_rfl) ?_
    refine ops_nil (fin_then (st_seq ?_))
    refine st_region_draw [oT 0, oT 1, oT 2, oT 3, oT 4, oT 5, oT 6, oT 7, oT 8] (Mem w0 (Fz F W :: cs)) (by kernel_rfl) (by kernel_rfl) (by kernel_rfl) (fun _ d _ _ _ h => by cases d <;> exact h) (M' := Mem w0 (Fz F W :: cs)) (fun w_ hM => ⟨hM.drew, hM.drew.sub (.cons_cons _ (.refl _))⟩) ?_
    refine oQ [oT 0, oT 1] [(17, vI i2), (16, sl A_s1 s1_1 c_s1), (5, vI i2), (0, sl A_s1 s1_1 c_s1), (1, sl A_s2 s2_1 c_s2), (12, vI (s1_1.length : Int)), (13, vI i2)] (by kernel_rfl) ?_
    obtain ⟨x4, hv5, hp⟩ := obind hp
    obtain ⟨m6, hm7, hx8⟩ := idx_some hv5
    have hl11 := (List.getElem?_eq_some_iff.1 hx8).1
    obtain ⟨ad12, vs9, hA13, hr10, hq14⟩ := RdS.el h_s1 hx8
    obtain rfl := hr10
    refine ops_val (op := (.indexAddr 26 (.tmp 16) (.tmp 17))) (d := some 18) (v := .pointer (some (ad12.add (m6 * 1)))) ⟨by kernel_rfl⟩ (run_indexA hA13 Try.underlying26 (z := 1) (by kernel_rfl) rfl rfl hm7 hl11) ?_
    refine ops_load (d := some 19) (an := [.v (vI x4)]) (evs := [.load (ad12.add (m6 * 1)) (vI x4)]) (v := vI x4) ⟨by kernel_rfl⟩ (fun w_ hM => ⟨hM.elcell 0 rfl hq14 0 rfl, rfl⟩) ?_
    refine oQ [oT 4, oT 5] [(21, vI i2), (20, sl A_s2 s2_1 c_s2), (19, vI x4), (0, sl A_s1 s1_1 c_s1), (1, sl A_s2 s2_1 c_s2), (12, vI (s1_1.length : Int)), (13, vI i2)] (by kernel_rfl) ?_
    obtain ⟨x15, hv16, hp⟩ := obind hp
    obtain ⟨m17, hm18, hx19⟩ := idx_some hv16
    have hl22 := (List.getElem?_eq_some_iff.1 hx19).1
    obtain ⟨ad23, vs20, hA24, hr21, hq25⟩ := RdS.el h_s2 hx19
    obtain rfl := hr21
    refine ops_val (op := (.indexAddr 26 (.tmp 20) (.tmp 21))) (d := some 22) (v := .pointer (some (ad23.add (m17 * 1)))) ⟨by kernel_rfl⟩ (run_indexA hA24 Try.underlying26 (z := 1) (by kernel_rfl) rfl rfl hm18 hl22) ?_
    refine ops_load (d := some 23) (an := [.v (vI x15)]) (evs := [.load (ad23.add (m17 * 1)) (vI x15)]) (v := vI x15) ⟨by kernel_rfl⟩ (fun w_ hM => ⟨hM.elcell 0 rfl hq25 0 rfl, rfl⟩) ?_
    refine oQ [oT 8] [(24, .bool (!(x4 == x15))), (0, sl A_s1 s1_1 c_s1), (1, sl A_s2 s2_1 c_s2), (12, vI (s1_1.length : Int)), (13, vI i2)] (by kernel_rfl) ?_
    refine ops_nil (fin_then ?_)
    refine st_if (b := !(x4 == x15)) rfl (fun hc26 => ?_) (fun hc26 => ?_)
    ·
     have hp := cnd_t hc26 hp
     refine st_seq (st_region [oF 0] (by rfl) ?_)
     refine oQ [oF 0] [(4, .bool false)] (by kernel_rfl) ?_
     refine ops_nil (fin_then (st_ret (fin_ret_block (fin_ret_then (fin_ret_then (fin_ret_block (fin_ret_then ?_)))))))
     obtain hq_ := Option.some.inj hp
     subst hq_
     obtain hq_ := hd2 _ rfl
     subst hq_
     have hp : some false = some t9001 := hk2
     have hq_ := Option.some.inj hp
     have hr0_ := hq_
     subst hr0_
     refine fin_ret [.tmp 4] [.bool false] rfl rfl (fun w_ hM => (.tmp rfl .nil)) (fun w_ hM => ?_)
     exact ⟨trivial, rfl, hM⟩
    ·
     have hp := cnd_f hc26 hp
     refine st_skip (fin_block (fin_then (st_region [oF 0, oF 1] (by rfl) ?_)))
     refine oQ [oF 0, oF 1] [(13, vI (IntKind.i64.wrap (i2 + 1))), (0, sl A_s1 s1_1 c_s1), (1, sl A_s2 s2_1 c_s2), (12, vI (s1_1.length : Int))] (by kernel_rfl) ?_
     refine ops_nil ?_
     exact fin_again (IntKind.i64.wrap (i2 + 1)) () (Option.some.inj hp).symm trivial (look_has ⟨rfl, rfl, rfl, rfl, trivial⟩) (fun w_ hM => hM)
   ·
    have hp := cnd_f hc3 hp
    refine st_exit (fin_exit_then (fin_exit_then (fin_exit ?_)))
    obtain hq_ := Option.some.inj hp
    subst hq_
    obtain hq_ := hd2 _ rfl
    subst hq_
    have hp : slices_Equal_int_int_j1 = some t9001 := hk2
    exact fin_join HJ1 () hp (look_has trivial) (fun w_ hM => hM)
theorem slices_EqualFunc_int_int_int_int_ok (w0 w : World) (cs : List Chunk) (F : Nat → Prop) (W : World) (A_s1 : Option Addr) (c_s1 : Nat) (s1_1 : List (List Int)) (A_s2 : Option Addr) (c_s2 : Nat) (s2_1 : List (List Int)) (hM0 : Mem w0 (Fz F W :: cs) w) (h_s1 : RdS (Rep.sl (Rep.int .i64)) F W A_s1 c_s1 s1_1) (h_s2 : RdS (Rep.sl (Rep.int .i64)) F W A_s2 c_s2 s2_1) (t9001 : Bool) (hp : slices_EqualFunc_int_int_int_int s1_1 s2_1 = some t9001) : Calls Try.prog 27 #[sl A_s1 s1_1 c_s1, sl A_s2 s2_1 c_s2, .func (.func 22) #[] #[]] w fun e w' => (True) ∧ e = .returned (.bool t9001) ∧ Mem w0 (Fz F W :: cs) w' := by
 unfold slices_EqualFunc_int_int_int_int at hp
 refine sx_calls Try.func27 rfl (n := 32) (by kernel_rfl) (l := [(0, sl A_s1 s1_1 c_s1), (1, sl A_s2 s2_1 c_s2), (2, .func (.func 22) #[] #[])]) rfl (by rfl) hM0 ?_
 refine st_seq (st_region [oF 0] (by rfl) ?_)
 refine oQ [oF 0] [(0, sl A_s1 s1_1 c_s1), (1, sl A_s2 s2_1 c_s2), (2, .func (.func 22) #[] #[])] (by kernel_rfl) ?_
 refine ops_nil (fin_then (st_seq (st_seq (st_region [oF 0, oF 1, oF 2, oF 3, oF 4] (by rfl) ?_))))
 refine oQ [oF 0, oF 1, oF 2, oF 3, oF 4] [(14, .bool (!((s1_1.length : Int) == (s2_1.length : Int)))), (0, sl A_s1 s1_1 c_s1), (1, sl A_s2 s2_1 c_s2), (2, .func (.func 22) #[] #[])] (by kernel_rfl) ?_
 refine ops_nil (fin_then ?_)
 refine st_if (b := !((s1_1.length : Int) == (s2_1.length : Int))) rfl (fun hc1 => ?_) (fun hc1 => ?_)
 ·
  have hp := cnd_t hc1 hp
  refine st_seq (st_region [oF 0] (by rfl) ?_)
  refine oQ [oF 0] [(6, .bool false)] (by kernel_rfl) ?_
  refine ops_nil (fin_then (st_ret (fin_ret_then ?_)))
  have hq_ := Option.some.inj hp
  have hr0_ := hq_
  subst hr0_
  refine fin_ret [.tmp 6] [.bool false] rfl rfl (fun w_ hM => (.tmp rfl .nil)) (fun w_ hM => ?_)
  exact ⟨trivial, rfl, hM⟩
 ·
  have hp := cnd_f hc1 hp
  refine st_skip (fin_then ?_)
  refine st_join1 (σ := Unit) (L := fun _ => []) (N := fun _ => Mem w0 (Fz F W :: cs)) (I := fun _ => (slices_EqualFunc_int_int_int_int_j1 = some t9001)) ?_ ?_
  ·
   rintro _ hp
   unfold slices_EqualFunc_int_int_int_int_j1 at hp
   refine st_seq (st_region [oF 0] (by rfl) ?_)
   refine oQ [oF 0] [(6, .bool true)] (by kernel_rfl) ?_
   refine ops_nil (fin_then (st_ret ?_))
   have hq_ := Option.some.inj hp
   have hr0_ := hq_
   subst hr0_
   refine fin_ret [.tmp 6] [.bool true] rfl rfl (fun w_ hM => (.tmp rfl .nil)) (fun w_ hM => ?_)
   exact ⟨trivial, rfl, hM⟩
  ·
   intro HJ1
   refine st_seq (st_seq (st_region [oF 0, oF 1, oF 2] (by rfl) ?_))
   refine oQ [oF 0, oF 1, oF 2] [(17, vI 0), (16, vI (s1_1.length : Int)), (15, sl A_s1 s1_1 c_s1), (1, sl A_s2 s2_1 c_s2), (2, .func (.func 22) #[] #[])] (by kernel_rfl) ?_
   refine ops_nil (fin_then (st_block ?_))
   obtain ⟨r2, hl2, hk2⟩ := obind hp
   refine st_loopP (σ := Int) (ρ := (Bool ⊕ Unit)) (γ := Unit) hl2 () (fun s_ g_ => match s_, g_ with | i2, _ => [(1, sl A_s2 s2_1 c_s2), (2, .func (.func 22) #[] #[]), (15, sl A_s1 s1_1 c_s1), (16, vI (s1_1.length : Int)), (17, vI i2)]) (fun s_ g_ => match s_, g_ with | i2, _ => Mem w0 (Fz F W :: cs)) (fun s_ g_ => match s_, g_ with | i2, _ => True) trivial (look_has ⟨rfl, rfl, rfl, rfl, rfl, trivial⟩) (fun w_ hM => hM) ?_
   rintro i2 _ o2 - hs_ hd2
   have hp : (slices_EqualFunc_int_int_int_int_l2 s1_1 s2_1) i2 = some o2 := hs_
   clear hs_
   unfold slices_EqualFunc_int_int_int_int_l2 at hp
   refine st_seq (st_region [oF 0] (by rfl) ?_)
   refine oQ [oF 0] [(18, .bool (decide (i2 < (s1_1.length : Int)))), (1, sl A_s2 s2_1 c_s2), (2, .func (.func 22) #[] #[]), (15, sl A_s1 s1_1 c_s1), (16, vI (s1_1.length : Int)), (17, vI i2)] (by kernel_rfl) ?_
   refine ops_nil (fin_then (st_seq ?_))
   refine st_if (b := decide (i2 < (s1_1.length : Int))) rfl (fun hc3 => ?_) (fun hc3 => ?_)
   ·
    have hp := cnd_t hc3 hp
    refine st_skip (fin_then (st_seq (st_block (st_seq (st_region [oF 0, oF 1, oF 2, oF 3, oF 4] (by rfl) ?_)))))
    refine oQ [oF 0] [(19, vI i2), (1, sl A_s2 s2_1 c_s2), (2, .func (.func 22) #[] #[]), (15, sl A_s1 s1_1 c_s1), (16, vI (s1_1.length : Int)), (17, vI i2)] (by kernel_rfl) ?_
    obtain ⟨x4, hv5, hp⟩ := obind hp
    obtain ⟨m6, hm7, hx8⟩ := idx_some hv5
    have hl11 := (List.getElem?_eq_some_iff.1 hx8).1
    obtain ⟨ad12, vs9, hA13, hr10, hq14⟩ := RdS.el h_s1 hx8
    obtain ⟨A15, c16, rfl, h17⟩ := hr10
    refine ops_val (op := (.indexAddr 23 (.tmp 15) (.tmp 17))) (d := some 20) (v := .pointer (some (ad12.add (m6 * 1)))) ⟨by kernel_rfl⟩ (run_indexA hA13 Try.underlying23 (z := 1) (by kernel_rfl) rfl rfl hm7 hl11) ?_
    refine ops_mem (d := some 21) (an := [.v (sl A15 x4 c16)]) (evs := [.load (ad12.add (m6 * 1)) (sl A15 x4 c16)]) (v := sl A15 x4 c16) ⟨by kernel_rfl⟩ (fun w_ hM hS => ⟨w_, ⟨hM.elcell 0 rfl hq14 0 rfl, rfl⟩, hM, trivial⟩) ?_
    refine oQ [oF 3, oF 4] [(8, sl A15 x4 c16), (7, vI i2), (1, sl A_s2 s2_1 c_s2), (2, .func (.func 22) #[] #[]), (15, sl A_s1 s1_1 c_s1), (16, vI (s1_1.length : Int)), (17, vI i2)] (by kernel_rfl) ?_
    refine ops_nil (fin_then (st_seq (st_region [oF 0, oF 1, oF 2, oF 3, oF 4] (by rfl) ?_)))
    refine oQ [oF 0, oF 1] [(23, vI i2), (22, sl A_s2 s2_1 c_s2), (8, sl A15 x4 c16), (1, sl A_s2 s2_1 c_s2), (2, .func (.func 22) #[] #[]), (15, sl A_s1 s1_1 c_s1), (16, vI (s1_1.length : Int)), (17, vI i2)] (by kernel_rfl) ?_
    obtain ⟨x18, hv19, hp⟩ := obind hp
    obtain ⟨m20, hm21, hx22⟩ := idx_some hv19
    have hl25 := (List.getElem?_eq_some_iff.1 hx22).1
    obtain ⟨ad26, vs23, hA27, hr24, hq28⟩ := RdS.el h_s2 hx22
    obtain ⟨A29, c30, rfl, h31⟩ := hr24
    refine ops_val (op := (.indexAddr 23 (.tmp 22) (.tmp 23))) (d := some 24) (v := .pointer (some (ad26.add (m20 * 1)))) ⟨by kernel_rfl⟩ (run_indexA hA27 Try.underlying23 (z := 1) (by kernel_rfl) rfl rfl hm21 hl25) ?_
    refine ops_mem (d := some 25) (an := [.v (sl A29 x18 c30)]) (evs := [.load (ad26.add (m20 * 1)) (sl A29 x18 c30)]) (v := sl A29 x18 c30) ⟨by kernel_rfl⟩ (fun w_ hM hS => ⟨w_, ⟨hM.elcell 0 rfl hq28 0 rfl, rfl⟩, hM, trivial⟩) ?_
    refine oQ [oF 4] [(9, sl A29 x18 c30), (8, sl A15 x4 c16), (1, sl A_s2 s2_1 c_s2), (2, .func (.func 22) #[] #[]), (15, sl A_s1 s1_1 c_s1), (16, vI (s1_1.length : Int)), (17, vI i2)] (by kernel_rfl) ?_
    refine ops_nil (fin_then (st_seq (st_region [oF 0, oF 1, oF 2, oF 3, oF 4] (by rfl) ?_)))
    refine oQ [oF 0, oF 1, oF 2] [(28, sl A29 x18 c30), (27, sl A15 x4 c16), (26, .func (.func 22) #[] #[]), (1, sl A_s2 s2_1 c_s2), (2, .func (.func 22) #[] #[]), (15, sl A_s1 s1_1 c_s1), (16, vI (s1_1.length : Int)), (17, vI i2)] (by kernel_rfl) ?_
    obtain ⟨x32, hv33, hp⟩ := obind hp
    refine ops_callI (σ := Unit) (d := some 29) (f := 22) (args := #[sl A15 x4 c16, sl A29 x18 c30]) (v := (fun _ => .bool x32)) (I := (fun _ => True)) (M' := (fun _ => Mem w0 (Fz F W :: cs))) ⟨by kernel_rfl⟩ (fun w_ hM hS => (slices_Equal_int_int_ok w0 w_ (cs) F W A15 c16 x4 A29 c30 x18 hM h17 h31 x32 hv33).mono (by rintro e w' ⟨-, rfl, h'⟩; have h' : Mem w0 (Fz F W :: cs) w' := h'; exact ⟨(), trivial, rfl, h', trivial⟩)) ?_
    rintro _ -
    refine oQ [oF 4] [(30, .bool (!x32)), (1, sl A_s2 s2_1 c_s2), (2, .func (.func 22) #[] #[]), (15, sl A_s1 s1_1 c_s1), (16, vI (s1_1.length : Int)), (17, vI i2)] (by kernel_rfl) ?_
    refine ops_nil (fin_then ?_)
    refine st_if (b := !x32) rfl (fun hc34 => ?_) (fun hc34 => ?_)
    ·
     have hp := cnd_t hc34 hp
     refine st_seq (st_region [oF 0] (by rfl) ?_)
     refine oQ [oF 0] [(6, .bool false)] (by kernel_rfl) ?_
     refine ops_nil (fin_then (st_ret (fin_ret_block (fin_ret_then (fin_ret_then (fin_ret_block (fin_ret_then ?_)))))))
     obtain hq_ := Option.some.inj hp
     subst hq_
     obtain hq_ := hd2 _ rfl
     subst hq_
     have hp : some false = some t9001 := hk2
     have hq_ := Option.some.inj hp
     have hr0_ := hq_
     subst hr0_
     refine fin_ret [.tmp 6] [.bool false] rfl rfl (fun w_ hM => (.tmp rfl .nil)) (fun w_ hM => ?_)
     exact ⟨trivial, rfl, hM⟩
    ·
     have hp := cnd_f hc34 hp
     refine st_skip (fin_block (fin_then (st_region [oF 0, oF 1] (by rfl) ?_)))
     refine oQ [oF 0, oF 1] [(17, vI (IntKind.i64.wrap (i2 + 1))), (1, sl A_s2 s2_1 c_s2), (2, .func (.func 22) #[] #[]), (15, sl A_s1 s1_1 c_s1), (16, vI (s1_1.length : Int))] (by kernel_rfl) ?_
     refine ops_nil ?_
     exact fin_again (IntKind.i64.wrap (i2 + 1)) () (Option.some.inj hp).symm trivial (look_has ⟨rfl, rfl, rfl, rfl, rfl, trivial⟩) (fun w_ hM => hM)
   ·
    have hp := cnd_f hc3 hp
    refine st_exit (fin_exit_then (fin_exit_then (fin_exit ?_)))
    obtain hq_ := Option.some.inj hp
    subst hq_
    obtain hq_ := hd2 _ rfl
    subst hq_
    have hp : slices_EqualFunc_int_int_int_int_j1 = some t9001 := hk2
    exact fin_join HJ1 () hp (look_has trivial) (fun w_ hM => hM)
end Go.Proofs.Ytnnhijlgohlaeaa.P
