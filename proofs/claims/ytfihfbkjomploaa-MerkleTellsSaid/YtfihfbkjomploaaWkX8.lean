/- The Go functions come to what the plain functions tell. No condition. -/
import Derived.Test.YtfihfbkjomploaaProg
import Derived.Test.YtfihfbkjomploaaFnX
namespace Go.Proofs.Ytfihfbkjomploaa.X
open Go Go.RowKit Go.Proofs.Ytfihfbkjomploaa.Sx
set_option linter.unusedVariables false
set_option maxHeartbeats 4000000 in
set_option maxRecDepth 100000 in
theorem slices_Clone_uint64_uint64_ok (w0 w : World) (cs : List Chunk) (F : Nat → Prop) (W : World) (A_s : Option Addr) (c_s : Nat) (s : List Int) (hM0 : Mem w0 (Fz F W :: cs) w) (h_s : RdS (Rep.int .u64) F W A_s c_s s) (l9003 : List Int) (hp : slices_Clone_uint64_uint64 s = some l9003) : Calls Try.prog 108 #[.slice A_s s.length c_s] w fun e w' => ∃ (A9001 : Option Addr), ∃ (c9002 : Nat), ∃ (y9004 : List Value), ((RepL (Rep.int .u64) F W l9003 y9004)) ∧ e = .returned (.slice A9001 l9003.length c9002) ∧ Mem w0 (orow A9001 l9003.length c9002 24 1 y9004 :: Fz F W :: cs) w' := by
 unfold slices_Clone_uint64_uint64 at hp
 refine sx_calls Try.func108 rfl (n := 8) (by kernel_rfl) (l := [(0, .slice A_s s.length c_s)]) rfl (by rfl) hM0 ?_
 refine st_seq ?_
 refine st_region [oF 0] (by rfl) ?_
 refine oR [oF 0] [(0, .slice A_s s.length c_s)] [0] (by kernel_rfl) ?_
 refine ops_nil ?_
 refine fin_then ?_
 refine st_seq ?_
 refine st_seq ?_
 refine st_region [oF 0, oF 1] (by rfl) ?_
 refine oR [oF 0] [(3, .slice A_s s.length c_s), (0, .slice A_s s.length c_s)] [3, 0] (by kernel_rfl) ?_
 have hz2 := fun e_ => RdS.len0 h_s e_
 rcases A_s with _ | ad1
 · --
  have hp : some ([] : List Int) = some l9003 := by rw [← hp, hz2 rfl]; simp [app]
  refine oR [oF 1] [(4, .bool true), (3, .slice none s.length c_s), (0, .slice none s.length c_s)] [4, 3, 0] (by kernel_rfl) ?_
  refine oR [] [(4, .bool true), (0, .slice none s.length c_s)] [4, 0] (by kernel_rfl) ?_
  refine ops_nil ?_
  refine fin_then ?_
  refine st_true rfl ?_
  refine st_seq ?_
  refine st_region [oF 0] (by rfl) ?_
  refine oR [oF 0] [(2, .slice none 0 0)] [2] (by kernel_rfl) ?_
  refine ops_nil ?_
  refine fin_then ?_
  refine st_ret ?_
  refine fin_ret_then ?_
  refine fin_conv (l' := [(2, .slice none 0 0)]) (M' := Mem w0 (orow none ([] : List Int).length 0 24 1 [] :: Fz F W :: cs)) rfl (fun w_ h => h.onil none 24 1) ?_
  refine fin_conv (l' := [(2, .slice none ([] : List Int).length 0)]) (M' := Mem w0 (orow none ([] : List Int).length 0 24 1 [] :: Fz F W :: cs)) rfl (fun _ h => h) ?_
  have hq_ := Option.some.inj hp
  have hr0_ := hq_
  subst hr0_
  refine fin_ret [.tmp 2] [.slice none ([] : List Int).length 0] rfl rfl (fun w_ hM => (.tmp rfl .nil)) (fun w_ hM => ?_)
  exact ⟨none, 0, [], (RepL.nil (R := (Rep.int .u64))), rfl, hM⟩
 · --
  clear hz2
  refine oR [oF 1] [(4, .bool false), (3, .slice (some ad1) s.length c_s), (0, .slice (some ad1) s.length c_s)] [4, 3, 0] (by kernel_rfl) ?_
  refine oR [] [(4, .bool false), (0, .slice (some ad1) s.length c_s)] [4, 0] (by kernel_rfl) ?_
  refine ops_nil ?_
  refine fin_then ?_
  refine st_false rfl ?_
  refine st_skip ?_
  refine fin_then ?_
  refine st_seq ?_
  refine st_region [oF 0, oF 1, oF 2, oF 3] (by rfl) ?_
  refine oR [] [(0, .slice (some ad1) s.length c_s)] [0] (by kernel_rfl) ?_
  have h3 : RepL (Rep.int .u64) F W ([] : List Int) ([]) := RepL.nil
  refine ops_new (d := some 5) (o := .cells ([]).toArray 24) (v := fun g4 => .slice (some ⟨g4, 0, none⟩) ([] : List Int).length 0) (M' := fun g4 => Mem w0 (orow (some ⟨g4, 0, none⟩) ([] : List Int).length 0 24 1 [] :: Fz F W :: cs)) (fun g4 => ⟨by kernel_rfl⟩) (fun w_ hM hS => ⟨hM.onew [] 24 0 1 rfl (by decide), trivial⟩) (fun g4 => ?_)
  refine oR [oF 1] [(6, .slice (some ad1) s.length c_s), (5, .slice (some ⟨g4, 0, none⟩) ([] : List Int).length 0)] [6, 5] (by kernel_rfl) ?_
  obtain ⟨l5, hv6, hp⟩ := obind hp
  obtain ⟨he7, hb8⟩ := app_some hv6
  obtain ⟨y12, h13, hs14⟩ := RdS.src h_s
  obtain ⟨y9, hy10⟩ : ∃ y_, [] ++ y12 = y_ := ⟨_, rfl⟩
  have h11 : RepL (Rep.int .u64) F W l5 y9 := by rw [he7, ← hy10]; exact RepL.app h3 h13
  refine ops_appendO (x := (Go.Operand.tmp 5)) (y := (Go.Operand.tmp 6)) (t := 63) (e := 24) (d := some 7) (n' := l5.length) (z := 1) (m := s.length) (bytes := 8) (xs' := y9) (news := y12) (zv := vU 0) 0 ⟨by kernel_rfl⟩ rfl rfl Try.underlying63 (by kernel_rfl) (by rfl) rfl (fun w_ hM => hM.srcS 1 rfl h13 hs14) h13.len h13.one hb8 (by have z_ := congrArg List.length he7; rw [List.length_append] at z_; exact z_.symm) hy10 (fun _ _ _ _ hS h' => trivial) ?_
  rintro ⟨A15, c16⟩
  refine ops_conv (l' := [(7, .slice A15 l5.length c16), (6, .slice (some ad1) s.length c_s), (5, .slice (some ⟨g4, 0, none⟩) ([] : List Int).length 0)]) (M' := Mem w0 (orow A15 l5.length c16 24 1 y9 :: Fz F W :: cs)) rfl (fun _ h => h) ?_
  refine oR [oF 3] [(2, .slice A15 l5.length c16)] [2] (by kernel_rfl) ?_
  refine ops_nil ?_
  refine fin_then ?_
  refine st_ret ?_
  have hq_ := Option.some.inj hp
  have hr0_ := hq_
  subst hr0_
  refine fin_ret [.tmp 2] [.slice A15 l5.length c16] rfl rfl (fun w_ hM => (.tmp rfl .nil)) (fun w_ hM => ?_)
  exact ⟨A15, c16, y9, h11, rfl, hM⟩
set_option maxHeartbeats 4000000 in
set_option maxRecDepth 100000 in
theorem tourref1_half_ok (w0 w : World) (cs : List Chunk) (F : Nat → Prop) (W : World) (n : Int) (hM0 : Mem w0 (Fz F W :: cs) w) (i9001 : Int) (hp : tourref1_half n = some i9001) : Calls Try.prog 109 #[vI n] w fun e w' => (True) ∧ e = .returned (vI i9001) ∧ Mem w0 (Fz F W :: cs) w' := by
 unfold tourref1_half at hp
 refine sx_calls Try.func109 rfl (n := 11) (by kernel_rfl) (l := [(0, vI n)]) rfl (by rfl) hM0 ?_
 refine st_seq ?_
 refine st_region [oF 0] (by rfl) ?_
 refine oR [oF 0] [(0, vI n)] [0] (by kernel_rfl) ?_
 refine ops_nil ?_
 refine fin_then ?_
 refine st_seq ?_
 refine st_region [oF 0] (by rfl) ?_
 refine oR [oF 0] [(3, vI 1), (0, vI n)] [3, 0] (by kernel_rfl) ?_
 refine ops_nil ?_
 refine fin_then ?_
 refine st_join1 (σ := Int) (L := fun x_ => match x_ with | i1 => [(3, vI i1)]) (N := fun x_ => match x_ with | i1 => Mem w0 (Fz F W :: cs)) (I := fun x_ => match x_ with | i1 => (tourref1_half_j1 i1 = some i9001)) ?_ ?_
 · --
  rintro i1 hp
  refine st_conv (l' := [(3, vI i1)]) (M' := Mem w0 (Fz F W :: cs)) rfl (fun _ h => h) ?_
  unfold tourref1_half_j1 at hp
  refine st_seq ?_
  refine st_region [oF 0, oF 1] (by rfl) ?_
  refine oR [oF 0, oF 1] [(2, vI i1)] [2] (by kernel_rfl) ?_
  refine ops_nil ?_
  refine fin_then ?_
  refine st_ret ?_
  have hq_ := Option.some.inj hp
  have hr0_ := hq_
  subst hr0_
  refine fin_ret [.tmp 2] [vI i1] rfl rfl (fun w_ hM => (.tmp rfl .nil)) (fun w_ hM => ?_)
  exact ⟨trivial, rfl, hM⟩
 · --
  intro HJ1
  refine st_seq ?_
  refine st_block ?_
  obtain ⟨r2, hl2, hk2⟩ := obind hp
  refine st_loopP (σ := Int) (ρ := Int) (γ := Unit) hl2 () (fun s_ g_ => match s_, g_ with | i2, _ => [(0, vI n), (3, vI i2)]) (fun s_ g_ => match s_, g_ with | i2, _ => Mem w0 (Fz F W :: cs)) (fun s_ g_ => match s_, g_ with | i2, _ => True) trivial (look_has ⟨rfl, rfl, trivial⟩) (fun w_ hM => hM) ?_
  rintro i2 _ o2 - hs_ hd2
  have hp : (tourref1_half_l2 n) i2 = some o2 := hs_
  clear hs_
  unfold tourref1_half_l2 at hp
  refine st_conv (l' := [(0, vI n), (3, vI i2)]) (M' := Mem w0 (Fz F W :: cs)) rfl (fun _ h => h) ?_
  refine st_seq ?_
  refine st_seq ?_
  refine st_region [oF 0, oF 1, oF 2, oF 3] (by rfl) ?_
  refine oR [oF 0, oF 1, oF 2, oF 3] [(7, .bool (decide (IntKind.i64.wrap (2 * i2) < n))), (0, vI n), (3, vI i2)] [7, 0, 3] (by kernel_rfl) ?_
  refine ops_nil ?_
  refine fin_then ?_
  refine st_if (b := decide (IntKind.i64.wrap (2 * i2) < n)) rfl (fun hc3 => ?_) (fun hc3 => ?_)
  · --
   have hp := cnd_t hc3 hp
   refine st_skip ?_
   refine fin_then ?_
   refine st_block ?_
   refine st_region [oF 0, oF 1, oF 2] (by rfl) ?_
   refine oR [oF 0, oF 1, oF 2] [(3, vI (IntKind.i64.wrap (i2 * 2))), (0, vI n)] [3, 0] (by kernel_rfl) ?_
   refine ops_nil ?_
   refine fin_block ?_
   exact fin_again (IntKind.i64.wrap (i2 * 2)) () (Option.some.inj hp).symm trivial (look_has ⟨rfl, rfl, trivial⟩) (fun w_ hM => hM)
  · --
   have hp := cnd_f hc3 hp
   refine st_exit ?_
   refine fin_exit_then ?_
   refine fin_exit_then ?_
   refine fin_exit ?_
   obtain hq_ := Option.some.inj hp
   subst hq_
   obtain hq_ := hd2 _ rfl
   subst hq_
   have hp : tourref1_half_j1 i2 = some i9001 := hk2
   exact fin_join HJ1 i2 hp (look_has ⟨rfl, trivial⟩) (fun w_ hM => hM)
set_option maxHeartbeats 4000000 in
set_option maxRecDepth 100000 in
theorem tourref1_Scrambled_ok (w0 w : World) (cs : List Chunk) (F : Nat → Prop) (W : World) (x : Int) (hM0 : Mem w0 (Fz F W :: cs) w) (i9001 : Int) (hp : tourref1_Scrambled x = some i9001) : Calls Try.prog 135 #[vU x] w fun e w' => (True) ∧ e = .returned (vU i9001) ∧ Mem w0 (Fz F W :: cs) w' := by
 unfold tourref1_Scrambled at hp
 refine sx_calls Try.func135 rfl (n := 27) (by kernel_rfl) (l := [(0, vU x)]) rfl (by rfl) hM0 ?_
 refine st_seq ?_
 refine st_region [oF 0] (by rfl) ?_
 refine oR [oF 0] [(0, vU x)] [0] (by kernel_rfl) ?_
 refine ops_nil ?_
 refine fin_then ?_
 refine st_join1 (σ := Int) (L := fun x_ => match x_ with | i1 => [(0, vU i1)]) (N := fun x_ => match x_ with | i1 => Mem w0 (Fz F W :: cs)) (I := fun x_ => match x_ with | i1 => (tourref1_Scrambled_j1 i1 = some i9001)) ?_ ?_
 · --
  rintro i1 hp
  refine st_conv (l' := [(0, vU i1)]) (M' := Mem w0 (Fz F W :: cs)) rfl (fun _ h => h) ?_
  unfold tourref1_Scrambled_j1 at hp
  refine st_seq ?_
  refine st_region [oF 0, oF 1] (by rfl) ?_
  refine oR [oF 0, oF 1] [(2, vU i1)] [2] (by kernel_rfl) ?_
  refine ops_nil ?_
  refine fin_then ?_
  refine st_ret ?_
  have hq_ := Option.some.inj hp
  have hr0_ := hq_
  subst hr0_
  refine fin_ret [.tmp 2] [vU i1] rfl rfl (fun w_ hM => (.tmp rfl .nil)) (fun w_ hM => ?_)
  exact ⟨trivial, rfl, hM⟩
 · --
  intro HJ1
  refine st_seq ?_
  refine st_seq ?_
  refine st_region [oF 0, oF 1, oF 2, oF 3, oF 4, oF 5] (by rfl) ?_
  refine oR [oF 0, oF 1, oF 2] [(7, .agg #[vU 30, vU 1]), (6, .agg #[vU 27, vU 13503953896175478587]), (5, .agg #[vU 31, vU 7640891576956012809]), (0, vU x)] [7, 6, 5, 0] (by kernel_rfl) ?_
  have h2 : RepL R_arr2_Intu64 F W ([(31, 7640891576956012809), (27, 13503953896175478587), (30, 1)] : List (Int × Int)) ([vU 31, vU 7640891576956012809, vU 27, vU 13503953896175478587, vU 30, vU 1]) := (RepL.cons (R := R_arr2_Intu64) (F := F) (w := W) (vs := [vU 31, vU 7640891576956012809]) (ys := [vU 27, vU 13503953896175478587, vU 30, vU 1]) (enc_arr2_Intu64) (RepL.cons (R := R_arr2_Intu64) (F := F) (w := W) (vs := [vU 27, vU 13503953896175478587]) (ys := [vU 30, vU 1]) (enc_arr2_Intu64) (RepL.cons (R := R_arr2_Intu64) (F := F) (w := W) (vs := [vU 30, vU 1]) (ys := []) (enc_arr2_Intu64) RepL.nil)))
  refine ops_new (d := some 8) (o := .cells ([vU 31, vU 7640891576956012809, vU 27, vU 13503953896175478587, vU 30, vU 1]).toArray 173) (v := fun g3 => .slice (some ⟨g3, 0, none⟩) ([(31, 7640891576956012809), (27, 13503953896175478587), (30, 1)] : List (Int × Int)).length 3) (M' := fun g3 => Mem w0 (orow (some ⟨g3, 0, none⟩) ([(31, 7640891576956012809), (27, 13503953896175478587), (30, 1)] : List (Int × Int)).length 3 173 2 ([vU 31, vU 7640891576956012809, vU 27, vU 13503953896175478587, vU 30, vU 1]) :: Fz F W :: cs)) (fun g3 => ⟨by kernel_rfl⟩) (fun w_ hM hS => ⟨hM.onew [vU 31, vU 7640891576956012809, vU 27, vU 13503953896175478587, vU 30, vU 1] 173 3 2 rfl (by decide), trivial⟩) (fun g3 => ?_)
  refine oR [oF 4, oF 5] [(10, vI 0), (9, vI (([(31, 7640891576956012809), (27, 13503953896175478587), (30, 1)] : List (Int × Int)).length : Int)), (8, .slice (some ⟨g3, 0, none⟩) ([(31, 7640891576956012809), (27, 13503953896175478587), (30, 1)] : List (Int × Int)).length 3), (0, vU x)] [10, 9, 8, 0] (by kernel_rfl) ?_
  obtain ⟨x4, hv5, hp⟩ := obind hp
  refine ops_conv (l' := [(10, vI 0), (9, vI x4), (8, .slice (some ⟨g3, 0, none⟩) ([(31, 7640891576956012809), (27, 13503953896175478587), (30, 1)] : List (Int × Int)).length 3), (0, vU x)]) (by rw [← Option.some.inj hv5]) (fun _ h => h) ?_
  refine ops_nil ?_
  refine fin_then ?_
  refine st_block ?_
  obtain ⟨r2, hl2, hk2⟩ := obind hp
  refine st_loopP (σ := Int × Int) (ρ := Int) (γ := Unit) hl2 () (fun s_ g_ => match s_, g_ with | (i6, i7), _ => [(0, vU i6), (8, .slice (some ⟨g3, 0, none⟩) ([(31, 7640891576956012809), (27, 13503953896175478587), (30, 1)] : List (Int × Int)).length 3), (9, vI x4), (10, vI i7)]) (fun s_ g_ => match s_, g_ with | (i6, i7), _ => Mem w0 (orow (some ⟨g3, 0, none⟩) ([(31, 7640891576956012809), (27, 13503953896175478587), (30, 1)] : List (Int × Int)).length 3 173 2 ([vU 31, vU 7640891576956012809, vU 27, vU 13503953896175478587, vU 30, vU 1]) :: Fz F W :: cs)) (fun s_ g_ => match s_, g_ with | (i6, i7), _ => True) trivial (look_has ⟨rfl, rfl, rfl, rfl, trivial⟩) (fun w_ hM => hM) ?_
  rintro ⟨i6, i7⟩ _ o2 - hs_ hd2
  have hp : (tourref1_Scrambled_l2 x4) i6 i7 = some o2 := hs_
  clear hs_
  unfold tourref1_Scrambled_l2 at hp
  refine st_conv (l' := [(0, vU i6), (8, .slice (some ⟨g3, 0, none⟩) ([(31, 7640891576956012809), (27, 13503953896175478587), (30, 1)] : List (Int × Int)).length 3), (9, vI x4), (10, vI i7)]) (M' := Mem w0 (orow (some ⟨g3, 0, none⟩) ([(31, 7640891576956012809), (27, 13503953896175478587), (30, 1)] : List (Int × Int)).length 3 173 2 ([vU 31, vU 7640891576956012809, vU 27, vU 13503953896175478587, vU 30, vU 1]) :: Fz F W :: cs)) rfl (fun _ h => h) ?_
  refine st_seq ?_
  refine st_region [oF 0] (by rfl) ?_
  refine oR [oF 0] [(11, .bool (decide (i7 < x4))), (0, vU i6), (8, .slice (some ⟨g3, 0, none⟩) ([(31, 7640891576956012809), (27, 13503953896175478587), (30, 1)] : List (Int × Int)).length 3), (9, vI x4), (10, vI i7)] [11, 0, 8, 9, 10] (by kernel_rfl) ?_
  refine ops_nil ?_
  refine fin_then ?_
  refine st_seq ?_
  refine st_if (b := decide (i7 < x4)) rfl (fun hc8 => ?_) (fun hc8 => ?_)
  · --
   have hp := cnd_t hc8 hp
   refine st_skip ?_
   refine fin_then ?_
   refine st_seq ?_
   refine st_block ?_
   refine st_seq ?_
   refine st_region [oF 0, oF 1, oF 2, oF 3] (by rfl) ?_
   refine oR [] [(0, vU i6), (8, .slice (some ⟨g3, 0, none⟩) ([(31, 7640891576956012809), (27, 13503953896175478587), (30, 1)] : List (Int × Int)).length 3), (9, vI x4), (10, vI i7)] [0, 8, 9, 10] (by kernel_rfl) ?_
   obtain ⟨x9, hv10, hp⟩ := obind hp
   obtain ⟨m11, hm12, hx13⟩ := idx_some hv10
   have hl16 := (List.getElem?_eq_some_iff.1 hx13).1
   obtain ⟨vs14, hr15, hq17⟩ := h2.at_ m11 x9 hx13
   obtain rfl := dec_arr2_Intu64 hr15
   refine ops_val (op := (Go.Op.indexAddr 174 (Go.Operand.tmp 8) (Go.Operand.tmp 10))) (d := some 12) (v := vP g3 (m11 * 2)) ⟨by kernel_rfl⟩ (run_indexRow Try.underlying174 (z := 2) (by kernel_rfl) rfl rfl hm12 hl16 rfl) ?_
   refine ops_mem (d := some 13) (an := [.v (vU x9.1), .v (vU x9.2)]) (evs := [.load ⟨g3, m11 * 2, none⟩ (vU x9.1), .load ⟨g3, m11 * 2 + 1, none⟩ (vU x9.2)]) (v := .agg #[vU x9.1, vU x9.2]) (M' := Mem w0 (orow (some ⟨g3, 0, none⟩) ([(31, 7640891576956012809), (27, 13503953896175478587), (30, 1)] : List (Int × Int)).length 3 173 2 ([vU 31, vU 7640891576956012809, vU 27, vU 13503953896175478587, vU 30, vU 1]) :: Fz F W :: cs)) ⟨by kernel_rfl⟩ (fun w_ hM hS => ⟨w_, ⟨hM.ocell 0 rfl (hq17 0 _ rfl), hM.ocell 0 rfl (hq17 1 _ rfl), rfl⟩, hM, trivial⟩) ?_
   refine oR [] [(13, .agg #[vU x9.1, vU x9.2]), (0, vU i6), (8, .slice (some ⟨g3, 0, none⟩) ([(31, 7640891576956012809), (27, 13503953896175478587), (30, 1)] : List (Int × Int)).length 3), (9, vI x4), (10, vI i7)] [13, 0, 8, 9, 10] (by kernel_rfl) ?_
   refine ops_new (d := some 4) (o := .cells #[vU 0, vU 0] 173) (v := fun b18 => vP b18 0) (M' := fun b18 => Mem w0 (.blk b18 [vU 0, vU 0] 173 :: orow (some ⟨g3, 0, none⟩) ([(31, 7640891576956012809), (27, 13503953896175478587), (30, 1)] : List (Int × Int)).length 3 173 2 ([vU 31, vU 7640891576956012809, vU 27, vU 13503953896175478587, vU 30, vU 1]) :: Fz F W :: cs)) (fun b18 => ⟨by kernel_rfl⟩) (fun w_ hM hS => ⟨hM.blk [vU 0, vU 0] 173, trivial⟩) (fun b18 => ?_)
   refine ops_store (an := []) (evs := [.store ⟨b18, 0, none⟩ (vU x9.1), .store ⟨b18, 1, none⟩ (vU x9.2)]) (M' := Mem w0 (.blk b18 [vU x9.1, vU x9.2] 173 :: orow (some ⟨g3, 0, none⟩) ([(31, 7640891576956012809), (27, 13503953896175478587), (30, 1)] : List (Int × Int)).length 3 173 2 ([vU 31, vU 7640891576956012809, vU 27, vU 13503953896175478587, vU 30, vU 1]) :: Fz F W :: cs)) ⟨by kernel_rfl⟩ (fun w_ hM hS => let ⟨w', he, h'⟩ := hM.evs_stores [vU x9.1, vU x9.2] 0 rfl 0 (Nat.le_of_ble_eq_true rfl); ⟨w', he, h', trivial⟩) ?_
   refine oR [] [(4, vP b18 0), (0, vU i6), (8, .slice (some ⟨g3, 0, none⟩) ([(31, 7640891576956012809), (27, 13503953896175478587), (30, 1)] : List (Int × Int)).length 3), (9, vI x4), (10, vI i7)] [4, 0, 8, 9, 10] (by kernel_rfl) ?_
   refine ops_nil ?_
   refine fin_then ?_
   refine st_seq ?_
   refine st_region [oF 0, oF 1, oF 2, oF 3, oF 4, oF 5, oF 6, oF 7] (by rfl) ?_
   refine oR [oF 0, oF 1, oF 2] [(16, vP b18 0), (15, vU i6), (14, vU i6), (4, vP b18 0), (0, vU i6), (8, .slice (some ⟨g3, 0, none⟩) ([(31, 7640891576956012809), (27, 13503953896175478587), (30, 1)] : List (Int × Int)).length 3), (9, vI x4), (10, vI i7)] [16, 15, 14, 4, 0, 8, 9, 10] (by kernel_rfl) ?_
   refine ops_mem (d := some 17) (an := [.v (vU x9.1)]) (evs := [.load ⟨b18, 0, none⟩ (vU x9.1)]) (v := vU x9.1) (M' := Mem w0 (.blk b18 [vU x9.1, vU x9.2] 173 :: orow (some ⟨g3, 0, none⟩) ([(31, 7640891576956012809), (27, 13503953896175478587), (30, 1)] : List (Int × Int)).length 3 173 2 ([vU 31, vU 7640891576956012809, vU 27, vU 13503953896175478587, vU 30, vU 1]) :: Fz F W :: cs)) ⟨by kernel_rfl⟩ (fun w_ hM hS => ⟨w_, ⟨hM.cell 0 rfl rfl, rfl⟩, hM, trivial⟩) ?_
   refine oR [] [(17, vU x9.1), (15, vU i6), (14, vU i6), (4, vP b18 0), (0, vU i6), (8, .slice (some ⟨g3, 0, none⟩) ([(31, 7640891576956012809), (27, 13503953896175478587), (30, 1)] : List (Int × Int)).length 3), (9, vI x4), (10, vI i7)] [17, 15, 14, 4, 0, 8, 9, 10] (by kernel_rfl) ?_
   obtain ⟨x19, hv20, hp⟩ := obind hp
   obtain ⟨hb21, he22⟩ := shl_some hv20
   refine ops_val (op := (Go.Op.binOp Go.BinOp.shl 24 (Go.Operand.const (Go.Value.int Go.IntKind.u64 1)) (Go.Operand.tmp 17) 24)) (d := some 18) (v := vU x19) ⟨by kernel_rfl⟩ (by rw [he22]; exact run_shl rfl rfl hb21) ?_
   refine oR [] [(18, vU x19), (15, vU i6), (14, vU i6), (4, vP b18 0), (0, vU i6), (8, .slice (some ⟨g3, 0, none⟩) ([(31, 7640891576956012809), (27, 13503953896175478587), (30, 1)] : List (Int × Int)).length 3), (9, vI x4), (10, vI i7)] [18, 15, 14, 4, 0, 8, 9, 10] (by kernel_rfl) ?_
   obtain ⟨x23, hv24, hp⟩ := obind hp
   obtain ⟨hb25, he26⟩ := quo_some hv24
   refine ops_val (op := (Go.Op.binOp Go.BinOp.quo 24 (Go.Operand.tmp 15) (Go.Operand.tmp 18) 24)) (d := some 19) (v := vU x23) ⟨by kernel_rfl⟩ (by rw [he26]; exact run_quo rfl rfl hb25) ?_
   refine oR [oF 6, oF 7] [(0, vU (Go.bits .xor .u64 i6 x23)), (4, vP b18 0), (8, .slice (some ⟨g3, 0, none⟩) ([(31, 7640891576956012809), (27, 13503953896175478587), (30, 1)] : List (Int × Int)).length 3), (9, vI x4), (10, vI i7)] [0, 4, 8, 9, 10] (by kernel_rfl) ?_
   refine ops_nil ?_
   refine fin_then ?_
   refine st_region [oF 0, oF 1, oF 2, oF 3, oF 4] (by rfl) ?_
   refine oR [oF 0, oF 1] [(22, vP b18 1), (21, vU (Go.bits .xor .u64 i6 x23)), (0, vU (Go.bits .xor .u64 i6 x23)), (8, .slice (some ⟨g3, 0, none⟩) ([(31, 7640891576956012809), (27, 13503953896175478587), (30, 1)] : List (Int × Int)).length 3), (9, vI x4), (10, vI i7)] [22, 21, 0, 8, 9, 10] (by kernel_rfl) ?_
   refine ops_mem (d := some 23) (an := [.v (vU x9.2)]) (evs := [.load ⟨b18, 1, none⟩ (vU x9.2)]) (v := vU x9.2) (M' := Mem w0 (.blk b18 [vU x9.1, vU x9.2] 173 :: orow (some ⟨g3, 0, none⟩) ([(31, 7640891576956012809), (27, 13503953896175478587), (30, 1)] : List (Int × Int)).length 3 173 2 ([vU 31, vU 7640891576956012809, vU 27, vU 13503953896175478587, vU 30, vU 1]) :: Fz F W :: cs)) ⟨by kernel_rfl⟩ (fun w_ hM hS => ⟨w_, ⟨hM.cell 0 rfl rfl, rfl⟩, hM, trivial⟩) ?_
   refine oR [oF 3, oF 4] [(0, vU (IntKind.u64.wrap (Go.bits .xor .u64 i6 x23 * x9.2))), (8, .slice (some ⟨g3, 0, none⟩) ([(31, 7640891576956012809), (27, 13503953896175478587), (30, 1)] : List (Int × Int)).length 3), (9, vI x4), (10, vI i7)] [0, 8, 9, 10] (by kernel_rfl) ?_
   refine ops_nil ?_
   refine fin_block ?_
   refine fin_then ?_
   refine st_region [oF 0, oF 1] (by rfl) ?_
   refine oR [oF 0, oF 1] [(10, vI (IntKind.i64.wrap (i7 + 1))), (0, vU (IntKind.u64.wrap (Go.bits .xor .u64 i6 x23 * x9.2))), (8, .slice (some ⟨g3, 0, none⟩) ([(31, 7640891576956012809), (27, 13503953896175478587), (30, 1)] : List (Int × Int)).length 3), (9, vI x4)] [10, 0, 8, 9] (by kernel_rfl) ?_
   refine ops_nil ?_
   exact fin_again (IntKind.u64.wrap (Go.bits .xor .u64 i6 x23 * x9.2), IntKind.i64.wrap (i7 + 1)) () (Option.some.inj hp).symm trivial (look_has ⟨rfl, rfl, rfl, rfl, trivial⟩) (fun w_ hM => hM.pick 3 [1, 2] (by kernel_rfl) (by decide) rfl)
  · --
   have hp := cnd_f hc8 hp
   refine st_exit ?_
   refine fin_exit_then ?_
   refine fin_exit_then ?_
   refine fin_exit ?_
   obtain hq_ := Option.some.inj hp
   subst hq_
   obtain hq_ := hd2 _ rfl
   subst hq_
   have hp : tourref1_Scrambled_j1 i6 = some i9001 := hk2
   exact fin_join HJ1 i6 hp (look_has ⟨rfl, trivial⟩) (fun w_ hM => hM.pick 2 [1] (by kernel_rfl) (by decide) rfl)
set_option maxHeartbeats 4000000 in
set_option maxRecDepth 100000 in
theorem tourref1_Tied_ok (w0 w : World) (cs : List Chunk) (F : Nat → Prop) (W : World) (a : Int) (b : Int) (hM0 : Mem w0 (Fz F W :: cs) w) (i9001 : Int) (hp : tourref1_Tied a b = some i9001) : Calls Try.prog 111 #[vU a, vU b] w fun e w' => (True) ∧ e = .returned (vU i9001) ∧ Mem w0 (Fz F W :: cs) w' := by
 unfold tourref1_Tied at hp
 refine sx_calls Try.func111 rfl (n := 12) (by kernel_rfl) (l := [(0, vU a), (1, vU b)]) rfl (by rfl) hM0 ?_
 refine st_seq ?_
 refine st_region [oF 0] (by rfl) ?_
 refine oR [oF 0] [(0, vU a), (1, vU b)] [0, 1] (by kernel_rfl) ?_
 refine ops_nil ?_
 refine fin_then ?_
 refine st_seq ?_
 refine st_region [oF 0, oF 1, oF 2, oF 3, oF 4, oF 5, oF 6, oF 7] (by rfl) ?_
 refine oR [oF 0, oF 1] [(6, vU (IntKind.u64.wrap (a + 5840696475078001361))), (1, vU b)] [6, 1] (by kernel_rfl) ?_
 obtain ⟨x1, hv2, hp⟩ := obind hp
 refine ops_callI (σ := Unit) (d := some 7) (f := 135) (args := #[vU (IntKind.u64.wrap (a + 5840696475078001361))]) (v := (fun _ => vU x1)) (I := (fun _ => True)) (M' := (fun _ => Mem w0 (Fz F W :: cs))) ⟨by kernel_rfl⟩ (fun w_ hM hS => (tourref1_Scrambled_ok w0 w_ (cs) F W (IntKind.u64.wrap (a + 5840696475078001361)) hM  x1 hv2).mono (by rintro e w' ⟨-, rfl, h'⟩; have h' : Mem w0 (Fz F W :: cs) w' := h'; exact ⟨(), trivial, rfl, h', trivial⟩)) ?_
 rintro _ -
 refine ops_conv (l' := [(7, vU x1), (6, vU (IntKind.u64.wrap (a + 5840696475078001361))), (1, vU b)]) (M' := Mem w0 (Fz F W :: cs)) rfl (fun _ h => h) ?_
 refine oR [oF 3, oF 4, oF 5] [(10, vU (IntKind.u64.wrap (IntKind.u64.wrap (x1 * 11170449401992604703) + b)))] [10] (by kernel_rfl) ?_
 obtain ⟨x3, hv4, hp⟩ := obind hp
 refine ops_conv (l' := [(10, vU x3)]) (by rw [← Option.some.inj hv4]) (fun _ h => h) ?_
 obtain ⟨x5, hv6, hp⟩ := obind hp
 refine ops_callI (σ := Unit) (d := some 11) (f := 135) (args := #[vU x3]) (v := (fun _ => vU x5)) (I := (fun _ => True)) (M' := (fun _ => Mem w0 (Fz F W :: cs))) ⟨by kernel_rfl⟩ (fun w_ hM hS => (tourref1_Scrambled_ok w0 w_ (cs) F W x3 hM  x5 hv6).mono (by rintro e w' ⟨-, rfl, h'⟩; have h' : Mem w0 (Fz F W :: cs) w' := h'; exact ⟨(), trivial, rfl, h', trivial⟩)) ?_
 rintro _ -
 refine ops_conv (l' := [(11, vU x5), (10, vU x3)]) (M' := Mem w0 (Fz F W :: cs)) rfl (fun _ h => h) ?_
 refine oR [oF 7] [(4, vU x5)] [4] (by kernel_rfl) ?_
 refine ops_nil ?_
 refine fin_then ?_
 refine st_ret ?_
 have hq_ := Option.some.inj hp
 have hr0_ := hq_
 subst hr0_
 refine fin_ret [.tmp 4] [vU x5] rfl rfl (fun w_ hM => (.tmp rfl .nil)) (fun w_ hM => ?_)
 exact ⟨trivial, rfl, hM⟩
set_option maxHeartbeats 4000000 in
set_option maxRecDepth 100000 in
theorem tourref1_Top_okK : ∀ (k_ : Nat) (w0 w : World) (cs : List Chunk) (F : Nat → Prop) (W : World) (A_l : Option Addr) (c_l : Nat) (l : List Int) (hM0 : Mem w0 (Fz F W :: cs) w) (h_l : RdS (Rep.int .u64) F W A_l c_l l) (i8001 : Int) (hp : fixK tourref1_Top_s k_ l = some i8001), Calls Try.prog 49 #[.slice A_l l.length c_l] w fun e w' => (True) ∧ e = .returned (vU i8001) ∧ Mem w0 (Fz F W :: cs) w' := by
 intro k_
 induction k_ with
 | zero => intro w0 w cs F W A_l c_l l hM0 h_l i8001 hp; exact nomatch (show (none : Option Int) = some i8001 from hp)
 | succ k_ ih_ =>
  intro w0 w cs F W A_l c_l l hM0 h_l i8001 hp
  obtain ⟨self_, hself_⟩ : ∃ f_ : (List Int) → Option Int, f_ = fun l => fixK tourref1_Top_s k_ l := ⟨_, rfl⟩
  have hp : tourref1_Top_b self_ l = some i8001 := by rw [hself_]; exact hp
  unfold tourref1_Top_b at hp
  refine sx_calls Try.func49 rfl (n := 25) (by kernel_rfl) (l := [(0, .slice A_l l.length c_l)]) rfl (by rfl) hM0 ?_
  refine st_seq ?_
  refine st_region [oF 0] (by rfl) ?_
  refine oR [oF 0] [(0, .slice A_l l.length c_l)] [0] (by kernel_rfl) ?_
  refine ops_nil ?_
  refine fin_then ?_
  refine st_seq ?_
  refine st_seq ?_
  refine st_region [oF 0, oF 1] (by rfl) ?_
  refine oR [oF 0, oF 1] [(5, vI (l.length : Int)), (0, .slice A_l l.length c_l)] [5, 0] (by kernel_rfl) ?_
  refine ops_nil ?_
  refine fin_then ?_
  refine st_block ?_
  refine st_seq ?_
  refine st_region [oF 0, oF 1] (by rfl) ?_
  refine oR [oF 0, oF 1] [(6, .bool ((l.length : Int) == 0)), (5, vI (l.length : Int)), (0, .slice A_l l.length c_l)] [6, 5, 0] (by kernel_rfl) ?_
  refine ops_nil ?_
  refine fin_then ?_
  refine st_if (b := ((l.length : Int) == 0)) rfl (fun hc1 => ?_) (fun hc1 => ?_)
  · --
   have hp := cnd_t hc1 hp
   refine st_seq ?_
   refine st_region [oF 0] (by rfl) ?_
   refine oR [oF 0] [(2, vU 0)] [2] (by kernel_rfl) ?_
   refine ops_nil ?_
   refine fin_then ?_
   refine st_ret ?_
   refine fin_ret_block ?_
   refine fin_ret_then ?_
   have hq_ := Option.some.inj hp
   have hr0_ := hq_
   subst hr0_
   refine fin_ret [.tmp 2] [vU 0] rfl rfl (fun w_ hM => (.tmp rfl .nil)) (fun w_ hM => ?_)
   exact ⟨trivial, rfl, hM⟩
  · --
   have hp := cnd_f hc1 hp
   refine st_seq ?_
   refine st_region [oF 0, oF 1] (by rfl) ?_
   refine oR [oF 0, oF 1] [(8, .bool ((l.length : Int) == 1)), (0, .slice A_l l.length c_l)] [8, 0] (by kernel_rfl) ?_
   refine ops_nil ?_
   refine fin_then ?_
   refine st_if (b := ((l.length : Int) == 1)) rfl (fun hc2 => ?_) (fun hc2 => ?_)
   · --
    have hp := cnd_t hc2 hp
    refine st_seq ?_
    refine st_region [oF 0, oF 1, oF 2, oF 3] (by rfl) ?_
    refine oR [oF 0] [(10, .slice A_l l.length c_l)] [10] (by kernel_rfl) ?_
    obtain ⟨x3, hv4, hp⟩ := obind hp
    obtain ⟨m5, hm6, hx7⟩ := idx_some hv4
    have hl10 := (List.getElem?_eq_some_iff.1 hx7).1
    obtain ⟨ad11, vs8, hA12, hr9, hq13⟩ := RdS.el h_l hx7
    obtain rfl := hr9
    refine ops_val (op := (Go.Op.indexAddr 63 (Go.Operand.tmp 10) (Go.Operand.const (Go.Value.int Go.IntKind.i64 0)))) (d := some 11) (v := .pointer (some (ad11.add (m5 * 1)))) ⟨by kernel_rfl⟩ (run_indexA hA12 Try.underlying63 (z := 1) (by kernel_rfl) rfl rfl hm6 hl10) ?_
    refine oR [] [(11, .pointer (some (ad11.add (m5 * 1))))] [11] (by kernel_rfl) ?_
    refine ops_mem (d := some 12) (an := [.v (vU x3)]) (evs := [.load (ad11.add (m5 * 1)) (vU x3)]) (v := vU x3) (M' := Mem w0 (Fz F W :: cs)) ⟨by kernel_rfl⟩ (fun w_ hM hS => ⟨w_, ⟨hM.elcell 0 rfl hq13 0 rfl, rfl⟩, hM, trivial⟩) ?_
    refine oR [oF 3] [(2, vU x3)] [2] (by kernel_rfl) ?_
    refine ops_nil ?_
    refine fin_then ?_
    refine st_ret ?_
    refine fin_ret_block ?_
    refine fin_ret_then ?_
    have hq_ := Option.some.inj hp
    have hr0_ := hq_
    subst hr0_
    refine fin_ret [.tmp 2] [vU x3] rfl rfl (fun w_ hM => (.tmp rfl .nil)) (fun w_ hM => ?_)
    exact ⟨trivial, rfl, hM⟩
   · --
    have hp := cnd_f hc2 hp
    refine st_skip ?_
    refine fin_block ?_
    refine fin_then ?_
    refine st_seq ?_
    refine st_region [oF 0, oF 1, oF 2, oF 3] (by rfl) ?_
    refine oR [oF 0, oF 1] [(14, vI (l.length : Int)), (0, .slice A_l l.length c_l)] [14, 0] (by kernel_rfl) ?_
    obtain ⟨x14, hv15, hp⟩ := obind hp
    refine ops_callI (σ := Unit) (d := some 15) (f := 109) (args := #[vI (l.length : Int)]) (v := (fun _ => vI x14)) (I := (fun _ => True)) (M' := (fun _ => Mem w0 (Fz F W :: cs))) ⟨by kernel_rfl⟩ (fun w_ hM hS => (tourref1_half_ok w0 w_ (cs) F W (l.length : Int) hM  x14 hv15).mono (by rintro e w' ⟨-, rfl, h'⟩; have h' : Mem w0 (Fz F W :: cs) w' := h'; exact ⟨(), trivial, rfl, h', trivial⟩)) ?_
    rintro _ -
    refine ops_conv (l' := [(15, vI x14), (14, vI (l.length : Int)), (0, .slice A_l l.length c_l)]) (M' := Mem w0 (Fz F W :: cs)) rfl (fun _ h => h) ?_
    refine oR [oF 3] [(3, vI x14), (0, .slice A_l l.length c_l)] [3, 0] (by kernel_rfl) ?_
    refine ops_nil ?_
    refine fin_then ?_
    refine st_join1 (σ := Int) (L := fun x_ => match x_ with | i16 => [(2, vU i16)]) (N := fun x_ => match x_ with | i16 => Mem w0 (Fz F W :: cs)) (I := fun x_ => match x_ with | i16 => (tourref1_Top_j1 i16 = some i8001)) ?_ ?_
    · --
     rintro i16 hp
     refine st_conv (l' := [(2, vU i16)]) (M' := Mem w0 (Fz F W :: cs)) rfl (fun _ h => h) ?_
     unfold tourref1_Top_j1 at hp
     refine st_ret ?_
     have hq_ := Option.some.inj hp
     have hr0_ := hq_
     subst hr0_
     refine fin_ret [.tmp 2] [vU i16] rfl rfl (fun w_ hM => (.tmp rfl .nil)) (fun w_ hM => ?_)
     exact ⟨trivial, rfl, hM⟩
    · --
     intro HJ1
     refine st_seq ?_
     obtain ⟨l17, hv18, hp⟩ := obind hp
     obtain ⟨x28, hv29, hp⟩ := obind hp
     obtain ⟨l30, hv31, hp⟩ := obind hp
     obtain ⟨x41, hv42, hp⟩ := obind hp
     obtain ⟨x43, hv44, hp⟩ := obind hp
     refine st_region_tree (.node [oT 0, oT 1, oT 4, oT 5] (.node [oF 2] (.leaf [oF 3, oF 6, oF 7, oF 8, oT 9]) (.leaf [oF 6, oF 3, oF 7, oF 8, oT 9])) (.leaf [oF 6, oF 2, oF 3, oF 7, oF 8, oT 9])) (Mem w0 (Fz F W :: cs)) (by kernel_rfl) (by kernel_rfl) (by kernel_rfl) (fun _ d _ _ _ h => by cases d <;> exact h) (M' := Mem w0 (Fz F W :: cs)) (fun w_ hM => ⟨hM.drew, hM.drew.sub (.cons_cons _ (.refl _))⟩) ?_
     refine tree_node ?_
     refine oR [oT 0, oT 1, oT 4, oT 5] [(21, vI x14), (20, .slice A_l l.length c_l), (17, vI x14), (16, .slice A_l l.length c_l)] [21, 20, 17, 16] (by kernel_rfl) ?_
     refine ops_nil ?_
     refine tree_both ?_ ?_
     · --
      refine tree_node ?_
      obtain ⟨m45, n46, hm47, hn48, h49, h50, he51⟩ := cut_some hv18
      have hl52 := cut_len he51 h49 h50
      have h53 : RdS (Rep.int .u64) F W A_l c_l l17 := by have h_ := h_l.cut h49 h50; rw [← he51] at h_; rw [show m45 = 0 by omega, cutA_zero, Nat.sub_zero] at h_; exact h_
      refine ops_val (op := (Go.Op.slice 63 (Go.Operand.tmp 16) none (some (Go.Operand.tmp 17)) none)) (d := some 18) (v := .slice A_l l17.length c_l) ⟨by kernel_rfl⟩ (run_cutH0 (by kernel_rfl) (z := 1) (by kernel_rfl) rfl rfl hn48 (Nat.le_trans h50 h_l.cap) (by omega)) ?_
      refine oR [] [(18, .slice A_l l17.length c_l), (21, vI x14), (20, .slice A_l l.length c_l)] [18, 21, 20] (by kernel_rfl) ?_
      refine ops_nil ?_
      refine tree_both ?_ ?_
      · --
       refine tree_leaf ?_
       rw [hself_] at hv29
       refine ops_callI (σ := Unit) (d := some 19) (f := 49) (args := #[.slice A_l l17.length c_l]) (v := (fun _ => vU x28)) (I := (fun _ => True)) (M' := (fun _ => Mem w0 (Fz F W :: cs))) ⟨by kernel_rfl⟩ (fun w_ hM hS => (ih_ w0 w_ (cs) F W A_l c_l l17 hM h53 x28 hv29).mono (by rintro e w' ⟨-, rfl, h'⟩; have h' : Mem w0 (Fz F W :: cs) w' := h'; exact ⟨(), trivial, rfl, h', (by exact h'.sub (.cons_cons _ (.refl _)))⟩)) ?_
       rintro _ -
       refine ops_conv (l' := [(19, vU x28), (18, .slice A_l l17.length c_l), (21, vI x14), (20, .slice A_l l.length c_l)]) (M' := Mem w0 (Fz F W :: cs)) rfl (fun _ h => h) ?_
       refine oR [] [(19, vU x28), (21, vI x14), (20, .slice A_l l.length c_l)] [19, 21, 20] (by kernel_rfl) ?_
       obtain ⟨m54, n55, hm56, hn57, h58, h59, he60⟩ := cut_some hv31
       have hl61 := cut_len he60 h58 h59
       have h62 : RdS (Rep.int .u64) F W (cutA A_l c_l m54 1) (c_l - m54) l30 := by have h_ := h_l.cut h58 h59; rw [← he60] at h_; exact h_
       refine ops_val (op := (Go.Op.slice 63 (Go.Operand.tmp 20) (some (Go.Operand.tmp 21)) none none)) (d := some 22) (v := .slice (cutA A_l c_l m54 1) l30.length (c_l - m54)) ⟨by kernel_rfl⟩ (run_cutL (by kernel_rfl) (z := 1) (by kernel_rfl) rfl rfl hm56 (by omega) (by omega) rfl) ?_
       refine oR [] [(22, .slice (cutA A_l c_l m54 1) l30.length (c_l - m54)), (19, vU x28)] [22, 19] (by kernel_rfl) ?_
       rw [hself_] at hv42
       refine ops_callI (σ := Unit) (d := some 23) (f := 49) (args := #[.slice (cutA A_l c_l m54 1) l30.length (c_l - m54)]) (v := (fun _ => vU x41)) (I := (fun _ => True)) (M' := (fun _ => Mem w0 (Fz F W :: cs))) ⟨by kernel_rfl⟩ (fun w_ hM hS => (ih_ w0 w_ (cs) F W (cutA A_l c_l m54 1) (c_l - m54) l30 hM h62 x41 hv42).mono (by rintro e w' ⟨-, rfl, h'⟩; have h' : Mem w0 (Fz F W :: cs) w' := h'; exact ⟨(), trivial, rfl, h', (by exact h'.sub (.cons_cons _ (.refl _)))⟩)) ?_
       rintro _ -
       refine ops_conv (l' := [(23, vU x41), (22, .slice (cutA A_l c_l m54 1) l30.length (c_l - m54)), (19, vU x28)]) (M' := Mem w0 (Fz F W :: cs)) rfl (fun _ h => h) ?_
       refine oR [] [(23, vU x41), (19, vU x28)] [23, 19] (by kernel_rfl) ?_
       refine ops_callI (σ := Unit) (d := some 24) (f := 111) (args := #[vU x28, vU x41]) (v := (fun _ => vU x43)) (I := (fun _ => True)) (M' := (fun _ => Mem w0 (Fz F W :: cs))) ⟨by kernel_rfl⟩ (fun w_ hM hS => (tourref1_Tied_ok w0 w_ (cs) F W x28 x41 hM  x43 hv44).mono (by rintro e w' ⟨-, rfl, h'⟩; have h' : Mem w0 (Fz F W :: cs) w' := h'; exact ⟨(), trivial, rfl, h', (by exact h'.sub (.cons_cons _ (.refl _)))⟩)) ?_
       rintro _ -
       refine ops_conv (l' := [(24, vU x43), (23, vU x41), (19, vU x28)]) (M' := Mem w0 (Fz F W :: cs)) rfl (fun _ h => h) ?_
       refine oR [oT 9] [(2, vU x43)] [2] (by kernel_rfl) ?_
       refine ops_nil ?_
       exact fin_join HJ1 x43 hp (look_has ⟨rfl, trivial⟩) (fun w_ hM => hM)
      · --
       refine tree_leaf ?_
       obtain ⟨m63, n64, hm65, hn66, h67, h68, he69⟩ := cut_some hv31
       have hl70 := cut_len he69 h67 h68
       have h71 : RdS (Rep.int .u64) F W (cutA A_l c_l m63 1) (c_l - m63) l30 := by have h_ := h_l.cut h67 h68; rw [← he69] at h_; exact h_
       refine ops_val (op := (Go.Op.slice 63 (Go.Operand.tmp 20) (some (Go.Operand.tmp 21)) none none)) (d := some 22) (v := .slice (cutA A_l c_l m63 1) l30.length (c_l - m63)) ⟨by kernel_rfl⟩ (run_cutL (by kernel_rfl) (z := 1) (by kernel_rfl) rfl rfl hm65 (by omega) (by omega) rfl) ?_
       refine oR [] [(22, .slice (cutA A_l c_l m63 1) l30.length (c_l - m63)), (18, .slice A_l l17.length c_l)] [22, 18] (by kernel_rfl) ?_
       rw [hself_] at hv29
       refine ops_callI (σ := Unit) (d := some 19) (f := 49) (args := #[.slice A_l l17.length c_l]) (v := (fun _ => vU x28)) (I := (fun _ => True)) (M' := (fun _ => Mem w0 (Fz F W :: cs))) ⟨by kernel_rfl⟩ (fun w_ hM hS => (ih_ w0 w_ (cs) F W A_l c_l l17 hM h53 x28 hv29).mono (by rintro e w' ⟨-, rfl, h'⟩; have h' : Mem w0 (Fz F W :: cs) w' := h'; exact ⟨(), trivial, rfl, h', (by exact h'.sub (.cons_cons _ (.refl _)))⟩)) ?_
       rintro _ -
       refine ops_conv (l' := [(19, vU x28), (22, .slice (cutA A_l c_l m63 1) l30.length (c_l - m63)), (18, .slice A_l l17.length c_l)]) (M' := Mem w0 (Fz F W :: cs)) rfl (fun _ h => h) ?_
       refine oR [] [(19, vU x28), (22, .slice (cutA A_l c_l m63 1) l30.length (c_l - m63))] [19, 22] (by kernel_rfl) ?_
       rw [hself_] at hv42
       refine ops_callI (σ := Unit) (d := some 23) (f := 49) (args := #[.slice (cutA A_l c_l m63 1) l30.length (c_l - m63)]) (v := (fun _ => vU x41)) (I := (fun _ => True)) (M' := (fun _ => Mem w0 (Fz F W :: cs))) ⟨by kernel_rfl⟩ (fun w_ hM hS => (ih_ w0 w_ (cs) F W (cutA A_l c_l m63 1) (c_l - m63) l30 hM h71 x41 hv42).mono (by rintro e w' ⟨-, rfl, h'⟩; have h' : Mem w0 (Fz F W :: cs) w' := h'; exact ⟨(), trivial, rfl, h', (by exact h'.sub (.cons_cons _ (.refl _)))⟩)) ?_
       rintro _ -
       refine ops_conv (l' := [(23, vU x41), (19, vU x28), (22, .slice (cutA A_l c_l m63 1) l30.length (c_l - m63))]) (M' := Mem w0 (Fz F W :: cs)) rfl (fun _ h => h) ?_
       refine oR [] [(23, vU x41), (19, vU x28)] [23, 19] (by kernel_rfl) ?_
       refine ops_callI (σ := Unit) (d := some 24) (f := 111) (args := #[vU x28, vU x41]) (v := (fun _ => vU x43)) (I := (fun _ => True)) (M' := (fun _ => Mem w0 (Fz F W :: cs))) ⟨by kernel_rfl⟩ (fun w_ hM hS => (tourref1_Tied_ok w0 w_ (cs) F W x28 x41 hM  x43 hv44).mono (by rintro e w' ⟨-, rfl, h'⟩; have h' : Mem w0 (Fz F W :: cs) w' := h'; exact ⟨(), trivial, rfl, h', (by exact h'.sub (.cons_cons _ (.refl _)))⟩)) ?_
       rintro _ -
       refine ops_conv (l' := [(24, vU x43), (23, vU x41), (19, vU x28)]) (M' := Mem w0 (Fz F W :: cs)) rfl (fun _ h => h) ?_
       refine oR [oT 9] [(2, vU x43)] [2] (by kernel_rfl) ?_
       refine ops_nil ?_
       exact fin_join HJ1 x43 hp (look_has ⟨rfl, trivial⟩) (fun w_ hM => hM)
     · --
      refine tree_leaf ?_
      obtain ⟨m72, n73, hm74, hn75, h76, h77, he78⟩ := cut_some hv31
      have hl79 := cut_len he78 h76 h77
      have h80 : RdS (Rep.int .u64) F W (cutA A_l c_l m72 1) (c_l - m72) l30 := by have h_ := h_l.cut h76 h77; rw [← he78] at h_; exact h_
      refine ops_val (op := (Go.Op.slice 63 (Go.Operand.tmp 20) (some (Go.Operand.tmp 21)) none none)) (d := some 22) (v := .slice (cutA A_l c_l m72 1) l30.length (c_l - m72)) ⟨by kernel_rfl⟩ (run_cutL (by kernel_rfl) (z := 1) (by kernel_rfl) rfl rfl hm74 (by omega) (by omega) rfl) ?_
      refine oR [] [(22, .slice (cutA A_l c_l m72 1) l30.length (c_l - m72)), (17, vI x14), (16, .slice A_l l.length c_l)] [22, 17, 16] (by kernel_rfl) ?_
      obtain ⟨m81, n82, hm83, hn84, h85, h86, he87⟩ := cut_some hv18
      have hl88 := cut_len he87 h85 h86
      have h89 : RdS (Rep.int .u64) F W A_l c_l l17 := by have h_ := h_l.cut h85 h86; rw [← he87] at h_; rw [show m81 = 0 by omega, cutA_zero, Nat.sub_zero] at h_; exact h_
      refine ops_val (op := (Go.Op.slice 63 (Go.Operand.tmp 16) none (some (Go.Operand.tmp 17)) none)) (d := some 18) (v := .slice A_l l17.length c_l) ⟨by kernel_rfl⟩ (run_cutH0 (by kernel_rfl) (z := 1) (by kernel_rfl) rfl rfl hn84 (Nat.le_trans h86 h_l.cap) (by omega)) ?_
      refine oR [] [(18, .slice A_l l17.length c_l), (22, .slice (cutA A_l c_l m72 1) l30.length (c_l - m72))] [18, 22] (by kernel_rfl) ?_
      rw [hself_] at hv29
      refine ops_callI (σ := Unit) (d := some 19) (f := 49) (args := #[.slice A_l l17.length c_l]) (v := (fun _ => vU x28)) (I := (fun _ => True)) (M' := (fun _ => Mem w0 (Fz F W :: cs))) ⟨by kernel_rfl⟩ (fun w_ hM hS => (ih_ w0 w_ (cs) F W A_l c_l l17 hM h89 x28 hv29).mono (by rintro e w' ⟨-, rfl, h'⟩; have h' : Mem w0 (Fz F W :: cs) w' := h'; exact ⟨(), trivial, rfl, h', (by exact h'.sub (.cons_cons _ (.refl _)))⟩)) ?_
      rintro _ -
      refine ops_conv (l' := [(19, vU x28), (18, .slice A_l l17.length c_l), (22, .slice (cutA A_l c_l m72 1) l30.length (c_l - m72))]) (M' := Mem w0 (Fz F W :: cs)) rfl (fun _ h => h) ?_
      refine oR [] [(19, vU x28), (22, .slice (cutA A_l c_l m72 1) l30.length (c_l - m72))] [19, 22] (by kernel_rfl) ?_
      rw [hself_] at hv42
      refine ops_callI (σ := Unit) (d := some 23) (f := 49) (args := #[.slice (cutA A_l c_l m72 1) l30.length (c_l - m72)]) (v := (fun _ => vU x41)) (I := (fun _ => True)) (M' := (fun _ => Mem w0 (Fz F W :: cs))) ⟨by kernel_rfl⟩ (fun w_ hM hS => (ih_ w0 w_ (cs) F W (cutA A_l c_l m72 1) (c_l - m72) l30 hM h80 x41 hv42).mono (by rintro e w' ⟨-, rfl, h'⟩; have h' : Mem w0 (Fz F W :: cs) w' := h'; exact ⟨(), trivial, rfl, h', (by exact h'.sub (.cons_cons _ (.refl _)))⟩)) ?_
      rintro _ -
      refine ops_conv (l' := [(23, vU x41), (19, vU x28), (22, .slice (cutA A_l c_l m72 1) l30.length (c_l - m72))]) (M' := Mem w0 (Fz F W :: cs)) rfl (fun _ h => h) ?_
      refine oR [] [(23, vU x41), (19, vU x28)] [23, 19] (by kernel_rfl) ?_
      refine ops_callI (σ := Unit) (d := some 24) (f := 111) (args := #[vU x28, vU x41]) (v := (fun _ => vU x43)) (I := (fun _ => True)) (M' := (fun _ => Mem w0 (Fz F W :: cs))) ⟨by kernel_rfl⟩ (fun w_ hM hS => (tourref1_Tied_ok w0 w_ (cs) F W x28 x41 hM  x43 hv44).mono (by rintro e w' ⟨-, rfl, h'⟩; have h' : Mem w0 (Fz F W :: cs) w' := h'; exact ⟨(), trivial, rfl, h', (by exact h'.sub (.cons_cons _ (.refl _)))⟩)) ?_
      rintro _ -
      refine ops_conv (l' := [(24, vU x43), (23, vU x41), (19, vU x28)]) (M' := Mem w0 (Fz F W :: cs)) rfl (fun _ h => h) ?_
      refine oR [oT 9] [(2, vU x43)] [2] (by kernel_rfl) ?_
      refine ops_nil ?_
      exact fin_join HJ1 x43 hp (look_has ⟨rfl, trivial⟩) (fun w_ hM => hM)
theorem tourref1_Top_ok (w0 w : World) (cs : List Chunk) (F : Nat → Prop) (W : World) (A_l : Option Addr) (c_l : Nat) (l : List Int) (hM0 : Mem w0 (Fz F W :: cs) w) (h_l : RdS (Rep.int .u64) F W A_l c_l l) (i8001 : Int) (hp : tourref1_Top l = some i8001) : Calls Try.prog 49 #[.slice A_l l.length c_l] w fun e w' => (True) ∧ e = .returned (vU i8001) ∧ Mem w0 (Fz F W :: cs) w' := by
 obtain ⟨k_, hk_⟩ := fix_some hp
 exact tourref1_Top_okK k_ w0 w cs F W A_l c_l l hM0 h_l i8001 hk_
end Go.Proofs.Ytfihfbkjomploaa.X
