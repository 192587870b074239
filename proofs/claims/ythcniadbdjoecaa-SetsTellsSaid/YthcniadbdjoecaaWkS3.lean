/- The Go functions come to what the plain functions tell. No condition. -/
import Derived.Test.YthcniadbdjoecaaProg
import Derived.Test.YthcniadbdjoecaaFnS
import Derived.Test.YthcniadbdjoecaaWkS0
import Derived.Test.YthcniadbdjoecaaWkS1
import Derived.Test.YthcniadbdjoecaaWkS2
namespace Go.Proofs.Ythcniadbdjoecaa.S
open Go Go.RowKit Go.Proofs.Ythcniadbdjoecaa.Sx
set_option linter.unusedVariables false
set_option maxHeartbeats 4000000
set_option maxRecDepth 100000
theorem slices_Concat_int_int_ok (w0 w : World) (cs : List Chunk) (F : Nat → Prop) (W : World) (A_slices : Option Addr) (c_slices : Nat) (slices : List (List Int)) (hM0 : Mem w0 (Fz F W :: cs) w) (h_slices : RdS (Rep.sl (Rep.int .i64)) F W A_slices c_slices slices) (l9003 : List Int) (hp : slices_Concat_int_int slices = some l9003) : Calls Try.prog 35 #[sl A_slices slices c_slices] w fun e w' => ∃ (A9001 : Option Addr), ∃ (c9002 : Nat), ∃ (y9004 : List Value), ((RepL (Rep.int .i64) F W l9003 y9004)) ∧ e = .returned (sl A9001 l9003 c9002) ∧ Mem w0 (ow A9001 l9003 c9002 3 1 y9004 :: Fz F W :: cs) w' := by
 unfold slices_Concat_int_int at hp
 refine sx_calls Try.func35 rfl (n := 36) (by kernel_rfl) (l := [(0, sl A_slices slices c_slices)]) rfl (by rfl) hM0 ?_
 refine st_seq (st_region [oF 0] (by rfl) ?_)
 refine oQ [oF 0] [(0, sl A_slices slices c_slices)] (by kernel_rfl) ?_
 refine ops_nil (fin_then (st_seq (st_region [oF 0] (by rfl) ?_)))
 refine oQ [oF 0] [(3, vI 0), (0, sl A_slices slices c_slices)] (by kernel_rfl) ?_
 refine ops_nil (fin_then ?_)
 refine st_join1 (σ := Int) (L := fun x_ => match x_ with | i1 => [(0, sl A_slices slices c_slices), (3, vI i1)]) (N := fun x_ => match x_ with | i1 => Mem w0 (Fz F W :: cs)) (I := fun x_ => match x_ with | i1 => ((slices_Concat_int_int_j1 slices) i1 = some l9003)) ?_ ?_
 ·
  rintro i1 hp
  unfold slices_Concat_int_int_j1 at hp
  refine st_seq (st_region [oF 0, oF 1, oF 2] (by rfl) ?_)
  refine oQ [oF 0] [(23, vI i1), (0, sl A_slices slices c_slices)] (by kernel_rfl) ?_
  obtain ⟨x2, hv3, hp⟩ := obind hp
  refine ops_callI (σ := (Option Addr) × Nat × (List Value)) (d := some 24) (f := 73) (args := #[.slice none 0 0, vI i1]) (v := (fun x_ => match x_ with | (A4, c5, y6) => sl A4 x2 c5)) (I := (fun x_ => match x_ with | (A4, c5, y6) => (RepL (Rep.int .i64) F W x2 y6))) (M' := (fun x_ => match x_ with | (A4, c5, y6) => Mem w0 (ow A4 x2 c5 3 1 y6 :: Fz F W :: cs))) ⟨by kernel_rfl⟩ (fun w_ hM hS => (slices_Grow_int_int_ok w0 w_ (cs) F W i1 hM  x2 hv3).mono (by rintro e w' ⟨A4, c5, y6, h7, rfl, h'⟩; have h' : Mem w0 (ow A4 x2 c5 3 1 y6 :: Fz F W :: cs) w' := h'; exact ⟨(A4, c5, y6), h7, rfl, h', trivial⟩)) ?_
  rintro ⟨A4, c5, y6⟩ h7
  refine oQ [oF 2] [(6, sl A4 x2 c5), (0, sl A_slices slices c_slices)] (by kernel_rfl) ?_
  refine ops_nil (fin_then ?_)
  refine st_join1 (σ := (Option Addr) × Nat × (List Int) × (List Value)) (L := fun x_ => match x_ with | (A8, c9, l10, y11) => [(6, sl A8 l10 c9)]) (N := fun x_ => match x_ with | (A8, c9, l10, y11) => Mem w0 (ow A8 l10 c9 3 1 y11 :: Fz F W :: cs)) (I := fun x_ => match x_ with | (A8, c9, l10, y11) => (slices_Concat_int_int_j2 l10 = some l9003) ∧ (RepL (Rep.int .i64) F W l10 y11)) ?_ ?_
  ·
   rintro ⟨A8, c9, l10, y11⟩ ⟨hp, h12⟩
   unfold slices_Concat_int_int_j2 at hp
   refine st_seq (st_region [oF 0, oF 1] (by rfl) ?_)
   refine oQ [oF 0, oF 1] [(2, sl A8 l10 c9)] (by kernel_rfl) ?_
   refine ops_nil (fin_then (st_ret ?_))
   have hq_ := Option.some.inj hp
   have hr0_ := hq_
   subst hr0_
   refine fin_ret [.tmp 2] [sl A8 l10 c9] rfl rfl (fun w_ hM => (.tmp rfl .nil)) (fun w_ hM => ?_)
   exact ⟨A8, c9, y11, h12, rfl, hM⟩
  ·
   intro HJ2
   refine st_seq (st_seq (st_region [oF 0, oF 1, oF 2] (by rfl) ?_))
   refine oQ [oF 0, oF 1, oF 2] [(27, vI 0), (26, vI (slices.length : Int)), (25, sl A_slices slices c_slices), (6, sl A4 x2 c5)] (by kernel_rfl) ?_
   refine ops_nil (fin_then (st_block ?_))
   obtain ⟨r3, hl3, hk3⟩ := obind hp
   refine st_loopP (σ := (List Int) × Int) (ρ := (List Int)) (γ := (Option Addr) × Nat × (List Value)) hl3 (A4, c5, y6) (fun s_ g_ => match s_, g_ with | (l15, i18), (A13, c14, y16) => [(6, sl A13 l15 c14), (25, sl A_slices slices c_slices), (26, vI (slices.length : Int)), (27, vI i18)]) (fun s_ g_ => match s_, g_ with | (l15, i18), (A13, c14, y16) => Mem w0 (ow A13 l15 c14 3 1 y16 :: Fz F W :: cs)) (fun s_ g_ => match s_, g_ with | (l15, i18), (A13, c14, y16) => (RepL (Rep.int .i64) F W l15 y16)) h7 (look_has ⟨rfl, rfl, rfl, rfl, trivial⟩) (fun w_ hM => hM) ?_
   rintro ⟨l15, i18⟩ ⟨A13, c14, y16⟩ o3 h17 hs_ hd3
   have hp : (slices_Concat_int_int_l3 slices) l15 i18 = some o3 := hs_
   clear hs_
   unfold slices_Concat_int_int_l3 at hp
   refine st_seq (st_region [oF 0] (by rfl) ?_)
   refine oQ [oF 0] [(28, .bool (decide (i18 < (slices.length : Int)))), (6, sl A13 l15 c14), (25, sl A_slices slices c_slices), (26, vI (slices.length : Int)), (27, vI i18)] (by kernel_rfl) ?_
   refine ops_nil (fin_then (st_seq ?_))
   refine st_if (b := decide (i18 < (slices.length : Int))) rfl (fun hc19 => ?_) (fun hc19 => ?_)
   ·
    have hp := cnd_t hc19 hp
    refine st_skip (fin_then (st_seq (st_block (st_seq (st_region [oF 0, oF 1, oF 2] (by rfl) ?_)))))
    obtain ⟨x20, hv21, hp⟩ := obind hp
    obtain ⟨m22, hm23, hx24⟩ := idx_some hv21
    have hl27 := (List.getElem?_eq_some_iff.1 hx24).1
    obtain ⟨ad28, vs25, hA29, hr26, hq30⟩ := RdS.el h_slices hx24
    obtain ⟨A31, c32, rfl, h33⟩ := hr26
    refine ops_val (op := (.indexAddr 123 (.tmp 25) (.tmp 27))) (d := some 29) (v := .pointer (some (ad28.add (m22 * 1)))) ⟨by kernel_rfl⟩ (run_indexA hA29 Try.underlying123 (z := 1) (by kernel_rfl) rfl rfl hm23 hl27) ?_
    refine ops_mem (d := some 30) (an := [.v (sl A31 x20 c32)]) (evs := [.load (ad28.add (m22 * 1)) (sl A31 x20 c32)]) (v := sl A31 x20 c32) ⟨by kernel_rfl⟩ (fun w_ hM hS => ⟨w_, ⟨hM.elcell 1 rfl hq30 0 rfl, rfl⟩, hM, trivial⟩) ?_
    refine oQ [oF 2] [(8, sl A31 x20 c32), (6, sl A13 l15 c14), (25, sl A_slices slices c_slices), (26, vI (slices.length : Int)), (27, vI i18)] (by kernel_rfl) ?_
    refine ops_nil (fin_then (st_region [oF 0, oF 1, oF 2, oF 3] (by rfl) ?_))
    refine oQ [oF 0, oF 1] [(32, sl A31 x20 c32), (31, sl A13 l15 c14), (6, sl A13 l15 c14), (25, sl A_slices slices c_slices), (26, vI (slices.length : Int)), (27, vI i18)] (by kernel_rfl) ?_
    obtain ⟨l34, hv35, hp⟩ := obind hp
    obtain ⟨he36, hb37⟩ := app_some hv35
    obtain ⟨y41, h42, hs43⟩ := RdS.src h33
    obtain ⟨y38, hy39⟩ : ∃ y_, y16 ++ y41 = y_ := ⟨_, rfl⟩
    have h40 : RepL (Rep.int .i64) F W l34 y38 := by rw [he36, ← hy39]; exact RepL.app h17 h42
    refine ops_appendO (x := (Go.Operand.tmp 31)) (y := (Go.Operand.tmp 32)) (t := 23) (e := 3) (d := some 33) (n' := l34.length) (z := 1) (m := x20.length) (bytes := 8) (xs' := y38) (news := y41) (zv := vI 0) 0 ⟨by kernel_rfl⟩ rfl rfl Try.underlying23 (by kernel_rfl) (by rfl) rfl (fun w_ hM => hM.srcS 1 rfl h42 hs43) h42.len h42.one hb37 (by have z_ := congrArg List.length he36; rw [List.length_append] at z_; exact z_.symm) hy39 (fun _ _ _ _ hS h' => trivial) ?_
    rintro ⟨A44, c45⟩
    refine oQ [oF 3] [(6, sl A44 l34 c45), (25, sl A_slices slices c_slices), (26, vI (slices.length : Int)), (27, vI i18)] (by kernel_rfl) ?_
    refine ops_nil (fin_block (fin_then (st_region [oF 0, oF 1] (by rfl) ?_)))
    refine oQ [oF 0, oF 1] [(27, vI (IntKind.i64.wrap (i18 + 1))), (6, sl A44 l34 c45), (25, sl A_slices slices c_slices), (26, vI (slices.length : Int))] (by kernel_rfl) ?_
    refine ops_nil ?_
    exact fin_again (l34, IntKind.i64.wrap (i18 + 1)) (A44, c45, y38) (Option.some.inj hp).symm h40 (look_has ⟨rfl, rfl, rfl, rfl, trivial⟩) (fun w_ hM => hM)
   ·
    have hp := cnd_f hc19 hp
    refine st_exit (fin_exit_then (fin_exit_then (fin_exit ?_)))
    obtain hq_ := Option.some.inj hp
    subst hq_
    obtain hq_ := hd3 _ rfl
    subst hq_
    have hp : slices_Concat_int_int_j2 l15 = some l9003 := hk3
    exact fin_join HJ2 (A13, c14, l15, y16) ⟨hp, h17⟩ (look_has ⟨rfl, trivial⟩) (fun w_ hM => hM)
 ·
  intro HJ1
  refine st_seq (st_seq (st_region [oF 0, oF 1, oF 2] (by rfl) ?_))
  refine oQ [oF 0, oF 1, oF 2] [(11, vI 0), (10, vI (slices.length : Int)), (9, sl A_slices slices c_slices), (3, vI 0), (0, sl A_slices slices c_slices)] (by kernel_rfl) ?_
  refine ops_nil (fin_then (st_block ?_))
  obtain ⟨r4, hl4, hk4⟩ := obind hp
  refine st_loopP (σ := Int × Int) (ρ := Int) (γ := Unit) hl4 () (fun s_ g_ => match s_, g_ with | (i46, i47), _ => [(0, sl A_slices slices c_slices), (3, vI i46), (9, sl A_slices slices c_slices), (10, vI (slices.length : Int)), (11, vI i47)]) (fun s_ g_ => match s_, g_ with | (i46, i47), _ => Mem w0 (Fz F W :: cs)) (fun s_ g_ => match s_, g_ with | (i46, i47), _ => True) trivial (look_has ⟨rfl, rfl, rfl, rfl, rfl, trivial⟩) (fun w_ hM => hM) ?_
  rintro ⟨i46, i47⟩ _ o4 - hs_ hd4
  have hp : (slices_Concat_int_int_l4 slices) i46 i47 = some o4 := hs_
  clear hs_
  unfold slices_Concat_int_int_l4 at hp
  refine st_seq (st_region [oF 0] (by rfl) ?_)
  refine oQ [oF 0] [(12, .bool (decide (i47 < (slices.length : Int)))), (0, sl A_slices slices c_slices), (3, vI i46), (9, sl A_slices slices c_slices), (10, vI (slices.length : Int)), (11, vI i47)] (by kernel_rfl) ?_
  refine ops_nil (fin_then (st_seq ?_))
  refine st_if (b := decide (i47 < (slices.length : Int))) rfl (fun hc48 => ?_) (fun hc48 => ?_)
  ·
   have hp := cnd_t hc48 hp
   refine st_skip (fin_then (st_seq (st_block (st_seq (st_region [oF 0, oF 1, oF 2] (by rfl) ?_)))))
   obtain ⟨x49, hv50, hp⟩ := obind hp
   obtain ⟨m51, hm52, hx53⟩ := idx_some hv50
   have hl56 := (List.getElem?_eq_some_iff.1 hx53).1
   obtain ⟨ad57, vs54, hA58, hr55, hq59⟩ := RdS.el h_slices hx53
   obtain ⟨A60, c61, rfl, h62⟩ := hr55
   refine ops_val (op := (.indexAddr 123 (.tmp 9) (.tmp 11))) (d := some 13) (v := .pointer (some (ad57.add (m51 * 1)))) ⟨by kernel_rfl⟩ (run_indexA hA58 Try.underlying123 (z := 1) (by kernel_rfl) rfl rfl hm52 hl56) ?_
   refine ops_mem (d := some 14) (an := [.v (sl A60 x49 c61)]) (evs := [.load (ad57.add (m51 * 1)) (sl A60 x49 c61)]) (v := sl A60 x49 c61) ⟨by kernel_rfl⟩ (fun w_ hM hS => ⟨w_, ⟨hM.elcell 0 rfl hq59 0 rfl, rfl⟩, hM, trivial⟩) ?_
   refine oQ [oF 2] [(5, sl A60 x49 c61), (0, sl A_slices slices c_slices), (3, vI i46), (9, sl A_slices slices c_slices), (10, vI (slices.length : Int)), (11, vI i47)] (by kernel_rfl) ?_
   refine ops_nil (fin_then (st_seq (st_region [oF 0, oF 1, oF 2, oF 3, oF 4] (by rfl) ?_)))
   refine oQ [oF 0, oF 1, oF 2, oF 3, oF 4] [(3, vI (IntKind.i64.wrap (i46 + (x49.length : Int)))), (0, sl A_slices slices c_slices), (9, sl A_slices slices c_slices), (10, vI (slices.length : Int)), (11, vI i47)] (by kernel_rfl) ?_
   refine ops_nil (fin_then (st_seq (st_region [oF 0, oF 1] (by rfl) ?_)))
   refine oQ [oF 0, oF 1] [(20, .bool (decide (IntKind.i64.wrap (i46 + (x49.length : Int)) < 0))), (3, vI (IntKind.i64.wrap (i46 + (x49.length : Int)))), (0, sl A_slices slices c_slices), (9, sl A_slices slices c_slices), (10, vI (slices.length : Int)), (11, vI i47)] (by kernel_rfl) ?_
   refine ops_nil (fin_then ?_)
   refine st_if (b := decide (IntKind.i64.wrap (i46 + (x49.length : Int)) < 0)) rfl (fun hc63 => ?_) (fun hc63 => ?_)
   ·
    have hp := cnd_t hc63 hp
    cases hp
   ·
    have hp := cnd_f hc63 hp
    refine st_skip (fin_block (fin_then (st_region [oF 0, oF 1] (by rfl) ?_)))
    refine oQ [oF 0, oF 1] [(11, vI (IntKind.i64.wrap (i47 + 1))), (3, vI (IntKind.i64.wrap (i46 + (x49.length : Int)))), (0, sl A_slices slices c_slices), (9, sl A_slices slices c_slices), (10, vI (slices.length : Int))] (by kernel_rfl) ?_
    refine ops_nil ?_
    exact fin_again (IntKind.i64.wrap (i46 + (x49.length : Int)), IntKind.i64.wrap (i47 + 1)) () (Option.some.inj hp).symm trivial (look_has ⟨rfl, rfl, rfl, rfl, rfl, trivial⟩) (fun w_ hM => hM)
  ·
   have hp := cnd_f hc48 hp
   refine st_exit (fin_exit_then (fin_exit_then (fin_exit ?_)))
   obtain hq_ := Option.some.inj hp
   subst hq_
   obtain hq_ := hd4 _ rfl
   subst hq_
   have hp : (slices_Concat_int_int_j1 slices) i46 = some l9003 := hk4
   exact fin_join HJ1 i46 hp (look_has ⟨rfl, rfl, trivial⟩) (fun w_ hM => hM)
theorem sets_Set_Both_1_ok (w0 w : World) (cs : List Chunk) (F : Nat → Prop) (W : World) (x : Int) (y : Int) (hM0 : Mem w0 (Fz F W :: cs) w) (i9001 : Int) (hp : sets_Set_Both_1 x y = some i9001) : Calls Try.prog 74 #[vU x, vU y] w fun e w' => (True) ∧ e = .returned (vU i9001) ∧ Mem w0 (Fz F W :: cs) w' := by
 unfold sets_Set_Both_1 at hp
 refine sx_calls Try.func74 rfl (n := 8) (by kernel_rfl) (l := [(0, vU x), (1, vU y)]) rfl (by rfl) hM0 ?_
 refine st_seq (st_region [oF 0] (by rfl) ?_)
 refine oQ [oF 0] [(0, vU x), (1, vU y)] (by kernel_rfl) ?_
 refine ops_nil (fin_then (st_seq (st_region [oF 0, oF 1, oF 2, oF 3] (by rfl) ?_)))
 refine oQ [oF 0, oF 1, oF 2, oF 3] [(4, vU (Go.bits .and .u64 x y))] (by kernel_rfl) ?_
 refine ops_nil (fin_then (st_ret ?_))
 have hq_ := Option.some.inj hp
 have hr0_ := hq_
 subst hr0_
 refine fin_ret [.tmp 4] [vU (Go.bits .and .u64 x y)] rfl rfl (fun w_ hM => (.tmp rfl .nil)) (fun w_ hM => ?_)
 exact ⟨trivial, rfl, hM⟩
theorem sets_join_v4_ok (w0 w : World) (cs : List Chunk) (F : Nat → Prop) (W : World) (A_a : Option Addr) (c_a : Nat) (a : List Int) (A_b : Option Addr) (c_b : Nat) (b : List Int) (hM0 : Mem w0 (Fz F W :: cs) w) (h_a : RdS (Rep.int .u64) F W A_a c_a a) (h_b : RdS (Rep.int .u64) F W A_b c_b b) (l9003 : List Int) (hp : sets_join_v4 a b = some l9003) : Calls Try.prog 67 #[sl A_a a c_a, sl A_b b c_b, .func (.func 74) #[] #[]] w fun e w' => ∃ (A9001 : Option Addr), ∃ (c9002 : Nat), ∃ (y9004 : List Value), ((RepL (Rep.int .u64) F W l9003 y9004)) ∧ e = .returned (sl A9001 l9003 c9002) ∧ Mem w0 (ow A9001 l9003 c9002 52 1 y9004 :: Fz F W :: cs) w' := by
 unfold sets_join_v4 at hp
 refine sx_calls Try.func67 rfl (n := 48) (by kernel_rfl) (l := [(0, sl A_a a c_a), (1, sl A_b b c_b), (2, .func (.func 74) #[] #[])]) rfl (by rfl) hM0 ?_
 refine st_seq (st_region [oF 0] (by rfl) ?_)
 refine oQ [oF 0] [(0, sl A_a a c_a), (1, sl A_b b c_b), (2, .func (.func 74) #[] #[])] (by kernel_rfl) ?_
 refine ops_nil (fin_then (st_seq (st_region [oF 0] (by rfl) ?_)))
 refine oQ [oF 0] [(7, .slice none 0 0), (0, sl A_a a c_a), (1, sl A_b b c_b), (2, .func (.func 74) #[] #[])] (by kernel_rfl) ?_
 refine ops_nil (fin_then ?_)
 refine st_join1 (σ := (Option Addr) × Nat × (List Int) × (List Value)) (L := fun x_ => match x_ with | (A1, c2, l3, y4) => [(7, sl A1 l3 c2)]) (N := fun x_ => match x_ with | (A1, c2, l3, y4) => Mem w0 (ow A1 l3 c2 52 1 y4 :: Fz F W :: cs)) (I := fun x_ => match x_ with | (A1, c2, l3, y4) => (sets_join_v4_j1 l3 = some l9003) ∧ (RepL (Rep.int .u64) F W l3 y4)) ?_ ?_
 ·
  rintro ⟨A1, c2, l3, y4⟩ ⟨hp, h5⟩
  unfold sets_join_v4_j1 at hp
  refine st_join1 (σ := (List Int) × (List Value)) (L := fun x_ => match x_ with | (l6, y7) => [(7, sl A1 l6 c2)]) (N := fun x_ => match x_ with | (l6, y7) => Mem w0 (ow A1 l6 c2 52 1 y7 :: Fz F W :: cs)) (I := fun x_ => match x_ with | (l6, y7) => (sets_join_v4_j2 l6 = some l9003) ∧ (RepL (Rep.int .u64) F W l6 y7)) ?_ ?_
  ·
   rintro ⟨l6, y7⟩ ⟨hp, h8⟩
   unfold sets_join_v4_j2 at hp
   refine st_seq (st_region [oF 0, oF 1] (by rfl) ?_)
   refine oQ [oF 0, oF 1] [(6, sl A1 l6 c2)] (by kernel_rfl) ?_
   refine ops_nil (fin_then (st_ret ?_))
   have hq_ := Option.some.inj hp
   have hr0_ := hq_
   subst hr0_
   refine fin_ret [.tmp 6] [sl A1 l6 c2] rfl rfl (fun w_ hM => (.tmp rfl .nil)) (fun w_ hM => ?_)
   exact ⟨A1, c2, y7, h8, rfl, hM⟩
  ·
   intro HJ2
   refine st_seq (st_block ?_)
   obtain ⟨r3, hl3, hk3⟩ := obind hp
   refine st_loopP (σ := (List Int)) (ρ := (List Int)) (γ := (List Value)) hl3 y4 (fun s_ g_ => match s_, g_ with | l9, y10 => [(7, sl A1 l9 c2)]) (fun s_ g_ => match s_, g_ with | l9, y10 => Mem w0 (ow A1 l9 c2 52 1 y10 :: Fz F W :: cs)) (fun s_ g_ => match s_, g_ with | l9, y10 => (RepL (Rep.int .u64) F W l9 y10)) h5 (look_has ⟨rfl, trivial⟩) (fun w_ hM => hM) ?_
   rintro l9 y10 o3 h11 hs_ hd3
   have hp : sets_join_v4_l3 l9 = some o3 := hs_
   clear hs_
   unfold sets_join_v4_l3 at hp
   refine st_seq (st_seq (st_region [oF 0, oF 1, oF 2, oF 3, oF 4, oF 5, oF 6, oF 7, oF 8, oF 9, oF 10, oF 11] (by rfl) ?_))
   refine oQ [oF 0, oF 1, oF 2, oF 3] [(33, .bool (decide (0 < (l9.length : Int)))), (7, sl A1 l9 c2)] (by kernel_rfl) ?_
   refine ops_bool (t := decide (0 < (l9.length : Int))) (l1 := [(33, .bool true), (7, sl A1 l9 c2)]) (l2 := [(33, .bool false), (7, sl A1 l9 c2)]) (fun h => by rw [h]) (fun h => by rw [h]) (fun hc12 => ?_) (fun hc12 => ?_)
   ·
    have hp := cnd_t hc12 hp
    refine oQ [oF 4, oF 5, oF 6, oF 7] [(37, vI (IntKind.i64.wrap ((l9.length : Int) - 1))), (34, sl A1 l9 c2), (33, .bool true), (7, sl A1 l9 c2)] (by kernel_rfl) ?_
    obtain ⟨x13, hv14, hp⟩ := obind hp
    obtain ⟨m15, hm16, hx17⟩ := idx_some hv14
    have hl20 := (List.getElem?_eq_some_iff.1 hx17).1
    refine ops_fact (fun w_ hM => hM.orowSome 0 rfl (Nat.lt_of_le_of_lt (Nat.zero_le _) hl20)) ?_
    rintro ⟨g21, rfl, -⟩
    obtain ⟨vs18, hr19, hq22⟩ := h11.at_ m15 x13 hx17
    obtain rfl := hr19
    refine ops_val (op := (.indexAddr 51 (.tmp 34) (.tmp 37))) (d := some 38) (v := vP g21 (m15 * 1)) ⟨by kernel_rfl⟩ (run_indexRow Try.underlying51 (z := 1) (by kernel_rfl) rfl rfl hm16 hl20 rfl) ?_
    refine ops_mem (d := some 39) (an := [.v (vU x13)]) (evs := [.load ⟨g21, m15 * 1, none⟩ (vU x13)]) (v := vU x13) ⟨by kernel_rfl⟩ (fun w_ hM hS => ⟨w_, ⟨hM.ocell 0 rfl (hq22 0 _ rfl), rfl⟩, hM, trivial⟩) ?_
    refine oQ [oF 10, oF 11] [(41, .bool (x13 == 0)), (7, sl (sa g21) l9 c2)] (by kernel_rfl) ?_
    refine ops_nil (fin_then ?_)
    refine st_if (b := (x13 == 0)) rfl (fun hc23 => ?_) (fun hc23 => ?_)
    ·
     have hp := cnd_t hc23 hp
     refine st_skip (fin_then (st_block (st_region [oF 0, oF 1, oF 2, oF 3, oF 4, oF 5] (by rfl) ?_)))
     refine oQ [oF 0, oF 1, oF 2, oF 3] [(45, vI (IntKind.i64.wrap ((l9.length : Int) - 1))), (42, sl (sa g21) l9 c2), (7, sl (sa g21) l9 c2)] (by kernel_rfl) ?_
     obtain ⟨l24, hv25, hp⟩ := obind hp
     obtain ⟨m26, n27, hm28, hn29, h30, h31, he32⟩ := cut_some hv25
     have hl33 := cut_len he32 h30 h31
     obtain rfl : m26 = 0 := by omega
     refine ops_fact (fun w_ hM => (hM.rowCap 0 rfl).1) (fun hc35 => ?_)
     obtain ⟨y36, hy37⟩ : ∃ y_, y10.take (l24.length * 1) = y_ := ⟨_, rfl⟩
     have h34 : RepL (Rep.int .u64) F W l24 y36 := by rw [← hy37, hl33, he32, List.drop_zero, Nat.sub_zero]; exact h11.take _
     refine ops_val (op := (.slice 51 (.tmp 42) none (some (.tmp 45)) none)) (d := some 46) (v := sl (sa g21) l24 c2) ⟨by kernel_rfl⟩ (run_cutH0 (by kernel_rfl) (z := 1) (by kernel_rfl) rfl rfl hn29 (Nat.le_trans h31 hc35) (by omega)) ?_
     refine ops_conv (l' := [(46, sl (sa g21) l24 c2), (45, vI (IntKind.i64.wrap ((l9.length : Int) - 1))), (42, sl (sa g21) l9 c2), (7, sl (sa g21) l9 c2)]) (M' := Mem w0 (ow (sa g21) l24 c2 52 1 y36 :: Fz F W :: cs)) rfl (fun w_ h => h.otake' 0 rfl (by omega) hy37) ?_
     refine oQ [oF 5] [(7, sl (sa g21) l24 c2)] (by kernel_rfl) ?_
     refine ops_nil (fin_block ?_)
     exact fin_again l24 y36 (Option.some.inj hp).symm h34 (look_has ⟨rfl, trivial⟩) (fun w_ hM => hM)
    ·
     have hp := cnd_f hc23 hp
     refine st_exit (fin_exit_then (fin_exit_then (fin_exit ?_)))
     obtain hq_ := Option.some.inj hp
     subst hq_
     obtain hq_ := hd3 _ rfl
     subst hq_
     have hp : sets_join_v4_j2 l9 = some l9003 := hk3
     exact fin_join HJ2 (l9, y10) ⟨hp, h11⟩ (look_has ⟨rfl, trivial⟩) (fun w_ hM => hM)
   ·
    have hp := cnd_f hc12 hp
    refine oQ [oF 4, oF 5, oF 6, oF 7, oF 8, oF 9, oF 10, oF 11] [(41, .bool false), (7, sl A1 l9 c2)] (by kernel_rfl) ?_
    refine ops_nil (fin_then (st_false rfl (st_exit (fin_exit_then (fin_exit_then (fin_exit ?_))))))
    obtain hq_ := Option.some.inj hp
    subst hq_
    obtain hq_ := hd3 _ rfl
    subst hq_
    have hp : sets_join_v4_j2 l9 = some l9003 := hk3
    exact fin_join HJ2 (l9, y10) ⟨hp, h11⟩ (look_has ⟨rfl, trivial⟩) (fun w_ hM => hM)
 ·
  intro HJ1
  refine st_seq (st_seq (st_region [oF 0, oF 1, oF 2, oF 3, oF 4, oF 5, oF 6] (by rfl) ?_))
  refine oQ [oF 0, oF 1, oF 2, oF 3] [(12, vI (b.length : Int)), (10, vI (a.length : Int)), (7, .slice none 0 0), (0, sl A_a a c_a), (1, sl A_b b c_b), (2, .func (.func 74) #[] #[])] (by kernel_rfl) ?_
  refine ops_val (op := (.call { callee := (Go.Callee.builtin Go.Builtin.max), args := #[(.tmp 10), (.tmp 12)], argTypes := #[3, 3] })) (d := some 13) (v := vI (max (a.length : Int) (b.length : Int))) ⟨by kernel_rfl⟩ (run_max rfl rfl) ?_
  refine ops_val (op := (.call { callee := (Go.Callee.builtin Go.Builtin.min), args := #[(.tmp 13), (.const (Go.Value.int Go.IntKind.i64 64))], argTypes := #[3, 3] })) (d := some 14) (v := vI (min (max (a.length : Int) (b.length : Int)) 64)) ⟨by kernel_rfl⟩ (run_min rfl rfl) ?_
  refine oQ [oF 6] [(15, vI 0), (14, vI (min (max (a.length : Int) (b.length : Int)) 64)), (7, .slice none 0 0), (0, sl A_a a c_a), (1, sl A_b b c_b), (2, .func (.func 74) #[] #[])] (by kernel_rfl) ?_
  refine ops_nil (fin_then (st_block ?_))
  refine st_conv (l' := [(15, vI 0), (14, vI (min (max (a.length : Int) (b.length : Int)) 64)), (7, .slice none 0 0), (0, sl A_a a c_a), (1, sl A_b b c_b), (2, .func (.func 74) #[] #[])]) (M' := Mem w0 (ow none ([] : List Int) 0 52 1 [] :: Fz F W :: cs)) rfl (fun w_ h => h.onil none 52 1) ?_
  obtain ⟨r4, hl4, hk4⟩ := obind hp
  refine st_loopP (σ := (List Int) × Int) (ρ := (List Int)) (γ := (Option Addr) × Nat × (List Value)) hl4 (none, 0, []) (fun s_ g_ => match s_, g_ with | (l40, i43), (A38, c39, y41) => [(0, sl A_a a c_a), (1, sl A_b b c_b), (2, .func (.func 74) #[] #[]), (7, sl A38 l40 c39), (14, vI (min (max (a.length : Int) (b.length : Int)) 64)), (15, vI i43)]) (fun s_ g_ => match s_, g_ with | (l40, i43), (A38, c39, y41) => Mem w0 (ow A38 l40 c39 52 1 y41 :: Fz F W :: cs)) (fun s_ g_ => match s_, g_ with | (l40, i43), (A38, c39, y41) => (RepL (Rep.int .u64) F W l40 y41)) (RepL.nil (R := (Rep.int .u64))) (look_has ⟨rfl, rfl, rfl, rfl, rfl, rfl, trivial⟩) (fun w_ hM => hM) ?_
  rintro ⟨l40, i43⟩ ⟨A38, c39, y41⟩ o4 h42 hs_ hd4
  have hp : (sets_join_v4_l4 a b) l40 i43 = some o4 := hs_
  clear hs_
  unfold sets_join_v4_l4 at hp
  refine st_seq (st_region [oF 0] (by rfl) ?_)
  refine oQ [oF 0] [(16, .bool (decide (i43 < min (max (a.length : Int) (b.length : Int)) 64))), (0, sl A_a a c_a), (1, sl A_b b c_b), (2, .func (.func 74) #[] #[]), (7, sl A38 l40 c39), (14, vI (min (max (a.length : Int) (b.length : Int)) 64)), (15, vI i43)] (by kernel_rfl) ?_
  refine ops_nil (fin_then (st_seq ?_))
  refine st_if (b := decide (i43 < min (max (a.length : Int) (b.length : Int)) 64)) rfl (fun hc44 => ?_) (fun hc44 => ?_)
  ·
   have hp := cnd_t hc44 hp
   refine st_skip (fin_then (st_seq (st_block (st_seq (st_region [oF 0, oF 1] (by rfl) ?_)))))
   refine oQ [oF 0, oF 1] [(8, vI i43), (0, sl A_a a c_a), (1, sl A_b b c_b), (2, .func (.func 74) #[] #[]), (7, sl A38 l40 c39), (14, vI (min (max (a.length : Int) (b.length : Int)) 64)), (15, vI i43)] (by kernel_rfl) ?_
   refine ops_nil (fin_then (st_region [oF 0, oF 1, oF 2, oF 3, oF 4, oF 5, oF 6, oF 7, oF 8, oF 9, oF 10, oF 11] (by rfl) ?_))
   refine oQ [oF 0, oF 1, oF 2, oF 3] [(21, vI i43), (20, sl A_a a c_a), (19, .func (.func 74) #[] #[]), (18, sl A38 l40 c39), (8, vI i43), (0, sl A_a a c_a), (1, sl A_b b c_b), (2, .func (.func 74) #[] #[]), (7, sl A38 l40 c39), (14, vI (min (max (a.length : Int) (b.length : Int)) 64)), (15, vI i43)] (by kernel_rfl) ?_
   obtain ⟨x45, hv46, hp⟩ := obind hp
   refine ops_callI (σ := Unit) (d := some 22) (f := 70) (args := #[sl A_a a c_a, vI i43]) (v := (fun _ => vU x45)) (I := (fun _ => True)) (M' := (fun _ => Mem w0 (ow A38 l40 c39 52 1 y41 :: Fz F W :: cs))) ⟨by kernel_rfl⟩ (fun w_ hM hS => (sets_Set_word_ok w0 w_ (ow A38 l40 c39 52 1 y41 :: cs) F W A_a c_a a i43 (hM.pick 2 [1, 0] (by kernel_rfl) (by decide) rfl) h_a x45 hv46).mono (by rintro e w' ⟨-, rfl, h'⟩; have h' : Mem w0 (ow A38 l40 c39 52 1 y41 :: Fz F W :: cs) w' := (h'.pick 2 [1, 0] (by kernel_rfl) (by decide) rfl); exact ⟨(), trivial, rfl, h', trivial⟩)) ?_
   rintro _ -
   refine oQ [oF 5, oF 6] [(24, vI i43), (23, sl A_b b c_b), (22, vU x45), (19, .func (.func 74) #[] #[]), (18, sl A38 l40 c39), (0, sl A_a a c_a), (1, sl A_b b c_b), (2, .func (.func 74) #[] #[]), (7, sl A38 l40 c39), (14, vI (min (max (a.length : Int) (b.length : Int)) 64)), (15, vI i43)] (by kernel_rfl) ?_
   obtain ⟨x47, hv48, hp⟩ := obind hp
   refine ops_callI (σ := Unit) (d := some 25) (f := 70) (args := #[sl A_b b c_b, vI i43]) (v := (fun _ => vU x47)) (I := (fun _ => True)) (M' := (fun _ => Mem w0 (ow A38 l40 c39 52 1 y41 :: Fz F W :: cs))) ⟨by kernel_rfl⟩ (fun w_ hM hS => (sets_Set_word_ok w0 w_ (ow A38 l40 c39 52 1 y41 :: cs) F W A_b c_b b i43 (hM.pick 2 [1, 0] (by kernel_rfl) (by decide) rfl) h_b x47 hv48).mono (by rintro e w' ⟨-, rfl, h'⟩; have h' : Mem w0 (ow A38 l40 c39 52 1 y41 :: Fz F W :: cs) w' := (h'.pick 2 [1, 0] (by kernel_rfl) (by decide) rfl); exact ⟨(), trivial, rfl, h', trivial⟩)) ?_
   rintro _ -
   obtain ⟨x49, hv50, hp⟩ := obind hp
   refine ops_callI (σ := Unit) (d := some 26) (f := 74) (args := #[vU x45, vU x47]) (v := (fun _ => vU x49)) (I := (fun _ => True)) (M' := (fun _ => Mem w0 (ow A38 l40 c39 52 1 y41 :: Fz F W :: cs))) ⟨by kernel_rfl⟩ (fun w_ hM hS => (sets_Set_Both_1_ok w0 w_ (ow A38 l40 c39 52 1 y41 :: cs) F W x45 x47 (hM.pick 2 [1, 0] (by kernel_rfl) (by decide) rfl)  x49 hv50).mono (by rintro e w' ⟨-, rfl, h'⟩; have h' : Mem w0 (ow A38 l40 c39 52 1 y41 :: Fz F W :: cs) w' := (h'.pick 2 [1, 0] (by kernel_rfl) (by decide) rfl); exact ⟨(), trivial, rfl, h', trivial⟩)) ?_
   rintro _ -
   have h51 : RepL (Rep.int .u64) F W ([x49] : List Int) ([vU x49]) := (RepL.cons (R := (Rep.int .u64)) (F := F) (w := W) (vs := [vU x49]) (ys := []) rfl RepL.nil)
   refine ops_new (d := some 27) (o := .cells ([vU x49] : List Value).toArray 52) (v := fun g52 => .slice (sa g52) ([x49] : List Int).length 1) (M' := fun g52 => Mem w0 (orow (sa g52) ([x49] : List Int).length 1 52 1 ([vU x49]) :: ow A38 l40 c39 52 1 y41 :: Fz F W :: cs)) (fun g52 => ⟨by kernel_rfl⟩) (fun w_ hM hS => ⟨hM.onew [vU x49] 52 1 1 rfl (by decide), trivial⟩) (fun g52 => ?_)
   obtain ⟨l53, hv54, hp⟩ := obind hp
   obtain ⟨he55, hb56⟩ := app_some hv54
   obtain ⟨y57, hy58⟩ : ∃ y_, y41 ++ ([vU x49]) = y_ := ⟨_, rfl⟩
   have h59 : RepL (Rep.int .u64) F W l53 y57 := by rw [he55, ← hy58]; exact RepL.app h42 h51
   refine ops_appendO (x := (Go.Operand.tmp 18)) (y := (Go.Operand.tmp 27)) (t := 51) (e := 52) (d := some 28) (n' := l53.length) (z := 1) (m := ([x49] : List Int).length) (bytes := 8) (xs' := y57) (news := ([vU x49])) (zv := vU 0) 1 ⟨by kernel_rfl⟩ rfl rfl Try.underlying51 (by kernel_rfl) (by rfl) rfl (fun w_ hM => hM.srcO 0 rfl) h51.len h51.one hb56 (by have z_ := congrArg List.length he55; rw [List.length_append] at z_; exact z_.symm) hy58 (fun _ _ _ _ hS h' => trivial) ?_
   rintro ⟨A60, c61⟩
   refine oQ [oF 11] [(7, sl A60 l53 c61), (0, sl A_a a c_a), (1, sl A_b b c_b), (2, .func (.func 74) #[] #[]), (14, vI (min (max (a.length : Int) (b.length : Int)) 64)), (15, vI i43)] (by kernel_rfl) ?_
   refine ops_nil (fin_block (fin_then (st_region [oF 0, oF 1] (by rfl) ?_)))
   refine oQ [oF 0, oF 1] [(15, vI (IntKind.i64.wrap (i43 + 1))), (7, sl A60 l53 c61), (0, sl A_a a c_a), (1, sl A_b b c_b), (2, .func (.func 74) #[] #[]), (14, vI (min (max (a.length : Int) (b.length : Int)) 64))] (by kernel_rfl) ?_
   refine ops_nil ?_
   exact fin_again (l53, IntKind.i64.wrap (i43 + 1)) (A60, c61, y57) (Option.some.inj hp).symm h59 (look_has ⟨rfl, rfl, rfl, rfl, rfl, rfl, trivial⟩) (fun w_ hM => hM.pick 3 [1, 2] (by kernel_rfl) (by decide) rfl)
  ·
   have hp := cnd_f hc44 hp
   refine st_exit (fin_exit_then (fin_exit_then (fin_exit ?_)))
   obtain hq_ := Option.some.inj hp
   subst hq_
   obtain hq_ := hd4 _ rfl
   subst hq_
   have hp : sets_join_v4_j1 l40 = some l9003 := hk4
   exact fin_join HJ1 (A38, c39, l40, y41) ⟨hp, h42⟩ (look_has ⟨rfl, trivial⟩) (fun w_ hM => hM)
theorem sets_Set_Both_ok (w0 w : World) (cs : List Chunk) (F : Nat → Prop) (W : World) (A_s : Option Addr) (c_s : Nat) (s : List Int) (A_o : Option Addr) (c_o : Nat) (o : List Int) (hM0 : Mem w0 (Fz F W :: cs) w) (h_s : RdS (Rep.int .u64) F W A_s c_s s) (h_o : RdS (Rep.int .u64) F W A_o c_o o) (l9003 : List Int) (hp : sets_Set_Both s o = some l9003) : Calls Try.prog 36 #[sl A_s s c_s, sl A_o o c_o] w fun e w' => ∃ (A9001 : Option Addr), ∃ (c9002 : Nat), ∃ (y9004 : List Value), ((RepL (Rep.int .u64) F W l9003 y9004)) ∧ e = .returned (sl A9001 l9003 c9002) ∧ Mem w0 (ow A9001 l9003 c9002 52 1 y9004 :: Fz F W :: cs) w' := by
 unfold sets_Set_Both at hp
 refine sx_calls Try.func36 rfl (n := 8) (by kernel_rfl) (l := [(0, sl A_s s c_s), (1, sl A_o o c_o)]) rfl (by rfl) hM0 ?_
 refine st_seq (st_region [oF 0] (by rfl) ?_)
 refine oQ [oF 0] [(0, sl A_s s c_s), (1, sl A_o o c_o)] (by kernel_rfl) ?_
 refine ops_nil (fin_then (st_seq (st_region [oF 0, oF 1, oF 2, oF 3] (by rfl) ?_)))
 refine oQ [oF 0, oF 1] [(6, sl A_o o c_o), (5, sl A_s s c_s)] (by kernel_rfl) ?_
 obtain ⟨x1, hv2, hp⟩ := obind hp
 refine ops_callI (σ := (Option Addr) × Nat × (List Value)) (d := some 7) (f := 67) (args := #[sl A_s s c_s, sl A_o o c_o, .func (.func 74) #[] #[]]) (v := (fun x_ => match x_ with | (A3, c4, y5) => sl A3 x1 c4)) (I := (fun x_ => match x_ with | (A3, c4, y5) => (RepL (Rep.int .u64) F W x1 y5))) (M' := (fun x_ => match x_ with | (A3, c4, y5) => Mem w0 (ow A3 x1 c4 52 1 y5 :: Fz F W :: cs))) ⟨by kernel_rfl⟩ (fun w_ hM hS => (sets_join_v4_ok w0 w_ (cs) F W A_s c_s s A_o c_o o hM h_s h_o x1 hv2).mono (by rintro e w' ⟨A3, c4, y5, h6, rfl, h'⟩; have h' : Mem w0 (ow A3 x1 c4 52 1 y5 :: Fz F W :: cs) w' := h'; exact ⟨(A3, c4, y5), h6, rfl, h', trivial⟩)) ?_
 rintro ⟨A3, c4, y5⟩ h6
 refine oQ [oF 3] [(4, sl A3 x1 c4)] (by kernel_rfl) ?_
 refine ops_nil (fin_then (st_ret ?_))
 have hq_ := Option.some.inj hp
 have hr0_ := hq_
 subst hr0_
 refine fin_ret [.tmp 4] [sl A3 x1 c4] rfl rfl (fun w_ hM => (.tmp rfl .nil)) (fun w_ hM => ?_)
 exact ⟨A3, c4, y5, h6, rfl, hM⟩
theorem tourlaw1_SetsTells_1_ok (w0 w : World) (cs : List Chunk) (F : Nat → Prop) (W : World) (A_l : Option Addr) (c_l : Nat) (l : List Int) (hM0 : Mem w0 (Fz F W :: cs) w) (h_l : RdS (Rep.int .i64) F W A_l c_l l) (hp : tourlaw1_SetsTells_1 l = some ()) : Calls Try.prog 19 #[sl A_l l c_l] w fun e w' => ∃ (b9001 : Nat), ((RdS (Rep.int .i64) F W A_l c_l l)) ∧ e = .returned (.func (.func 20) #[] #[vP b9001 0]) ∧ Mem w0 (.blk b9001 [sl A_l l c_l] 23 :: Fz F W :: cs) w' := by
 unfold tourlaw1_SetsTells_1 at hp
 refine sx_calls Try.func19 rfl (n := 4) (by kernel_rfl) (l := [(0, sl A_l l c_l)]) rfl (by rfl) hM0 ?_
 refine st_seq (st_region [oF 0, oF 1] (by rfl) ?_)
 refine ops_newB (d := some 1) [sl A_l l c_l] 23 (fun b1 => ⟨by kernel_rfl⟩) (fun w_ hM hS => trivial) (fun b1 => ?_)
 refine oQ [oF 1] [(1, vP b1 0)] (by kernel_rfl) ?_
 refine ops_nil (fin_then (st_seq (st_region [oF 0, oF 1] (by rfl) ?_)))
 refine oQ [oF 0, oF 1] [(2, .func (.func 20) #[] #[vP b1 0])] (by kernel_rfl) ?_
 refine ops_nil (fin_then (st_ret ?_))
 refine fin_ret [.tmp 2] [.func (.func 20) #[] #[vP b1 0]] rfl rfl (fun w_ hM => (.tmp rfl .nil)) (fun w_ hM => ?_)
 exact ⟨b1, h_l, rfl, hM⟩
theorem tourlaw1_SetsTells_1_1_ok (w0 w : World) (cs : List Chunk) (F : Nat → Prop) (W : World) (n : Int) (b_p1 : Nat) (A_p1_0 : Option Addr) (c_p1_0 : Nat) (p1_0 : List Int) (hM0 : Mem w0 (.blk b_p1 [sl A_p1_0 p1_0 c_p1_0] 23 :: Fz F W :: cs) w) (h_p1_0 : RdS (Rep.int .i64) F W A_p1_0 c_p1_0 p1_0) (t9001 : Bool) (hp : tourlaw1_SetsTells_1_1 n p1_0 = some t9001) : Calls Try.prog 20 #[vI n, vP b_p1 0] w fun e w' => ((RdS (Rep.int .i64) F W A_p1_0 c_p1_0 p1_0)) ∧ e = .returned (.bool t9001) ∧ Mem w0 (.blk b_p1 [sl A_p1_0 p1_0 c_p1_0] 23 :: Fz F W :: cs) w' := by
 unfold tourlaw1_SetsTells_1_1 at hp
 refine sx_calls Try.func20 rfl (n := 7) (by kernel_rfl) (l := [(0, vI n), (1, vP b_p1 0)]) rfl (by rfl) hM0 ?_
 refine st_seq (st_region [oF 0] (by rfl) ?_)
 refine oQ [oF 0] [(0, vI n), (1, vP b_p1 0)] (by kernel_rfl) ?_
 refine ops_nil (fin_then (st_seq (st_region [oF 0, oF 1, oF 2, oF 3] (by rfl) ?_)))
 refine ops_mem (d := some 4) (an := [.v (sl A_p1_0 p1_0 c_p1_0)]) (evs := [ld b_p1 0 (sl A_p1_0 p1_0 c_p1_0)]) (v := sl A_p1_0 p1_0 c_p1_0) ⟨by kernel_rfl⟩ (fun w_ hM hS => ⟨w_, ⟨hM.cell 0 rfl rfl, rfl⟩, hM, trivial⟩) ?_
 refine oQ [oF 1] [(5, vI n), (4, sl A_p1_0 p1_0 c_p1_0)] (by kernel_rfl) ?_
 obtain ⟨x1, hv2, hp⟩ := obind hp
 refine ops_callI (σ := Unit) (d := some 6) (f := 21) (args := #[sl A_p1_0 p1_0 c_p1_0, vI n]) (v := (fun _ => .bool x1)) (I := (fun _ => True)) (M' := (fun _ => Mem w0 (.blk b_p1 [sl A_p1_0 p1_0 c_p1_0] 23 :: Fz F W :: cs))) ⟨by kernel_rfl⟩ (fun w_ hM hS => (slices_Contains_int_int_ok w0 w_ (.blk b_p1 [sl A_p1_0 p1_0 c_p1_0] 23 :: cs) F W A_p1_0 c_p1_0 p1_0 n (hM.pick 2 [1, 0] (by kernel_rfl) (by decide) rfl) h_p1_0 x1 hv2).mono (by rintro e w' ⟨-, rfl, h'⟩; have h' : Mem w0 (.blk b_p1 [sl A_p1_0 p1_0 c_p1_0] 23 :: Fz F W :: cs) w' := (h'.pick 2 [1, 0] (by kernel_rfl) (by decide) rfl); exact ⟨(), trivial, rfl, h', trivial⟩)) ?_
 rintro _ -
 refine oQ [oF 3] [(3, .bool x1)] (by kernel_rfl) ?_
 refine ops_nil (fin_then (st_ret ?_))
 have hq_ := Option.some.inj hp
 have hr0_ := hq_
 subst hr0_
 refine fin_ret [.tmp 3] [.bool x1] rfl rfl (fun w_ hM => (.tmp rfl .nil)) (fun w_ hM => ?_)
 exact ⟨h_p1_0, rfl, hM⟩
theorem tourlaw1_SetsTells_3_v2_ok (w0 w : World) (cs : List Chunk) (F : Nat → Prop) (W : World) (A_l : Option Addr) (c_l : Nat) (l : List Int) (b_is_c0 : Nat) (A_is_c0_0 : Option Addr) (c_is_c0_0 : Nat) (is_c0_0 : List Int) (hM0 : Mem w0 (.blk b_is_c0 [sl A_is_c0_0 is_c0_0 c_is_c0_0] 23 :: Fz F W :: cs) w) (h_l : RdS (Rep.int .i64) F W A_l c_l l) (h_is_c0_0 : RdS (Rep.int .i64) F W A_is_c0_0 c_is_c0_0 is_c0_0) (l9003 : List Int) (hp : tourlaw1_SetsTells_3_v2 l is_c0_0 = some l9003) : Calls Try.prog 24 #[sl A_l l c_l, .func (.func 20) #[] #[vP b_is_c0 0]] w fun e w' => ∃ (A9001 : Option Addr), ∃ (c9002 : Nat), ∃ (y9004 : List Value), ((RepL (Rep.int .i64) F W l9003 y9004) ∧ (RdS (Rep.int .i64) F W A_is_c0_0 c_is_c0_0 is_c0_0)) ∧ e = .returned (sl A9001 l9003 c9002) ∧ Mem w0 (ow A9001 l9003 c9002 3 1 y9004 :: .blk b_is_c0 [sl A_is_c0_0 is_c0_0 c_is_c0_0] 23 :: Fz F W :: cs) w' := by
 unfold tourlaw1_SetsTells_3_v2 at hp
 refine sx_calls Try.func24 rfl (n := 23) (by kernel_rfl) (l := [(0, sl A_l l c_l), (1, .func (.func 20) #[] #[vP b_is_c0 0])]) rfl (by rfl) hM0 ?_
 refine st_seq (st_region [oF 0] (by rfl) ?_)
 refine oQ [oF 0] [(0, sl A_l l c_l), (1, .func (.func 20) #[] #[vP b_is_c0 0])] (by kernel_rfl) ?_
 refine ops_nil (fin_then (st_seq (st_region [oF 0] (by rfl) ?_)))
 refine oQ [oF 0] [(5, .slice none 0 0), (0, sl A_l l c_l), (1, .func (.func 20) #[] #[vP b_is_c0 0])] (by kernel_rfl) ?_
 refine ops_nil (fin_then ?_)
 refine st_join1 (σ := (Option Addr) × Nat × (List Int) × (List Value)) (L := fun x_ => match x_ with | (A1, c2, l3, y4) => [(5, sl A1 l3 c2)]) (N := fun x_ => match x_ with | (A1, c2, l3, y4) => Mem w0 (ow A1 l3 c2 3 1 y4 :: .blk b_is_c0 [sl A_is_c0_0 is_c0_0 c_is_c0_0] 23 :: Fz F W :: cs)) (I := fun x_ => match x_ with | (A1, c2, l3, y4) => (tourlaw1_SetsTells_3_v2_j1 l3 = some l9003) ∧ (RepL (Rep.int .i64) F W l3 y4) ∧ (RdS (Rep.int .i64) F W A_is_c0_0 c_is_c0_0 is_c0_0)) ?_ ?_
 ·
  rintro ⟨A1, c2, l3, y4⟩ ⟨hp, h5, h6⟩
  unfold tourlaw1_SetsTells_3_v2_j1 at hp
  refine st_seq (st_region [oF 0, oF 1] (by rfl) ?_)
  refine oQ [oF 0, oF 1] [(4, sl A1 l3 c2)] (by kernel_rfl) ?_
  refine ops_nil (fin_then (st_ret ?_))
  have hq_ := Option.some.inj hp
  have hr0_ := hq_
  subst hr0_
  refine fin_ret [.tmp 4] [sl A1 l3 c2] rfl rfl (fun w_ hM => (.tmp rfl .nil)) (fun w_ hM => ?_)
  exact ⟨A1, c2, y4, ⟨h5, h6⟩, rfl, hM⟩
 ·
  intro HJ1
  refine st_seq (st_seq (st_region [oF 0, oF 1, oF 2] (by rfl) ?_))
  refine oQ [oF 0, oF 1, oF 2] [(10, vI 0), (9, vI (l.length : Int)), (8, sl A_l l c_l), (5, .slice none 0 0), (1, .func (.func 20) #[] #[vP b_is_c0 0])] (by kernel_rfl) ?_
  refine ops_nil (fin_then (st_block ?_))
  refine st_conv (l' := [(10, vI 0), (9, vI (l.length : Int)), (8, sl A_l l c_l), (5, .slice none 0 0), (1, .func (.func 20) #[] #[vP b_is_c0 0])]) (M' := Mem w0 (ow none ([] : List Int) 0 3 1 [] :: .blk b_is_c0 [sl A_is_c0_0 is_c0_0 c_is_c0_0] 23 :: Fz F W :: cs)) rfl (fun w_ h => h.onil none 3 1) ?_
  obtain ⟨r2, hl2, hk2⟩ := obind hp
  refine st_loopP (σ := (List Int) × Int) (ρ := (List Int)) (γ := (Option Addr) × Nat × (List Value)) hl2 (none, 0, []) (fun s_ g_ => match s_, g_ with | (l10, i13), (A8, c9, y11) => [(1, .func (.func 20) #[] #[vP b_is_c0 0]), (5, sl A8 l10 c9), (8, sl A_l l c_l), (9, vI (l.length : Int)), (10, vI i13)]) (fun s_ g_ => match s_, g_ with | (l10, i13), (A8, c9, y11) => Mem w0 (.blk b_is_c0 [sl A_is_c0_0 is_c0_0 c_is_c0_0] 23 :: ow A8 l10 c9 3 1 y11 :: Fz F W :: cs)) (fun s_ g_ => match s_, g_ with | (l10, i13), (A8, c9, y11) => (RdS (Rep.int .i64) F W A_is_c0_0 c_is_c0_0 is_c0_0) ∧ (RepL (Rep.int .i64) F W l10 y11)) ⟨h_is_c0_0, (RepL.nil (R := (Rep.int .i64)))⟩ (look_has ⟨rfl, rfl, rfl, rfl, rfl, trivial⟩) (fun w_ hM => hM.pick 3 [1, 0, 2] (by kernel_rfl) (by decide) rfl) ?_
  rintro ⟨l10, i13⟩ ⟨A8, c9, y11⟩ o2 ⟨h7, h12⟩ hs_ hd2
  have hp : (tourlaw1_SetsTells_3_v2_l2 l is_c0_0) l10 i13 = some o2 := hs_
  clear hs_
  unfold tourlaw1_SetsTells_3_v2_l2 at hp
  refine st_seq (st_region [oF 0] (by rfl) ?_)
  refine oQ [oF 0] [(11, .bool (decide (i13 < (l.length : Int)))), (1, .func (.func 20) #[] #[vP b_is_c0 0]), (5, sl A8 l10 c9), (8, sl A_l l c_l), (9, vI (l.length : Int)), (10, vI i13)] (by kernel_rfl) ?_
  refine ops_nil (fin_then (st_seq ?_))
  refine st_if (b := decide (i13 < (l.length : Int))) rfl (fun hc14 => ?_) (fun hc14 => ?_)
  ·
   have hp := cnd_t hc14 hp
   refine st_skip (fin_then ?_)
   refine st_join1 (σ := (Option Addr) × Nat × (List Int) × (List Value)) (L := fun x_ => match x_ with | (A16, c17, l18, y19) => [(1, .func (.func 20) #[] #[vP b_is_c0 0]), (5, sl A16 l18 c17), (8, sl A_l l c_l), (9, vI (l.length : Int)), (10, vI i13)]) (N := fun x_ => match x_ with | (A16, c17, l18, y19) => Mem w0 (.blk b_is_c0 [sl A_is_c0_0 is_c0_0 c_is_c0_0] 23 :: ow A16 l18 c17 3 1 y19 :: Fz F W :: cs)) (I := fun x_ => match x_ with | (A16, c17, l18, y19) => ((tourlaw1_SetsTells_3_v2_j3 i13) l18 = some o2) ∧ (RdS (Rep.int .i64) F W A_is_c0_0 c_is_c0_0 is_c0_0) ∧ (RepL (Rep.int .i64) F W l18 y19)) ?_ ?_
   ·
    rintro ⟨A16, c17, l18, y19⟩ ⟨hp, h15, h20⟩
    unfold tourlaw1_SetsTells_3_v2_j3 at hp
    refine st_region [oF 0, oF 1] (by rfl) ?_
    refine oQ [oF 0, oF 1] [(10, vI (IntKind.i64.wrap (i13 + 1))), (1, .func (.func 20) #[] #[vP b_is_c0 0]), (5, sl A16 l18 c17), (8, sl A_l l c_l), (9, vI (l.length : Int))] (by kernel_rfl) ?_
    refine ops_nil ?_
    exact fin_again (l18, IntKind.i64.wrap (i13 + 1)) (A16, c17, y19) (Option.some.inj hp).symm ⟨h15, h20⟩ (look_has ⟨rfl, rfl, rfl, rfl, rfl, trivial⟩) (fun w_ hM => hM)
   ·
    intro HJ3
    refine st_seq (st_block (st_seq (st_region [oF 0, oF 1, oF 2] (by rfl) ?_)))
    obtain ⟨x21, hv22, hp⟩ := obind hp
    obtain ⟨m23, hm24, hx25⟩ := idx_some hv22
    have hl28 := (List.getElem?_eq_some_iff.1 hx25).1
    obtain ⟨ad29, vs26, hA30, hr27, hq31⟩ := RdS.el h_l hx25
    obtain rfl := hr27
    refine ops_val (op := (.indexAddr 23 (.tmp 8) (.tmp 10))) (d := some 12) (v := .pointer (some (ad29.add (m23 * 1)))) ⟨by kernel_rfl⟩ (run_indexA hA30 Try.underlying23 (z := 1) (by kernel_rfl) rfl rfl hm24 hl28) ?_
    refine ops_mem (d := some 13) (an := [.v (vI x21)]) (evs := [.load (ad29.add (m23 * 1)) (vI x21)]) (v := vI x21) ⟨by kernel_rfl⟩ (fun w_ hM hS => ⟨w_, ⟨hM.elcell 2 rfl hq31 0 rfl, rfl⟩, hM, trivial⟩) ?_
    refine oQ [oF 2] [(7, vI x21), (1, .func (.func 20) #[] #[vP b_is_c0 0]), (5, sl A8 l10 c9), (8, sl A_l l c_l), (9, vI (l.length : Int)), (10, vI i13)] (by kernel_rfl) ?_
    refine ops_nil (fin_then (st_seq (st_region [oF 0, oF 1, oF 2] (by rfl) ?_)))
    refine oQ [oF 0, oF 1] [(15, vI x21), (14, .func (.func 20) #[] #[vP b_is_c0 0]), (7, vI x21), (1, .func (.func 20) #[] #[vP b_is_c0 0]), (5, sl A8 l10 c9), (8, sl A_l l c_l), (9, vI (l.length : Int)), (10, vI i13)] (by kernel_rfl) ?_
    obtain ⟨x32, hv33, hp⟩ := obind hp
    refine ops_callI (σ := Unit) (d := some 16) (f := 20) (args := #[vI x21, vP b_is_c0 0]) (v := (fun _ => .bool x32)) (I := (fun _ => (RdS (Rep.int .i64) F W A_is_c0_0 c_is_c0_0 is_c0_0))) (M' := (fun _ => Mem w0 (.blk b_is_c0 [sl A_is_c0_0 is_c0_0 c_is_c0_0] 23 :: ow A8 l10 c9 3 1 y11 :: Fz F W :: cs))) ⟨by kernel_rfl⟩ (fun w_ hM hS => (tourlaw1_SetsTells_1_1_ok w0 w_ (ow A8 l10 c9 3 1 y11 :: cs) F W x21 b_is_c0 A_is_c0_0 c_is_c0_0 is_c0_0 (hM.pick 3 [0, 2, 1] (by kernel_rfl) (by decide) rfl) h7 x32 hv33).mono (by rintro e w' ⟨h34, rfl, h'⟩; have h' : Mem w0 (.blk b_is_c0 [sl A_is_c0_0 is_c0_0 c_is_c0_0] 23 :: ow A8 l10 c9 3 1 y11 :: Fz F W :: cs) w' := (h'.pick 3 [0, 2, 1] (by kernel_rfl) (by decide) rfl); exact ⟨(), h34, rfl, h', trivial⟩)) ?_
    rintro _ h34
    refine ops_nil (fin_then ?_)
    refine st_if (b := x32) rfl (fun hc35 => ?_) (fun hc35 => ?_)
    ·
     have hp := cnd_t hc35 hp
     refine st_region [oF 0, oF 1, oF 2, oF 3, oF 4] (by rfl) ?_
     refine oQ [oF 0, oF 1] [(18, vI x21), (17, sl A8 l10 c9), (1, .func (.func 20) #[] #[vP b_is_c0 0]), (5, sl A8 l10 c9), (8, sl A_l l c_l), (9, vI (l.length : Int)), (10, vI i13)] (by kernel_rfl) ?_
     have h36 : RepL (Rep.int .i64) F W ([x21] : List Int) ([vI x21]) := (RepL.cons (R := (Rep.int .i64)) (F := F) (w := W) (vs := [vI x21]) (ys := []) rfl RepL.nil)
     refine ops_new (d := some 19) (o := .cells ([vI x21] : List Value).toArray 3) (v := fun g37 => .slice (sa g37) ([x21] : List Int).length 1) (M' := fun g37 => Mem w0 (orow (sa g37) ([x21] : List Int).length 1 3 1 ([vI x21]) :: .blk b_is_c0 [sl A_is_c0_0 is_c0_0 c_is_c0_0] 23 :: ow A8 l10 c9 3 1 y11 :: Fz F W :: cs)) (fun g37 => ⟨by kernel_rfl⟩) (fun w_ hM hS => ⟨hM.onew [vI x21] 3 1 1 rfl (by decide), trivial⟩) (fun g37 => ?_)
     obtain ⟨l38, hv39, hp⟩ := obind hp
     obtain ⟨he40, hb41⟩ := app_some hv39
     obtain ⟨y42, hy43⟩ : ∃ y_, y11 ++ ([vI x21]) = y_ := ⟨_, rfl⟩
     have h44 : RepL (Rep.int .i64) F W l38 y42 := by rw [he40, ← hy43]; exact RepL.app h12 h36
     refine ops_appendO (x := (Go.Operand.tmp 17)) (y := (Go.Operand.tmp 19)) (t := 23) (e := 3) (d := some 20) (n' := l38.length) (z := 1) (m := ([x21] : List Int).length) (bytes := 8) (xs' := y42) (news := ([vI x21])) (zv := vI 0) 2 ⟨by kernel_rfl⟩ rfl rfl Try.underlying23 (by kernel_rfl) (by rfl) rfl (fun w_ hM => hM.srcO 0 rfl) h36.len h36.one hb41 (by have z_ := congrArg List.length he40; rw [List.length_append] at z_; exact z_.symm) hy43 (fun _ _ _ _ hS h' => trivial) ?_
     rintro ⟨A45, c46⟩
     refine oQ [oF 4] [(5, sl A45 l38 c46), (1, .func (.func 20) #[] #[vP b_is_c0 0]), (8, sl A_l l c_l), (9, vI (l.length : Int)), (10, vI i13)] (by kernel_rfl) ?_
     refine ops_nil (fin_block ?_)
     exact fin_join HJ3 (A45, c46, l38, y42) ⟨hp, h34, h44⟩ (look_has ⟨rfl, rfl, rfl, rfl, rfl, trivial⟩) (fun w_ hM => hM.pick 4 [1, 2, 3] (by kernel_rfl) (by decide) rfl)
    ·
     have hp := cnd_f hc35 hp
     refine st_skip (fin_block ?_)
     exact fin_join HJ3 (A8, c9, l10, y11) ⟨hp, h34, h12⟩ (look_has ⟨rfl, rfl, rfl, rfl, rfl, trivial⟩) (fun w_ hM => hM)
  ·
   have hp := cnd_f hc14 hp
   refine st_exit (fin_exit_then (fin_exit_then (fin_exit ?_)))
   obtain hq_ := Option.some.inj hp
   subst hq_
   obtain hq_ := hd2 _ rfl
   subst hq_
   have hp : tourlaw1_SetsTells_3_v2_j1 l10 = some l9003 := hk2
   exact fin_join HJ1 (A8, c9, l10, y11) ⟨hp, h12, h7⟩ (look_has ⟨rfl, trivial⟩) (fun w_ hM => hM.pick 3 [1, 0, 2] (by kernel_rfl) (by decide) rfl)
theorem tourlaw1_SetsTells_2_ok (w0 w : World) (cs : List Chunk) (F : Nat → Prop) (W : World) (A_l : Option Addr) (c_l : Nat) (l : List Int) (hM0 : Mem w0 (Fz F W :: cs) w) (h_l : RdS (Rep.int .i64) F W A_l c_l l) (hp : tourlaw1_SetsTells_2 l = some ()) : Calls Try.prog 22 #[sl A_l l c_l] w fun e w' => ∃ (b9001 : Nat), ((RdS (Rep.int .i64) F W A_l c_l l)) ∧ e = .returned (.func (.func 23) #[] #[vP b9001 0]) ∧ Mem w0 (.blk b9001 [sl A_l l c_l] 23 :: Fz F W :: cs) w' := by
 unfold tourlaw1_SetsTells_2 at hp
 refine sx_calls Try.func22 rfl (n := 4) (by kernel_rfl) (l := [(0, sl A_l l c_l)]) rfl (by rfl) hM0 ?_
 refine st_seq (st_region [oF 0, oF 1] (by rfl) ?_)
 refine ops_newB (d := some 1) [sl A_l l c_l] 23 (fun b1 => ⟨by kernel_rfl⟩) (fun w_ hM hS => trivial) (fun b1 => ?_)
 refine oQ [oF 1] [(1, vP b1 0)] (by kernel_rfl) ?_
 refine ops_nil (fin_then (st_seq (st_region [oF 0, oF 1] (by rfl) ?_)))
 refine oQ [oF 0, oF 1] [(2, .func (.func 23) #[] #[vP b1 0])] (by kernel_rfl) ?_
 refine ops_nil (fin_then (st_ret ?_))
 refine fin_ret [.tmp 2] [.func (.func 23) #[] #[vP b1 0]] rfl rfl (fun w_ hM => (.tmp rfl .nil)) (fun w_ hM => ?_)
 exact ⟨b1, h_l, rfl, hM⟩
theorem tourlaw1_SetsTells_2_1_ok (w0 w : World) (cs : List Chunk) (F : Nat → Prop) (W : World) (n : Int) (b_p1 : Nat) (A_p1_0 : Option Addr) (c_p1_0 : Nat) (p1_0 : List Int) (hM0 : Mem w0 (.blk b_p1 [sl A_p1_0 p1_0 c_p1_0] 23 :: Fz F W :: cs) w) (h_p1_0 : RdS (Rep.int .i64) F W A_p1_0 c_p1_0 p1_0) (t9001 : Bool) (hp : tourlaw1_SetsTells_2_1 n p1_0 = some t9001) : Calls Try.prog 23 #[vI n, vP b_p1 0] w fun e w' => ((RdS (Rep.int .i64) F W A_p1_0 c_p1_0 p1_0)) ∧ e = .returned (.bool t9001) ∧ Mem w0 (.blk b_p1 [sl A_p1_0 p1_0 c_p1_0] 23 :: Fz F W :: cs) w' := by
 unfold tourlaw1_SetsTells_2_1 at hp
 refine sx_calls Try.func23 rfl (n := 8) (by kernel_rfl) (l := [(0, vI n), (1, vP b_p1 0)]) rfl (by rfl) hM0 ?_
 refine st_seq (st_region [oF 0] (by rfl) ?_)
 refine oQ [oF 0] [(0, vI n), (1, vP b_p1 0)] (by kernel_rfl) ?_
 refine ops_nil (fin_then (st_seq (st_region [oF 0, oF 1, oF 2, oF 3, oF 4] (by rfl) ?_)))
 refine ops_mem (d := some 4) (an := [.v (sl A_p1_0 p1_0 c_p1_0)]) (evs := [ld b_p1 0 (sl A_p1_0 p1_0 c_p1_0)]) (v := sl A_p1_0 p1_0 c_p1_0) ⟨by kernel_rfl⟩ (fun w_ hM hS => ⟨w_, ⟨hM.cell 0 rfl rfl, rfl⟩, hM, trivial⟩) ?_
 refine oQ [oF 1] [(5, vI n), (4, sl A_p1_0 p1_0 c_p1_0)] (by kernel_rfl) ?_
 obtain ⟨x1, hv2, hp⟩ := obind hp
 refine ops_callI (σ := Unit) (d := some 6) (f := 21) (args := #[sl A_p1_0 p1_0 c_p1_0, vI n]) (v := (fun _ => .bool x1)) (I := (fun _ => True)) (M' := (fun _ => Mem w0 (.blk b_p1 [sl A_p1_0 p1_0 c_p1_0] 23 :: Fz F W :: cs))) ⟨by kernel_rfl⟩ (fun w_ hM hS => (slices_Contains_int_int_ok w0 w_ (.blk b_p1 [sl A_p1_0 p1_0 c_p1_0] 23 :: cs) F W A_p1_0 c_p1_0 p1_0 n (hM.pick 2 [1, 0] (by kernel_rfl) (by decide) rfl) h_p1_0 x1 hv2).mono (by rintro e w' ⟨-, rfl, h'⟩; have h' : Mem w0 (.blk b_p1 [sl A_p1_0 p1_0 c_p1_0] 23 :: Fz F W :: cs) w' := (h'.pick 2 [1, 0] (by kernel_rfl) (by decide) rfl); exact ⟨(), trivial, rfl, h', trivial⟩)) ?_
 rintro _ -
 refine oQ [oF 3, oF 4] [(3, .bool (!x1))] (by kernel_rfl) ?_
 refine ops_nil (fin_then (st_ret ?_))
 have hq_ := Option.some.inj hp
 have hr0_ := hq_
 subst hr0_
 refine fin_ret [.tmp 3] [.bool (!x1)] rfl rfl (fun w_ hM => (.tmp rfl .nil)) (fun w_ hM => ?_)
 exact ⟨h_p1_0, rfl, hM⟩
theorem tourlaw1_SetsTells_3_v3_ok (w0 w : World) (cs : List Chunk) (F : Nat → Prop) (W : World) (A_l : Option Addr) (c_l : Nat) (l : List Int) (b_is_c0 : Nat) (A_is_c0_0 : Option Addr) (c_is_c0_0 : Nat) (is_c0_0 : List Int) (hM0 : Mem w0 (.blk b_is_c0 [sl A_is_c0_0 is_c0_0 c_is_c0_0] 23 :: Fz F W :: cs) w) (h_l : RdS (Rep.int .i64) F W A_l c_l l) (h_is_c0_0 : RdS (Rep.int .i64) F W A_is_c0_0 c_is_c0_0 is_c0_0) (l9003 : List Int) (hp : tourlaw1_SetsTells_3_v3 l is_c0_0 = some l9003) : Calls Try.prog 24 #[sl A_l l c_l, .func (.func 23) #[] #[vP b_is_c0 0]] w fun e w' => ∃ (A9001 : Option Addr), ∃ (c9002 : Nat), ∃ (y9004 : List Value), ((RepL (Rep.int .i64) F W l9003 y9004) ∧ (RdS (Rep.int .i64) F W A_is_c0_0 c_is_c0_0 is_c0_0)) ∧ e = .returned (sl A9001 l9003 c9002) ∧ Mem w0 (ow A9001 l9003 c9002 3 1 y9004 :: .blk b_is_c0 [sl A_is_c0_0 is_c0_0 c_is_c0_0] 23 :: Fz F W :: cs) w' := by
 unfold tourlaw1_SetsTells_3_v3 at hp
 refine sx_calls Try.func24 rfl (n := 23) (by kernel_rfl) (l := [(0, sl A_l l c_l), (1, .func (.func 23) #[] #[vP b_is_c0 0])]) rfl (by rfl) hM0 ?_
 refine st_seq (st_region [oF 0] (by rfl) ?_)
 refine oQ [oF 0] [(0, sl A_l l c_l), (1, .func (.func 23) #[] #[vP b_is_c0 0])] (by kernel_rfl) ?_
 refine ops_nil (fin_then (st_seq (st_region [oF 0] (by rfl) ?_)))
 refine oQ [oF 0] [(5, .slice none 0 0), (0, sl A_l l c_l), (1, .func (.func 23) #[] #[vP b_is_c0 0])] (by kernel_rfl) ?_
 refine ops_nil (fin_then ?_)
 refine st_join1 (σ := (Option Addr) × Nat × (List Int) × (List Value)) (L := fun x_ => match x_ with | (A1, c2, l3, y4) => [(5, sl A1 l3 c2)]) (N := fun x_ => match x_ with | (A1, c2, l3, y4) => Mem w0 (ow A1 l3 c2 3 1 y4 :: .blk b_is_c0 [sl A_is_c0_0 is_c0_0 c_is_c0_0] 23 :: Fz F W :: cs)) (I := fun x_ => match x_ with | (A1, c2, l3, y4) => (tourlaw1_SetsTells_3_v3_j1 l3 = some l9003) ∧ (RepL (Rep.int .i64) F W l3 y4) ∧ (RdS (Rep.int .i64) F W A_is_c0_0 c_is_c0_0 is_c0_0)) ?_ ?_
 ·
  rintro ⟨A1, c2, l3, y4⟩ ⟨hp, h5, h6⟩
  unfold tourlaw1_SetsTells_3_v3_j1 at hp
  refine st_seq (st_region [oF 0, oF 1] (by rfl) ?_)
  refine oQ [oF 0, oF 1] [(4, sl A1 l3 c2)] (by kernel_rfl) ?_
  refine ops_nil (fin_then (st_ret ?_))
  have hq_ := Option.some.inj hp
  have hr0_ := hq_
  subst hr0_
  refine fin_ret [.tmp 4] [sl A1 l3 c2] rfl rfl (fun w_ hM => (.tmp rfl .nil)) (fun w_ hM => ?_)
  exact ⟨A1, c2, y4, ⟨h5, h6⟩, rfl, hM⟩
 ·
  intro HJ1
  refine st_seq (st_seq (st_region [oF 0, oF 1, oF 2] (by rfl) ?_))
  refine oQ [oF 0, oF 1, oF 2] [(10, vI 0), (9, vI (l.length : Int)), (8, sl A_l l c_l), (5, .slice none 0 0), (1, .func (.func 23) #[] #[vP b_is_c0 0])] (by kernel_rfl) ?_
  refine ops_nil (fin_then (st_block ?_))
  refine st_conv (l' := [(10, vI 0), (9, vI (l.length : Int)), (8, sl A_l l c_l), (5, .slice none 0 0), (1, .func (.func 23) #[] #[vP b_is_c0 0])]) (M' := Mem w0 (ow none ([] : List Int) 0 3 1 [] :: .blk b_is_c0 [sl A_is_c0_0 is_c0_0 c_is_c0_0] 23 :: Fz F W :: cs)) rfl (fun w_ h => h.onil none 3 1) ?_
  obtain ⟨r2, hl2, hk2⟩ := obind hp
  refine st_loopP (σ := (List Int) × Int) (ρ := (List Int)) (γ := (Option Addr) × Nat × (List Value)) hl2 (none, 0, []) (fun s_ g_ => match s_, g_ with | (l10, i13), (A8, c9, y11) => [(1, .func (.func 23) #[] #[vP b_is_c0 0]), (5, sl A8 l10 c9), (8, sl A_l l c_l), (9, vI (l.length : Int)), (10, vI i13)]) (fun s_ g_ => match s_, g_ with | (l10, i13), (A8, c9, y11) => Mem w0 (.blk b_is_c0 [sl A_is_c0_0 is_c0_0 c_is_c0_0] 23 :: ow A8 l10 c9 3 1 y11 :: Fz F W :: cs)) (fun s_ g_ => match s_, g_ with | (l10, i13), (A8, c9, y11) => (RdS (Rep.int .i64) F W A_is_c0_0 c_is_c0_0 is_c0_0) ∧ (RepL (Rep.int .i64) F W l10 y11)) ⟨h_is_c0_0, (RepL.nil (R := (Rep.int .i64)))⟩ (look_has ⟨rfl, rfl, rfl, rfl, rfl, trivial⟩) (fun w_ hM => hM.pick 3 [1, 0, 2] (by kernel_rfl) (by decide) rfl) ?_
  rintro ⟨l10, i13⟩ ⟨A8, c9, y11⟩ o2 ⟨h7, h12⟩ hs_ hd2
  have hp : (tourlaw1_SetsTells_3_v3_l2 l is_c0_0) l10 i13 = some o2 := hs_
  clear hs_
  unfold tourlaw1_SetsTells_3_v3_l2 at hp
  refine st_seq (st_region [oF 0] (by rfl) ?_)
  refine oQ [oF 0] [(11, .bool (decide (i13 < (l.length : Int)))), (1, .func (.func 23) #[] #[vP b_is_c0 0]), (5, sl A8 l10 c9), (8, sl A_l l c_l), (9, vI (l.length : Int)), (10, vI i13)] (by kernel_rfl) ?_
  refine ops_nil (fin_then (st_seq ?_))
  refine st_if (b := decide (i13 < (l.length : Int))) rfl (fun hc14 => ?_) (fun hc14 => ?_)
  ·
   have hp := cnd_t hc14 hp
   refine st_skip (fin_then ?_)
   refine st_join1 (σ := (Option Addr) × Nat × (List Int) × (List Value)) (L := fun x_ => match x_ with | (A16, c17, l18, y19) => [(1, .func (.func 23) #[] #[vP b_is_c0 0]), (5, sl A16 l18 c17), (8, sl A_l l c_l), (9, vI (l.length : Int)), (10, vI i13)]) (N := fun x_ => match x_ with | (A16, c17, l18, y19) => Mem w0 (.blk b_is_c0 [sl A_is_c0_0 is_c0_0 c_is_c0_0] 23 :: ow A16 l18 c17 3 1 y19 :: Fz F W :: cs)) (I := fun x_ => match x_ with | (A16, c17, l18, y19) => ((tourlaw1_SetsTells_3_v3_j3 i13) l18 = some o2) ∧ (RdS (Rep.int .i64) F W A_is_c0_0 c_is_c0_0 is_c0_0) ∧ (RepL (Rep.int .i64) F W l18 y19)) ?_ ?_
   ·
    rintro ⟨A16, c17, l18, y19⟩ ⟨hp, h15, h20⟩
    unfold tourlaw1_SetsTells_3_v3_j3 at hp
    refine st_region [oF 0, oF 1] (by rfl) ?_
    refine oQ [oF 0, oF 1] [(10, vI (IntKind.i64.wrap (i13 + 1))), (1, .func (.func 23) #[] #[vP b_is_c0 0]), (5, sl A16 l18 c17), (8, sl A_l l c_l), (9, vI (l.length : Int))] (by kernel_rfl) ?_
    refine ops_nil ?_
    exact fin_again (l18, IntKind.i64.wrap (i13 + 1)) (A16, c17, y19) (Option.some.inj hp).symm ⟨h15, h20⟩ (look_has ⟨rfl, rfl, rfl, rfl, rfl, trivial⟩) (fun w_ hM => hM)
   ·
    intro HJ3
    refine st_seq (st_block (st_seq (st_region [oF 0, oF 1, oF 2] (by rfl) ?_)))
    obtain ⟨x21, hv22, hp⟩ := obind hp
    obtain ⟨m23, hm24, hx25⟩ := idx_some hv22
    have hl28 := (List.getElem?_eq_some_iff.1 hx25).1
    obtain ⟨ad29, vs26, hA30, hr27, hq31⟩ := RdS.el h_l hx25
    obtain rfl := hr27
    refine ops_val (op := (.indexAddr 23 (.tmp 8) (.tmp 10))) (d := some 12) (v := .pointer (some (ad29.add (m23 * 1)))) ⟨by kernel_rfl⟩ (run_indexA hA30 Try.underlying23 (z := 1) (by kernel_rfl) rfl rfl hm24 hl28) ?_
    refine ops_mem (d := some 13) (an := [.v (vI x21)]) (evs := [.load (ad29.add (m23 * 1)) (vI x21)]) (v := vI x21) ⟨by kernel_rfl⟩ (fun w_ hM hS => ⟨w_, ⟨hM.elcell 2 rfl hq31 0 rfl, rfl⟩, hM, trivial⟩) ?_
    refine oQ [oF 2] [(7, vI x21), (1, .func (.func 23) #[] #[vP b_is_c0 0]), (5, sl A8 l10 c9), (8, sl A_l l c_l), (9, vI (l.length : Int)), (10, vI i13)] (by kernel_rfl) ?_
    refine ops_nil (fin_then (st_seq (st_region [oF 0, oF 1, oF 2] (by rfl) ?_)))
    refine oQ [oF 0, oF 1] [(15, vI x21), (14, .func (.func 23) #[] #[vP b_is_c0 0]), (7, vI x21), (1, .func (.func 23) #[] #[vP b_is_c0 0]), (5, sl A8 l10 c9), (8, sl A_l l c_l), (9, vI (l.length : Int)), (10, vI i13)] (by kernel_rfl) ?_
    obtain ⟨x32, hv33, hp⟩ := obind hp
    refine ops_callI (σ := Unit) (d := some 16) (f := 23) (args := #[vI x21, vP b_is_c0 0]) (v := (fun _ => .bool x32)) (I := (fun _ => (RdS (Rep.int .i64) F W A_is_c0_0 c_is_c0_0 is_c0_0))) (M' := (fun _ => Mem w0 (.blk b_is_c0 [sl A_is_c0_0 is_c0_0 c_is_c0_0] 23 :: ow A8 l10 c9 3 1 y11 :: Fz F W :: cs))) ⟨by kernel_rfl⟩ (fun w_ hM hS => (tourlaw1_SetsTells_2_1_ok w0 w_ (ow A8 l10 c9 3 1 y11 :: cs) F W x21 b_is_c0 A_is_c0_0 c_is_c0_0 is_c0_0 (hM.pick 3 [0, 2, 1] (by kernel_rfl) (by decide) rfl) h7 x32 hv33).mono (by rintro e w' ⟨h34, rfl, h'⟩; have h' : Mem w0 (.blk b_is_c0 [sl A_is_c0_0 is_c0_0 c_is_c0_0] 23 :: ow A8 l10 c9 3 1 y11 :: Fz F W :: cs) w' := (h'.pick 3 [0, 2, 1] (by kernel_rfl) (by decide) rfl); exact ⟨(), h34, rfl, h', trivial⟩)) ?_
    rintro _ h34
    refine ops_nil (fin_then ?_)
    refine st_if (b := x32) rfl (fun hc35 => ?_) (fun hc35 => ?_)
    ·
     have hp := cnd_t hc35 hp
     refine st_region [oF 0, oF 1, oF 2, oF 3, oF 4] (by rfl) ?_
     refine oQ [oF 0, oF 1] [(18, vI x21), (17, sl A8 l10 c9), (1, .func (.func 23) #[] #[vP b_is_c0 0]), (5, sl A8 l10 c9), (8, sl A_l l c_l), (9, vI (l.length : Int)), (10, vI i13)] (by kernel_rfl) ?_
     have h36 : RepL (Rep.int .i64) F W ([x21] : List Int) ([vI x21]) := (RepL.cons (R := (Rep.int .i64)) (F := F) (w := W) (vs := [vI x21]) (ys := []) rfl RepL.nil)
     refine ops_new (d := some 19) (o := .cells ([vI x21] : List Value).toArray 3) (v := fun g37 => .slice (sa g37) ([x21] : List Int).length 1) (M' := fun g37 => Mem w0 (orow (sa g37) ([x21] : List Int).length 1 3 1 ([vI x21]) :: .blk b_is_c0 [sl A_is_c0_0 is_c0_0 c_is_c0_0] 23 :: ow A8 l10 c9 3 1 y11 :: Fz F W :: cs)) (fun g37 => ⟨by kernel_rfl⟩) (fun w_ hM hS => ⟨hM.onew [vI x21] 3 1 1 rfl (by decide), trivial⟩) (fun g37 => ?_)
     obtain ⟨l38, hv39, hp⟩ := obind hp
     obtain ⟨he40, hb41⟩ := app_some hv39
     obtain ⟨y42, hy43⟩ : ∃ y_, y11 ++ ([vI x21]) = y_ := ⟨_, rfl⟩
     have h44 : RepL (Rep.int .i64) F W l38 y42 := by rw [he40, ← hy43]; exact RepL.app h12 h36
     refine ops_appendO (x := (Go.Operand.tmp 17)) (y := (Go.Operand.tmp 19)) (t := 23) (e := 3) (d := some 20) (n' := l38.length) (z := 1) (m := ([x21] : List Int).length) (bytes := 8) (xs' := y42) (news := ([vI x21])) (zv := vI 0) 2 ⟨by kernel_rfl⟩ rfl rfl Try.underlying23 (by kernel_rfl) (by rfl) rfl (fun w_ hM => hM.srcO 0 rfl) h36.len h36.one hb41 (by have z_ := congrArg List.length he40; rw [List.length_append] at z_; exact z_.symm) hy43 (fun _ _ _ _ hS h' => trivial) ?_
     rintro ⟨A45, c46⟩
     refine oQ [oF 4] [(5, sl A45 l38 c46), (1, .func (.func 23) #[] #[vP b_is_c0 0]), (8, sl A_l l c_l), (9, vI (l.length : Int)), (10, vI i13)] (by kernel_rfl) ?_
     refine ops_nil (fin_block ?_)
     exact fin_join HJ3 (A45, c46, l38, y42) ⟨hp, h34, h44⟩ (look_has ⟨rfl, rfl, rfl, rfl, rfl, trivial⟩) (fun w_ hM => hM.pick 4 [1, 2, 3] (by kernel_rfl) (by decide) rfl)
    ·
     have hp := cnd_f hc35 hp
     refine st_skip (fin_block ?_)
     exact fin_join HJ3 (A8, c9, l10, y11) ⟨hp, h34, h12⟩ (look_has ⟨rfl, rfl, rfl, rfl, rfl, trivial⟩) (fun w_ hM => hM)
  ·
   have hp := cnd_f hc14 hp
   refine st_exit (fin_exit_then (fin_exit_then (fin_exit ?_)))
   obtain hq_ := Option.some.inj hp
   subst hq_
   obtain hq_ := hd2 _ rfl
   subst hq_
   have hp : tourlaw1_SetsTells_3_v3_j1 l10 = some l9003 := hk2
   exact fin_join HJ1 (A8, c9, l10, y11) ⟨hp, h12, h7⟩ (look_has ⟨rfl, trivial⟩) (fun w_ hM => hM.pick 3 [1, 0, 2] (by kernel_rfl) (by decide) rfl)
end Go.Proofs.Ythcniadbdjoecaa.S
