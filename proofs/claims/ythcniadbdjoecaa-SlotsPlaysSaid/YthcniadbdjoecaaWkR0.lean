/- The Go functions come to what the plain functions tell. No condition. -/
import Derived.Test.YthcniadbdjoecaaProg
import Derived.Test.YthcniadbdjoecaaFnR
namespace Go.Proofs.Ythcniadbdjoecaa.R
open Go Go.RowKit Go.Proofs.Ythcniadbdjoecaa.Sx
set_option linter.unusedVariables false
set_option maxHeartbeats 4000000
set_option maxRecDepth 100000
theorem slots_New_ok (w0 w : World) (cs : List Chunk) (F : Nat → Prop) (W : World) (hM0 : Mem w0 (Fz F W :: cs) w) (l9004 : List Int) (hp : slots_New = some l9004) : Calls Try.prog 76 #[] w fun e w' => ∃ (b9001 : Nat), ∃ (A9002 : Option Addr), ∃ (c9003 : Nat), ∃ (y9005 : List Value), ∃ (y9007 : List Value), ∃ (y9009 : List Value), ((RepL (Rep.int .i64) F W l9004 y9005) ∧ (RepL (Rep.int .u64) F W l9004 y9007) ∧ (RepL (Rep.int .u64) F W l9004 y9009)) ∧ e = .returned (vP b9001 0) ∧ Mem w0 (.blk b9001 [sl A9002 l9004 c9003, sl A9002 l9004 c9003, sl A9002 l9004 c9003] 127 :: ow A9002 l9004 c9003 3 1 y9005 :: ow A9002 l9004 c9003 52 1 y9007 :: ow A9002 l9004 c9003 52 1 y9009 :: Fz F W :: cs) w' := by
 unfold slots_New at hp
 refine sx_calls Try.func76 rfl (n := 3) (by kernel_rfl) (l := []) rfl (by rfl) hM0 ?_
 refine st_seq (st_region [oF 0] (by rfl) ?_)
 refine oQ [oF 0] [] (by kernel_rfl) ?_
 refine ops_nil (fin_then (st_seq (st_region [oF 0, oF 1, oF 2] (by rfl) ?_)))
 refine oQ [oF 0] [(1, .agg #[.slice none 0 0, .slice none 0 0, .slice none 0 0])] (by kernel_rfl) ?_
 refine ops_newB (d := some 2) [.slice none 0 0, .slice none 0 0, .slice none 0 0] 127 (fun b1 => ⟨by kernel_rfl⟩) (fun w_ hM hS => trivial) (fun b1 => ?_)
 refine oQ [oF 2] [(0, vP b1 0)] (by kernel_rfl) ?_
 refine ops_nil (fin_then (st_ret ?_))
 refine fin_conv (l' := [(0, vP b1 0)]) (M' := Mem w0 (ow none ([] : List Int) 0 3 1 [] :: .blk b1 [.slice none 0 0, .slice none 0 0, .slice none 0 0] 127 :: Fz F W :: cs)) rfl (fun w_ h => h.onil none 3 1) ?_
 refine fin_conv (l' := [(0, vP b1 0)]) (M' := Mem w0 (ow none ([] : List Int) 0 52 1 [] :: ow none ([] : List Int) 0 3 1 [] :: .blk b1 [.slice none 0 0, .slice none 0 0, .slice none 0 0] 127 :: Fz F W :: cs)) rfl (fun w_ h => h.onil none 52 1) ?_
 refine fin_conv (l' := [(0, vP b1 0)]) (M' := Mem w0 (ow none ([] : List Int) 0 52 1 [] :: ow none ([] : List Int) 0 52 1 [] :: ow none ([] : List Int) 0 3 1 [] :: .blk b1 [.slice none 0 0, .slice none 0 0, .slice none 0 0] 127 :: Fz F W :: cs)) rfl (fun w_ h => h.onil none 52 1) ?_
 refine fin_conv (l' := [(0, vP b1 0)]) (M' := Mem w0 (ow none ([] : List Int) 0 52 1 [] :: ow none ([] : List Int) 0 52 1 [] :: ow none ([] : List Int) 0 3 1 [] :: .blk b1 [sl none ([] : List Int) 0, sl none ([] : List Int) 0, sl none ([] : List Int) 0] 127 :: Fz F W :: cs)) rfl (fun _ h => h) ?_
 have hq_ := Option.some.inj hp
 have hr0_ := hq_
 subst hr0_
 refine fin_ret [.tmp 0] [vP b1 0] rfl rfl (fun w_ hM => (.tmp rfl .nil)) (fun w_ hM => ?_)
 exact ⟨b1, none, 0, [], [], [], ⟨(RepL.nil (R := (Rep.int .i64))), (RepL.nil (R := (Rep.int .u64))), (RepL.nil (R := (Rep.int .u64)))⟩, rfl, hM.pick 5 [3, 2, 1, 0, 4] (by kernel_rfl) (by decide) rfl⟩
theorem sets_Set_word_ok (w0 w : World) (cs : List Chunk) (F : Nat → Prop) (W : World) (A_s : Option Addr) (c_s : Nat) (s : List Int) (k : Int) (hM0 : Mem w0 (Fz F W :: cs) w) (h_s : RdS (Rep.int .u64) F W A_s c_s s) (i9001 : Int) (hp : sets_Set_word s k = some i9001) : Calls Try.prog 70 #[sl A_s s c_s, vI k] w fun e w' => (True) ∧ e = .returned (vU i9001) ∧ Mem w0 (Fz F W :: cs) w' := by
 unfold sets_Set_word at hp
 refine sx_calls Try.func70 rfl (n := 14) (by kernel_rfl) (l := [(0, sl A_s s c_s), (1, vI k)]) rfl (by rfl) hM0 ?_
 refine st_seq (st_region [oF 0] (by rfl) ?_)
 refine oQ [oF 0] [(0, sl A_s s c_s), (1, vI k)] (by kernel_rfl) ?_
 refine ops_nil (fin_then (st_seq (st_seq (st_region [oF 0, oF 1, oF 2, oF 3, oF 4] (by rfl) ?_))))
 refine oQ [oF 0, oF 1, oF 2] [(7, vI (s.length : Int)), (5, vI k), (0, sl A_s s c_s), (1, vI k)] (by kernel_rfl) ?_
 refine ops_val (op := (.call { callee := (Go.Callee.builtin Go.Builtin.min), args := #[(.tmp 7), (.const (Go.Value.int Go.IntKind.i64 64))], argTypes := #[3, 3] })) (d := some 8) (v := vI (min (s.length : Int) 64)) ⟨by kernel_rfl⟩ (run_min rfl rfl) ?_
 refine oQ [oF 4] [(9, .bool (decide (k < min (s.length : Int) 64))), (0, sl A_s s c_s), (1, vI k)] (by kernel_rfl) ?_
 refine ops_nil (fin_then ?_)
 refine st_if (b := decide (k < min (s.length : Int) 64)) rfl (fun hc1 => ?_) (fun hc1 => ?_)
 ·
  have hp := cnd_t hc1 hp
  refine st_seq (st_region [oF 0, oF 1, oF 2, oF 3, oF 4] (by rfl) ?_)
  refine oQ [oF 0, oF 1] [(11, vI k), (10, sl A_s s c_s)] (by kernel_rfl) ?_
  obtain ⟨x2, hv3, hp⟩ := obind hp
  obtain ⟨m4, hm5, hx6⟩ := idx_some hv3
  have hl9 := (List.getElem?_eq_some_iff.1 hx6).1
  obtain ⟨ad10, vs7, hA11, hr8, hq12⟩ := RdS.el h_s hx6
  obtain rfl := hr8
  refine ops_val (op := (.indexAddr 51 (.tmp 10) (.tmp 11))) (d := some 12) (v := .pointer (some (ad10.add (m4 * 1)))) ⟨by kernel_rfl⟩ (run_indexA hA11 Try.underlying51 (z := 1) (by kernel_rfl) rfl rfl hm5 hl9) ?_
  refine ops_mem (d := some 13) (an := [.v (vU x2)]) (evs := [.load (ad10.add (m4 * 1)) (vU x2)]) (v := vU x2) ⟨by kernel_rfl⟩ (fun w_ hM hS => ⟨w_, ⟨hM.elcell 0 rfl hq12 0 rfl, rfl⟩, hM, trivial⟩) ?_
  refine oQ [oF 4] [(4, vU x2)] (by kernel_rfl) ?_
  refine ops_nil (fin_then (st_ret (fin_ret_then ?_)))
  have hq_ := Option.some.inj hp
  have hr0_ := hq_
  subst hr0_
  refine fin_ret [.tmp 4] [vU x2] rfl rfl (fun w_ hM => (.tmp rfl .nil)) (fun w_ hM => ?_)
  exact ⟨trivial, rfl, hM⟩
 ·
  have hp := cnd_f hc1 hp
  refine st_skip (fin_then (st_seq (st_region [oF 0] (by rfl) ?_)))
  refine oQ [oF 0] [(4, vU 0)] (by kernel_rfl) ?_
  refine ops_nil (fin_then (st_ret ?_))
  have hq_ := Option.some.inj hp
  have hr0_ := hq_
  subst hr0_
  refine fin_ret [.tmp 4] [vU 0] rfl rfl (fun w_ hM => (.tmp rfl .nil)) (fun w_ hM => ?_)
  exact ⟨trivial, rfl, hM⟩
theorem sets_Set_All_1_ok (w0 w : World) (cs : List Chunk) (F : Nat → Prop) (W : World) (x : Int) (y : Int) (hM0 : Mem w0 (Fz F W :: cs) w) (hp : sets_Set_All_1 x y = some ()) : Calls Try.prog 68 #[vU x, vU y] w fun e w' => (True) ∧ e = .returned (vU x) ∧ Mem w0 (Fz F W :: cs) w' := by
 unfold sets_Set_All_1 at hp
 refine sx_calls Try.func68 rfl (n := 6) (by kernel_rfl) (l := [(0, vU x), (1, vU y)]) rfl (by rfl) hM0 ?_
 refine st_seq (st_region [oF 0] (by rfl) ?_)
 refine oQ [oF 0] [(0, vU x)] (by kernel_rfl) ?_
 refine ops_nil (fin_then (st_seq (st_region [oF 0, oF 1] (by rfl) ?_)))
 refine oQ [oF 0, oF 1] [(4, vU x)] (by kernel_rfl) ?_
 refine ops_nil (fin_then (st_ret ?_))
 refine fin_ret [.tmp 4] [vU x] rfl rfl (fun w_ hM => (.tmp rfl .nil)) (fun w_ hM => ?_)
 exact ⟨trivial, rfl, hM⟩
theorem sets_join_ok (w0 w : World) (cs : List Chunk) (F : Nat → Prop) (W : World) (A_a : Option Addr) (c_a : Nat) (a : List Int) (A_b : Option Addr) (c_b : Nat) (b : List Int) (hM0 : Mem w0 (Fz F W :: cs) w) (h_a : RdS (Rep.int .u64) F W A_a c_a a) (h_b : RdS (Rep.int .u64) F W A_b c_b b) (l9003 : List Int) (hp : sets_join a b = some l9003) : Calls Try.prog 67 #[sl A_a a c_a, sl A_b b c_b, .func (.func 68) #[] #[]] w fun e w' => ∃ (A9001 : Option Addr), ∃ (c9002 : Nat), ∃ (y9004 : List Value), ((RepL (Rep.int .u64) F W l9003 y9004)) ∧ e = .returned (sl A9001 l9003 c9002) ∧ Mem w0 (ow A9001 l9003 c9002 52 1 y9004 :: Fz F W :: cs) w' := by
 unfold sets_join at hp
 refine sx_calls Try.func67 rfl (n := 48) (by kernel_rfl) (l := [(0, sl A_a a c_a), (1, sl A_b b c_b), (2, .func (.func 68) #[] #[])]) rfl (by rfl) hM0 ?_
 refine st_seq (st_region [oF 0] (by rfl) ?_)
 refine oQ [oF 0] [(0, sl A_a a c_a), (1, sl A_b b c_b), (2, .func (.func 68) #[] #[])] (by kernel_rfl) ?_
 refine ops_nil (fin_then (st_seq (st_region [oF 0] (by rfl) ?_)))
 refine oQ [oF 0] [(7, .slice none 0 0), (0, sl A_a a c_a), (1, sl A_b b c_b), (2, .func (.func 68) #[] #[])] (by kernel_rfl) ?_
 refine ops_nil (fin_then ?_)
 refine st_join1 (σ := (Option Addr) × Nat × (List Int) × (List Value)) (L := fun x_ => match x_ with | (A1, c2, l3, y4) => [(7, sl A1 l3 c2)]) (N := fun x_ => match x_ with | (A1, c2, l3, y4) => Mem w0 (ow A1 l3 c2 52 1 y4 :: Fz F W :: cs)) (I := fun x_ => match x_ with | (A1, c2, l3, y4) => (sets_join_j1 l3 = some l9003) ∧ (RepL (Rep.int .u64) F W l3 y4)) ?_ ?_
 ·
  rintro ⟨A1, c2, l3, y4⟩ ⟨hp, h5⟩
  unfold sets_join_j1 at hp
  refine st_join1 (σ := (List Int) × (List Value)) (L := fun x_ => match x_ with | (l6, y7) => [(7, sl A1 l6 c2)]) (N := fun x_ => match x_ with | (l6, y7) => Mem w0 (ow A1 l6 c2 52 1 y7 :: Fz F W :: cs)) (I := fun x_ => match x_ with | (l6, y7) => (sets_join_j2 l6 = some l9003) ∧ (RepL (Rep.int .u64) F W l6 y7)) ?_ ?_
  ·
   rintro ⟨l6, y7⟩ ⟨hp, h8⟩
   unfold sets_join_j2 at hp
   refine st_seq (st_region [oF 0, oF 1] (by rfl) ?_)
   refine oQ [oF 0, oF 1] [(6, sl A1 l6 c2)] (by kernel_rfl) ?_
   refine ops_nil (fin_then (st_ret ?_))
   have hq_ := Option.some.inj hp
   have hr0_ := hq_
   subst hr0_
   refine fin_ret [.tmp 6] [sl A1 l6 c2] rfl rfl (fun w_ hM => (.tmp rfl .nil)) (fun w_ hM => ?_)
   exact ⟨A1, c2, y7, h8, rfl, hM⟩
  ·
   intro HJ2
   refine st_seq (st_block ?_)
   obtain ⟨r3, hl3, hk3⟩ := obind hp
   refine st_loopP (σ := (List Int)) (ρ := (List Int)) (γ := (List Value)) hl3 y4 (fun s_ g_ => match s_, g_ with | l9, y10 => [(7, sl A1 l9 c2)]) (fun s_ g_ => match s_, g_ with | l9, y10 => Mem w0 (ow A1 l9 c2 52 1 y10 :: Fz F W :: cs)) (fun s_ g_ => match s_, g_ with | l9, y10 => (RepL (Rep.int .u64) F W l9 y10)) h5 (look_has ⟨rfl, trivial⟩) (fun w_ hM => hM) ?_
   rintro l9 y10 o3 h11 hs_ hd3
   have hp : sets_join_l3 l9 = some o3 := hs_
   clear hs_
   unfold sets_join_l3 at hp
   refine st_seq (st_seq (st_region [oF 0, oF 1, oF 2, oF 3, oF 4, oF 5, oF 6, oF 7, oF 8, oF 9, oF 10, oF 11] (by rfl) ?_))
   refine oQ [oF 0, oF 1, oF 2, oF 3] [(33, .bool (decide (0 < (l9.length : Int)))), (7, sl A1 l9 c2)] (by kernel_rfl) ?_
   refine ops_bool (t := decide (0 < (l9.length : Int))) (l1 := [(33, .bool true), (7, sl A1 l9 c2)]) (l2 := [(33, .bool false), (7, sl A1 l9 c2)]) (fun h => by rw [h]) (fun h => by rw [h]) (fun hc12 => ?_) (fun hc12 => ?_)
   ·
    have hp := cnd_t hc12 hp
    refine oQ [oF 4, oF 5, oF 6, oF 7] [(37, vI (IntKind.i64.wrap ((l9.length : Int) - 1))), (34, sl A1 l9 c2), (33, .bool true), (7, sl A1 l9 c2)] (by kernel_rfl) ?_
    obtain ⟨x13, hv14, hp⟩ := obind hp
    obtain ⟨m15, hm16, hx17⟩ := idx_some hv14
    have hl20 := (List.getElem?_eq_some_iff.1 hx17).1
    refine ops_fact (fun w_ hM => hM.orowSome 0 rfl (Nat.lt_of_le_of_lt (Nat.zero_le _) hl20)) ?_
    rintro ⟨g21, rfl, -⟩
    obtain ⟨vs18, hr19, hq22⟩ := h11.at_ m15 x13 hx17
    obtain rfl := hr19
    refine ops_val (op := (.indexAddr 51 (.tmp 34) (.tmp 37))) (d := some 38) (v := vP g21 (m15 * 1)) ⟨by kernel_rfl⟩ (run_indexRow Try.underlying51 (z := 1) (by kernel_rfl) rfl rfl hm16 hl20 rfl) ?_
    refine ops_mem (d := some 39) (an := [.v (vU x13)]) (evs := [.load ⟨g21, m15 * 1, none⟩ (vU x13)]) (v := vU x13) ⟨by kernel_rfl⟩ (fun w_ hM hS => ⟨w_, ⟨hM.ocell 0 rfl (hq22 0 _ rfl), rfl⟩, hM, trivial⟩) ?_
    refine oQ [oF 10, oF 11] [(41, .bool (x13 == 0)), (7, sl (sa g21) l9 c2)] (by kernel_rfl) ?_
    refine ops_nil (fin_then ?_)
    refine st_if (b := (x13 == 0)) rfl (fun hc23 => ?_) (fun hc23 => ?_)
    ·
     have hp := cnd_t hc23 hp
     refine st_skip (fin_then (st_block (st_region [oF 0, oF 1, oF 2, oF 3, oF 4, oF 5] (by rfl) ?_)))
     refine oQ [oF 0, oF 1, oF 2, oF 3] [(45, vI (IntKind.i64.wrap ((l9.length : Int) - 1))), (42, sl (sa g21) l9 c2), (7, sl (sa g21) l9 c2)] (by kernel_rfl) ?_
     obtain ⟨l24, hv25, hp⟩ := obind hp
     obtain ⟨m26, n27, hm28, hn29, h30, h31, he32⟩ := cut_some hv25
     have hl33 := cut_len he32 h30 h31
     obtain rfl : m26 = 0 := by omega
     refine ops_fact (fun w_ hM => (hM.rowCap 0 rfl).1) (fun hc35 => ?_)
     obtain ⟨y36, hy37⟩ : ∃ y_, y10.take (l24.length * 1) = y_ := ⟨_, rfl⟩
     have h34 : RepL (Rep.int .u64) F W l24 y36 := by rw [← hy37, hl33, he32, List.drop_zero, Nat.sub_zero]; exact h11.take _
     refine ops_val (op := (.slice 51 (.tmp 42) none (some (.tmp 45)) none)) (d := some 46) (v := sl (sa g21) l24 c2) ⟨by kernel_rfl⟩ (run_cutH0 (by kernel_rfl) (z := 1) (by kernel_rfl) rfl rfl hn29 (Nat.le_trans h31 hc35) (by omega)) ?_
     refine ops_conv (l' := [(46, sl (sa g21) l24 c2), (45, vI (IntKind.i64.wrap ((l9.length : Int) - 1))), (42, sl (sa g21) l9 c2), (7, sl (sa g21) l9 c2)]) (M' := Mem w0 (ow (sa g21) l24 c2 52 1 y36 :: Fz F W :: cs)) rfl (fun w_ h => h.otake' 0 rfl (by omega) hy37) ?_
     refine oQ [oF 5] [(7, sl (sa g21) l24 c2)] (by kernel_rfl) ?_
     refine ops_nil (fin_block ?_)
     exact fin_again l24 y36 (Option.some.inj hp).symm h34 (look_has ⟨rfl, trivial⟩) (fun w_ hM => hM)
    ·
     have hp := cnd_f hc23 hp
     refine st_exit (fin_exit_then (fin_exit_then (fin_exit ?_)))
     obtain hq_ := Option.some.inj hp
     subst hq_
     obtain hq_ := hd3 _ rfl
     subst hq_
     have hp : sets_join_j2 l9 = some l9003 := hk3
     exact fin_join HJ2 (l9, y10) ⟨hp, h11⟩ (look_has ⟨rfl, trivial⟩) (fun w_ hM => hM)
   ·
    have hp := cnd_f hc12 hp
    refine oQ [oF 4, oF 5, oF 6, oF 7, oF 8, oF 9, oF 10, oF 11] [(41, .bool false), (7, sl A1 l9 c2)] (by kernel_rfl) ?_
    refine ops_nil (fin_then (st_false rfl (st_exit (fin_exit_then (fin_exit_then (fin_exit ?_))))))
    obtain hq_ := Option.some.inj hp
    subst hq_
    obtain hq_ := hd3 _ rfl
    subst hq_
    have hp : sets_join_j2 l9 = some l9003 := hk3
    exact fin_join HJ2 (l9, y10) ⟨hp, h11⟩ (look_has ⟨rfl, trivial⟩) (fun w_ hM => hM)
 ·
  intro HJ1
  refine st_seq (st_seq (st_region [oF 0, oF 1, oF 2, oF 3, oF 4, oF 5, oF 6] (by rfl) ?_))
  refine oQ [oF 0, oF 1, oF 2, oF 3] [(12, vI (b.length : Int)), (10, vI (a.length : Int)), (7, .slice none 0 0), (0, sl A_a a c_a), (1, sl A_b b c_b), (2, .func (.func 68) #[] #[])] (by kernel_rfl) ?_
  refine ops_val (op := (.call { callee := (Go.Callee.builtin Go.Builtin.max), args := #[(.tmp 10), (.tmp 12)], argTypes := #[3, 3] })) (d := some 13) (v := vI (max (a.length : Int) (b.length : Int))) ⟨by kernel_rfl⟩ (run_max rfl rfl) ?_
  refine ops_val (op := (.call { callee := (Go.Callee.builtin Go.Builtin.min), args := #[(.tmp 13), (.const (Go.Value.int Go.IntKind.i64 64))], argTypes := #[3, 3] })) (d := some 14) (v := vI (min (max (a.length : Int) (b.length : Int)) 64)) ⟨by kernel_rfl⟩ (run_min rfl rfl) ?_
  refine oQ [oF 6] [(15, vI 0), (14, vI (min (max (a.length : Int) (b.length : Int)) 64)), (7, .slice none 0 0), (0, sl A_a a c_a), (1, sl A_b b c_b), (2, .func (.func 68) #[] #[])] (by kernel_rfl) ?_
  refine ops_nil (fin_then (st_block ?_))
  refine st_conv (l' := [(15, vI 0), (14, vI (min (max (a.length : Int) (b.length : Int)) 64)), (7, .slice none 0 0), (0, sl A_a a c_a), (1, sl A_b b c_b), (2, .func (.func 68) #[] #[])]) (M' := Mem w0 (ow none ([] : List Int) 0 52 1 [] :: Fz F W :: cs)) rfl (fun w_ h => h.onil none 52 1) ?_
  obtain ⟨r4, hl4, hk4⟩ := obind hp
  refine st_loopP (σ := (List Int) × Int) (ρ := (List Int)) (γ := (Option Addr) × Nat × (List Value)) hl4 (none, 0, []) (fun s_ g_ => match s_, g_ with | (l40, i43), (A38, c39, y41) => [(0, sl A_a a c_a), (1, sl A_b b c_b), (2, .func (.func 68) #[] #[]), (7, sl A38 l40 c39), (14, vI (min (max (a.length : Int) (b.length : Int)) 64)), (15, vI i43)]) (fun s_ g_ => match s_, g_ with | (l40, i43), (A38, c39, y41) => Mem w0 (ow A38 l40 c39 52 1 y41 :: Fz F W :: cs)) (fun s_ g_ => match s_, g_ with | (l40, i43), (A38, c39, y41) => (RepL (Rep.int .u64) F W l40 y41)) (RepL.nil (R := (Rep.int .u64))) (look_has ⟨rfl, rfl, rfl, rfl, rfl, rfl, trivial⟩) (fun w_ hM => hM) ?_
  rintro ⟨l40, i43⟩ ⟨A38, c39, y41⟩ o4 h42 hs_ hd4
  have hp : (sets_join_l4 a b) l40 i43 = some o4 := hs_
  clear hs_
  unfold sets_join_l4 at hp
  refine st_seq (st_region [oF 0] (by rfl) ?_)
  refine oQ [oF 0] [(16, .bool (decide (i43 < min (max (a.length : Int) (b.length : Int)) 64))), (0, sl A_a a c_a), (1, sl A_b b c_b), (2, .func (.func 68) #[] #[]), (7, sl A38 l40 c39), (14, vI (min (max (a.length : Int) (b.length : Int)) 64)), (15, vI i43)] (by kernel_rfl) ?_
  refine ops_nil (fin_then (st_seq ?_))
  refine st_if (b := decide (i43 < min (max (a.length : Int) (b.length : Int)) 64)) rfl (fun hc44 => ?_) (fun hc44 => ?_)
  ·
   have hp := cnd_t hc44 hp
   refine st_skip (fin_then (st_seq (st_block (st_seq (st_region [oF 0, oF 1] (by rfl) ?_)))))
   refine oQ [oF 0, oF 1] [(8, vI i43), (0, sl A_a a c_a), (1, sl A_b b c_b), (2, .func (.func 68) #[] #[]), (7, sl A38 l40 c39), (14, vI (min (max (a.length : Int) (b.length : Int)) 64)), (15, vI i43)] (by kernel_rfl) ?_
   refine ops_nil (fin_then (st_region [oF 0, oF 1, oF 2, oF 3, oF 4, oF 5, oF 6, oF 7, oF 8, oF 9, oF 10, oF 11] (by rfl) ?_))
   refine oQ [oF 0, oF 1, oF 2, oF 3] [(21, vI i43), (20, sl A_a a c_a), (19, .func (.func 68) #[] #[]), (18, sl A38 l40 c39), (8, vI i43), (0, sl A_a a c_a), (1, sl A_b b c_b), (2, .func (.func 68) #[] #[]), (7, sl A38 l40 c39), (14, vI (min (max (a.length : Int) (b.length : Int)) 64)), (15, vI i43)] (by kernel_rfl) ?_
   obtain ⟨x45, hv46, hp⟩ := obind hp
   refine ops_callI (σ := Unit) (d := some 22) (f := 70) (args := #[sl A_a a c_a, vI i43]) (v := (fun _ => vU x45)) (I := (fun _ => True)) (M' := (fun _ => Mem w0 (ow A38 l40 c39 52 1 y41 :: Fz F W :: cs))) ⟨by kernel_rfl⟩ (fun w_ hM hS => (sets_Set_word_ok w0 w_ (ow A38 l40 c39 52 1 y41 :: cs) F W A_a c_a a i43 (hM.pick 2 [1, 0] (by kernel_rfl) (by decide) rfl) h_a x45 hv46).mono (by rintro e w' ⟨-, rfl, h'⟩; have h' : Mem w0 (ow A38 l40 c39 52 1 y41 :: Fz F W :: cs) w' := (h'.pick 2 [1, 0] (by kernel_rfl) (by decide) rfl); exact ⟨(), trivial, rfl, h', trivial⟩)) ?_
   rintro _ -
   refine oQ [oF 5, oF 6] [(24, vI i43), (23, sl A_b b c_b), (22, vU x45), (19, .func (.func 68) #[] #[]), (18, sl A38 l40 c39), (0, sl A_a a c_a), (1, sl A_b b c_b), (2, .func (.func 68) #[] #[]), (7, sl A38 l40 c39), (14, vI (min (max (a.length : Int) (b.length : Int)) 64)), (15, vI i43)] (by kernel_rfl) ?_
   obtain ⟨x47, hv48, hp⟩ := obind hp
   refine ops_callI (σ := Unit) (d := some 25) (f := 70) (args := #[sl A_b b c_b, vI i43]) (v := (fun _ => vU x47)) (I := (fun _ => True)) (M' := (fun _ => Mem w0 (ow A38 l40 c39 52 1 y41 :: Fz F W :: cs))) ⟨by kernel_rfl⟩ (fun w_ hM hS => (sets_Set_word_ok w0 w_ (ow A38 l40 c39 52 1 y41 :: cs) F W A_b c_b b i43 (hM.pick 2 [1, 0] (by kernel_rfl) (by decide) rfl) h_b x47 hv48).mono (by rintro e w' ⟨-, rfl, h'⟩; have h' : Mem w0 (ow A38 l40 c39 52 1 y41 :: Fz F W :: cs) w' := (h'.pick 2 [1, 0] (by kernel_rfl) (by decide) rfl); exact ⟨(), trivial, rfl, h', trivial⟩)) ?_
   rintro _ -
   obtain ⟨_, hv49, hp⟩ := obind hp
   refine ops_callI (σ := Unit) (d := some 26) (f := 68) (args := #[vU x45, vU x47]) (v := (fun _ => vU x45)) (I := (fun _ => True)) (M' := (fun _ => Mem w0 (ow A38 l40 c39 52 1 y41 :: Fz F W :: cs))) ⟨by kernel_rfl⟩ (fun w_ hM hS => (sets_Set_All_1_ok w0 w_ (ow A38 l40 c39 52 1 y41 :: cs) F W x45 x47 (hM.pick 2 [1, 0] (by kernel_rfl) (by decide) rfl)   hv49).mono (by rintro e w' ⟨-, rfl, h'⟩; have h' : Mem w0 (ow A38 l40 c39 52 1 y41 :: Fz F W :: cs) w' := (h'.pick 2 [1, 0] (by kernel_rfl) (by decide) rfl); exact ⟨(), trivial, rfl, h', trivial⟩)) ?_
   rintro _ -
   have h50 : RepL (Rep.int .u64) F W ([x45] : List Int) ([vU x45]) := (RepL.cons (R := (Rep.int .u64)) (F := F) (w := W) (vs := [vU x45]) (ys := []) rfl RepL.nil)
   refine ops_new (d := some 27) (o := .cells ([vU x45] : List Value).toArray 52) (v := fun g51 => .slice (sa g51) ([x45] : List Int).length 1) (M' := fun g51 => Mem w0 (orow (sa g51) ([x45] : List Int).length 1 52 1 ([vU x45]) :: ow A38 l40 c39 52 1 y41 :: Fz F W :: cs)) (fun g51 => ⟨by kernel_rfl⟩) (fun w_ hM hS => ⟨hM.onew [vU x45] 52 1 1 rfl (by decide), trivial⟩) (fun g51 => ?_)
   obtain ⟨l52, hv53, hp⟩ := obind hp
   obtain ⟨he54, hb55⟩ := app_some hv53
   obtain ⟨y56, hy57⟩ : ∃ y_, y41 ++ ([vU x45]) = y_ := ⟨_, rfl⟩
   have h58 : RepL (Rep.int .u64) F W l52 y56 := by rw [he54, ← hy57]; exact RepL.app h42 h50
   refine ops_appendO (x := (Go.Operand.tmp 18)) (y := (Go.Operand.tmp 27)) (t := 51) (e := 52) (d := some 28) (n' := l52.length) (z := 1) (m := ([x45] : List Int).length) (bytes := 8) (xs' := y56) (news := ([vU x45])) (zv := vU 0) 1 ⟨by kernel_rfl⟩ rfl rfl Try.underlying51 (by kernel_rfl) (by rfl) rfl (fun w_ hM => hM.srcO 0 rfl) h50.len h50.one hb55 (by have z_ := congrArg List.length he54; rw [List.length_append] at z_; exact z_.symm) hy57 (fun _ _ _ _ hS h' => trivial) ?_
   rintro ⟨A59, c60⟩
   refine oQ [oF 11] [(7, sl A59 l52 c60), (0, sl A_a a c_a), (1, sl A_b b c_b), (2, .func (.func 68) #[] #[]), (14, vI (min (max (a.length : Int) (b.length : Int)) 64)), (15, vI i43)] (by kernel_rfl) ?_
   refine ops_nil (fin_block (fin_then (st_region [oF 0, oF 1] (by rfl) ?_)))
   refine oQ [oF 0, oF 1] [(15, vI (IntKind.i64.wrap (i43 + 1))), (7, sl A59 l52 c60), (0, sl A_a a c_a), (1, sl A_b b c_b), (2, .func (.func 68) #[] #[]), (14, vI (min (max (a.length : Int) (b.length : Int)) 64))] (by kernel_rfl) ?_
   refine ops_nil ?_
   exact fin_again (l52, IntKind.i64.wrap (i43 + 1)) (A59, c60, y56) (Option.some.inj hp).symm h58 (look_has ⟨rfl, rfl, rfl, rfl, rfl, rfl, trivial⟩) (fun w_ hM => hM.pick 3 [1, 2] (by kernel_rfl) (by decide) rfl)
  ·
   have hp := cnd_f hc44 hp
   refine st_exit (fin_exit_then (fin_exit_then (fin_exit ?_)))
   obtain hq_ := Option.some.inj hp
   subst hq_
   obtain hq_ := hd4 _ rfl
   subst hq_
   have hp : sets_join_j1 l40 = some l9003 := hk4
   exact fin_join HJ1 (A38, c39, l40, y41) ⟨hp, h42⟩ (look_has ⟨rfl, trivial⟩) (fun w_ hM => hM)
theorem sets_Set_All_ok (w0 w : World) (cs : List Chunk) (F : Nat → Prop) (W : World) (A_s : Option Addr) (c_s : Nat) (s : List Int) (hM0 : Mem w0 (Fz F W :: cs) w) (h_s : RdS (Rep.int .u64) F W A_s c_s s) (l9004 : List Int) (hp : sets_Set_All s = some l9004) : Calls Try.prog 25 #[sl A_s s c_s] w fun e w' => ∃ (b9001 : Nat), ∃ (A9002 : Option Addr), ∃ (c9003 : Nat), ∃ (y9005 : List Value), ((RepL (Rep.int .u64) F W l9004 y9005)) ∧ e = .returned (.func (.func 69) #[] #[vP b9001 0]) ∧ Mem w0 (.blk b9001 [sl A9002 l9004 c9003] 51 :: ow A9002 l9004 c9003 52 1 y9005 :: Fz F W :: cs) w' := by
 unfold sets_Set_All at hp
 refine sx_calls Try.func25 rfl (n := 6) (by kernel_rfl) (l := [(0, sl A_s s c_s)]) rfl (by rfl) hM0 ?_
 refine st_seq (st_region [oF 0, oF 1] (by rfl) ?_)
 refine ops_newB (d := some 1) [sl A_s s c_s] 51 (fun b1 => ⟨by kernel_rfl⟩) (fun w_ hM hS => trivial) (fun b1 => ?_)
 refine oQ [oF 1] [(1, vP b1 0)] (by kernel_rfl) ?_
 refine ops_nil (fin_then (st_seq (st_region [oF 0, oF 1, oF 2] (by rfl) ?_)))
 refine ops_mem (d := some 3) (an := [.v (sl A_s s c_s)]) (evs := [ld b1 0 (sl A_s s c_s)]) (v := sl A_s s c_s) ⟨by kernel_rfl⟩ (fun w_ hM hS => ⟨w_, ⟨hM.cell 0 rfl rfl, rfl⟩, hM, trivial⟩) ?_
 obtain ⟨x2, hv3, hp⟩ := obind hp
 refine ops_callI (σ := (Option Addr) × Nat × (List Value)) (d := some 4) (f := 67) (args := #[sl A_s s c_s, .slice none 0 0, .func (.func 68) #[] #[]]) (v := (fun x_ => match x_ with | (A4, c5, y6) => sl A4 x2 c5)) (I := (fun x_ => match x_ with | (A4, c5, y6) => (RepL (Rep.int .u64) F W x2 y6))) (M' := (fun x_ => match x_ with | (A4, c5, y6) => Mem w0 (ow A4 x2 c5 52 1 y6 :: .blk b1 [sl A_s s c_s] 51 :: Fz F W :: cs))) ⟨by kernel_rfl⟩ (fun w_ hM hS => (sets_join_ok w0 w_ (.blk b1 [sl A_s s c_s] 51 :: cs) F W A_s c_s s none 0 [] (hM.pick 2 [1, 0] (by kernel_rfl) (by decide) rfl) h_s (RdS.empty _) x2 hv3).mono (by rintro e w' ⟨A4, c5, y6, h7, rfl, h'⟩; have h' : Mem w0 (ow A4 x2 c5 52 1 y6 :: .blk b1 [sl A_s s c_s] 51 :: Fz F W :: cs) w' := (h'.pick 3 [0, 2, 1] (by kernel_rfl) (by decide) rfl); exact ⟨(A4, c5, y6), h7, rfl, h', trivial⟩)) ?_
 rintro ⟨A4, c5, y6⟩ h7
 refine ops_store (an := []) (evs := [sr b1 0 (sl A4 x2 c5)]) ⟨by kernel_rfl⟩ (fun w_ hM hS => let ⟨w', he, h'⟩ := hM.evs_stores [sl A4 x2 c5] 1 rfl 0 (Nat.le_of_ble_eq_true rfl); ⟨w', he, h', trivial⟩) ?_
 refine ops_nil (fin_then (st_seq (st_region [oF 0, oF 1] (by rfl) ?_)))
 refine oQ [oF 0, oF 1] [(2, .func (.func 69) #[] #[vP b1 0])] (by kernel_rfl) ?_
 refine ops_nil (fin_then (st_ret ?_))
 have hq_ := Option.some.inj hp
 have hr0_ := hq_
 subst hr0_
 refine fin_ret [.tmp 2] [.func (.func 69) #[] #[vP b1 0]] rfl rfl (fun w_ hM => (.tmp rfl .nil)) (fun w_ hM => ?_)
 exact ⟨b1, A4, c5, y6, h7, rfl, hM.pick 3 [1, 0, 2] (by kernel_rfl) (by decide) rfl⟩
theorem sets_one_ok (w0 w : World) (cs : List Chunk) (F : Nat → Prop) (W : World) (i : Int) (hM0 : Mem w0 (Fz F W :: cs) w) (l9003 : List Int) (hp : sets_one i = some l9003) : Calls Try.prog 71 #[vI i] w fun e w' => ∃ (A9001 : Option Addr), ∃ (c9002 : Nat), ∃ (y9004 : List Value), ((RepL (Rep.int .u64) F W l9003 y9004)) ∧ e = .returned (sl A9001 l9003 c9002) ∧ Mem w0 (ow A9001 l9003 c9002 52 1 y9004 :: Fz F W :: cs) w' := by
 unfold sets_one at hp
 refine sx_calls Try.func71 rfl (n := 22) (by kernel_rfl) (l := [(0, vI i)]) rfl (by rfl) hM0 ?_
 refine st_seq (st_region [oF 0] (by rfl) ?_)
 refine oQ [oF 0] [(0, vI i)] (by kernel_rfl) ?_
 refine ops_nil (fin_then (st_seq (st_seq (st_region [oF 0, oF 1, oF 2, oF 3, oF 4, oF 5] (by rfl) ?_))))
 refine oQ [oF 0, oF 1, oF 2] [(6, .bool (decide (i < 0))), (0, vI i)] (by kernel_rfl) ?_
 refine ops_bool (t := decide (i < 0)) (l1 := [(6, .bool true), (0, vI i)]) (l2 := [(6, .bool false), (0, vI i)]) (fun h => by rw [h]) (fun h => by rw [h]) (fun hc1 => ?_) (fun hc1 => ?_)
 ·
  have hp := cnd_t hc1 hp
  refine oQ [oF 3, oF 4, oF 5] [(9, .bool true), (0, vI i)] (by kernel_rfl) ?_
  refine ops_nil (fin_then (st_true rfl (st_seq (st_region [oF 0] (by rfl) ?_))))
  refine oQ [oF 0] [(2, .slice none 0 0)] (by kernel_rfl) ?_
  refine ops_nil (fin_then (st_ret (fin_ret_then ?_)))
  refine fin_conv (l' := [(2, .slice none 0 0)]) (M' := Mem w0 (ow none ([] : List Int) 0 52 1 [] :: Fz F W :: cs)) rfl (fun w_ h => h.onil none 52 1) ?_
  refine fin_conv (l' := [(2, sl none ([] : List Int) 0)]) (M' := Mem w0 (ow none ([] : List Int) 0 52 1 [] :: Fz F W :: cs)) rfl (fun _ h => h) ?_
  have hq_ := Option.some.inj hp
  have hr0_ := hq_
  subst hr0_
  refine fin_ret [.tmp 2] [sl none ([] : List Int) 0] rfl rfl (fun w_ hM => (.tmp rfl .nil)) (fun w_ hM => ?_)
  exact ⟨none, 0, [], (RepL.nil (R := (Rep.int .u64))), rfl, hM⟩
 ·
  have hp := cnd_f hc1 hp
  refine oQ [oF 3, oF 4, oF 5] [(9, .bool (decide (4096 ≤ i))), (0, vI i)] (by kernel_rfl) ?_
  refine ops_nil (fin_then ?_)
  refine st_if (b := decide (4096 ≤ i)) rfl (fun hc2 => ?_) (fun hc2 => ?_)
  ·
   have hp := cnd_t hc2 hp
   refine st_seq (st_region [oF 0] (by rfl) ?_)
   refine oQ [oF 0] [(2, .slice none 0 0)] (by kernel_rfl) ?_
   refine ops_nil (fin_then (st_ret (fin_ret_then ?_)))
   refine fin_conv (l' := [(2, .slice none 0 0)]) (M' := Mem w0 (ow none ([] : List Int) 0 52 1 [] :: Fz F W :: cs)) rfl (fun w_ h => h.onil none 52 1) ?_
   refine fin_conv (l' := [(2, sl none ([] : List Int) 0)]) (M' := Mem w0 (ow none ([] : List Int) 0 52 1 [] :: Fz F W :: cs)) rfl (fun _ h => h) ?_
   have hq_ := Option.some.inj hp
   have hr0_ := hq_
   subst hr0_
   refine fin_ret [.tmp 2] [sl none ([] : List Int) 0] rfl rfl (fun w_ hM => (.tmp rfl .nil)) (fun w_ hM => ?_)
   exact ⟨none, 0, [], (RepL.nil (R := (Rep.int .u64))), rfl, hM⟩
  ·
   have hp := cnd_f hc2 hp
   refine st_skip (fin_then (st_seq (st_region [oF 0, oF 1, oF 2, oF 3, oF 4] (by rfl) ?_)))
   refine oQ [oF 0, oF 1, oF 2] [(12, vI (IntKind.i64.wrap (IntKind.i64.wrap (Int.tdiv i 64) + 1))), (0, vI i)] (by kernel_rfl) ?_
   obtain ⟨l3, hv4, hp⟩ := obind hp
   obtain ⟨m5, hm6, he7, hb8⟩ := mk_some hv4
   have hl9 : l3.length = m5 := by rw [he7, List.length_replicate]
   obtain ⟨y10, hy11⟩ : ∃ y_, (Sx.madeOf [vU 0] (l3.length * 1)).toList = y_ := ⟨_, rfl⟩
   have h12 : RepL (Rep.int .u64) F W l3 y10 := by rw [← hy11, hl9, he7]; exact RepL.made rfl (by decide) _
   refine ops_makeO (t := 51) (x := (Go.Operand.tmp 12)) (y := (Go.Operand.tmp 12)) (d := some 13) (nn := l3.length) (z := 1) (bytes := 8) (xs := y10) (zv := vU 0) ⟨by kernel_rfl⟩ rfl rfl (by rw [hl9]; exact hm6) (by rw [hl9]; exact hm6) Try.underlying51 (by kernel_rfl) (by rw [hl9]; exact hb8) (by rfl) hy11 (fun _ _ _ hS h' => trivial) (fun g13 => ?_)
   refine oQ [oF 4] [(3, sl (sa g13) l3 l3.length), (0, vI i)] (by kernel_rfl) ?_
   refine ops_nil (fin_then (st_seq (st_region [oF 0, oF 1, oF 2, oF 3, oF 4, oF 5, oF 6, oF 7] (by rfl) ?_)))
   refine oQ [oF 0, oF 1, oF 2, oF 3, oF 4] [(18, vI (Int.tmod i 64)), (16, vI (IntKind.i64.wrap (Int.tdiv i 64))), (14, sl (sa g13) l3 l3.length), (3, sl (sa g13) l3 l3.length)] (by kernel_rfl) ?_
   obtain ⟨x14, hv15, hp⟩ := obind hp
   obtain ⟨hb16, he17⟩ := shl_some hv15
   refine ops_val (op := (.binOp Go.BinOp.shl 52 (.const (Go.Value.int Go.IntKind.u64 1)) (.tmp 18) 3)) (d := some 19) (v := vU x14) ⟨by kernel_rfl⟩ (by rw [he17]; exact run_shl rfl rfl hb16) ?_
   obtain ⟨x18, hv19, hp⟩ := obind hp
   obtain ⟨m20, hm21, hx22⟩ := idx_some hv19
   have hl25 := (List.getElem?_eq_some_iff.1 hx22).1
   obtain ⟨vs23, hr24, hq26⟩ := h12.at_ m20 x18 hx22
   obtain rfl := hr24
   refine ops_val (op := (.indexAddr 51 (.tmp 14) (.tmp 16))) (d := some 20) (v := vP g13 (m20 * 1)) ⟨by kernel_rfl⟩ (run_indexRow Try.underlying51 (z := 1) (by kernel_rfl) rfl rfl hm21 hl25 rfl) ?_
   refine oQ [] [(20, vP g13 (m20 * 1)), (19, vU x14), (3, sl (sa g13) l3 l3.length)] (by kernel_rfl) ?_
   obtain ⟨l27, hv28, hp⟩ := obind hp
   obtain ⟨m29, hm30, hl31, he32⟩ := upd_some hv28
   obtain rfl : m20 = m29 := by have := hm21; omega
   have hl33 : l3.length = l27.length := by rw [he32, List.length_set]
   obtain ⟨y34, hy35⟩ : ∃ y_, setAll y10 (m20 * 1 + 0) [vU x14] = y_ := ⟨_, rfl⟩
   have h36 : RepL (Rep.int .u64) F W l27 y34 := by rw [he32, ← hy35]; exact RepL.set h12 (List.getElem?_eq_getElem hl31) (fun vs_ hr_ _ => by obtain rfl := hr_; exact ⟨rfl, Nat.le_of_ble_eq_true rfl⟩)
   refine ops_store (an := []) (evs := [.store ⟨g13, m20 * 1, none⟩ (vU x14)]) ⟨by kernel_rfl⟩ (fun w_ hM hS => let ⟨w', he, h'⟩ := hM.ostore' 0 rfl (m20 * 1 + 0) [vU x14] (by have z_ : y10.length = l3.length * 1 := h12.len; have y_ : (m20 + 1) * 1 ≤ l3.length * 1 := Nat.mul_le_mul_right _ hl31; rw [Nat.add_mul] at y_; simp only [List.length_cons, List.length_nil]; omega) hl33 hy35; ⟨w', he, h', trivial⟩) ?_
   refine ops_conv (l' := [(20, vP g13 (m20 * 1)), (19, vU x14), (3, sl (sa g13) l27 l3.length)]) (M' := Mem w0 (ow (sa g13) l27 l3.length 52 1 y34 :: Fz F W :: cs)) (by first | rfl | ((try dsimp only [sl, ow]); rw [hl33])) (fun w_ hM => by first | exact hM | ((try dsimp only [sl, ow] at hM ⊢); rw [hl33] at hM; exact hM)) ?_
   refine ops_nil (fin_then (st_seq (st_region [oF 0, oF 1] (by rfl) ?_)))
   refine oQ [oF 0, oF 1] [(2, sl (sa g13) l27 l3.length)] (by kernel_rfl) ?_
   refine ops_nil (fin_then (st_ret ?_))
   have hq_ := Option.some.inj hp
   have hr0_ := hq_
   subst hr0_
   refine fin_ret [.tmp 2] [sl (sa g13) l27 l3.length] rfl rfl (fun w_ hM => (.tmp rfl .nil)) (fun w_ hM => ?_)
   exact ⟨(sa g13), l3.length, y34, h36, rfl, hM⟩
theorem sets_Set_Either_1_ok (w0 w : World) (cs : List Chunk) (F : Nat → Prop) (W : World) (x : Int) (y : Int) (hM0 : Mem w0 (Fz F W :: cs) w) (i9001 : Int) (hp : sets_Set_Either_1 x y = some i9001) : Calls Try.prog 72 #[vU x, vU y] w fun e w' => (True) ∧ e = .returned (vU i9001) ∧ Mem w0 (Fz F W :: cs) w' := by
 unfold sets_Set_Either_1 at hp
 refine sx_calls Try.func72 rfl (n := 8) (by kernel_rfl) (l := [(0, vU x), (1, vU y)]) rfl (by rfl) hM0 ?_
 refine st_seq (st_region [oF 0] (by rfl) ?_)
 refine oQ [oF 0] [(0, vU x), (1, vU y)] (by kernel_rfl) ?_
 refine ops_nil (fin_then (st_seq (st_region [oF 0, oF 1, oF 2, oF 3] (by rfl) ?_)))
 refine oQ [oF 0, oF 1, oF 2, oF 3] [(4, vU (Go.bits .or .u64 x y))] (by kernel_rfl) ?_
 refine ops_nil (fin_then (st_ret ?_))
 have hq_ := Option.some.inj hp
 have hr0_ := hq_
 subst hr0_
 refine fin_ret [.tmp 4] [vU (Go.bits .or .u64 x y)] rfl rfl (fun w_ hM => (.tmp rfl .nil)) (fun w_ hM => ?_)
 exact ⟨trivial, rfl, hM⟩
theorem sets_join_v2_ok (w0 w : World) (cs : List Chunk) (F : Nat → Prop) (W : World) (A_a : Option Addr) (c_a : Nat) (a : List Int) (A_b : Option Addr) (c_b : Nat) (b : List Int) (hM0 : Mem w0 (Fz F W :: cs) w) (h_a : RdS (Rep.int .u64) F W A_a c_a a) (h_b : RdS (Rep.int .u64) F W A_b c_b b) (l9003 : List Int) (hp : sets_join_v2 a b = some l9003) : Calls Try.prog 67 #[sl A_a a c_a, sl A_b b c_b, .func (.func 72) #[] #[]] w fun e w' => ∃ (A9001 : Option Addr), ∃ (c9002 : Nat), ∃ (y9004 : List Value), ((RepL (Rep.int .u64) F W l9003 y9004)) ∧ e = .returned (sl A9001 l9003 c9002) ∧ Mem w0 (ow A9001 l9003 c9002 52 1 y9004 :: Fz F W :: cs) w' := by
 unfold sets_join_v2 at hp
 refine sx_calls Try.func67 rfl (n := 48) (by kernel_rfl) (l := [(0, sl A_a a c_a), (1, sl A_b b c_b), (2, .func (.func 72) #[] #[])]) rfl (by rfl) hM0 ?_
 refine st_seq (st_region [oF 0] (by rfl) ?_)
 refine oQ [oF 0] [(0, sl A_a a c_a), (1, sl A_b b c_b), (2, .func (.func 72) #[] #[])] (by kernel_rfl) ?_
 refine ops_nil (fin_then (st_seq (st_region [oF 0] (by rfl) ?_)))
 refine oQ [oF 0] [(7, .slice none 0 0), (0, sl A_a a c_a), (1, sl A_b b c_b), (2, .func (.func 72) #[] #[])] (by kernel_rfl) ?_
 refine ops_nil (fin_then ?_)
 refine st_join1 (σ := (Option Addr) × Nat × (List Int) × (List Value)) (L := fun x_ => match x_ with | (A1, c2, l3, y4) => [(7, sl A1 l3 c2)]) (N := fun x_ => match x_ with | (A1, c2, l3, y4) => Mem w0 (ow A1 l3 c2 52 1 y4 :: Fz F W :: cs)) (I := fun x_ => match x_ with | (A1, c2, l3, y4) => (sets_join_v2_j1 l3 = some l9003) ∧ (RepL (Rep.int .u64) F W l3 y4)) ?_ ?_
 ·
  rintro ⟨A1, c2, l3, y4⟩ ⟨hp, h5⟩
  unfold sets_join_v2_j1 at hp
  refine st_join1 (σ := (List Int) × (List Value)) (L := fun x_ => match x_ with | (l6, y7) => [(7, sl A1 l6 c2)]) (N := fun x_ => match x_ with | (l6, y7) => Mem w0 (ow A1 l6 c2 52 1 y7 :: Fz F W :: cs)) (I := fun x_ => match x_ with | (l6, y7) => (sets_join_v2_j2 l6 = some l9003) ∧ (RepL (Rep.int .u64) F W l6 y7)) ?_ ?_
  ·
   rintro ⟨l6, y7⟩ ⟨hp, h8⟩
   unfold sets_join_v2_j2 at hp
   refine st_seq (st_region [oF 0, oF 1] (by rfl) ?_)
   refine oQ [oF 0, oF 1] [(6, sl A1 l6 c2)] (by kernel_rfl) ?_
   refine ops_nil (fin_then (st_ret ?_))
   have hq_ := Option.some.inj hp
   have hr0_ := hq_
   subst hr0_
   refine fin_ret [.tmp 6] [sl A1 l6 c2] rfl rfl (fun w_ hM => (.tmp rfl .nil)) (fun w_ hM => ?_)
   exact ⟨A1, c2, y7, h8, rfl, hM⟩
  ·
   intro HJ2
   refine st_seq (st_block ?_)
   obtain ⟨r3, hl3, hk3⟩ := obind hp
   refine st_loopP (σ := (List Int)) (ρ := (List Int)) (γ := (List Value)) hl3 y4 (fun s_ g_ => match s_, g_ with | l9, y10 => [(7, sl A1 l9 c2)]) (fun s_ g_ => match s_, g_ with | l9, y10 => Mem w0 (ow A1 l9 c2 52 1 y10 :: Fz F W :: cs)) (fun s_ g_ => match s_, g_ with | l9, y10 => (RepL (Rep.int .u64) F W l9 y10)) h5 (look_has ⟨rfl, trivial⟩) (fun w_ hM => hM) ?_
   rintro l9 y10 o3 h11 hs_ hd3
   have hp : sets_join_v2_l3 l9 = some o3 := hs_
   clear hs_
   unfold sets_join_v2_l3 at hp
   refine st_seq (st_seq (st_region [oF 0, oF 1, oF 2, oF 3, oF 4, oF 5, oF 6, oF 7, oF 8, oF 9, oF 10, oF 11] (by rfl) ?_))
   refine oQ [oF 0, oF 1, oF 2, oF 3] [(33, .bool (decide (0 < (l9.length : Int)))), (7, sl A1 l9 c2)] (by kernel_rfl) ?_
   refine ops_bool (t := decide (0 < (l9.length : Int))) (l1 := [(33, .bool true), (7, sl A1 l9 c2)]) (l2 := [(33, .bool false), (7, sl A1 l9 c2)]) (fun h => by rw [h]) (fun h => by rw [h]) (fun hc12 => ?_) (fun hc12 => ?_)
   ·
    have hp := cnd_t hc12 hp
    refine oQ [oF 4, oF 5, oF 6, oF 7] [(37, vI (IntKind.i64.wrap ((l9.length : Int) - 1))), (34, sl A1 l9 c2), (33, .bool true), (7, sl A1 l9 c2)] (by kernel_rfl) ?_
    obtain ⟨x13, hv14, hp⟩ := obind hp
    obtain ⟨m15, hm16, hx17⟩ := idx_some hv14
    have hl20 := (List.getElem?_eq_some_iff.1 hx17).1
    refine ops_fact (fun w_ hM => hM.orowSome 0 rfl (Nat.lt_of_le_of_lt (Nat.zero_le _) hl20)) ?_
    rintro ⟨g21, rfl, -⟩
    obtain ⟨vs18, hr19, hq22⟩ := h11.at_ m15 x13 hx17
    obtain rfl := hr19
    refine ops_val (op := (.indexAddr 51 (.tmp 34) (.tmp 37))) (d := some 38) (v := vP g21 (m15 * 1)) ⟨by kernel_rfl⟩ (run_indexRow Try.underlying51 (z := 1) (by kernel_rfl) rfl rfl hm16 hl20 rfl) ?_
    refine ops_mem (d := some 39) (an := [.v (vU x13)]) (evs := [.load ⟨g21, m15 * 1, none⟩ (vU x13)]) (v := vU x13) ⟨by kernel_rfl⟩ (fun w_ hM hS => ⟨w_, ⟨hM.ocell 0 rfl (hq22 0 _ rfl), rfl⟩, hM, trivial⟩) ?_
    refine oQ [oF 10, oF 11] [(41, .bool (x13 == 0)), (7, sl (sa g21) l9 c2)] (by kernel_rfl) ?_
    refine ops_nil (fin_then ?_)
    refine st_if (b := (x13 == 0)) rfl (fun hc23 => ?_) (fun hc23 => ?_)
    ·
     have hp := cnd_t hc23 hp
     refine st_skip (fin_then (st_block (st_region [oF 0, oF 1, oF 2, oF 3, oF 4, oF 5] (by rfl) ?_)))
     refine oQ [oF 0, oF 1, oF 2, oF 3] [(45, vI (IntKind.i64.wrap ((l9.length : Int) - 1))), (42, sl (sa g21) l9 c2), (7, sl (sa g21) l9 c2)] (by kernel_rfl) ?_
     obtain ⟨l24, hv25, hp⟩ := obind hp
     obtain ⟨m26, n27, hm28, hn29, h30, h31, he32⟩ := cut_some hv25
     have hl33 := cut_len he32 h30 h31
     obtain rfl : m26 = 0 := by omega
     refine ops_fact (fun w_ hM => (hM.rowCap 0 rfl).1) (fun hc35 => ?_)
     obtain ⟨y36, hy37⟩ : ∃ y_, y10.take (l24.length * 1) = y_ := ⟨_, rfl⟩
     have h34 : RepL (Rep.int .u64) F W l24 y36 := by rw [← hy37, hl33, he32, List.drop_zero, Nat.sub_zero]; exact h11.take _
     refine ops_val (op := (.slice 51 (.tmp 42) none (some (.tmp 45)) none)) (d := some 46) (v := sl (sa g21) l24 c2) ⟨by kernel_rfl⟩ (run_cutH0 (by kernel_rfl) (z := 1) (by kernel_rfl) rfl rfl hn29 (Nat.le_trans h31 hc35) (by omega)) ?_
     refine ops_conv (l' := [(46, sl (sa g21) l24 c2), (45, vI (IntKind.i64.wrap ((l9.length : Int) - 1))), (42, sl (sa g21) l9 c2), (7, sl (sa g21) l9 c2)]) (M' := Mem w0 (ow (sa g21) l24 c2 52 1 y36 :: Fz F W :: cs)) rfl (fun w_ h => h.otake' 0 rfl (by omega) hy37) ?_
     refine oQ [oF 5] [(7, sl (sa g21) l24 c2)] (by kernel_rfl) ?_
     refine ops_nil (fin_block ?_)
     exact fin_again l24 y36 (Option.some.inj hp).symm h34 (look_has ⟨rfl, trivial⟩) (fun w_ hM => hM)
    ·
     have hp := cnd_f hc23 hp
     refine st_exit (fin_exit_then (fin_exit_then (fin_exit ?_)))
     obtain hq_ := Option.some.inj hp
     subst hq_
     obtain hq_ := hd3 _ rfl
     subst hq_
     have hp : sets_join_v2_j2 l9 = some l9003 := hk3
     exact fin_join HJ2 (l9, y10) ⟨hp, h11⟩ (look_has ⟨rfl, trivial⟩) (fun w_ hM => hM)
   ·
    have hp := cnd_f hc12 hp
    refine oQ [oF 4, oF 5, oF 6, oF 7, oF 8, oF 9, oF 10, oF 11] [(41, .bool false), (7, sl A1 l9 c2)] (by kernel_rfl) ?_
    refine ops_nil (fin_then (st_false rfl (st_exit (fin_exit_then (fin_exit_then (fin_exit ?_))))))
    obtain hq_ := Option.some.inj hp
    subst hq_
    obtain hq_ := hd3 _ rfl
    subst hq_
    have hp : sets_join_v2_j2 l9 = some l9003 := hk3
    exact fin_join HJ2 (l9, y10) ⟨hp, h11⟩ (look_has ⟨rfl, trivial⟩) (fun w_ hM => hM)
 ·
  intro HJ1
  refine st_seq (st_seq (st_region [oF 0, oF 1, oF 2, oF 3, oF 4, oF 5, oF 6] (by rfl) ?_))
  refine oQ [oF 0, oF 1, oF 2, oF 3] [(12, vI (b.length : Int)), (10, vI (a.length : Int)), (7, .slice none 0 0), (0, sl A_a a c_a), (1, sl A_b b c_b), (2, .func (.func 72) #[] #[])] (by kernel_rfl) ?_
  refine ops_val (op := (.call { callee := (Go.Callee.builtin Go.Builtin.max), args := #[(.tmp 10), (.tmp 12)], argTypes := #[3, 3] })) (d := some 13) (v := vI (max (a.length : Int) (b.length : Int))) ⟨by kernel_rfl⟩ (run_max rfl rfl) ?_
  refine ops_val (op := (.call { callee := (Go.Callee.builtin Go.Builtin.min), args := #[(.tmp 13), (.const (Go.Value.int Go.IntKind.i64 64))], argTypes := #[3, 3] })) (d := some 14) (v := vI (min (max (a.length : Int) (b.length : Int)) 64)) ⟨by kernel_rfl⟩ (run_min rfl rfl) ?_
  refine oQ [oF 6] [(15, vI 0), (14, vI (min (max (a.length : Int) (b.length : Int)) 64)), (7, .slice none 0 0), (0, sl A_a a c_a), (1, sl A_b b c_b), (2, .func (.func 72) #[] #[])] (by kernel_rfl) ?_
  refine ops_nil (fin_then (st_block ?_))
  refine st_conv (l' := [(15, vI 0), (14, vI (min (max (a.length : Int) (b.length : Int)) 64)), (7, .slice none 0 0), (0, sl A_a a c_a), (1, sl A_b b c_b), (2, .func (.func 72) #[] #[])]) (M' := Mem w0 (ow none ([] : List Int) 0 52 1 [] :: Fz F W :: cs)) rfl (fun w_ h => h.onil none 52 1) ?_
  obtain ⟨r4, hl4, hk4⟩ := obind hp
  refine st_loopP (σ := (List Int) × Int) (ρ := (List Int)) (γ := (Option Addr) × Nat × (List Value)) hl4 (none, 0, []) (fun s_ g_ => match s_, g_ with | (l40, i43), (A38, c39, y41) => [(0, sl A_a a c_a), (1, sl A_b b c_b), (2, .func (.func 72) #[] #[]), (7, sl A38 l40 c39), (14, vI (min (max (a.length : Int) (b.length : Int)) 64)), (15, vI i43)]) (fun s_ g_ => match s_, g_ with | (l40, i43), (A38, c39, y41) => Mem w0 (ow A38 l40 c39 52 1 y41 :: Fz F W :: cs)) (fun s_ g_ => match s_, g_ with | (l40, i43), (A38, c39, y41) => (RepL (Rep.int .u64) F W l40 y41)) (RepL.nil (R := (Rep.int .u64))) (look_has ⟨rfl, rfl, rfl, rfl, rfl, rfl, trivial⟩) (fun w_ hM => hM) ?_
  rintro ⟨l40, i43⟩ ⟨A38, c39, y41⟩ o4 h42 hs_ hd4
  have hp : (sets_join_v2_l4 a b) l40 i43 = some o4 := hs_
  clear hs_
  unfold sets_join_v2_l4 at hp
  refine st_seq (st_region [oF 0] (by rfl) ?_)
  refine oQ [oF 0] [(16, .bool (decide (i43 < min (max (a.length : Int) (b.length : Int)) 64))), (0, sl A_a a c_a), (1, sl A_b b c_b), (2, .func (.func 72) #[] #[]), (7, sl A38 l40 c39), (14, vI (min (max (a.length : Int) (b.length : Int)) 64)), (15, vI i43)] (by kernel_rfl) ?_
  refine ops_nil (fin_then (st_seq ?_))
  refine st_if (b := decide (i43 < min (max (a.length : Int) (b.length : Int)) 64)) rfl (fun hc44 => ?_) (fun hc44 => ?_)
  ·
   have hp := cnd_t hc44 hp
   refine st_skip (fin_then (st_seq (st_block (st_seq (st_region [oF 0, oF 1] (by rfl) ?_)))))
   refine oQ [oF 0, oF 1] [(8, vI i43), (0, sl A_a a c_a), (1, sl A_b b c_b), (2, .func (.func 72) #[] #[]), (7, sl A38 l40 c39), (14, vI (min (max (a.length : Int) (b.length : Int)) 64)), (15, vI i43)] (by kernel_rfl) ?_
   refine ops_nil (fin_then (st_region [oF 0, oF 1, oF 2, oF 3, oF 4, oF 5, oF 6, oF 7, oF 8, oF 9, oF 10, oF 11] (by rfl) ?_))
   refine oQ [oF 0, oF 1, oF 2, oF 3] [(21, vI i43), (20, sl A_a a c_a), (19, .func (.func 72) #[] #[]), (18, sl A38 l40 c39), (8, vI i43), (0, sl A_a a c_a), (1, sl A_b b c_b), (2, .func (.func 72) #[] #[]), (7, sl A38 l40 c39), (14, vI (min (max (a.length : Int) (b.length : Int)) 64)), (15, vI i43)] (by kernel_rfl) ?_
   obtain ⟨x45, hv46, hp⟩ := obind hp
   refine ops_callI (σ := Unit) (d := some 22) (f := 70) (args := #[sl A_a a c_a, vI i43]) (v := (fun _ => vU x45)) (I := (fun _ => True)) (M' := (fun _ => Mem w0 (ow A38 l40 c39 52 1 y41 :: Fz F W :: cs))) ⟨by kernel_rfl⟩ (fun w_ hM hS => (sets_Set_word_ok w0 w_ (ow A38 l40 c39 52 1 y41 :: cs) F W A_a c_a a i43 (hM.pick 2 [1, 0] (by kernel_rfl) (by decide) rfl) h_a x45 hv46).mono (by rintro e w' ⟨-, rfl, h'⟩; have h' : Mem w0 (ow A38 l40 c39 52 1 y41 :: Fz F W :: cs) w' := (h'.pick 2 [1, 0] (by kernel_rfl) (by decide) rfl); exact ⟨(), trivial, rfl, h', trivial⟩)) ?_
   rintro _ -
   refine oQ [oF 5, oF 6] [(24, vI i43), (23, sl A_b b c_b), (22, vU x45), (19, .func (.func 72) #[] #[]), (18, sl A38 l40 c39), (0, sl A_a a c_a), (1, sl A_b b c_b), (2, .func (.func 72) #[] #[]), (7, sl A38 l40 c39), (14, vI (min (max (a.length : Int) (b.length : Int)) 64)), (15, vI i43)] (by kernel_rfl) ?_
   obtain ⟨x47, hv48, hp⟩ := obind hp
   refine ops_callI (σ := Unit) (d := some 25) (f := 70) (args := #[sl A_b b c_b, vI i43]) (v := (fun _ => vU x47)) (I := (fun _ => True)) (M' := (fun _ => Mem w0 (ow A38 l40 c39 52 1 y41 :: Fz F W :: cs))) ⟨by kernel_rfl⟩ (fun w_ hM hS => (sets_Set_word_ok w0 w_ (ow A38 l40 c39 52 1 y41 :: cs) F W A_b c_b b i43 (hM.pick 2 [1, 0] (by kernel_rfl) (by decide) rfl) h_b x47 hv48).mono (by rintro e w' ⟨-, rfl, h'⟩; have h' : Mem w0 (ow A38 l40 c39 52 1 y41 :: Fz F W :: cs) w' := (h'.pick 2 [1, 0] (by kernel_rfl) (by decide) rfl); exact ⟨(), trivial, rfl, h', trivial⟩)) ?_
   rintro _ -
   obtain ⟨x49, hv50, hp⟩ := obind hp
   refine ops_callI (σ := Unit) (d := some 26) (f := 72) (args := #[vU x45, vU x47]) (v := (fun _ => vU x49)) (I := (fun _ => True)) (M' := (fun _ => Mem w0 (ow A38 l40 c39 52 1 y41 :: Fz F W :: cs))) ⟨by kernel_rfl⟩ (fun w_ hM hS => (sets_Set_Either_1_ok w0 w_ (ow A38 l40 c39 52 1 y41 :: cs) F W x45 x47 (hM.pick 2 [1, 0] (by kernel_rfl) (by decide) rfl)  x49 hv50).mono (by rintro e w' ⟨-, rfl, h'⟩; have h' : Mem w0 (ow A38 l40 c39 52 1 y41 :: Fz F W :: cs) w' := (h'.pick 2 [1, 0] (by kernel_rfl) (by decide) rfl); exact ⟨(), trivial, rfl, h', trivial⟩)) ?_
   rintro _ -
   have h51 : RepL (Rep.int .u64) F W ([x49] : List Int) ([vU x49]) := (RepL.cons (R := (Rep.int .u64)) (F := F) (w := W) (vs := [vU x49]) (ys := []) rfl RepL.nil)
   refine ops_new (d := some 27) (o := .cells ([vU x49] : List Value).toArray 52) (v := fun g52 => .slice (sa g52) ([x49] : List Int).length 1) (M' := fun g52 => Mem w0 (orow (sa g52) ([x49] : List Int).length 1 52 1 ([vU x49]) :: ow A38 l40 c39 52 1 y41 :: Fz F W :: cs)) (fun g52 => ⟨by kernel_rfl⟩) (fun w_ hM hS => ⟨hM.onew [vU x49] 52 1 1 rfl (by decide), trivial⟩) (fun g52 => ?_)
   obtain ⟨l53, hv54, hp⟩ := obind hp
   obtain ⟨he55, hb56⟩ := app_some hv54
   obtain ⟨y57, hy58⟩ : ∃ y_, y41 ++ ([vU x49]) = y_ := ⟨_, rfl⟩
   have h59 : RepL (Rep.int .u64) F W l53 y57 := by rw [he55, ← hy58]; exact RepL.app h42 h51
   refine ops_appendO (x := (Go.Operand.tmp 18)) (y := (Go.Operand.tmp 27)) (t := 51) (e := 52) (d := some 28) (n' := l53.length) (z := 1) (m := ([x49] : List Int).length) (bytes := 8) (xs' := y57) (news := ([vU x49])) (zv := vU 0) 1 ⟨by kernel_rfl⟩ rfl rfl Try.underlying51 (by kernel_rfl) (by rfl) rfl (fun w_ hM => hM.srcO 0 rfl) h51.len h51.one hb56 (by have z_ := congrArg List.length he55; rw [List.length_append] at z_; exact z_.symm) hy58 (fun _ _ _ _ hS h' => trivial) ?_
   rintro ⟨A60, c61⟩
   refine oQ [oF 11] [(7, sl A60 l53 c61), (0, sl A_a a c_a), (1, sl A_b b c_b), (2, .func (.func 72) #[] #[]), (14, vI (min (max (a.length : Int) (b.length : Int)) 64)), (15, vI i43)] (by kernel_rfl) ?_
   refine ops_nil (fin_block (fin_then (st_region [oF 0, oF 1] (by rfl) ?_)))
   refine oQ [oF 0, oF 1] [(15, vI (IntKind.i64.wrap (i43 + 1))), (7, sl A60 l53 c61), (0, sl A_a a c_a), (1, sl A_b b c_b), (2, .func (.func 72) #[] #[]), (14, vI (min (max (a.length : Int) (b.length : Int)) 64))] (by kernel_rfl) ?_
   refine ops_nil ?_
   exact fin_again (l53, IntKind.i64.wrap (i43 + 1)) (A60, c61, y57) (Option.some.inj hp).symm h59 (look_has ⟨rfl, rfl, rfl, rfl, rfl, rfl, trivial⟩) (fun w_ hM => hM.pick 3 [1, 2] (by kernel_rfl) (by decide) rfl)
  ·
   have hp := cnd_f hc44 hp
   refine st_exit (fin_exit_then (fin_exit_then (fin_exit ?_)))
   obtain hq_ := Option.some.inj hp
   subst hq_
   obtain hq_ := hd4 _ rfl
   subst hq_
   have hp : sets_join_v2_j1 l40 = some l9003 := hk4
   exact fin_join HJ1 (A38, c39, l40, y41) ⟨hp, h42⟩ (look_has ⟨rfl, trivial⟩) (fun w_ hM => hM)
theorem sets_Set_Either_ok (w0 w : World) (cs : List Chunk) (F : Nat → Prop) (W : World) (A_s : Option Addr) (c_s : Nat) (s : List Int) (A_o : Option Addr) (c_o : Nat) (o : List Int) (hM0 : Mem w0 (Fz F W :: cs) w) (h_s : RdS (Rep.int .u64) F W A_s c_s s) (h_o : RdS (Rep.int .u64) F W A_o c_o o) (l9003 : List Int) (hp : sets_Set_Either s o = some l9003) : Calls Try.prog 34 #[sl A_s s c_s, sl A_o o c_o] w fun e w' => ∃ (A9001 : Option Addr), ∃ (c9002 : Nat), ∃ (y9004 : List Value), ((RepL (Rep.int .u64) F W l9003 y9004)) ∧ e = .returned (sl A9001 l9003 c9002) ∧ Mem w0 (ow A9001 l9003 c9002 52 1 y9004 :: Fz F W :: cs) w' := by
 unfold sets_Set_Either at hp
 refine sx_calls Try.func34 rfl (n := 8) (by kernel_rfl) (l := [(0, sl A_s s c_s), (1, sl A_o o c_o)]) rfl (by rfl) hM0 ?_
 refine st_seq (st_region [oF 0] (by rfl) ?_)
 refine oQ [oF 0] [(0, sl A_s s c_s), (1, sl A_o o c_o)] (by kernel_rfl) ?_
 refine ops_nil (fin_then (st_seq (st_region [oF 0, oF 1, oF 2, oF 3] (by rfl) ?_)))
 refine oQ [oF 0, oF 1] [(6, sl A_o o c_o), (5, sl A_s s c_s)] (by kernel_rfl) ?_
 obtain ⟨x1, hv2, hp⟩ := obind hp
 refine ops_callI (σ := (Option Addr) × Nat × (List Value)) (d := some 7) (f := 67) (args := #[sl A_s s c_s, sl A_o o c_o, .func (.func 72) #[] #[]]) (v := (fun x_ => match x_ with | (A3, c4, y5) => sl A3 x1 c4)) (I := (fun x_ => match x_ with | (A3, c4, y5) => (RepL (Rep.int .u64) F W x1 y5))) (M' := (fun x_ => match x_ with | (A3, c4, y5) => Mem w0 (ow A3 x1 c4 52 1 y5 :: Fz F W :: cs))) ⟨by kernel_rfl⟩ (fun w_ hM hS => (sets_join_v2_ok w0 w_ (cs) F W A_s c_s s A_o c_o o hM h_s h_o x1 hv2).mono (by rintro e w' ⟨A3, c4, y5, h6, rfl, h'⟩; have h' : Mem w0 (ow A3 x1 c4 52 1 y5 :: Fz F W :: cs) w' := h'; exact ⟨(A3, c4, y5), h6, rfl, h', trivial⟩)) ?_
 rintro ⟨A3, c4, y5⟩ h6
 refine oQ [oF 3] [(4, sl A3 x1 c4)] (by kernel_rfl) ?_
 refine ops_nil (fin_then (st_ret ?_))
 have hq_ := Option.some.inj hp
 have hr0_ := hq_
 subst hr0_
 refine fin_ret [.tmp 4] [sl A3 x1 c4] rfl rfl (fun w_ hM => (.tmp rfl .nil)) (fun w_ hM => ?_)
 exact ⟨A3, c4, y5, h6, rfl, hM⟩
theorem sets_Set_With_ok (w0 w : World) (cs : List Chunk) (F : Nat → Prop) (W : World) (A_s : Option Addr) (c_s : Nat) (s : List Int) (i : Int) (hM0 : Mem w0 (Fz F W :: cs) w) (h_s : RdS (Rep.int .u64) F W A_s c_s s) (l9003 : List Int) (hp : sets_Set_With s i = some l9003) : Calls Try.prog 30 #[sl A_s s c_s, vI i] w fun e w' => ∃ (A9001 : Option Addr), ∃ (c9002 : Nat), ∃ (y9004 : List Value), ((RepL (Rep.int .u64) F W l9003 y9004)) ∧ e = .returned (sl A9001 l9003 c9002) ∧ Mem w0 (ow A9001 l9003 c9002 52 1 y9004 :: Fz F W :: cs) w' := by
 unfold sets_Set_With at hp
 refine sx_calls Try.func30 rfl (n := 9) (by kernel_rfl) (l := [(0, sl A_s s c_s), (1, vI i)]) rfl (by rfl) hM0 ?_
 refine st_seq (st_region [oF 0] (by rfl) ?_)
 refine oQ [oF 0] [(0, sl A_s s c_s), (1, vI i)] (by kernel_rfl) ?_
 refine ops_nil (fin_then (st_seq (st_region [oF 0, oF 1, oF 2, oF 3, oF 4] (by rfl) ?_)))
 refine oQ [oF 0, oF 1] [(6, vI i), (5, sl A_s s c_s)] (by kernel_rfl) ?_
 obtain ⟨x1, hv2, hp⟩ := obind hp
 refine ops_callI (σ := (Option Addr) × Nat × (List Value)) (d := some 7) (f := 71) (args := #[vI i]) (v := (fun x_ => match x_ with | (A3, c4, y5) => sl A3 x1 c4)) (I := (fun x_ => match x_ with | (A3, c4, y5) => (RepL (Rep.int .u64) F W x1 y5))) (M' := (fun x_ => match x_ with | (A3, c4, y5) => Mem w0 (ow A3 x1 c4 52 1 y5 :: Fz F W :: cs))) ⟨by kernel_rfl⟩ (fun w_ hM hS => (sets_one_ok w0 w_ (cs) F W i hM  x1 hv2).mono (by rintro e w' ⟨A3, c4, y5, h6, rfl, h'⟩; have h' : Mem w0 (ow A3 x1 c4 52 1 y5 :: Fz F W :: cs) w' := h'; exact ⟨(A3, c4, y5), h6, rfl, h', trivial⟩)) ?_
 rintro ⟨A3, c4, y5⟩ h6
 obtain ⟨x7, hv8, hp⟩ := obind hp
 refine ops_callI (σ := (Option Addr) × Nat × (List Value)) (d := some 8) (f := 34) (args := #[sl A_s s c_s, sl A3 x1 c4]) (v := (fun x_ => match x_ with | (A9, c10, y11) => sl A9 x7 c10)) (I := (fun x_ => match x_ with | (A9, c10, y11) => (RepL (Rep.int .u64) F W x7 y11))) (M' := (fun x_ => match x_ with | (A9, c10, y11) => Mem w0 (ow A9 x7 c10 52 1 y11 :: ow A3 x1 c4 52 1 y5 :: Fz F W :: cs))) ⟨by kernel_rfl⟩ (fun w_ hM hS => (sets_Set_Either_ok w_ w_ [] (fun b => b < w_.heap.size) w_ A_s c_s s A3 c4 x1 (Mem.fz0 w_) (hM.now 1 rfl h_s) (hM.ordS 0 1 rfl rfl h6 rfl rfl) x7 hv8).mono (by rintro e w' ⟨A9, c10, y11, h12, rfl, h'⟩; have h' : Mem w_ [ow A9 x7 c10 52 1 y11] w' := h'.pick 2 [0] (by kernel_rfl) (by decide) rfl; exact ⟨(A9, c10, y11), (RepL.move' (fun h => h) h12), rfl, hM.join h' rfl, trivial⟩)) ?_
 rintro ⟨A9, c10, y11⟩ h12
 refine oQ [oF 4] [(4, sl A9 x7 c10)] (by kernel_rfl) ?_
 refine ops_nil (fin_then (st_ret ?_))
 have hq_ := Option.some.inj hp
 have hr0_ := hq_
 subst hr0_
 refine fin_ret [.tmp 4] [sl A9 x7 c10] rfl rfl (fun w_ hM => (.tmp rfl .nil)) (fun w_ hM => ?_)
 exact ⟨A9, c10, y11, h12, rfl, hM.pick 3 [0, 2] (by kernel_rfl) (by decide) rfl⟩
theorem sets_Set_Minus_1_ok (w0 w : World) (cs : List Chunk) (F : Nat → Prop) (W : World) (x : Int) (y : Int) (hM0 : Mem w0 (Fz F W :: cs) w) (i9001 : Int) (hp : sets_Set_Minus_1 x y = some i9001) : Calls Try.prog 75 #[vU x, vU y] w fun e w' => (True) ∧ e = .returned (vU i9001) ∧ Mem w0 (Fz F W :: cs) w' := by
 unfold sets_Set_Minus_1 at hp
 refine sx_calls Try.func75 rfl (n := 8) (by kernel_rfl) (l := [(0, vU x), (1, vU y)]) rfl (by rfl) hM0 ?_
 refine st_seq (st_region [oF 0] (by rfl) ?_)
 refine oQ [oF 0] [(0, vU x), (1, vU y)] (by kernel_rfl) ?_
 refine ops_nil (fin_then (st_seq (st_region [oF 0, oF 1, oF 2, oF 3] (by rfl) ?_)))
 refine oQ [oF 0, oF 1, oF 2, oF 3] [(4, vU (Go.bits .andNot .u64 x y))] (by kernel_rfl) ?_
 refine ops_nil (fin_then (st_ret ?_))
 have hq_ := Option.some.inj hp
 have hr0_ := hq_
 subst hr0_
 refine fin_ret [.tmp 4] [vU (Go.bits .andNot .u64 x y)] rfl rfl (fun w_ hM => (.tmp rfl .nil)) (fun w_ hM => ?_)
 exact ⟨trivial, rfl, hM⟩
theorem sets_join_v3_ok (w0 w : World) (cs : List Chunk) (F : Nat → Prop) (W : World) (A_a : Option Addr) (c_a : Nat) (a : List Int) (A_b : Option Addr) (c_b : Nat) (b : List Int) (hM0 : Mem w0 (Fz F W :: cs) w) (h_a : RdS (Rep.int .u64) F W A_a c_a a) (h_b : RdS (Rep.int .u64) F W A_b c_b b) (l9003 : List Int) (hp : sets_join_v3 a b = some l9003) : Calls Try.prog 67 #[sl A_a a c_a, sl A_b b c_b, .func (.func 75) #[] #[]] w fun e w' => ∃ (A9001 : Option Addr), ∃ (c9002 : Nat), ∃ (y9004 : List Value), ((RepL (Rep.int .u64) F W l9003 y9004)) ∧ e = .returned (sl A9001 l9003 c9002) ∧ Mem w0 (ow A9001 l9003 c9002 52 1 y9004 :: Fz F W :: cs) w' := by
 unfold sets_join_v3 at hp
 refine sx_calls Try.func67 rfl (n := 48) (by kernel_rfl) (l := [(0, sl A_a a c_a), (1, sl A_b b c_b), (2, .func (.func 75) #[] #[])]) rfl (by rfl) hM0 ?_
 refine st_seq (st_region [oF 0] (by rfl) ?_)
 refine oQ [oF 0] [(0, sl A_a a c_a), (1, sl A_b b c_b), (2, .func (.func 75) #[] #[])] (by kernel_rfl) ?_
 refine ops_nil (fin_then (st_seq (st_region [oF 0] (by rfl) ?_)))
 refine oQ [oF 0] [(7, .slice none 0 0), (0, sl A_a a c_a), (1, sl A_b b c_b), (2, .func (.func 75) #[] #[])] (by kernel_rfl) ?_
 refine ops_nil (fin_then ?_)
 refine st_join1 (σ := (Option Addr) × Nat × (List Int) × (List Value)) (L := fun x_ => match x_ with | (A1, c2, l3, y4) => [(7, sl A1 l3 c2)]) (N := fun x_ => match x_ with | (A1, c2, l3, y4) => Mem w0 (ow A1 l3 c2 52 1 y4 :: Fz F W :: cs)) (I := fun x_ => match x_ with | (A1, c2, l3, y4) => (sets_join_v3_j1 l3 = some l9003) ∧ (RepL (Rep.int .u64) F W l3 y4)) ?_ ?_
 ·
  rintro ⟨A1, c2, l3, y4⟩ ⟨hp, h5⟩
  unfold sets_join_v3_j1 at hp
  refine st_join1 (σ := (List Int) × (List Value)) (L := fun x_ => match x_ with | (l6, y7) => [(7, sl A1 l6 c2)]) (N := fun x_ => match x_ with | (l6, y7) => Mem w0 (ow A1 l6 c2 52 1 y7 :: Fz F W :: cs)) (I := fun x_ => match x_ with | (l6, y7) => (sets_join_v3_j2 l6 = some l9003) ∧ (RepL (Rep.int .u64) F W l6 y7)) ?_ ?_
  ·
   rintro ⟨l6, y7⟩ ⟨hp, h8⟩
   unfold sets_join_v3_j2 at hp
   refine st_seq (st_region [oF 0, oF 1] (by rfl) ?_)
   refine oQ [oF 0, oF 1] [(6, sl A1 l6 c2)] (by kernel_rfl) ?_
   refine ops_nil (fin_then (st_ret ?_))
   have hq_ := Option.some.inj hp
   have hr0_ := hq_
   subst hr0_
   refine fin_ret [.tmp 6] [sl A1 l6 c2] rfl rfl (fun w_ hM => (.tmp rfl .nil)) (fun w_ hM => ?_)
   exact ⟨A1, c2, y7, h8, rfl, hM⟩
  ·
   intro HJ2
   refine st_seq (st_block ?_)
   obtain ⟨r3, hl3, hk3⟩ := obind hp
   refine st_loopP (σ := (List Int)) (ρ := (List Int)) (γ := (List Value)) hl3 y4 (fun s_ g_ => match s_, g_ with | l9, y10 => [(7, sl A1 l9 c2)]) (fun s_ g_ => match s_, g_ with | l9, y10 => Mem w0 (ow A1 l9 c2 52 1 y10 :: Fz F W :: cs)) (fun s_ g_ => match s_, g_ with | l9, y10 => (RepL (Rep.int .u64) F W l9 y10)) h5 (look_has ⟨rfl, trivial⟩) (fun w_ hM => hM) ?_
   rintro l9 y10 o3 h11 hs_ hd3
   have hp : sets_join_v3_l3 l9 = some o3 := hs_
   clear hs_
   unfold sets_join_v3_l3 at hp
   refine st_seq (st_seq (st_region [oF 0, oF 1, oF 2, oF 3, oF 4, oF 5, oF 6, oF 7, oF 8, oF 9, oF 10, oF 11] (by rfl) ?_))
   refine oQ [oF 0, oF 1, oF 2, oF 3] [(33, .bool (decide (0 < (l9.length : Int)))), (7, sl A1 l9 c2)] (by kernel_rfl) ?_
   refine ops_bool (t := decide (0 < (l9.length : Int))) (l1 := [(33, .bool true), (7, sl A1 l9 c2)]) (l2 := [(33, .bool false), (7, sl A1 l9 c2)]) (fun h => by rw [h]) (fun h => by rw [h]) (fun hc12 => ?_) (fun hc12 => ?_)
   ·
    have hp := cnd_t hc12 hp
    refine oQ [oF 4, oF 5, oF 6, oF 7] [(37, vI (IntKind.i64.wrap ((l9.length : Int) - 1))), (34, sl A1 l9 c2), (33, .bool true), (7, sl A1 l9 c2)] (by kernel_rfl) ?_
    obtain ⟨x13, hv14, hp⟩ := obind hp
    obtain ⟨m15, hm16, hx17⟩ := idx_some hv14
    have hl20 := (List.getElem?_eq_some_iff.1 hx17).1
    refine ops_fact (fun w_ hM => hM.orowSome 0 rfl (Nat.lt_of_le_of_lt (Nat.zero_le _) hl20)) ?_
    rintro ⟨g21, rfl, -⟩
    obtain ⟨vs18, hr19, hq22⟩ := h11.at_ m15 x13 hx17
    obtain rfl := hr19
    refine ops_val (op := (.indexAddr 51 (.tmp 34) (.tmp 37))) (d := some 38) (v := vP g21 (m15 * 1)) ⟨by kernel_rfl⟩ (run_indexRow Try.underlying51 (z := 1) (by kernel_rfl) rfl rfl hm16 hl20 rfl) ?_
    refine ops_mem (d := some 39) (an := [.v (vU x13)]) (evs := [.load ⟨g21, m15 * 1, none⟩ (vU x13)]) (v := vU x13) ⟨by kernel_rfl⟩ (fun w_ hM hS => ⟨w_, ⟨hM.ocell 0 rfl (hq22 0 _ rfl), rfl⟩, hM, trivial⟩) ?_
    refine oQ [oF 10, oF 11] [(41, .bool (x13 == 0)), (7, sl (sa g21) l9 c2)] (by kernel_rfl) ?_
    refine ops_nil (fin_then ?_)
    refine st_if (b := (x13 == 0)) rfl (fun hc23 => ?_) (fun hc23 => ?_)
    ·
     have hp := cnd_t hc23 hp
     refine st_skip (fin_then (st_block (st_region [oF 0, oF 1, oF 2, oF 3, oF 4, oF 5] (by rfl) ?_)))
     refine oQ [oF 0, oF 1, oF 2, oF 3] [(45, vI (IntKind.i64.wrap ((l9.length : Int) - 1))), (42, sl (sa g21) l9 c2), (7, sl (sa g21) l9 c2)] (by kernel_rfl) ?_
     obtain ⟨l24, hv25, hp⟩ := obind hp
     obtain ⟨m26, n27, hm28, hn29, h30, h31, he32⟩ := cut_some hv25
     have hl33 := cut_len he32 h30 h31
     obtain rfl : m26 = 0 := by omega
     refine ops_fact (fun w_ hM => (hM.rowCap 0 rfl).1) (fun hc35 => ?_)
     obtain ⟨y36, hy37⟩ : ∃ y_, y10.take (l24.length * 1) = y_ := ⟨_, rfl⟩
     have h34 : RepL (Rep.int .u64) F W l24 y36 := by rw [← hy37, hl33, he32, List.drop_zero, Nat.sub_zero]; exact h11.take _
     refine ops_val (op := (.slice 51 (.tmp 42) none (some (.tmp 45)) none)) (d := some 46) (v := sl (sa g21) l24 c2) ⟨by kernel_rfl⟩ (run_cutH0 (by kernel_rfl) (z := 1) (by kernel_rfl) rfl rfl hn29 (Nat.le_trans h31 hc35) (by omega)) ?_
     refine ops_conv (l' := [(46, sl (sa g21) l24 c2), (45, vI (IntKind.i64.wrap ((l9.length : Int) - 1))), (42, sl (sa g21) l9 c2), (7, sl (sa g21) l9 c2)]) (M' := Mem w0 (ow (sa g21) l24 c2 52 1 y36 :: Fz F W :: cs)) rfl (fun w_ h => h.otake' 0 rfl (by omega) hy37) ?_
     refine oQ [oF 5] [(7, sl (sa g21) l24 c2)] (by kernel_rfl) ?_
     refine ops_nil (fin_block ?_)
     exact fin_again l24 y36 (Option.some.inj hp).symm h34 (look_has ⟨rfl, trivial⟩) (fun w_ hM => hM)
    ·
     have hp := cnd_f hc23 hp
     refine st_exit (fin_exit_then (fin_exit_then (fin_exit ?_)))
     obtain hq_ := Option.some.inj hp
     subst hq_
     obtain hq_ := hd3 _ rfl
     subst hq_
     have hp : sets_join_v3_j2 l9 = some l9003 := hk3
     exact fin_join HJ2 (l9, y10) ⟨hp, h11⟩ (look_has ⟨rfl, trivial⟩) (fun w_ hM => hM)
   ·
    have hp := cnd_f hc12 hp
    refine oQ [oF 4, oF 5, oF 6, oF 7, oF 8, oF 9, oF 10, oF 11] [(41, .bool false), (7, sl A1 l9 c2)] (by kernel_rfl) ?_
    refine ops_nil (fin_then (st_false rfl (st_exit (fin_exit_then (fin_exit_then (fin_exit ?_))))))
    obtain hq_ := Option.some.inj hp
    subst hq_
    obtain hq_ := hd3 _ rfl
    subst hq_
    have hp : sets_join_v3_j2 l9 = some l9003 := hk3
    exact fin_join HJ2 (l9, y10) ⟨hp, h11⟩ (look_has ⟨rfl, trivial⟩) (fun w_ hM => hM)
 ·
  intro HJ1
  refine st_seq (st_seq (st_region [oF 0, oF 1, oF 2, oF 3, oF 4, oF 5, oF 6] (by rfl) ?_))
  refine oQ [oF 0, oF 1, oF 2, oF 3] [(12, vI (b.length : Int)), (10, vI (a.length : Int)), (7, .slice none 0 0), (0, sl A_a a c_a), (1, sl A_b b c_b), (2, .func (.func 75) #[] #[])] (by kernel_rfl) ?_
  refine ops_val (op := (.call { callee := (Go.Callee.builtin Go.Builtin.max), args := #[(.tmp 10), (.tmp 12)], argTypes := #[3, 3] })) (d := some 13) (v := vI (max (a.length : Int) (b.length : Int))) ⟨by kernel_rfl⟩ (run_max rfl rfl) ?_
  refine ops_val (op := (.call { callee := (Go.Callee.builtin Go.Builtin.min), args := #[(.tmp 13), (.const (Go.Value.int Go.IntKind.i64 64))], argTypes := #[3, 3] })) (d := some 14) (v := vI (min (max (a.length : Int) (b.length : Int)) 64)) ⟨by kernel_rfl⟩ (run_min rfl rfl) ?_
  refine oQ [oF 6] [(15, vI 0), (14, vI (min (max (a.length : Int) (b.length : Int)) 64)), (7, .slice none 0 0), (0, sl A_a a c_a), (1, sl A_b b c_b), (2, .func (.func 75) #[] #[])] (by kernel_rfl) ?_
  refine ops_nil (fin_then (st_block ?_))
  refine st_conv (l' := [(15, vI 0), (14, vI (min (max (a.length : Int) (b.length : Int)) 64)), (7, .slice none 0 0), (0, sl A_a a c_a), (1, sl A_b b c_b), (2, .func (.func 75) #[] #[])]) (M' := Mem w0 (ow none ([] : List Int) 0 52 1 [] :: Fz F W :: cs)) rfl (fun w_ h => h.onil none 52 1) ?_
  obtain ⟨r4, hl4, hk4⟩ := obind hp
  refine st_loopP (σ := (List Int) × Int) (ρ := (List Int)) (γ := (Option Addr) × Nat × (List Value)) hl4 (none, 0, []) (fun s_ g_ => match s_, g_ with | (l40, i43), (A38, c39, y41) => [(0, sl A_a a c_a), (1, sl A_b b c_b), (2, .func (.func 75) #[] #[]), (7, sl A38 l40 c39), (14, vI (min (max (a.length : Int) (b.length : Int)) 64)), (15, vI i43)]) (fun s_ g_ => match s_, g_ with | (l40, i43), (A38, c39, y41) => Mem w0 (ow A38 l40 c39 52 1 y41 :: Fz F W :: cs)) (fun s_ g_ => match s_, g_ with | (l40, i43), (A38, c39, y41) => (RepL (Rep.int .u64) F W l40 y41)) (RepL.nil (R := (Rep.int .u64))) (look_has ⟨rfl, rfl, rfl, rfl, rfl, rfl, trivial⟩) (fun w_ hM => hM) ?_
  rintro ⟨l40, i43⟩ ⟨A38, c39, y41⟩ o4 h42 hs_ hd4
  have hp : (sets_join_v3_l4 a b) l40 i43 = some o4 := hs_
  clear hs_
  unfold sets_join_v3_l4 at hp
  refine st_seq (st_region [oF 0] (by rfl) ?_)
  refine oQ [oF 0] [(16, .bool (decide (i43 < min (max (a.length : Int) (b.length : Int)) 64))), (0, sl A_a a c_a), (1, sl A_b b c_b), (2, .func (.func 75) #[] #[]), (7, sl A38 l40 c39), (14, vI (min (max (a.length : Int) (b.length : Int)) 64)), (15, vI i43)] (by kernel_rfl) ?_
  refine ops_nil (fin_then (st_seq ?_))
  refine st_if (b := decide (i43 < min (max (a.length : Int) (b.length : Int)) 64)) rfl (fun hc44 => ?_) (fun hc44 => ?_)
  ·
   have hp := cnd_t hc44 hp
   refine st_skip (fin_then (st_seq (st_block (st_seq (st_region [oF 0, oF 1] (by rfl) ?_)))))
   refine oQ [oF 0, oF 1] [(8, vI i43), (0, sl A_a a c_a), (1, sl A_b b c_b), (2, .func (.func 75) #[] #[]), (7, sl A38 l40 c39), (14, vI (min (max (a.length : Int) (b.length : Int)) 64)), (15, vI i43)] (by kernel_rfl) ?_
   refine ops_nil (fin_then (st_region [oF 0, oF 1, oF 2, oF 3, oF 4, oF 5, oF 6, oF 7, oF 8, oF 9, oF 10, oF 11] (by rfl) ?_))
   refine oQ [oF 0, oF 1, oF 2, oF 3] [(21, vI i43), (20, sl A_a a c_a), (19, .func (.func 75) #[] #[]), (18, sl A38 l40 c39), (8, vI i43), (0, sl A_a a c_a), (1, sl A_b b c_b), (2, .func (.func 75) #[] #[]), (7, sl A38 l40 c39), (14, vI (min (max (a.length : Int) (b.length : Int)) 64)), (15, vI i43)] (by kernel_rfl) ?_
   obtain ⟨x45, hv46, hp⟩ := obind hp
   refine ops_callI (σ := Unit) (d := some 22) (f := 70) (args := #[sl A_a a c_a, vI i43]) (v := (fun _ => vU x45)) (I := (fun _ => True)) (M' := (fun _ => Mem w0 (ow A38 l40 c39 52 1 y41 :: Fz F W :: cs))) ⟨by kernel_rfl⟩ (fun w_ hM hS => (sets_Set_word_ok w0 w_ (ow A38 l40 c39 52 1 y41 :: cs) F W A_a c_a a i43 (hM.pick 2 [1, 0] (by kernel_rfl) (by decide) rfl) h_a x45 hv46).mono (by rintro e w' ⟨-, rfl, h'⟩; have h' : Mem w0 (ow A38 l40 c39 52 1 y41 :: Fz F W :: cs) w' := (h'.pick 2 [1, 0] (by kernel_rfl) (by decide) rfl); exact ⟨(), trivial, rfl, h', trivial⟩)) ?_
   rintro _ -
   refine oQ [oF 5, oF 6] [(24, vI i43), (23, sl A_b b c_b), (22, vU x45), (19, .func (.func 75) #[] #[]), (18, sl A38 l40 c39), (0, sl A_a a c_a), (1, sl A_b b c_b), (2, .func (.func 75) #[] #[]), (7, sl A38 l40 c39), (14, vI (min (max (a.length : Int) (b.length : Int)) 64)), (15, vI i43)] (by kernel_rfl) ?_
   obtain ⟨x47, hv48, hp⟩ := obind hp
   refine ops_callI (σ := Unit) (d := some 25) (f := 70) (args := #[sl A_b b c_b, vI i43]) (v := (fun _ => vU x47)) (I := (fun _ => True)) (M' := (fun _ => Mem w0 (ow A38 l40 c39 52 1 y41 :: Fz F W :: cs))) ⟨by kernel_rfl⟩ (fun w_ hM hS => (sets_Set_word_ok w0 w_ (ow A38 l40 c39 52 1 y41 :: cs) F W A_b c_b b i43 (hM.pick 2 [1, 0] (by kernel_rfl) (by decide) rfl) h_b x47 hv48).mono (by rintro e w' ⟨-, rfl, h'⟩; have h' : Mem w0 (ow A38 l40 c39 52 1 y41 :: Fz F W :: cs) w' := (h'.pick 2 [1, 0] (by kernel_rfl) (by decide) rfl); exact ⟨(), trivial, rfl, h', trivial⟩)) ?_
   rintro _ -
   obtain ⟨x49, hv50, hp⟩ := obind hp
   refine ops_callI (σ := Unit) (d := some 26) (f := 75) (args := #[vU x45, vU x47]) (v := (fun _ => vU x49)) (I := (fun _ => True)) (M' := (fun _ => Mem w0 (ow A38 l40 c39 52 1 y41 :: Fz F W :: cs))) ⟨by kernel_rfl⟩ (fun w_ hM hS => (sets_Set_Minus_1_ok w0 w_ (ow A38 l40 c39 52 1 y41 :: cs) F W x45 x47 (hM.pick 2 [1, 0] (by kernel_rfl) (by decide) rfl)  x49 hv50).mono (by rintro e w' ⟨-, rfl, h'⟩; have h' : Mem w0 (ow A38 l40 c39 52 1 y41 :: Fz F W :: cs) w' := (h'.pick 2 [1, 0] (by kernel_rfl) (by decide) rfl); exact ⟨(), trivial, rfl, h', trivial⟩)) ?_
   rintro _ -
   have h51 : RepL (Rep.int .u64) F W ([x49] : List Int) ([vU x49]) := (RepL.cons (R := (Rep.int .u64)) (F := F) (w := W) (vs := [vU x49]) (ys := []) rfl RepL.nil)
   refine ops_new (d := some 27) (o := .cells ([vU x49] : List Value).toArray 52) (v := fun g52 => .slice (sa g52) ([x49] : List Int).length 1) (M' := fun g52 => Mem w0 (orow (sa g52) ([x49] : List Int).length 1 52 1 ([vU x49]) :: ow A38 l40 c39 52 1 y41 :: Fz F W :: cs)) (fun g52 => ⟨by kernel_rfl⟩) (fun w_ hM hS => ⟨hM.onew [vU x49] 52 1 1 rfl (by decide), trivial⟩) (fun g52 => ?_)
   obtain ⟨l53, hv54, hp⟩ := obind hp
   obtain ⟨he55, hb56⟩ := app_some hv54
   obtain ⟨y57, hy58⟩ : ∃ y_, y41 ++ ([vU x49]) = y_ := ⟨_, rfl⟩
   have h59 : RepL (Rep.int .u64) F W l53 y57 := by rw [he55, ← hy58]; exact RepL.app h42 h51
   refine ops_appendO (x := (Go.Operand.tmp 18)) (y := (Go.Operand.tmp 27)) (t := 51) (e := 52) (d := some 28) (n' := l53.length) (z := 1) (m := ([x49] : List Int).length) (bytes := 8) (xs' := y57) (news := ([vU x49])) (zv := vU 0) 1 ⟨by kernel_rfl⟩ rfl rfl Try.underlying51 (by kernel_rfl) (by rfl) rfl (fun w_ hM => hM.srcO 0 rfl) h51.len h51.one hb56 (by have z_ := congrArg List.length he55; rw [List.length_append] at z_; exact z_.symm) hy58 (fun _ _ _ _ hS h' => trivial) ?_
   rintro ⟨A60, c61⟩
   refine oQ [oF 11] [(7, sl A60 l53 c61), (0, sl A_a a c_a), (1, sl A_b b c_b), (2, .func (.func 75) #[] #[]), (14, vI (min (max (a.length : Int) (b.length : Int)) 64)), (15, vI i43)] (by kernel_rfl) ?_
   refine ops_nil (fin_block (fin_then (st_region [oF 0, oF 1] (by rfl) ?_)))
   refine oQ [oF 0, oF 1] [(15, vI (IntKind.i64.wrap (i43 + 1))), (7, sl A60 l53 c61), (0, sl A_a a c_a), (1, sl A_b b c_b), (2, .func (.func 75) #[] #[]), (14, vI (min (max (a.length : Int) (b.length : Int)) 64))] (by kernel_rfl) ?_
   refine ops_nil ?_
   exact fin_again (l53, IntKind.i64.wrap (i43 + 1)) (A60, c61, y57) (Option.some.inj hp).symm h59 (look_has ⟨rfl, rfl, rfl, rfl, rfl, rfl, trivial⟩) (fun w_ hM => hM.pick 3 [1, 2] (by kernel_rfl) (by decide) rfl)
  ·
   have hp := cnd_f hc44 hp
   refine st_exit (fin_exit_then (fin_exit_then (fin_exit ?_)))
   obtain hq_ := Option.some.inj hp
   subst hq_
   obtain hq_ := hd4 _ rfl
   subst hq_
   have hp : sets_join_v3_j1 l40 = some l9003 := hk4
   exact fin_join HJ1 (A38, c39, l40, y41) ⟨hp, h42⟩ (look_has ⟨rfl, trivial⟩) (fun w_ hM => hM)
theorem sets_Set_Minus_ok (w0 w : World) (cs : List Chunk) (F : Nat → Prop) (W : World) (A_s : Option Addr) (c_s : Nat) (s : List Int) (A_o : Option Addr) (c_o : Nat) (o : List Int) (hM0 : Mem w0 (Fz F W :: cs) w) (h_s : RdS (Rep.int .u64) F W A_s c_s s) (h_o : RdS (Rep.int .u64) F W A_o c_o o) (l9003 : List Int) (hp : sets_Set_Minus s o = some l9003) : Calls Try.prog 37 #[sl A_s s c_s, sl A_o o c_o] w fun e w' => ∃ (A9001 : Option Addr), ∃ (c9002 : Nat), ∃ (y9004 : List Value), ((RepL (Rep.int .u64) F W l9003 y9004)) ∧ e = .returned (sl A9001 l9003 c9002) ∧ Mem w0 (ow A9001 l9003 c9002 52 1 y9004 :: Fz F W :: cs) w' := by
 unfold sets_Set_Minus at hp
 refine sx_calls Try.func37 rfl (n := 8) (by kernel_rfl) (l := [(0, sl A_s s c_s), (1, sl A_o o c_o)]) rfl (by rfl) hM0 ?_
 refine st_seq (st_region [oF 0] (by rfl) ?_)
 refine oQ [oF 0] [(0, sl A_s s c_s), (1, sl A_o o c_o)] (by kernel_rfl) ?_
 refine ops_nil (fin_then (st_seq (st_region [oF 0, oF 1, oF 2, oF 3] (by rfl) ?_)))
 refine oQ [oF 0, oF 1] [(6, sl A_o o c_o), (5, sl A_s s c_s)] (by kernel_rfl) ?_
 obtain ⟨x1, hv2, hp⟩ := obind hp
 refine ops_callI (σ := (Option Addr) × Nat × (List Value)) (d := some 7) (f := 67) (args := #[sl A_s s c_s, sl A_o o c_o, .func (.func 75) #[] #[]]) (v := (fun x_ => match x_ with | (A3, c4, y5) => sl A3 x1 c4)) (I := (fun x_ => match x_ with | (A3, c4, y5) => (RepL (Rep.int .u64) F W x1 y5))) (M' := (fun x_ => match x_ with | (A3, c4, y5) => Mem w0 (ow A3 x1 c4 52 1 y5 :: Fz F W :: cs))) ⟨by kernel_rfl⟩ (fun w_ hM hS => (sets_join_v3_ok w0 w_ (cs) F W A_s c_s s A_o c_o o hM h_s h_o x1 hv2).mono (by rintro e w' ⟨A3, c4, y5, h6, rfl, h'⟩; have h' : Mem w0 (ow A3 x1 c4 52 1 y5 :: Fz F W :: cs) w' := h'; exact ⟨(A3, c4, y5), h6, rfl, h', trivial⟩)) ?_
 rintro ⟨A3, c4, y5⟩ h6
 refine oQ [oF 3] [(4, sl A3 x1 c4)] (by kernel_rfl) ?_
 refine ops_nil (fin_then (st_ret ?_))
 have hq_ := Option.some.inj hp
 have hr0_ := hq_
 subst hr0_
 refine fin_ret [.tmp 4] [sl A3 x1 c4] rfl rfl (fun w_ hM => (.tmp rfl .nil)) (fun w_ hM => ?_)
 exact ⟨A3, c4, y5, h6, rfl, hM⟩
theorem sets_Set_Without_ok (w0 w : World) (cs : List Chunk) (F : Nat → Prop) (W : World) (A_s : Option Addr) (c_s : Nat) (s : List Int) (i : Int) (hM0 : Mem w0 (Fz F W :: cs) w) (h_s : RdS (Rep.int .u64) F W A_s c_s s) (l9003 : List Int) (hp : sets_Set_Without s i = some l9003) : Calls Try.prog 32 #[sl A_s s c_s, vI i] w fun e w' => ∃ (A9001 : Option Addr), ∃ (c9002 : Nat), ∃ (y9004 : List Value), ((RepL (Rep.int .u64) F W l9003 y9004)) ∧ e = .returned (sl A9001 l9003 c9002) ∧ Mem w0 (ow A9001 l9003 c9002 52 1 y9004 :: Fz F W :: cs) w' := by
 unfold sets_Set_Without at hp
 refine sx_calls Try.func32 rfl (n := 9) (by kernel_rfl) (l := [(0, sl A_s s c_s), (1, vI i)]) rfl (by rfl) hM0 ?_
 refine st_seq (st_region [oF 0] (by rfl) ?_)
 refine oQ [oF 0] [(0, sl A_s s c_s), (1, vI i)] (by kernel_rfl) ?_
 refine ops_nil (fin_then (st_seq (st_region [oF 0, oF 1, oF 2, oF 3, oF 4] (by rfl) ?_)))
 refine oQ [oF 0, oF 1] [(6, vI i), (5, sl A_s s c_s)] (by kernel_rfl) ?_
 obtain ⟨x1, hv2, hp⟩ := obind hp
 refine ops_callI (σ := (Option Addr) × Nat × (List Value)) (d := some 7) (f := 71) (args := #[vI i]) (v := (fun x_ => match x_ with | (A3, c4, y5) => sl A3 x1 c4)) (I := (fun x_ => match x_ with | (A3, c4, y5) => (RepL (Rep.int .u64) F W x1 y5))) (M' := (fun x_ => match x_ with | (A3, c4, y5) => Mem w0 (ow A3 x1 c4 52 1 y5 :: Fz F W :: cs))) ⟨by kernel_rfl⟩ (fun w_ hM hS => (sets_one_ok w0 w_ (cs) F W i hM  x1 hv2).mono (by rintro e w' ⟨A3, c4, y5, h6, rfl, h'⟩; have h' : Mem w0 (ow A3 x1 c4 52 1 y5 :: Fz F W :: cs) w' := h'; exact ⟨(A3, c4, y5), h6, rfl, h', trivial⟩)) ?_
 rintro ⟨A3, c4, y5⟩ h6
 obtain ⟨x7, hv8, hp⟩ := obind hp
 refine ops_callI (σ := (Option Addr) × Nat × (List Value)) (d := some 8) (f := 37) (args := #[sl A_s s c_s, sl A3 x1 c4]) (v := (fun x_ => match x_ with | (A9, c10, y11) => sl A9 x7 c10)) (I := (fun x_ => match x_ with | (A9, c10, y11) => (RepL (Rep.int .u64) F W x7 y11))) (M' := (fun x_ => match x_ with | (A9, c10, y11) => Mem w0 (ow A9 x7 c10 52 1 y11 :: ow A3 x1 c4 52 1 y5 :: Fz F W :: cs))) ⟨by kernel_rfl⟩ (fun w_ hM hS => (sets_Set_Minus_ok w_ w_ [] (fun b => b < w_.heap.size) w_ A_s c_s s A3 c4 x1 (Mem.fz0 w_) (hM.now 1 rfl h_s) (hM.ordS 0 1 rfl rfl h6 rfl rfl) x7 hv8).mono (by rintro e w' ⟨A9, c10, y11, h12, rfl, h'⟩; have h' : Mem w_ [ow A9 x7 c10 52 1 y11] w' := h'.pick 2 [0] (by kernel_rfl) (by decide) rfl; exact ⟨(A9, c10, y11), (RepL.move' (fun h => h) h12), rfl, hM.join h' rfl, trivial⟩)) ?_
 rintro ⟨A9, c10, y11⟩ h12
 refine oQ [oF 4] [(4, sl A9 x7 c10)] (by kernel_rfl) ?_
 refine ops_nil (fin_then (st_ret ?_))
 have hq_ := Option.some.inj hp
 have hr0_ := hq_
 subst hr0_
 refine fin_ret [.tmp 4] [sl A9 x7 c10] rfl rfl (fun w_ hM => (.tmp rfl .nil)) (fun w_ hM => ?_)
 exact ⟨A9, c10, y11, h12, rfl, hM.pick 3 [0, 2] (by kernel_rfl) (by decide) rfl⟩
end Go.Proofs.Ythcniadbdjoecaa.R
