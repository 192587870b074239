/- The Go functions come to what the plain functions tell. No condition. -/
import Derived.Test.YtnnhijlgohlaeaaProg
import Derived.Test.YtnnhijlgohlaeaaFnP
import Derived.Test.YtnnhijlgohlaeaaWkP1
import Derived.Test.YtnnhijlgohlaeaaExMap
import Derived.Test.YtnnhijlgohlaeaaExOwn
namespace Go.Proofs.Ytnnhijlgohlaeaa.P
open Go Go.RowKit Go.Proofs.Ytnnhijlgohlaeaa.Sx
set_option linter.unusedVariables false
set_option maxHeartbeats 4000000
set_option maxRecDepth 100000
theorem tourref3_Clash_ok (w0 w : World) (cs : List Chunk) (F : Nat → Prop) (W : World) (a_0 : ByteArray) (A_a_1 : Option Addr) (c_a_1 : Nat) (a_1 : List Int) (A_a_2 : Option Addr) (c_a_2 : Nat) (a_2 : List Int) (A_a_3 : Option Addr) (c_a_3 : Nat) (a_3 : List Int) (A_a_4 : Option Addr) (c_a_4 : Nat) (a_4 : List Int) (A_a_5 : Option Addr) (c_a_5 : Nat) (a_5 : List api_Op) (A_a_6 : Option Addr) (c_a_6 : Nat) (a_6 : List api_Comp) (b_0 : ByteArray) (A_b_1 : Option Addr) (c_b_1 : Nat) (b_1 : List Int) (A_b_2 : Option Addr) (c_b_2 : Nat) (b_2 : List Int) (A_b_3 : Option Addr) (c_b_3 : Nat) (b_3 : List Int) (A_b_4 : Option Addr) (c_b_4 : Nat) (b_4 : List Int) (A_b_5 : Option Addr) (c_b_5 : Nat) (b_5 : List api_Op) (A_b_6 : Option Addr) (c_b_6 : Nat) (b_6 : List api_Comp) (hM0 : Mem w0 (Fz F W :: cs) w) (h_a_1 : RdS (Rep.int .i64) F W A_a_1 c_a_1 a_1) (h_a_2 : RdS (Rep.int .i64) F W A_a_2 c_a_2 a_2) (h_a_3 : RdS (Rep.int .i64) F W A_a_3 c_a_3 a_3) (h_a_4 : RdS (Rep.int .i64) F W A_a_4 c_a_4 a_4) (h_a_5 : RdS R_api_Op F W A_a_5 c_a_5 a_5) (h_a_6 : RdS R_api_Comp F W A_a_6 c_a_6 a_6) (h_b_1 : RdS (Rep.int .i64) F W A_b_1 c_b_1 b_1) (h_b_2 : RdS (Rep.int .i64) F W A_b_2 c_b_2 b_2) (h_b_3 : RdS (Rep.int .i64) F W A_b_3 c_b_3 b_3) (h_b_4 : RdS (Rep.int .i64) F W A_b_4 c_b_4 b_4) (h_b_5 : RdS R_api_Op F W A_b_5 c_b_5 b_5) (h_b_6 : RdS R_api_Comp F W A_b_6 c_b_6 b_6) (t9001 : Bool) (hp : tourref3_Clash a_0 a_1 a_2 a_3 a_4 a_5 a_6 b_0 b_1 b_2 b_3 b_4 b_5 b_6 = some t9001) : Calls Try.prog 26 #[.agg #[.string a_0, sl A_a_1 a_1 c_a_1, sl A_a_2 a_2 c_a_2, sl A_a_3 a_3 c_a_3, sl A_a_4 a_4 c_a_4, sl A_a_5 a_5 c_a_5, sl A_a_6 a_6 c_a_6], .agg #[.string b_0, sl A_b_1 b_1 c_b_1, sl A_b_2 b_2 c_b_2, sl A_b_3 b_3 c_b_3, sl A_b_4 b_4 c_b_4, sl A_b_5 b_5 c_b_5, sl A_b_6 b_6 c_b_6]] w fun e w' => (True) ∧ e = .returned (.bool t9001) ∧ Mem w0 (Fz F W :: cs) w' := by
 unfold tourref3_Clash at hp
 refine sx_calls Try.func26 rfl (n := 63) (by kernel_rfl) (l := [(0, .agg #[.string a_0, sl A_a_1 a_1 c_a_1, sl A_a_2 a_2 c_a_2, sl A_a_3 a_3 c_a_3, sl A_a_4 a_4 c_a_4, sl A_a_5 a_5 c_a_5, sl A_a_6 a_6 c_a_6]), (1, .agg #[.string b_0, sl A_b_1 b_1 c_b_1, sl A_b_2 b_2 c_b_2, sl A_b_3 b_3 c_b_3, sl A_b_4 b_4 c_b_4, sl A_b_5 b_5 c_b_5, sl A_b_6 b_6 c_b_6])]) rfl (by rfl) hM0 ?_
 refine st_seq (st_region [oF 0, oF 1, oF 2] (by rfl) ?_)
 refine ops_newB (d := some 2) [.string a_0, sl A_a_1 a_1 c_a_1, sl A_a_2 a_2 c_a_2, sl A_a_3 a_3 c_a_3, sl A_a_4 a_4 c_a_4, sl A_a_5 a_5 c_a_5, sl A_a_6 a_6 c_a_6] 30 (fun b1 => ⟨by kernel_rfl⟩) (fun w_ hM hS => trivial) (fun b1 => ?_)
 refine ops_newB (d := some 3) [.string b_0, sl A_b_1 b_1 c_b_1, sl A_b_2 b_2 c_b_2, sl A_b_3 b_3 c_b_3, sl A_b_4 b_4 c_b_4, sl A_b_5 b_5 c_b_5, sl A_b_6 b_6 c_b_6] 30 (fun b2 => ⟨by kernel_rfl⟩) (fun w_ hM hS => trivial) (fun b2 => ?_)
 refine oQ [oF 2] [(3, vP b2 0), (2, vP b1 0)] (by kernel_rfl) ?_
 refine ops_nil (fin_then ?_)
 refine st_join1 (σ := Unit) (L := fun _ => [(2, vP b1 0), (3, vP b2 0)]) (N := fun _ => Mem w0 (.blk b1 [.string a_0, sl A_a_1 a_1 c_a_1, sl A_a_2 a_2 c_a_2, sl A_a_3 a_3 c_a_3, sl A_a_4 a_4 c_a_4, sl A_a_5 a_5 c_a_5, sl A_a_6 a_6 c_a_6] 30 :: .blk b2 [.string b_0, sl A_b_1 b_1 c_b_1, sl A_b_2 b_2 c_b_2, sl A_b_3 b_3 c_b_3, sl A_b_4 b_4 c_b_4, sl A_b_5 b_5 c_b_5, sl A_b_6 b_6 c_b_6] 30 :: Fz F W :: cs)) (I := fun _ => ((tourref3_Clash_j1 a_3 b_4) = some t9001)) ?_ ?_
 ·
  rintro _ hp
  unfold tourref3_Clash_j1 at hp
  refine st_join1 (σ := Unit) (L := fun _ => []) (N := fun _ => Mem w0 (Fz F W :: cs)) (I := fun _ => (tourref3_Clash_j2 = some t9001)) ?_ ?_
  ·
   rintro _ hp
   unfold tourref3_Clash_j2 at hp
   refine st_seq (st_region [oF 0] (by rfl) ?_)
   refine oQ [oF 0] [(4, .bool false)] (by kernel_rfl) ?_
   refine ops_nil (fin_then (st_ret ?_))
   have hq_ := Option.some.inj hp
   have hr0_ := hq_
   subst hr0_
   refine fin_ret [.tmp 4] [.bool false] rfl rfl (fun w_ hM => (.tmp rfl .nil)) (fun w_ hM => ?_)
   exact ⟨trivial, rfl, hM⟩
  ·
   intro HJ2
   refine st_seq (st_seq (st_region [oF 0, oF 1, oF 2, oF 3] (by rfl) ?_))
   refine oQ [oF 0] [(44, vP b1 3), (3, vP b2 0)] (by kernel_rfl) ?_
   refine ops_mem (d := some 45) (an := [.v (sl A_a_3 a_3 c_a_3)]) (evs := [ld b1 3 (sl A_a_3 a_3 c_a_3)]) (v := sl A_a_3 a_3 c_a_3) ⟨by kernel_rfl⟩ (fun w_ hM hS => ⟨w_, ⟨hM.cell 0 rfl rfl, rfl⟩, hM, trivial⟩) ?_
   refine oQ [oF 2, oF 3] [(47, vI 0), (46, vI (a_3.length : Int)), (45, sl A_a_3 a_3 c_a_3), (3, vP b2 0)] (by kernel_rfl) ?_
   refine ops_nil (fin_then (st_block ?_))
   obtain ⟨r3, hl3, hk3⟩ := obind hp
   refine st_loopP (σ := Int) (ρ := (Bool ⊕ Unit)) (γ := Unit) hl3 () (fun s_ g_ => match s_, g_ with | i3, _ => [(3, vP b2 0), (45, sl A_a_3 a_3 c_a_3), (46, vI (a_3.length : Int)), (47, vI i3)]) (fun s_ g_ => match s_, g_ with | i3, _ => Mem w0 (.blk b2 [.string b_0, sl A_b_1 b_1 c_b_1, sl A_b_2 b_2 c_b_2, sl A_b_3 b_3 c_b_3, sl A_b_4 b_4 c_b_4, sl A_b_5 b_5 c_b_5, sl A_b_6 b_6 c_b_6] 30 :: Fz F W :: cs)) (fun s_ g_ => match s_, g_ with | i3, _ => True) trivial (look_has ⟨rfl, rfl, rfl, rfl, trivial⟩) (fun w_ hM => hM.pick 3 [1, 2] (by kernel_rfl) (by decide) rfl) ?_
   rintro i3 _ o3 - hs_ hd3
   have hp : (tourref3_Clash_l3 a_3 b_4) i3 = some o3 := hs_
   clear hs_
   unfold tourref3_Clash_l3 at hp
   refine st_seq (st_region [oF 0] (by rfl) ?_)
   refine oQ [oF 0] [(48, .bool (decide (i3 < (a_3.length : Int)))), (3, vP b2 0), (45, sl A_a_3 a_3 c_a_3), (46, vI (a_3.length : Int)), (47, vI i3)] (by kernel_rfl) ?_
   refine ops_nil (fin_then (st_seq ?_))
   refine st_if (b := decide (i3 < (a_3.length : Int))) rfl (fun hc4 => ?_) (fun hc4 => ?_)
   ·
    have hp := cnd_t hc4 hp
    refine st_skip (fin_then ?_)
    refine st_join1 (σ := Unit) (L := fun _ => [(3, vP b2 0), (45, sl A_a_3 a_3 c_a_3), (46, vI (a_3.length : Int)), (47, vI i3)]) (N := fun _ => Mem w0 (.blk b2 [.string b_0, sl A_b_1 b_1 c_b_1, sl A_b_2 b_2 c_b_2, sl A_b_3 b_3 c_b_3, sl A_b_4 b_4 c_b_4, sl A_b_5 b_5 c_b_5, sl A_b_6 b_6 c_b_6] 30 :: Fz F W :: cs)) (I := fun _ => ((tourref3_Clash_j4 i3) = some o3)) ?_ ?_
    ·
     rintro _ hp
     unfold tourref3_Clash_j4 at hp
     refine st_region [oF 0, oF 1] (by rfl) ?_
     refine oQ [oF 0, oF 1] [(47, vI (IntKind.i64.wrap (i3 + 1))), (3, vP b2 0), (45, sl A_a_3 a_3 c_a_3), (46, vI (a_3.length : Int))] (by kernel_rfl) ?_
     refine ops_nil ?_
     exact fin_again (IntKind.i64.wrap (i3 + 1)) () (Option.some.inj hp).symm trivial (look_has ⟨rfl, rfl, rfl, rfl, trivial⟩) (fun w_ hM => hM)
    ·
     intro HJ4
     refine st_seq (st_block (st_seq (st_region [oF 0, oF 1, oF 2] (by rfl) ?_)))
     obtain ⟨x5, hv6, hp⟩ := obind hp
     obtain ⟨m7, hm8, hx9⟩ := idx_some hv6
     have hl12 := (List.getElem?_eq_some_iff.1 hx9).1
     obtain ⟨ad13, vs10, hA14, hr11, hq15⟩ := RdS.el h_a_3 hx9
     obtain rfl := hr11
     refine ops_val (op := (.indexAddr 26 (.tmp 45) (.tmp 47))) (d := some 49) (v := .pointer (some (ad13.add (m7 * 1)))) ⟨by kernel_rfl⟩ (run_indexA hA14 Try.underlying26 (z := 1) (by kernel_rfl) rfl rfl hm8 hl12) ?_
     refine ops_mem (d := some 50) (an := [.v (vI x5)]) (evs := [.load (ad13.add (m7 * 1)) (vI x5)]) (v := vI x5) ⟨by kernel_rfl⟩ (fun w_ hM hS => ⟨w_, ⟨hM.elcell 1 rfl hq15 0 rfl, rfl⟩, hM, trivial⟩) ?_
     refine oQ [oF 2] [(12, vI x5), (3, vP b2 0), (45, sl A_a_3 a_3 c_a_3), (46, vI (a_3.length : Int)), (47, vI i3)] (by kernel_rfl) ?_
     refine ops_nil (fin_then (st_seq (st_region [oF 0, oF 1, oF 2, oF 3] (by rfl) ?_)))
     refine oQ [oF 0] [(51, vP b2 4), (12, vI x5), (3, vP b2 0), (45, sl A_a_3 a_3 c_a_3), (46, vI (a_3.length : Int)), (47, vI i3)] (by kernel_rfl) ?_
     refine ops_mem (d := some 52) (an := [.v (sl A_b_4 b_4 c_b_4)]) (evs := [ld b2 4 (sl A_b_4 b_4 c_b_4)]) (v := sl A_b_4 b_4 c_b_4) ⟨by kernel_rfl⟩ (fun w_ hM hS => ⟨w_, ⟨hM.cell 0 rfl rfl, rfl⟩, hM, trivial⟩) ?_
     refine oQ [oF 2, oF 3] [(54, vI 0), (53, vI (b_4.length : Int)), (52, sl A_b_4 b_4 c_b_4), (12, vI x5), (3, vP b2 0), (45, sl A_a_3 a_3 c_a_3), (46, vI (a_3.length : Int)), (47, vI i3)] (by kernel_rfl) ?_
     refine ops_nil (fin_then (st_block ?_))
     obtain ⟨r5, hl5, hk5⟩ := obind hp
     refine st_loopP (σ := Int) (ρ := (Bool ⊕ Unit)) (γ := Unit) hl5 () (fun s_ g_ => match s_, g_ with | i16, _ => [(3, vP b2 0), (12, vI x5), (45, sl A_a_3 a_3 c_a_3), (46, vI (a_3.length : Int)), (47, vI i3), (52, sl A_b_4 b_4 c_b_4), (53, vI (b_4.length : Int)), (54, vI i16)]) (fun s_ g_ => match s_, g_ with | i16, _ => Mem w0 (.blk b2 [.string b_0, sl A_b_1 b_1 c_b_1, sl A_b_2 b_2 c_b_2, sl A_b_3 b_3 c_b_3, sl A_b_4 b_4 c_b_4, sl A_b_5 b_5 c_b_5, sl A_b_6 b_6 c_b_6] 30 :: Fz F W :: cs)) (fun s_ g_ => match s_, g_ with | i16, _ => True) trivial (look_has ⟨rfl, rfl, rfl, rfl, rfl, rfl, rfl, rfl, trivial⟩) (fun w_ hM => hM) ?_
     rintro i16 _ o5 - hs_ hd5
     have hp : (tourref3_Clash_l5 b_4 x5) i16 = some o5 := hs_
     clear hs_
     unfold tourref3_Clash_l5 at hp
     refine st_seq (st_region [oF 0] (by rfl) ?_)
     refine oQ [oF 0] [(55, .bool (decide (i16 < (b_4.length : Int)))), (3, vP b2 0), (12, vI x5), (45, sl A_a_3 a_3 c_a_3), (46, vI (a_3.length : Int)), (47, vI i3), (52, sl A_b_4 b_4 c_b_4), (53, vI (b_4.length : Int)), (54, vI i16)] (by kernel_rfl) ?_
     refine ops_nil (fin_then (st_seq ?_))
     refine st_if (b := decide (i16 < (b_4.length : Int))) rfl (fun hc17 => ?_) (fun hc17 => ?_)
     ·
      have hp := cnd_t hc17 hp
      refine st_skip (fin_then (st_seq (st_block (st_seq (st_region [oF 0, oF 1, oF 2] (by rfl) ?_)))))
      obtain ⟨x18, hv19, hp⟩ := obind hp
      obtain ⟨m20, hm21, hx22⟩ := idx_some hv19
      have hl25 := (List.getElem?_eq_some_iff.1 hx22).1
      obtain ⟨ad26, vs23, hA27, hr24, hq28⟩ := RdS.el h_b_4 hx22
      obtain rfl := hr24
      refine ops_val (op := (.indexAddr 26 (.tmp 52) (.tmp 54))) (d := some 56) (v := .pointer (some (ad26.add (m20 * 1)))) ⟨by kernel_rfl⟩ (run_indexA hA27 Try.underlying26 (z := 1) (by kernel_rfl) rfl rfl hm21 hl25) ?_
      refine ops_mem (d := some 57) (an := [.v (vI x18)]) (evs := [.load (ad26.add (m20 * 1)) (vI x18)]) (v := vI x18) ⟨by kernel_rfl⟩ (fun w_ hM hS => ⟨w_, ⟨hM.elcell 1 rfl hq28 0 rfl, rfl⟩, hM, trivial⟩) ?_
      refine oQ [oF 2] [(14, vI x18), (3, vP b2 0), (12, vI x5), (45, sl A_a_3 a_3 c_a_3), (46, vI (a_3.length : Int)), (47, vI i3), (52, sl A_b_4 b_4 c_b_4), (53, vI (b_4.length : Int)), (54, vI i16)] (by kernel_rfl) ?_
      refine ops_nil (fin_then (st_seq (st_region [oF 0, oF 1, oF 2] (by rfl) ?_)))
      refine oQ [oF 0, oF 1, oF 2] [(60, .bool (x5 == x18)), (3, vP b2 0), (12, vI x5), (45, sl A_a_3 a_3 c_a_3), (46, vI (a_3.length : Int)), (47, vI i3), (52, sl A_b_4 b_4 c_b_4), (53, vI (b_4.length : Int)), (54, vI i16)] (by kernel_rfl) ?_
      refine ops_nil (fin_then ?_)
      refine st_if (b := (x5 == x18)) rfl (fun hc29 => ?_) (fun hc29 => ?_)
      ·
       have hp := cnd_t hc29 hp
       refine st_seq (st_region [oF 0] (by rfl) ?_)
       refine oQ [oF 0] [(4, .bool true)] (by kernel_rfl) ?_
       refine ops_nil (fin_then (st_ret (fin_ret_block (fin_ret_then (fin_ret_then (fin_ret_block (fin_ret_block (fin_ret_then (fin_ret_then (fin_ret_block (fin_ret_then ?_)))))))))))
       obtain hq_ := Option.some.inj hp
       subst hq_
       obtain hq_ := hd5 _ rfl
       subst hq_
       have hp : some (.inr (.inl true)) = some o3 := hk5
       obtain hq_ := Option.some.inj hp
       subst hq_
       obtain hq_ := hd3 _ rfl
       subst hq_
       have hp : some true = some t9001 := hk3
       have hq_ := Option.some.inj hp
       have hr0_ := hq_
       subst hr0_
       refine fin_ret [.tmp 4] [.bool true] rfl rfl (fun w_ hM => (.tmp rfl .nil)) (fun w_ hM => ?_)
       exact ⟨trivial, rfl, hM.pick 2 [1] (by kernel_rfl) (by decide) rfl⟩
      ·
       have hp := cnd_f hc29 hp
       refine st_skip (fin_block (fin_then (st_region [oF 0, oF 1] (by rfl) ?_)))
       refine oQ [oF 0, oF 1] [(54, vI (IntKind.i64.wrap (i16 + 1))), (3, vP b2 0), (12, vI x5), (45, sl A_a_3 a_3 c_a_3), (46, vI (a_3.length : Int)), (47, vI i3), (52, sl A_b_4 b_4 c_b_4), (53, vI (b_4.length : Int))] (by kernel_rfl) ?_
       refine ops_nil ?_
       exact fin_again (IntKind.i64.wrap (i16 + 1)) () (Option.some.inj hp).symm trivial (look_has ⟨rfl, rfl, rfl, rfl, rfl, rfl, rfl, rfl, trivial⟩) (fun w_ hM => hM)
     ·
      have hp := cnd_f hc17 hp
      refine st_exit (fin_exit_then (fin_exit_then (fin_exit (fin_block ?_))))
      obtain hq_ := Option.some.inj hp
      subst hq_
      obtain hq_ := hd5 _ rfl
      subst hq_
      have hp : (tourref3_Clash_j4 i3) = some o3 := hk5
      exact fin_join HJ4 () hp (look_has ⟨rfl, rfl, rfl, rfl, trivial⟩) (fun w_ hM => hM)
   ·
    have hp := cnd_f hc4 hp
    refine st_exit (fin_exit_then (fin_exit_then (fin_exit ?_)))
    obtain hq_ := Option.some.inj hp
    subst hq_
    obtain hq_ := hd3 _ rfl
    subst hq_
    have hp : tourref3_Clash_j2 = some t9001 := hk3
    exact fin_join HJ2 () hp (look_has trivial) (fun w_ hM => hM.pick 2 [1] (by kernel_rfl) (by decide) rfl)
 ·
  intro HJ1
  refine st_seq (st_seq (st_region [oF 0, oF 1, oF 2, oF 3] (by rfl) ?_))
  refine oQ [oF 0] [(15, vP b1 4), (3, vP b2 0), (2, vP b1 0)] (by kernel_rfl) ?_
  refine ops_mem (d := some 16) (an := [.v (sl A_a_4 a_4 c_a_4)]) (evs := [ld b1 4 (sl A_a_4 a_4 c_a_4)]) (v := sl A_a_4 a_4 c_a_4) ⟨by kernel_rfl⟩ (fun w_ hM hS => ⟨w_, ⟨hM.cell 1 rfl rfl, rfl⟩, hM, trivial⟩) ?_
  refine oQ [oF 2, oF 3] [(18, vI 0), (17, vI (a_4.length : Int)), (16, sl A_a_4 a_4 c_a_4), (3, vP b2 0), (2, vP b1 0)] (by kernel_rfl) ?_
  refine ops_nil (fin_then (st_block ?_))
  obtain ⟨r6, hl6, hk6⟩ := obind hp
  refine st_loopP (σ := Int) (ρ := (Bool ⊕ Unit)) (γ := Unit) hl6 () (fun s_ g_ => match s_, g_ with | i30, _ => [(2, vP b1 0), (3, vP b2 0), (16, sl A_a_4 a_4 c_a_4), (17, vI (a_4.length : Int)), (18, vI i30)]) (fun s_ g_ => match s_, g_ with | i30, _ => Mem w0 (.blk b1 [.string a_0, sl A_a_1 a_1 c_a_1, sl A_a_2 a_2 c_a_2, sl A_a_3 a_3 c_a_3, sl A_a_4 a_4 c_a_4, sl A_a_5 a_5 c_a_5, sl A_a_6 a_6 c_a_6] 30 :: .blk b2 [.string b_0, sl A_b_1 b_1 c_b_1, sl A_b_2 b_2 c_b_2, sl A_b_3 b_3 c_b_3, sl A_b_4 b_4 c_b_4, sl A_b_5 b_5 c_b_5, sl A_b_6 b_6 c_b_6] 30 :: Fz F W :: cs)) (fun s_ g_ => match s_, g_ with | i30, _ => True) trivial (look_has ⟨rfl, rfl, rfl, rfl, rfl, trivial⟩) (fun w_ hM => hM.pick 3 [1, 0, 2] (by kernel_rfl) (by decide) rfl) ?_
  rintro i30 _ o6 - hs_ hd6
  have hp : (tourref3_Clash_l6 a_4 b_3 b_4) i30 = some o6 := hs_
  clear hs_
  unfold tourref3_Clash_l6 at hp
  refine st_seq (st_region [oF 0] (by rfl) ?_)
  refine oQ [oF 0] [(19, .bool (decide (i30 < (a_4.length : Int)))), (2, vP b1 0), (3, vP b2 0), (16, sl A_a_4 a_4 c_a_4), (17, vI (a_4.length : Int)), (18, vI i30)] (by kernel_rfl) ?_
  refine ops_nil (fin_then (st_seq ?_))
  refine st_if (b := decide (i30 < (a_4.length : Int))) rfl (fun hc31 => ?_) (fun hc31 => ?_)
  ·
   have hp := cnd_t hc31 hp
   refine st_skip (fin_then ?_)
   refine st_join1 (σ := Unit) (L := fun _ => [(2, vP b1 0), (3, vP b2 0), (16, sl A_a_4 a_4 c_a_4), (17, vI (a_4.length : Int)), (18, vI i30)]) (N := fun _ => Mem w0 (.blk b1 [.string a_0, sl A_a_1 a_1 c_a_1, sl A_a_2 a_2 c_a_2, sl A_a_3 a_3 c_a_3, sl A_a_4 a_4 c_a_4, sl A_a_5 a_5 c_a_5, sl A_a_6 a_6 c_a_6] 30 :: .blk b2 [.string b_0, sl A_b_1 b_1 c_b_1, sl A_b_2 b_2 c_b_2, sl A_b_3 b_3 c_b_3, sl A_b_4 b_4 c_b_4, sl A_b_5 b_5 c_b_5, sl A_b_6 b_6 c_b_6] 30 :: Fz F W :: cs)) (I := fun _ => ((tourref3_Clash_j7 i30) = some o6)) ?_ ?_
   ·
    rintro _ hp
    unfold tourref3_Clash_j7 at hp
    refine st_region [oF 0, oF 1] (by rfl) ?_
    refine oQ [oF 0, oF 1] [(18, vI (IntKind.i64.wrap (i30 + 1))), (2, vP b1 0), (3, vP b2 0), (16, sl A_a_4 a_4 c_a_4), (17, vI (a_4.length : Int))] (by kernel_rfl) ?_
    refine ops_nil ?_
    exact fin_again (IntKind.i64.wrap (i30 + 1)) () (Option.some.inj hp).symm trivial (look_has ⟨rfl, rfl, rfl, rfl, rfl, trivial⟩) (fun w_ hM => hM)
   ·
    intro HJ7
    refine st_seq (st_block (st_seq (st_region [oF 0, oF 1, oF 2] (by rfl) ?_)))
    obtain ⟨x32, hv33, hp⟩ := obind hp
    obtain ⟨m34, hm35, hx36⟩ := idx_some hv33
    have hl39 := (List.getElem?_eq_some_iff.1 hx36).1
    obtain ⟨ad40, vs37, hA41, hr38, hq42⟩ := RdS.el h_a_4 hx36
    obtain rfl := hr38
    refine ops_val (op := (.indexAddr 26 (.tmp 16) (.tmp 18))) (d := some 20) (v := .pointer (some (ad40.add (m34 * 1)))) ⟨by kernel_rfl⟩ (run_indexA hA41 Try.underlying26 (z := 1) (by kernel_rfl) rfl rfl hm35 hl39) ?_
    refine ops_mem (d := some 21) (an := [.v (vI x32)]) (evs := [.load (ad40.add (m34 * 1)) (vI x32)]) (v := vI x32) ⟨by kernel_rfl⟩ (fun w_ hM hS => ⟨w_, ⟨hM.elcell 2 rfl hq42 0 rfl, rfl⟩, hM, trivial⟩) ?_
    refine oQ [oF 2] [(6, vI x32), (2, vP b1 0), (3, vP b2 0), (16, sl A_a_4 a_4 c_a_4), (17, vI (a_4.length : Int)), (18, vI i30)] (by kernel_rfl) ?_
    refine ops_nil (fin_then (st_seq (st_region [oF 0, oF 1, oF 2, oF 3, oF 4, oF 5, oF 6] (by rfl) ?_)))
    refine oQ [oF 0] [(22, vP b2 3), (6, vI x32), (2, vP b1 0), (3, vP b2 0), (16, sl A_a_4 a_4 c_a_4), (17, vI (a_4.length : Int)), (18, vI i30)] (by kernel_rfl) ?_
    refine ops_mem (d := some 23) (an := [.v (sl A_b_3 b_3 c_b_3)]) (evs := [ld b2 3 (sl A_b_3 b_3 c_b_3)]) (v := sl A_b_3 b_3 c_b_3) ⟨by kernel_rfl⟩ (fun w_ hM hS => ⟨w_, ⟨hM.cell 1 rfl rfl, rfl⟩, hM, trivial⟩) ?_
    refine oQ [oF 2] [(24, vP b2 4), (23, sl A_b_3 b_3 c_b_3), (6, vI x32), (2, vP b1 0), (3, vP b2 0), (16, sl A_a_4 a_4 c_a_4), (17, vI (a_4.length : Int)), (18, vI i30)] (by kernel_rfl) ?_
    refine ops_mem (d := some 25) (an := [.v (sl A_b_4 b_4 c_b_4)]) (evs := [ld b2 4 (sl A_b_4 b_4 c_b_4)]) (v := sl A_b_4 b_4 c_b_4) ⟨by kernel_rfl⟩ (fun w_ hM hS => ⟨w_, ⟨hM.cell 1 rfl rfl, rfl⟩, hM, trivial⟩) ?_
    have h43 : RepL (Rep.sl (Rep.int .i64)) F W ([b_3, b_4] : List (List Int)) ([sl A_b_3 b_3 c_b_3, sl A_b_4 b_4 c_b_4]) := (RepL.cons (R := (Rep.sl (Rep.int .i64))) (F := F) (w := W) (vs := [sl A_b_3 b_3 c_b_3]) (ys := [sl A_b_4 b_4 c_b_4]) (slrd h_b_3) (RepL.cons (R := (Rep.sl (Rep.int .i64))) (F := F) (w := W) (vs := [sl A_b_4 b_4 c_b_4]) (ys := []) (slrd h_b_4) RepL.nil))
    refine ops_new (d := some 26) (o := .cells ([sl A_b_3 b_3 c_b_3, sl A_b_4 b_4 c_b_4]).toArray 26) (v := fun g44 => .slice (sa g44) ([b_3, b_4] : List (List Int)).length 2) (M' := fun g44 => Mem w0 (orow (sa g44) ([b_3, b_4] : List (List Int)).length 2 26 1 ([sl A_b_3 b_3 c_b_3, sl A_b_4 b_4 c_b_4]) :: .blk b1 [.string a_0, sl A_a_1 a_1 c_a_1, sl A_a_2 a_2 c_a_2, sl A_a_3 a_3 c_a_3, sl A_a_4 a_4 c_a_4, sl A_a_5 a_5 c_a_5, sl A_a_6 a_6 c_a_6] 30 :: .blk b2 [.string b_0, sl A_b_1 b_1 c_b_1, sl A_b_2 b_2 c_b_2, sl A_b_3 b_3 c_b_3, sl A_b_4 b_4 c_b_4, sl A_b_5 b_5 c_b_5, sl A_b_6 b_6 c_b_6] 30 :: Fz F W :: cs)) (fun g44 => ⟨by kernel_rfl⟩) (fun w_ hM hS => ⟨hM.onew [sl A_b_3 b_3 c_b_3, sl A_b_4 b_4 c_b_4] 26 2 1 rfl (by decide), trivial⟩) (fun g44 => ?_)
    refine oQ [oF 5, oF 6] [(28, vI 0), (27, vI (([b_3, b_4] : List (List Int)).length : Int)), (26, .slice (sa g44) ([b_3, b_4] : List (List Int)).length 2), (6, vI x32), (2, vP b1 0), (3, vP b2 0), (16, sl A_a_4 a_4 c_a_4), (17, vI (a_4.length : Int)), (18, vI i30)] (by kernel_rfl) ?_
    refine ops_nil (fin_then (st_block ?_))
    obtain ⟨r8, hl8, hk8⟩ := obind hp
    refine st_loopP (σ := Int) (ρ := (Bool ⊕ Unit)) (γ := Unit) hl8 () (fun s_ g_ => match s_, g_ with | i45, _ => [(2, vP b1 0), (3, vP b2 0), (6, vI x32), (16, sl A_a_4 a_4 c_a_4), (17, vI (a_4.length : Int)), (18, vI i30), (26, .slice (sa g44) ([b_3, b_4] : List (List Int)).length 2), (27, vI (([b_3, b_4] : List (List Int)).length : Int)), (28, vI i45)]) (fun s_ g_ => match s_, g_ with | i45, _ => Mem w0 (.blk b1 [.string a_0, sl A_a_1 a_1 c_a_1, sl A_a_2 a_2 c_a_2, sl A_a_3 a_3 c_a_3, sl A_a_4 a_4 c_a_4, sl A_a_5 a_5 c_a_5, sl A_a_6 a_6 c_a_6] 30 :: .blk b2 [.string b_0, sl A_b_1 b_1 c_b_1, sl A_b_2 b_2 c_b_2, sl A_b_3 b_3 c_b_3, sl A_b_4 b_4 c_b_4, sl A_b_5 b_5 c_b_5, sl A_b_6 b_6 c_b_6] 30 :: orow (sa g44) ([b_3, b_4] : List (List Int)).length 2 26 1 ([sl A_b_3 b_3 c_b_3, sl A_b_4 b_4 c_b_4]) :: Fz F W :: cs)) (fun s_ g_ => match s_, g_ with | i45, _ => True) trivial (look_has ⟨rfl, rfl, rfl, rfl, rfl, rfl, rfl, rfl, rfl, trivial⟩) (fun w_ hM => hM.pick 4 [1, 2, 0, 3] (by kernel_rfl) (by decide) rfl) ?_
    rintro i45 _ o8 - hs_ hd8
    have hp : (tourref3_Clash_l8 b_3 b_4 x32) i45 = some o8 := hs_
    clear hs_
    unfold tourref3_Clash_l8 at hp
    refine st_seq (st_region [oF 0] (by rfl) ?_)
    refine oQ [oF 0] [(29, .bool (decide (i45 < (([b_3, b_4] : List (List Int)).length : Int)))), (2, vP b1 0), (3, vP b2 0), (6, vI x32), (16, sl A_a_4 a_4 c_a_4), (17, vI (a_4.length : Int)), (18, vI i30), (26, .slice (sa g44) ([b_3, b_4] : List (List Int)).length 2), (27, vI (([b_3, b_4] : List (List Int)).length : Int)), (28, vI i45)] (by kernel_rfl) ?_
    refine ops_nil (fin_then (st_seq ?_))
    refine st_if (b := decide (i45 < (([b_3, b_4] : List (List Int)).length : Int))) rfl (fun hc46 => ?_) (fun hc46 => ?_)
    ·
     have hp := cnd_t hc46 hp
     refine st_skip (fin_then ?_)
     refine st_join1 (σ := Unit) (L := fun _ => [(2, vP b1 0), (3, vP b2 0), (6, vI x32), (16, sl A_a_4 a_4 c_a_4), (17, vI (a_4.length : Int)), (18, vI i30), (26, .slice (sa g44) ([b_3, b_4] : List (List Int)).length 2), (27, vI (([b_3, b_4] : List (List Int)).length : Int)), (28, vI i45)]) (N := fun _ => Mem w0 (.blk b1 [.string a_0, sl A_a_1 a_1 c_a_1, sl A_a_2 a_2 c_a_2, sl A_a_3 a_3 c_a_3, sl A_a_4 a_4 c_a_4, sl A_a_5 a_5 c_a_5, sl A_a_6 a_6 c_a_6] 30 :: .blk b2 [.string b_0, sl A_b_1 b_1 c_b_1, sl A_b_2 b_2 c_b_2, sl A_b_3 b_3 c_b_3, sl A_b_4 b_4 c_b_4, sl A_b_5 b_5 c_b_5, sl A_b_6 b_6 c_b_6] 30 :: orow (sa g44) ([b_3, b_4] : List (List Int)).length 2 26 1 ([sl A_b_3 b_3 c_b_3, sl A_b_4 b_4 c_b_4]) :: Fz F W :: cs)) (I := fun _ => ((tourref3_Clash_j9 i45) = some o8)) ?_ ?_
     ·
      rintro _ hp
      unfold tourref3_Clash_j9 at hp
      refine st_region [oF 0, oF 1] (by rfl) ?_
      refine oQ [oF 0, oF 1] [(28, vI (IntKind.i64.wrap (i45 + 1))), (2, vP b1 0), (3, vP b2 0), (6, vI x32), (16, sl A_a_4 a_4 c_a_4), (17, vI (a_4.length : Int)), (18, vI i30), (26, .slice (sa g44) ([b_3, b_4] : List (List Int)).length 2), (27, vI (([b_3, b_4] : List (List Int)).length : Int))] (by kernel_rfl) ?_
      refine ops_nil ?_
      exact fin_again (IntKind.i64.wrap (i45 + 1)) () (Option.some.inj hp).symm trivial (look_has ⟨rfl, rfl, rfl, rfl, rfl, rfl, rfl, rfl, rfl, trivial⟩) (fun w_ hM => hM)
     ·
      intro HJ9
      refine st_seq (st_block (st_seq (st_region [oF 0, oF 1, oF 2] (by rfl) ?_)))
      obtain ⟨x47, hv48, hp⟩ := obind hp
      obtain ⟨m49, hm50, hx51⟩ := idx_some hv48
      have hl54 := (List.getElem?_eq_some_iff.1 hx51).1
      obtain ⟨vs52, hr53, hq55⟩ := h43.at_ m49 x47 hx51
      obtain ⟨A56, c57, rfl, h58⟩ := hr53
      refine ops_val (op := (.indexAddr 23 (.tmp 26) (.tmp 28))) (d := some 30) (v := vP g44 (m49 * 1)) ⟨by kernel_rfl⟩ (run_indexRow Try.underlying23 (z := 1) (by kernel_rfl) rfl rfl hm50 hl54 rfl) ?_
      refine ops_mem (d := some 31) (an := [.v (sl A56 x47 c57)]) (evs := [.load ⟨g44, m49 * 1, none⟩ (sl A56 x47 c57)]) (v := sl A56 x47 c57) ⟨by kernel_rfl⟩ (fun w_ hM hS => ⟨w_, ⟨hM.ocell 2 rfl (hq55 0 _ rfl), rfl⟩, hM, trivial⟩) ?_
      refine oQ [oF 2] [(8, sl A56 x47 c57), (2, vP b1 0), (3, vP b2 0), (6, vI x32), (16, sl A_a_4 a_4 c_a_4), (17, vI (a_4.length : Int)), (18, vI i30), (26, .slice (sa g44) ([b_3, b_4] : List (List Int)).length 2), (27, vI (([b_3, b_4] : List (List Int)).length : Int)), (28, vI i45)] (by kernel_rfl) ?_
      refine ops_nil (fin_then (st_seq (st_region [oF 0, oF 1, oF 2] (by rfl) ?_)))
      refine oQ [oF 0, oF 1, oF 2] [(34, vI 0), (33, vI (x47.length : Int)), (32, sl A56 x47 c57), (2, vP b1 0), (3, vP b2 0), (6, vI x32), (16, sl A_a_4 a_4 c_a_4), (17, vI (a_4.length : Int)), (18, vI i30), (26, .slice (sa g44) ([b_3, b_4] : List (List Int)).length 2), (27, vI (([b_3, b_4] : List (List Int)).length : Int)), (28, vI i45)] (by kernel_rfl) ?_
      refine ops_nil (fin_then (st_block ?_))
      obtain ⟨r10, hl10, hk10⟩ := obind hp
      refine st_loopP (σ := Int) (ρ := (Bool ⊕ Unit)) (γ := Unit) hl10 () (fun s_ g_ => match s_, g_ with | i59, _ => [(2, vP b1 0), (3, vP b2 0), (6, vI x32), (16, sl A_a_4 a_4 c_a_4), (17, vI (a_4.length : Int)), (18, vI i30), (26, .slice (sa g44) ([b_3, b_4] : List (List Int)).length 2), (27, vI (([b_3, b_4] : List (List Int)).length : Int)), (28, vI i45), (32, sl A56 x47 c57), (33, vI (x47.length : Int)), (34, vI i59)]) (fun s_ g_ => match s_, g_ with | i59, _ => Mem w0 (.blk b1 [.string a_0, sl A_a_1 a_1 c_a_1, sl A_a_2 a_2 c_a_2, sl A_a_3 a_3 c_a_3, sl A_a_4 a_4 c_a_4, sl A_a_5 a_5 c_a_5, sl A_a_6 a_6 c_a_6] 30 :: .blk b2 [.string b_0, sl A_b_1 b_1 c_b_1, sl A_b_2 b_2 c_b_2, sl A_b_3 b_3 c_b_3, sl A_b_4 b_4 c_b_4, sl A_b_5 b_5 c_b_5, sl A_b_6 b_6 c_b_6] 30 :: orow (sa g44) ([b_3, b_4] : List (List Int)).length 2 26 1 ([sl A_b_3 b_3 c_b_3, sl A_b_4 b_4 c_b_4]) :: Fz F W :: cs)) (fun s_ g_ => match s_, g_ with | i59, _ => True) trivial (look_has ⟨rfl, rfl, rfl, rfl, rfl, rfl, rfl, rfl, rfl, rfl, rfl, rfl, trivial⟩) (fun w_ hM => hM) ?_
      rintro i59 _ o10 - hs_ hd10
      have hp : (tourref3_Clash_l10 x47 x32) i59 = some o10 := hs_
      clear hs_
      unfold tourref3_Clash_l10 at hp
      refine st_seq (st_region [oF 0] (by rfl) ?_)
      refine oQ [oF 0] [(35, .bool (decide (i59 < (x47.length : Int)))), (2, vP b1 0), (3, vP b2 0), (6, vI x32), (16, sl A_a_4 a_4 c_a_4), (17, vI (a_4.length : Int)), (18, vI i30), (26, .slice (sa g44) ([b_3, b_4] : List (List Int)).length 2), (27, vI (([b_3, b_4] : List (List Int)).length : Int)), (28, vI i45), (32, sl A56 x47 c57), (33, vI (x47.length : Int)), (34, vI i59)] (by kernel_rfl) ?_
      refine ops_nil (fin_then (st_seq ?_))
      refine st_if (b := decide (i59 < (x47.length : Int))) rfl (fun hc60 => ?_) (fun hc60 => ?_)
      ·
       have hp := cnd_t hc60 hp
       refine st_skip (fin_then (st_seq (st_block (st_seq (st_region [oF 0, oF 1, oF 2] (by rfl) ?_)))))
       obtain ⟨x61, hv62, hp⟩ := obind hp
       obtain ⟨m63, hm64, hx65⟩ := idx_some hv62
       have hl68 := (List.getElem?_eq_some_iff.1 hx65).1
       obtain ⟨ad69, vs66, hA70, hr67, hq71⟩ := RdS.el h58 hx65
       obtain rfl := hr67
       refine ops_val (op := (.indexAddr 26 (.tmp 32) (.tmp 34))) (d := some 36) (v := .pointer (some (ad69.add (m63 * 1)))) ⟨by kernel_rfl⟩ (run_indexA hA70 Try.underlying26 (z := 1) (by kernel_rfl) rfl rfl hm64 hl68) ?_
       refine ops_mem (d := some 37) (an := [.v (vI x61)]) (evs := [.load (ad69.add (m63 * 1)) (vI x61)]) (v := vI x61) ⟨by kernel_rfl⟩ (fun w_ hM hS => ⟨w_, ⟨hM.elcell 3 rfl hq71 0 rfl, rfl⟩, hM, trivial⟩) ?_
       refine oQ [oF 2] [(10, vI x61), (2, vP b1 0), (3, vP b2 0), (6, vI x32), (16, sl A_a_4 a_4 c_a_4), (17, vI (a_4.length : Int)), (18, vI i30), (26, .slice (sa g44) ([b_3, b_4] : List (List Int)).length 2), (27, vI (([b_3, b_4] : List (List Int)).length : Int)), (28, vI i45), (32, sl A56 x47 c57), (33, vI (x47.length : Int)), (34, vI i59)] (by kernel_rfl) ?_
       refine ops_nil (fin_then (st_seq (st_region [oF 0, oF 1, oF 2] (by rfl) ?_)))
       refine oQ [oF 0, oF 1, oF 2] [(40, .bool (x32 == x61)), (2, vP b1 0), (3, vP b2 0), (6, vI x32), (16, sl A_a_4 a_4 c_a_4), (17, vI (a_4.length : Int)), (18, vI i30), (26, .slice (sa g44) ([b_3, b_4] : List (List Int)).length 2), (27, vI (([b_3, b_4] : List (List Int)).length : Int)), (28, vI i45), (32, sl A56 x47 c57), (33, vI (x47.length : Int)), (34, vI i59)] (by kernel_rfl) ?_
       refine ops_nil (fin_then ?_)
       refine st_if (b := (x32 == x61)) rfl (fun hc72 => ?_) (fun hc72 => ?_)
       ·
        have hp := cnd_t hc72 hp
        refine st_seq (st_region [oF 0] (by rfl) ?_)
        refine oQ [oF 0] [(4, .bool true)] (by kernel_rfl) ?_
        refine ops_nil (fin_then (st_ret (fin_ret_block (fin_ret_then (fin_ret_then (fin_ret_block (fin_ret_block (fin_ret_then (fin_ret_then (fin_ret_block (fin_ret_block (fin_ret_then (fin_ret_then (fin_ret_block (fin_ret_then ?_)))))))))))))))
        obtain hq_ := Option.some.inj hp
        subst hq_
        obtain hq_ := hd10 _ rfl
        subst hq_
        have hp : some (.inr (.inl true)) = some o8 := hk10
        obtain hq_ := Option.some.inj hp
        subst hq_
        obtain hq_ := hd8 _ rfl
        subst hq_
        have hp : some (.inr (.inl true)) = some o6 := hk8
        obtain hq_ := Option.some.inj hp
        subst hq_
        obtain hq_ := hd6 _ rfl
        subst hq_
        have hp : some true = some t9001 := hk6
        have hq_ := Option.some.inj hp
        have hr0_ := hq_
        subst hr0_
        refine fin_ret [.tmp 4] [.bool true] rfl rfl (fun w_ hM => (.tmp rfl .nil)) (fun w_ hM => ?_)
        exact ⟨trivial, rfl, hM.pick 4 [3] (by kernel_rfl) (by decide) rfl⟩
       ·
        have hp := cnd_f hc72 hp
        refine st_skip (fin_block (fin_then (st_region [oF 0, oF 1] (by rfl) ?_)))
        refine oQ [oF 0, oF 1] [(34, vI (IntKind.i64.wrap (i59 + 1))), (2, vP b1 0), (3, vP b2 0), (6, vI x32), (16, sl A_a_4 a_4 c_a_4), (17, vI (a_4.length : Int)), (18, vI i30), (26, .slice (sa g44) ([b_3, b_4] : List (List Int)).length 2), (27, vI (([b_3, b_4] : List (List Int)).length : Int)), (28, vI i45), (32, sl A56 x47 c57), (33, vI (x47.length : Int))] (by kernel_rfl) ?_
        refine ops_nil ?_
        exact fin_again (IntKind.i64.wrap (i59 + 1)) () (Option.some.inj hp).symm trivial (look_has ⟨rfl, rfl, rfl, rfl, rfl, rfl, rfl, rfl, rfl, rfl, rfl, rfl, trivial⟩) (fun w_ hM => hM)
      ·
       have hp := cnd_f hc60 hp
       refine st_exit (fin_exit_then (fin_exit_then (fin_exit (fin_block ?_))))
       obtain hq_ := Option.some.inj hp
       subst hq_
       obtain hq_ := hd10 _ rfl
       subst hq_
       have hp : (tourref3_Clash_j9 i45) = some o8 := hk10
       exact fin_join HJ9 () hp (look_has ⟨rfl, rfl, rfl, rfl, rfl, rfl, rfl, rfl, rfl, trivial⟩) (fun w_ hM => hM)
    ·
     have hp := cnd_f hc46 hp
     refine st_exit (fin_exit_then (fin_exit_then (fin_exit (fin_block ?_))))
     obtain hq_ := Option.some.inj hp
     subst hq_
     obtain hq_ := hd8 _ rfl
     subst hq_
     have hp : (tourref3_Clash_j7 i30) = some o6 := hk8
     exact fin_join HJ7 () hp (look_has ⟨rfl, rfl, rfl, rfl, rfl, trivial⟩) (fun w_ hM => hM.pick 4 [0, 1, 3] (by kernel_rfl) (by decide) rfl)
  ·
   have hp := cnd_f hc31 hp
   refine st_exit (fin_exit_then (fin_exit_then (fin_exit ?_)))
   obtain hq_ := Option.some.inj hp
   subst hq_
   obtain hq_ := hd6 _ rfl
   subst hq_
   have hp : (tourref3_Clash_j1 a_3 b_4) = some t9001 := hk6
   exact fin_join HJ1 () hp (look_has ⟨rfl, rfl, trivial⟩) (fun w_ hM => hM)
def tourref3_Divided__t0 : List Row := [⟨0, 147573952589676412928, 1⟩, ⟨0, 295147905179352825856, 2048⟩, ⟨3, 590295810358705651712, 442721857769029238784⟩, ⟨4, 1180591620717411303424, 590295810358705651712⟩, ⟨0, 2361183241434822606848, 1⟩, ⟨0, 4722366482869645213696, 16384⟩, ⟨48, 9444732965739290427392, 7083549724304467820544⟩, ⟨64, 18889465931478580854784, 9444732965739290427392⟩, ⟨136, 37778931862957161709568, 20070057552195992158208⟩, ⟨256, 75557863725914323419136, 37778931862957161709568⟩, ⟨512, 151115727451828646838272, 75557863725914323419168⟩, ⟨512, 302231454903657293676544, 75557863725914323435520⟩, ⟨3584, 604462909807314587353088, 528905046081400263933952⟩, ⟨512, 1208925819614629174706176, 75557863725914323423232⟩, ⟨12800, 2417851639229258349412352, 1888946593147858085478400⟩, ⟨16896, 4835703278458516698824704, 2493409502955172672831488⟩]
theorem tourref3_Divided_ok (w0 w : World) (cs : List Chunk) (F : Nat → Prop) (W : World) (A_l : Option Addr) (c_l : Nat) (l : List api_System) (A_layers : Option Addr) (c_layers : Nat) (layers : List (List Int)) (hM0 : Mem w0 (Fz F W :: cs) w) (h_l : RdS R_api_System F W A_l c_l l) (h_layers : RdS (Rep.sl (Rep.int .i64)) F W A_layers c_layers layers) (t9001 : Bool) (hp : tourref3_Divided l layers = some t9001) : Calls Try.prog 13 #[sl A_l l c_l, sl A_layers layers c_layers] w fun e w' => (True) ∧ e = .returned (.bool t9001) ∧ Mem w0 (Fz F W :: cs) w' := by
 unfold tourref3_Divided at hp
 refine sx_calls Try.func13 rfl (n := 85) (by kernel_rfl) (l := [(0, sl A_l l c_l), (1, sl A_layers layers c_layers)]) rfl (by rfl) hM0 ?_
 refine st_seq (st_region [oF 0] (by rfl) ?_)
 refine oQ [oF 0] [(0, sl A_l l c_l), (1, sl A_layers layers c_layers)] (by kernel_rfl) ?_
 refine ops_nil (fin_then (st_seq (st_region [oF 0, oF 1] (by rfl) ?_)))
 have h2 := (MapOK.nil : MapOK (fun x_ : Int => Value.int .i64 x_) (Rep.int .i64) false F W ([] : List (Int × Int)) #[] 0)
 refine ops_new (d := some 15) (o := .map #[] 0) (v := fun g1 => .map (some g1)) (M' := fun g1 => Mem w0 (.obj g1 (.map #[] 0) :: Fz F W :: cs)) (fun g1 => ⟨by kernel_rfl⟩) (fun w_ hM hS => ⟨hM.objNew _, trivial⟩) (fun g1 => ?_)
 refine oQ [oF 1] [(5, .map (some g1)), (0, sl A_l l c_l), (1, sl A_layers layers c_layers)] (by kernel_rfl) ?_
 refine ops_nil (fin_then (st_seq (st_region [oF 0] (by rfl) ?_)))
 refine oQ [oF 0] [(6, vI 0), (5, .map (some g1)), (0, sl A_l l c_l), (1, sl A_layers layers c_layers)] (by kernel_rfl) ?_
 refine ops_nil (fin_then ?_)
 refine st_join1 (σ := (Array MapEntry) × Nat × (List (Int × Int)) × Int) (L := fun x_ => match x_ with | (es3, ck4, l5, i7) => [(0, sl A_l l c_l), (5, .map (some g1)), (6, vI i7)]) (N := fun x_ => match x_ with | (es3, ck4, l5, i7) => Mem w0 (.obj g1 (.map es3 ck4) :: Fz F W :: cs)) (I := fun x_ => match x_ with | (es3, ck4, l5, i7) => ((tourref3_Divided_j1 l) l5 i7 = some t9001) ∧ (MapOK (fun x_ : Int => Value.int .i64 x_) (Rep.int .i64) false F W l5 es3 ck4)) ?_ ?_
 ·
  rintro ⟨es3, ck4, l5, i7⟩ ⟨hp, h6⟩
  unfold tourref3_Divided_j1 at hp
  refine st_seq (st_seq (st_region [oF 0, oF 1, oF 2, oF 3, oF 4, oF 5, oF 6, oF 7, oF 8, oF 9, oF 10] (by rfl) ?_))
  refine oQ [oF 0, oF 1, oF 2, oF 3, oF 4] [(43, .bool (!(i7 == (l.length : Int)))), (0, sl A_l l c_l), (5, .map (some g1))] (by kernel_rfl) ?_
  refine ops_bool (t := !(i7 == (l.length : Int))) (l1 := [(43, .bool true), (0, sl A_l l c_l), (5, .map (some g1))]) (l2 := [(43, .bool false), (0, sl A_l l c_l), (5, .map (some g1))]) (fun h => by rw [h]) (fun h => by rw [h]) (fun hc8 => ?_) (fun hc8 => ?_)
  ·
   have hp := cnd_t hc8 hp
   refine oQ [oF 5, oF 6, oF 7, oF 8, oF 9, oF 10] [(49, .bool true), (0, sl A_l l c_l), (5, .map (some g1))] (by kernel_rfl) ?_
   refine ops_nil (fin_then (st_true rfl (st_seq (st_region [oF 0] (by rfl) ?_))))
   refine oQ [oF 0] [(4, .bool false)] (by kernel_rfl) ?_
   refine ops_nil (fin_then (st_ret (fin_ret_then ?_)))
   have hq_ := Option.some.inj hp
   have hr0_ := hq_
   subst hr0_
   refine fin_ret [.tmp 4] [.bool false] rfl rfl (fun w_ hM => (.tmp rfl .nil)) (fun w_ hM => ?_)
   exact ⟨trivial, rfl, hM.pick 2 [1] (by kernel_rfl) (by decide) rfl⟩
  ·
   have hp := cnd_f hc8 hp
   refine oQ [oF 5] [(44, .map (some g1)), (43, .bool false), (0, sl A_l l c_l), (5, .map (some g1))] (by kernel_rfl) ?_
   refine ops_law (op := (.call { callee := (Go.Callee.builtin Go.Builtin.len), args := #[(.tmp 44)], argTypes := #[112] })) (d := some 45) (σ := Unit) (v := fun _ => vI (l5.length : Int)) (M' := fun _ => Mem w0 (.obj g1 (.map es3 ck4) :: Fz F W :: cs)) ⟨by kernel_rfl⟩ (fun o_ w_ ho_ hM hS => ⟨(), w_, run_lenMapV Try.underlying112 rfl (hM.mapAt 0 rfl) h6.len o_ ho_, hM, trivial⟩) (fun _ => ?_)
   refine oQ [oF 7, oF 8, oF 9, oF 10] [(49, .bool (!((l5.length : Int) == (l.length : Int)))), (0, sl A_l l c_l), (5, .map (some g1))] (by kernel_rfl) ?_
   refine ops_nil (fin_then ?_)
   refine st_if (b := !((l5.length : Int) == (l.length : Int))) rfl (fun hc9 => ?_) (fun hc9 => ?_)
   ·
    have hp := cnd_t hc9 hp
    refine st_seq (st_region [oF 0] (by rfl) ?_)
    refine oQ [oF 0] [(4, .bool false)] (by kernel_rfl) ?_
    refine ops_nil (fin_then (st_ret (fin_ret_then ?_)))
    have hq_ := Option.some.inj hp
    have hr0_ := hq_
    subst hr0_
    refine fin_ret [.tmp 4] [.bool false] rfl rfl (fun w_ hM => (.tmp rfl .nil)) (fun w_ hM => ?_)
    exact ⟨trivial, rfl, hM.pick 2 [1] (by kernel_rfl) (by decide) rfl⟩
   ·
    have hp := cnd_f hc9 hp
    refine st_skip (fin_then ?_)
    refine st_join1 (σ := Unit) (L := fun _ => []) (N := fun _ => Mem w0 (Fz F W :: cs)) (I := fun _ => (tourref3_Divided_j2 = some t9001)) ?_ ?_
    ·
     rintro _ hp
     unfold tourref3_Divided_j2 at hp
     refine st_seq (st_region [oF 0] (by rfl) ?_)
     refine oQ [oF 0] [(4, .bool true)] (by kernel_rfl) ?_
     refine ops_nil (fin_then (st_ret ?_))
     have hq_ := Option.some.inj hp
     have hr0_ := hq_
     subst hr0_
     refine fin_ret [.tmp 4] [.bool true] rfl rfl (fun w_ hM => (.tmp rfl .nil)) (fun w_ hM => ?_)
     exact ⟨trivial, rfl, hM⟩
    ·
     intro HJ2
     refine st_seq (st_seq (st_region [oF 0, oF 1, oF 2] (by rfl) ?_))
     refine oQ [oF 0, oF 1, oF 2] [(52, vI 0), (51, vI (l.length : Int)), (0, sl A_l l c_l), (5, .map (some g1))] (by kernel_rfl) ?_
     refine ops_nil (fin_then (st_block ?_))
     obtain ⟨r3, hl3, hk3⟩ := obind hp
     refine st_loopP (σ := Int) (ρ := (Bool ⊕ Unit)) (γ := Unit) hl3 () (fun s_ g_ => match s_, g_ with | i10, _ => [(0, sl A_l l c_l), (5, .map (some g1)), (51, vI (l.length : Int)), (52, vI i10)]) (fun s_ g_ => match s_, g_ with | i10, _ => Mem w0 (.obj g1 (.map es3 ck4) :: Fz F W :: cs)) (fun s_ g_ => match s_, g_ with | i10, _ => True) trivial (look_has ⟨rfl, rfl, rfl, rfl, trivial⟩) (fun w_ hM => hM) ?_
     rintro i10 _ o3 - hs_ hd3
     have hp : (tourref3_Divided_l3 l l5) i10 = some o3 := hs_
     clear hs_
     unfold tourref3_Divided_l3 at hp
     refine st_seq (st_region [oF 0] (by rfl) ?_)
     refine oQ [oF 0] [(53, .bool (decide (i10 < (l.length : Int)))), (0, sl A_l l c_l), (5, .map (some g1)), (51, vI (l.length : Int)), (52, vI i10)] (by kernel_rfl) ?_
     refine ops_nil (fin_then (st_seq ?_))
     refine st_if (b := decide (i10 < (l.length : Int))) rfl (fun hc11 => ?_) (fun hc11 => ?_)
     ·
      have hp := cnd_t hc11 hp
      refine st_skip (fin_then ?_)
      refine st_join1 (σ := Unit) (L := fun _ => [(0, sl A_l l c_l), (5, .map (some g1)), (51, vI (l.length : Int)), (52, vI i10)]) (N := fun _ => Mem w0 (.obj g1 (.map es3 ck4) :: Fz F W :: cs)) (I := fun _ => ((tourref3_Divided_j4 i10) = some o3)) ?_ ?_
      ·
       rintro _ hp
       unfold tourref3_Divided_j4 at hp
       refine st_region [oF 0, oF 1] (by rfl) ?_
       refine oQ [oF 0, oF 1] [(52, vI (IntKind.i64.wrap (i10 + 1))), (0, sl A_l l c_l), (5, .map (some g1)), (51, vI (l.length : Int))] (by kernel_rfl) ?_
       refine ops_nil ?_
       exact fin_again (IntKind.i64.wrap (i10 + 1)) () (Option.some.inj hp).symm trivial (look_has ⟨rfl, rfl, rfl, rfl, trivial⟩) (fun w_ hM => hM)
      ·
       intro HJ4
       refine st_seq (st_block (st_seq (st_region [oF 0, oF 1] (by rfl) ?_)))
       refine oQ [oF 0, oF 1] [(11, vI i10), (0, sl A_l l c_l), (5, .map (some g1)), (51, vI (l.length : Int)), (52, vI i10)] (by kernel_rfl) ?_
       refine ops_nil (fin_then (st_seq (st_region [oF 0, oF 1, oF 2, oF 3, oF 4, oF 5, oF 6, oF 7] (by rfl) ?_)))
       refine oQ [oF 0, oF 1] [(57, vI i10), (56, .map (some g1)), (11, vI i10), (0, sl A_l l c_l), (5, .map (some g1)), (51, vI (l.length : Int)), (52, vI i10)] (by kernel_rfl) ?_
       obtain ⟨x12, hv13, hp⟩ := obind hp
       obtain ⟨vs14, hr15, hrun16⟩ := h6.get (KeyLaw.int Try.underlying3) Try.underlying112 i10 0 (rfl) (fun u_ => Try.zeroValue3 u_)
       have hr15 : (Rep.int .i64).rd F W x12 vs14 := by rw [← Option.some.inj hv13]; exact hr15
       obtain rfl := hr15
       refine ops_law (op := (.lookup 112 (.tmp 56) (.tmp 57) true)) (d := some 58) (σ := Unit) (v := fun _ => .tuple #[vI x12, .bool ((mget l5 i10).isSome)]) (M' := fun _ => Mem w0 (.obj g1 (.map es3 ck4) :: Fz F W :: cs)) ⟨by kernel_rfl⟩ (fun o_ w_ ho_ hM hS => ⟨(), w_, run_lookupV rfl rfl (hrun16 true g1 w_ (hM.mapAt 0 rfl)) o_ ho_, hM, trivial⟩) (fun _ => ?_)
       refine oQ [oF 3, oF 4, oF 5, oF 6, oF 7] [(13, .bool ((mget l5 i10).isSome)), (12, vI x12), (11, vI i10), (0, sl A_l l c_l), (5, .map (some g1)), (51, vI (l.length : Int)), (52, vI i10)] (by kernel_rfl) ?_
       refine ops_nil (fin_then (st_seq (st_seq (st_region [oF 0, oF 1] (by rfl) ?_))))
       refine oQ [oF 0, oF 1] [(62, .bool (!((mget l5 i10).isSome))), (12, vI x12), (11, vI i10), (0, sl A_l l c_l), (5, .map (some g1)), (51, vI (l.length : Int)), (52, vI i10)] (by kernel_rfl) ?_
       refine ops_nil (fin_then ?_)
       refine st_if (b := !((mget l5 i10).isSome)) rfl (fun hc17 => ?_) (fun hc17 => ?_)
       ·
        have hp := cnd_t hc17 hp
        refine st_seq (st_region [oF 0] (by rfl) ?_)
        refine oQ [oF 0] [(4, .bool false)] (by kernel_rfl) ?_
        refine ops_nil (fin_then (st_ret (fin_ret_then (fin_ret_block (fin_ret_then (fin_ret_then (fin_ret_block (fin_ret_then ?_))))))))
        obtain hq_ := Option.some.inj hp
        subst hq_
        obtain hq_ := hd3 _ rfl
        subst hq_
        have hp : some false = some t9001 := hk3
        have hq_ := Option.some.inj hp
        have hr0_ := hq_
        subst hr0_
        refine fin_ret [.tmp 4] [.bool false] rfl rfl (fun w_ hM => (.tmp rfl .nil)) (fun w_ hM => ?_)
        exact ⟨trivial, rfl, hM.pick 2 [1] (by kernel_rfl) (by decide) rfl⟩
       ·
        have hp := cnd_f hc17 hp
        refine st_skip (fin_then (st_seq (st_region [oF 0, oF 1] (by rfl) ?_)))
        refine oQ [oF 0, oF 1] [(64, vI 0), (63, vI i10), (12, vI x12), (11, vI i10), (0, sl A_l l c_l), (5, .map (some g1)), (51, vI (l.length : Int)), (52, vI i10)] (by kernel_rfl) ?_
        refine ops_nil (fin_then (st_block ?_))
        obtain ⟨r5, hl5, hk5⟩ := obind hp
        refine st_loopP (σ := Int) (ρ := (Bool ⊕ Unit)) (γ := Unit) hl5 () (fun s_ g_ => match s_, g_ with | i18, _ => [(0, sl A_l l c_l), (5, .map (some g1)), (11, vI i10), (12, vI x12), (51, vI (l.length : Int)), (52, vI i10), (63, vI i10), (64, vI i18)]) (fun s_ g_ => match s_, g_ with | i18, _ => Mem w0 (.obj g1 (.map es3 ck4) :: Fz F W :: cs)) (fun s_ g_ => match s_, g_ with | i18, _ => True) trivial (look_has ⟨rfl, rfl, rfl, rfl, rfl, rfl, rfl, rfl, trivial⟩) (fun w_ hM => hM) ?_
        rintro i18 _ o5 - hs_ hd5
        have hp : (tourref3_Divided_l5 i10 l l5 x12) i18 = some o5 := hs_
        clear hs_
        unfold tourref3_Divided_l5 at hp
        refine st_seq (st_region [oF 0] (by rfl) ?_)
        refine oQ [oF 0] [(65, .bool (decide (i18 < i10))), (0, sl A_l l c_l), (5, .map (some g1)), (11, vI i10), (12, vI x12), (51, vI (l.length : Int)), (52, vI i10), (63, vI i10), (64, vI i18)] (by kernel_rfl) ?_
        refine ops_nil (fin_then (st_seq ?_))
        refine st_if (b := decide (i18 < i10)) rfl (fun hc19 => ?_) (fun hc19 => ?_)
        ·
         have hp := cnd_t hc19 hp
         refine st_skip (fin_then ?_)
         refine st_join1 (σ := Unit) (L := fun _ => [(0, sl A_l l c_l), (5, .map (some g1)), (11, vI i10), (12, vI x12), (51, vI (l.length : Int)), (52, vI i10), (63, vI i10), (64, vI i18)]) (N := fun _ => Mem w0 (.obj g1 (.map es3 ck4) :: Fz F W :: cs)) (I := fun _ => ((tourref3_Divided_j6 i18) = some o5)) ?_ ?_
         ·
          rintro _ hp
          unfold tourref3_Divided_j6 at hp
          refine st_region [oF 0, oF 1] (by rfl) ?_
          refine oQ [oF 0, oF 1] [(64, vI (IntKind.i64.wrap (i18 + 1))), (0, sl A_l l c_l), (5, .map (some g1)), (11, vI i10), (12, vI x12), (51, vI (l.length : Int)), (52, vI i10), (63, vI i10)] (by kernel_rfl) ?_
          refine ops_nil ?_
          exact fin_again (IntKind.i64.wrap (i18 + 1)) () (Option.some.inj hp).symm trivial (look_has ⟨rfl, rfl, rfl, rfl, rfl, rfl, rfl, rfl, trivial⟩) (fun w_ hM => hM)
         ·
          intro HJ6
          refine st_seq (st_block (st_seq (st_region [oF 0, oF 1] (by rfl) ?_)))
          refine oQ [oF 0, oF 1] [(14, vI i18), (0, sl A_l l c_l), (5, .map (some g1)), (11, vI i10), (12, vI x12), (51, vI (l.length : Int)), (52, vI i10), (63, vI i10), (64, vI i18)] (by kernel_rfl) ?_
          refine ops_nil (fin_then (st_seq ?_))
          refine st_region_fast tourref3_Divided__t0 [oT 0, oT 1, oT 2, oT 3, oT 4, oT 5, oT 6, oT 7, oF 8, oT 9, oT 10, oT 11, oT 13, oF 12, oT 14, oT 15] (Mem w0 (.obj g1 (.map es3 ck4) :: Fz F W :: cs)) (by kernel_rfl) (by kernel_rfl) (by kernel_rfl) (by kernel_rfl) (by kernel_rfl) (fun _ d _ _ _ h => by cases d <;> exact h) (M' := Mem w0 (.obj g1 (.map es3 ck4) :: Fz F W :: cs)) (fun w_ hM => ⟨hM.drew, hM.drew.sub (.cons_cons _ (.cons_cons _ (.refl _)))⟩) ?_
          refine oQ [oT 0, oT 1] [(68, vI i10), (67, sl A_l l c_l), (14, vI i18), (0, sl A_l l c_l), (5, .map (some g1)), (11, vI i10), (12, vI x12), (51, vI (l.length : Int)), (52, vI i10), (63, vI i10), (64, vI i18)] (by kernel_rfl) ?_
          obtain ⟨x20, hv21, hp⟩ := obind hp
          obtain ⟨m22, hm23, hx24⟩ := idx_some hv21
          have hl27 := (List.getElem?_eq_some_iff.1 hx24).1
          obtain ⟨ad28, vs25, hA29, hr26, hq30⟩ := RdS.el h_l hx24
          obtain ⟨A31, c32, A34, c35, A37, c38, A40, c41, A43, c44, A46, c47, rfl, h33, h36, h39, h42, h45, h48⟩ := dec_api_System hr26
          refine ops_val (op := (.indexAddr 22 (.tmp 67) (.tmp 68))) (d := some 69) (v := .pointer (some (ad28.add (m22 * 7)))) ⟨by kernel_rfl⟩ (run_indexA hA29 Try.underlying22 (z := 7) (by kernel_rfl) rfl rfl hm23 hl27) ?_
          refine ops_load (d := some 70) (an := [.v (.string x20.Name), .v (sl A31 x20.With c32), .v (sl A34 x20.Without c35), .v (sl A37 x20.Reads c38), .v (sl A40 x20.Writes c41), .v (sl A43 x20.Ops c44), .v (sl A46 x20.Spawn c47)]) (evs := [.load (ad28.add (m22 * 7)) (.string x20.Name), .load ((ad28.add (m22 * 7)).add 1) (sl A31 x20.With c32), .load ((ad28.add (m22 * 7)).add 2) (sl A34 x20.Without c35), .load ((ad28.add (m22 * 7)).add 3) (sl A37 x20.Reads c38), .load ((ad28.add (m22 * 7)).add 4) (sl A40 x20.Writes c41), .load ((ad28.add (m22 * 7)).add 5) (sl A43 x20.Ops c44), .load ((ad28.add (m22 * 7)).add 6) (sl A46 x20.Spawn c47)]) (v := .agg #[.string x20.Name, sl A31 x20.With c32, sl A34 x20.Without c35, sl A37 x20.Reads c38, sl A40 x20.Writes c41, sl A43 x20.Ops c44, sl A46 x20.Spawn c47]) ⟨by kernel_rfl⟩ (fun w_ hM => ⟨hM.elcell 1 rfl hq30 0 rfl, hM.elcell 1 rfl hq30 1 rfl, hM.elcell 1 rfl hq30 2 rfl, hM.elcell 1 rfl hq30 3 rfl, hM.elcell 1 rfl hq30 4 rfl, hM.elcell 1 rfl hq30 5 rfl, hM.elcell 1 rfl hq30 6 rfl, rfl⟩) ?_
          refine oQ [oT 4, oT 5] [(72, vI i18), (71, sl A_l l c_l), (70, .agg #[.string x20.Name, sl A31 x20.With c32, sl A34 x20.Without c35, sl A37 x20.Reads c38, sl A40 x20.Writes c41, sl A43 x20.Ops c44, sl A46 x20.Spawn c47]), (14, vI i18), (0, sl A_l l c_l), (5, .map (some g1)), (11, vI i10), (12, vI x12), (51, vI (l.length : Int)), (52, vI i10), (63, vI i10), (64, vI i18)] (by kernel_rfl) ?_
          obtain ⟨x49, hv50, hp⟩ := obind hp
          obtain ⟨m51, hm52, hx53⟩ := idx_some hv50
          have hl56 := (List.getElem?_eq_some_iff.1 hx53).1
          obtain ⟨ad57, vs54, hA58, hr55, hq59⟩ := RdS.el h_l hx53
          obtain ⟨A60, c61, A63, c64, A66, c67, A69, c70, A72, c73, A75, c76, rfl, h62, h65, h68, h71, h74, h77⟩ := dec_api_System hr55
          refine ops_val (op := (.indexAddr 22 (.tmp 71) (.tmp 72))) (d := some 73) (v := .pointer (some (ad57.add (m51 * 7)))) ⟨by kernel_rfl⟩ (run_indexA hA58 Try.underlying22 (z := 7) (by kernel_rfl) rfl rfl hm52 hl56) ?_
          refine ops_load (d := some 74) (an := [.v (.string x49.Name), .v (sl A60 x49.With c61), .v (sl A63 x49.Without c64), .v (sl A66 x49.Reads c67), .v (sl A69 x49.Writes c70), .v (sl A72 x49.Ops c73), .v (sl A75 x49.Spawn c76)]) (evs := [.load (ad57.add (m51 * 7)) (.string x49.Name), .load ((ad57.add (m51 * 7)).add 1) (sl A60 x49.With c61), .load ((ad57.add (m51 * 7)).add 2) (sl A63 x49.Without c64), .load ((ad57.add (m51 * 7)).add 3) (sl A66 x49.Reads c67), .load ((ad57.add (m51 * 7)).add 4) (sl A69 x49.Writes c70), .load ((ad57.add (m51 * 7)).add 5) (sl A72 x49.Ops c73), .load ((ad57.add (m51 * 7)).add 6) (sl A75 x49.Spawn c76)]) (v := .agg #[.string x49.Name, sl A60 x49.With c61, sl A63 x49.Without c64, sl A66 x49.Reads c67, sl A69 x49.Writes c70, sl A72 x49.Ops c73, sl A75 x49.Spawn c76]) ⟨by kernel_rfl⟩ (fun w_ hM => ⟨hM.elcell 1 rfl hq59 0 rfl, hM.elcell 1 rfl hq59 1 rfl, hM.elcell 1 rfl hq59 2 rfl, hM.elcell 1 rfl hq59 3 rfl, hM.elcell 1 rfl hq59 4 rfl, hM.elcell 1 rfl hq59 5 rfl, hM.elcell 1 rfl hq59 6 rfl, rfl⟩) ?_
          obtain ⟨x78, hv79, hp⟩ := obind hp
          refine ops_callI (σ := Unit) (d := some 75) (f := 26) (args := #[.agg #[.string x20.Name, sl A31 x20.With c32, sl A34 x20.Without c35, sl A37 x20.Reads c38, sl A40 x20.Writes c41, sl A43 x20.Ops c44, sl A46 x20.Spawn c47], .agg #[.string x49.Name, sl A60 x49.With c61, sl A63 x49.Without c64, sl A66 x49.Reads c67, sl A69 x49.Writes c70, sl A72 x49.Ops c73, sl A75 x49.Spawn c76]]) (v := (fun _ => .bool x78)) (I := (fun _ => True)) (M' := (fun _ => Mem w0 (.obj g1 (.map es3 ck4) :: Fz F W :: cs))) ⟨by kernel_rfl⟩ (fun w_ hM hS => (tourref3_Clash_ok w0 w_ (.obj g1 (.map es3 ck4) :: cs) F W x20.Name A31 c32 x20.With A34 c35 x20.Without A37 c38 x20.Reads A40 c41 x20.Writes A43 c44 x20.Ops A46 c47 x20.Spawn x49.Name A60 c61 x49.With A63 c64 x49.Without A66 c67 x49.Reads A69 c70 x49.Writes A72 c73 x49.Ops A75 c76 x49.Spawn (hM.pick 2 [1, 0] (by kernel_rfl) (by decide) rfl) h33 h36 h39 h42 h45 h48 h62 h65 h68 h71 h74 h77 x78 hv79).mono (by rintro e w' ⟨-, rfl, h'⟩; have h' : Mem w0 (.obj g1 (.map es3 ck4) :: Fz F W :: cs) w' := (h'.pick 2 [1, 0] (by kernel_rfl) (by decide) rfl); exact ⟨(), trivial, rfl, h', (by exact h'.sub (.cons_cons _ (.cons_cons _ (.refl _))))⟩)) ?_
          rintro _ -
          refine oQ [oT 9] [(76, .bool x78), (14, vI i18), (0, sl A_l l c_l), (5, .map (some g1)), (11, vI i10), (12, vI x12), (51, vI (l.length : Int)), (52, vI i10), (63, vI i10), (64, vI i18)] (by kernel_rfl) ?_
          refine ops_bool (t := x78) (l1 := [(76, .bool true), (14, vI i18), (0, sl A_l l c_l), (5, .map (some g1)), (11, vI i10), (12, vI x12), (51, vI (l.length : Int)), (52, vI i10), (63, vI i10), (64, vI i18)]) (l2 := [(76, .bool false), (14, vI i18), (0, sl A_l l c_l), (5, .map (some g1)), (11, vI i10), (12, vI x12), (51, vI (l.length : Int)), (52, vI i10), (63, vI i10), (64, vI i18)]) (fun h => by rw [h]) (fun h => by rw [h]) (fun hc80 => ?_) (fun hc80 => ?_)
          ·
           have hp := cnd_t hc80 hp
           refine oQ [oT 10, oT 11, oT 13] [(80, vI x12), (78, vI i18), (77, .map (some g1)), (76, .bool true), (0, sl A_l l c_l), (5, .map (some g1)), (11, vI i10), (12, vI x12), (51, vI (l.length : Int)), (52, vI i10), (63, vI i10), (64, vI i18)] (by kernel_rfl) ?_
           obtain ⟨x81, hv82, hp⟩ := obind hp
           obtain ⟨vs83, hr84, hrun85⟩ := h6.get (KeyLaw.int Try.underlying3) Try.underlying112 i18 0 (rfl) (fun u_ => Try.zeroValue3 u_)
           have hr84 : (Rep.int .i64).rd F W x81 vs83 := by rw [← Option.some.inj hv82]; exact hr84
           obtain rfl := hr84
           refine ops_law (op := (.lookup 112 (.tmp 77) (.tmp 78) false)) (d := some 79) (σ := Unit) (v := fun _ => vI x81) (M' := fun _ => Mem w0 (.obj g1 (.map es3 ck4) :: Fz F W :: cs)) ⟨by kernel_rfl⟩ (fun o_ w_ ho_ hM hS => ⟨(), w_, run_lookupV rfl rfl (hrun85 false g1 w_ (hM.mapAt 0 rfl)) o_ ho_, hM, hS⟩) (fun _ => ?_)
           refine oQ [oT 14, oT 15] [(82, .bool (decide (x12 ≤ x81))), (0, sl A_l l c_l), (5, .map (some g1)), (11, vI i10), (12, vI x12), (51, vI (l.length : Int)), (52, vI i10), (63, vI i10), (64, vI i18)] (by kernel_rfl) ?_
           refine ops_nil (fin_then ?_)
           refine st_if (b := decide (x12 ≤ x81)) rfl (fun hc86 => ?_) (fun hc86 => ?_)
           ·
            have hp := cnd_t hc86 hp
            refine st_seq (st_region [oF 0] (by rfl) ?_)
            refine oQ [oF 0] [(4, .bool false)] (by kernel_rfl) ?_
            refine ops_nil (fin_then (st_ret (fin_ret_block (fin_ret_then (fin_ret_then (fin_ret_block (fin_ret_block (fin_ret_then (fin_ret_then (fin_ret_block (fin_ret_then ?_)))))))))))
            obtain hq_ := Option.some.inj hp
            subst hq_
            obtain hq_ := hd5 _ rfl
            subst hq_
            have hp : some (.inr (.inl false)) = some o3 := hk5
            obtain hq_ := Option.some.inj hp
            subst hq_
            obtain hq_ := hd3 _ rfl
            subst hq_
            have hp : some false = some t9001 := hk3
            have hq_ := Option.some.inj hp
            have hr0_ := hq_
            subst hr0_
            refine fin_ret [.tmp 4] [.bool false] rfl rfl (fun w_ hM => (.tmp rfl .nil)) (fun w_ hM => ?_)
            exact ⟨trivial, rfl, hM.pick 2 [1] (by kernel_rfl) (by decide) rfl⟩
           ·
            have hp := cnd_f hc86 hp
            refine st_skip (fin_block ?_)
            exact fin_join HJ6 () hp (look_has ⟨rfl, rfl, rfl, rfl, rfl, rfl, rfl, rfl, trivial⟩) (fun w_ hM => hM)
          ·
           have hp := cnd_f hc80 hp
           refine oQ [oT 10, oT 11, oT 13, oF 12, oT 14, oT 15] [(82, .bool false), (0, sl A_l l c_l), (5, .map (some g1)), (11, vI i10), (12, vI x12), (51, vI (l.length : Int)), (52, vI i10), (63, vI i10), (64, vI i18)] (by kernel_rfl) ?_
           refine ops_nil (fin_then (st_false rfl (st_skip (fin_block ?_))))
           exact fin_join HJ6 () hp (look_has ⟨rfl, rfl, rfl, rfl, rfl, rfl, rfl, rfl, trivial⟩) (fun w_ hM => hM)
        ·
         have hp := cnd_f hc19 hp
         refine st_exit (fin_exit_then (fin_exit_then (fin_exit (fin_block ?_))))
         obtain hq_ := Option.some.inj hp
         subst hq_
         obtain hq_ := hd5 _ rfl
         subst hq_
         have hp : (tourref3_Divided_j4 i10) = some o3 := hk5
         exact fin_join HJ4 () hp (look_has ⟨rfl, rfl, rfl, rfl, trivial⟩) (fun w_ hM => hM)
     ·
      have hp := cnd_f hc11 hp
      refine st_exit (fin_exit_then (fin_exit_then (fin_exit ?_)))
      obtain hq_ := Option.some.inj hp
      subst hq_
      obtain hq_ := hd3 _ rfl
      subst hq_
      have hp : tourref3_Divided_j2 = some t9001 := hk3
      exact fin_join HJ2 () hp (look_has trivial) (fun w_ hM => hM.pick 2 [1] (by kernel_rfl) (by decide) rfl)
 ·
  intro HJ1
  refine st_seq (st_seq (st_region [oF 0, oF 1, oF 2] (by rfl) ?_))
  refine oQ [oF 0, oF 1, oF 2] [(18, vI 0), (17, vI (layers.length : Int)), (16, sl A_layers layers c_layers), (6, vI 0), (5, .map (some g1)), (0, sl A_l l c_l)] (by kernel_rfl) ?_
  refine ops_nil (fin_then (st_block ?_))
  obtain ⟨r7, hl7, hk7⟩ := obind hp
  refine st_loopP (σ := (List (Int × Int)) × Int × Int) (ρ := (Bool ⊕ (List (Int × Int)) × Int)) (γ := (Array MapEntry) × Nat) hl7 (#[], 0) (fun s_ g_ => match s_, g_ with | (l89, i91, i92), (es87, ck88) => [(0, sl A_l l c_l), (5, .map (some g1)), (6, vI i91), (16, sl A_layers layers c_layers), (17, vI (layers.length : Int)), (18, vI i92)]) (fun s_ g_ => match s_, g_ with | (l89, i91, i92), (es87, ck88) => Mem w0 (.obj g1 (.map es87 ck88) :: Fz F W :: cs)) (fun s_ g_ => match s_, g_ with | (l89, i91, i92), (es87, ck88) => (MapOK (fun x_ : Int => Value.int .i64 x_) (Rep.int .i64) false F W l89 es87 ck88)) h2 (look_has ⟨rfl, rfl, rfl, rfl, rfl, rfl, trivial⟩) (fun w_ hM => hM) ?_
  rintro ⟨l89, i91, i92⟩ ⟨es87, ck88⟩ o7 h90 hs_ hd7
  have hp : (tourref3_Divided_l7 layers) l89 i91 i92 = some o7 := hs_
  clear hs_
  unfold tourref3_Divided_l7 at hp
  refine st_seq (st_region [oF 0] (by rfl) ?_)
  refine oQ [oF 0] [(19, .bool (decide (i92 < (layers.length : Int)))), (0, sl A_l l c_l), (5, .map (some g1)), (6, vI i91), (16, sl A_layers layers c_layers), (17, vI (layers.length : Int)), (18, vI i92)] (by kernel_rfl) ?_
  refine ops_nil (fin_then (st_seq ?_))
  refine st_if (b := decide (i92 < (layers.length : Int))) rfl (fun hc93 => ?_) (fun hc93 => ?_)
  ·
   have hp := cnd_t hc93 hp
   refine st_skip (fin_then ?_)
   refine st_join1 (σ := (Array MapEntry) × Nat × (List (Int × Int)) × Int) (L := fun x_ => match x_ with | (es94, ck95, l96, i98) => [(0, sl A_l l c_l), (5, .map (some g1)), (6, vI i98), (16, sl A_layers layers c_layers), (17, vI (layers.length : Int)), (18, vI i92)]) (N := fun x_ => match x_ with | (es94, ck95, l96, i98) => Mem w0 (.obj g1 (.map es94 ck95) :: Fz F W :: cs)) (I := fun x_ => match x_ with | (es94, ck95, l96, i98) => ((tourref3_Divided_j8 i92) l96 i98 = some o7) ∧ (MapOK (fun x_ : Int => Value.int .i64 x_) (Rep.int .i64) false F W l96 es94 ck95)) ?_ ?_
   ·
    rintro ⟨es94, ck95, l96, i98⟩ ⟨hp, h97⟩
    unfold tourref3_Divided_j8 at hp
    refine st_region [oF 0, oF 1] (by rfl) ?_
    refine oQ [oF 0, oF 1] [(18, vI (IntKind.i64.wrap (i92 + 1))), (0, sl A_l l c_l), (5, .map (some g1)), (6, vI i98), (16, sl A_layers layers c_layers), (17, vI (layers.length : Int))] (by kernel_rfl) ?_
    refine ops_nil ?_
    exact fin_again (l96, i98, IntKind.i64.wrap (i92 + 1)) (es94, ck95) (Option.some.inj hp).symm h97 (look_has ⟨rfl, rfl, rfl, rfl, rfl, rfl, trivial⟩) (fun w_ hM => hM)
   ·
    intro HJ8
    refine st_seq (st_block (st_seq (st_region [oF 0, oF 1, oF 2, oF 3, oF 4] (by rfl) ?_)))
    refine oQ [oF 0] [(20, vI i92), (0, sl A_l l c_l), (5, .map (some g1)), (6, vI i91), (16, sl A_layers layers c_layers), (17, vI (layers.length : Int)), (18, vI i92)] (by kernel_rfl) ?_
    obtain ⟨x99, hv100, hp⟩ := obind hp
    obtain ⟨m101, hm102, hx103⟩ := idx_some hv100
    have hl106 := (List.getElem?_eq_some_iff.1 hx103).1
    obtain ⟨ad107, vs104, hA108, hr105, hq109⟩ := RdS.el h_layers hx103
    obtain ⟨A110, c111, rfl, h112⟩ := hr105
    refine ops_val (op := (.indexAddr 23 (.tmp 16) (.tmp 18))) (d := some 21) (v := .pointer (some (ad107.add (m101 * 1)))) ⟨by kernel_rfl⟩ (run_indexA hA108 Try.underlying23 (z := 1) (by kernel_rfl) rfl rfl hm102 hl106) ?_
    refine ops_mem (d := some 22) (an := [.v (sl A110 x99 c111)]) (evs := [.load (ad107.add (m101 * 1)) (sl A110 x99 c111)]) (v := sl A110 x99 c111) ⟨by kernel_rfl⟩ (fun w_ hM hS => ⟨w_, ⟨hM.elcell 1 rfl hq109 0 rfl, rfl⟩, hM, trivial⟩) ?_
    refine oQ [oF 3, oF 4] [(8, sl A110 x99 c111), (7, vI i92), (0, sl A_l l c_l), (5, .map (some g1)), (6, vI i91), (16, sl A_layers layers c_layers), (17, vI (layers.length : Int)), (18, vI i92)] (by kernel_rfl) ?_
    refine ops_nil (fin_then (st_seq (st_seq (st_region [oF 0, oF 1, oF 2] (by rfl) ?_))))
    refine oQ [oF 0] [(23, sl A110 x99 c111), (8, sl A110 x99 c111), (7, vI i92), (0, sl A_l l c_l), (5, .map (some g1)), (6, vI i91), (16, sl A_layers layers c_layers), (17, vI (layers.length : Int)), (18, vI i92)] (by kernel_rfl) ?_
    obtain ⟨x113, hv114, hp⟩ := obind hp
    refine ops_callI (σ := Unit) (d := some 24) (f := 83) (args := #[sl A110 x99 c111]) (v := (fun _ => .bool x113)) (I := (fun _ => True)) (M' := (fun _ => Mem w0 (.obj g1 (.map es87 ck88) :: Fz F W :: cs))) ⟨by kernel_rfl⟩ (fun w_ hM hS => (slices_IsSorted_int_int_ok w0 w_ (.obj g1 (.map es87 ck88) :: cs) F W A110 c111 x99 (hM.pick 2 [1, 0] (by kernel_rfl) (by decide) rfl) h112 x113 hv114).mono (by rintro e w' ⟨-, rfl, h'⟩; have h' : Mem w0 (.obj g1 (.map es87 ck88) :: Fz F W :: cs) w' := (h'.pick 2 [1, 0] (by kernel_rfl) (by decide) rfl); exact ⟨(), trivial, rfl, h', trivial⟩)) ?_
    rintro _ -
    refine oQ [oF 2] [(25, .bool (!x113)), (8, sl A110 x99 c111), (7, vI i92), (0, sl A_l l c_l), (5, .map (some g1)), (6, vI i91), (16, sl A_layers layers c_layers), (17, vI (layers.length : Int)), (18, vI i92)] (by kernel_rfl) ?_
    refine ops_nil (fin_then ?_)
    refine st_if (b := !x113) rfl (fun hc115 => ?_) (fun hc115 => ?_)
    ·
     have hp := cnd_t hc115 hp
     refine st_seq (st_region [oF 0] (by rfl) ?_)
     refine oQ [oF 0] [(4, .bool false)] (by kernel_rfl) ?_
     refine ops_nil (fin_then (st_ret (fin_ret_then (fin_ret_block (fin_ret_then (fin_ret_then (fin_ret_block (fin_ret_then ?_))))))))
     obtain hq_ := Option.some.inj hp
     subst hq_
     obtain hq_ := hd7 _ rfl
     subst hq_
     have hp : some false = some t9001 := hk7
     have hq_ := Option.some.inj hp
     have hr0_ := hq_
     subst hr0_
     refine fin_ret [.tmp 4] [.bool false] rfl rfl (fun w_ hM => (.tmp rfl .nil)) (fun w_ hM => ?_)
     exact ⟨trivial, rfl, hM.pick 2 [1] (by kernel_rfl) (by decide) rfl⟩
    ·
     have hp := cnd_f hc115 hp
     refine st_skip (fin_then (st_seq (st_region [oF 0, oF 1, oF 2] (by rfl) ?_)))
     refine oQ [oF 0, oF 1, oF 2] [(28, vI 0), (27, vI (x99.length : Int)), (26, sl A110 x99 c111), (7, vI i92), (0, sl A_l l c_l), (5, .map (some g1)), (6, vI i91), (16, sl A_layers layers c_layers), (17, vI (layers.length : Int)), (18, vI i92)] (by kernel_rfl) ?_
     refine ops_nil (fin_then (st_block ?_))
     obtain ⟨r9, hl9, hk9⟩ := obind hp
     refine st_loopP (σ := (List (Int × Int)) × Int × Int) (ρ := (List (Int × Int)) × Int) (γ := (Array MapEntry) × Nat) hl9 (es87, ck88) (fun s_ g_ => match s_, g_ with | (l118, i120, i121), (es116, ck117) => [(0, sl A_l l c_l), (5, .map (some g1)), (6, vI i120), (7, vI i92), (16, sl A_layers layers c_layers), (17, vI (layers.length : Int)), (18, vI i92), (26, sl A110 x99 c111), (27, vI (x99.length : Int)), (28, vI i121)]) (fun s_ g_ => match s_, g_ with | (l118, i120, i121), (es116, ck117) => Mem w0 (.obj g1 (.map es116 ck117) :: Fz F W :: cs)) (fun s_ g_ => match s_, g_ with | (l118, i120, i121), (es116, ck117) => (MapOK (fun x_ : Int => Value.int .i64 x_) (Rep.int .i64) false F W l118 es116 ck117)) h90 (look_has ⟨rfl, rfl, rfl, rfl, rfl, rfl, rfl, rfl, rfl, rfl, trivial⟩) (fun w_ hM => hM) ?_
     rintro ⟨l118, i120, i121⟩ ⟨es116, ck117⟩ o9 h119 hs_ hd9
     have hp : (tourref3_Divided_l9 x99 i92) l118 i120 i121 = some o9 := hs_
     clear hs_
     unfold tourref3_Divided_l9 at hp
     refine st_seq (st_region [oF 0] (by rfl) ?_)
     refine oQ [oF 0] [(29, .bool (decide (i121 < (x99.length : Int)))), (0, sl A_l l c_l), (5, .map (some g1)), (6, vI i120), (7, vI i92), (16, sl A_layers layers c_layers), (17, vI (layers.length : Int)), (18, vI i92), (26, sl A110 x99 c111), (27, vI (x99.length : Int)), (28, vI i121)] (by kernel_rfl) ?_
     refine ops_nil (fin_then (st_seq ?_))
     refine st_if (b := decide (i121 < (x99.length : Int))) rfl (fun hc122 => ?_) (fun hc122 => ?_)
     ·
      have hp := cnd_t hc122 hp
      refine st_skip (fin_then (st_seq (st_block (st_seq (st_region [oF 0, oF 1, oF 2] (by rfl) ?_)))))
      obtain ⟨x123, hv124, hp⟩ := obind hp
      obtain ⟨m125, hm126, hx127⟩ := idx_some hv124
      have hl130 := (List.getElem?_eq_some_iff.1 hx127).1
      obtain ⟨ad131, vs128, hA132, hr129, hq133⟩ := RdS.el h112 hx127
      obtain rfl := hr129
      refine ops_val (op := (.indexAddr 26 (.tmp 26) (.tmp 28))) (d := some 30) (v := .pointer (some (ad131.add (m125 * 1)))) ⟨by kernel_rfl⟩ (run_indexA hA132 Try.underlying26 (z := 1) (by kernel_rfl) rfl rfl hm126 hl130) ?_
      refine ops_mem (d := some 31) (an := [.v (vI x123)]) (evs := [.load (ad131.add (m125 * 1)) (vI x123)]) (v := vI x123) ⟨by kernel_rfl⟩ (fun w_ hM hS => ⟨w_, ⟨hM.elcell 1 rfl hq133 0 rfl, rfl⟩, hM, trivial⟩) ?_
      refine oQ [oF 2] [(10, vI x123), (0, sl A_l l c_l), (5, .map (some g1)), (6, vI i120), (7, vI i92), (16, sl A_layers layers c_layers), (17, vI (layers.length : Int)), (18, vI i92), (26, sl A110 x99 c111), (27, vI (x99.length : Int)), (28, vI i121)] (by kernel_rfl) ?_
      refine ops_nil (fin_then (st_seq (st_region [oF 0, oF 1, oF 2, oF 3] (by rfl) ?_)))
      refine oQ [oF 0, oF 1, oF 2] [(34, vI i92), (33, vI x123), (32, .map (some g1)), (0, sl A_l l c_l), (5, .map (some g1)), (6, vI i120), (7, vI i92), (16, sl A_layers layers c_layers), (17, vI (layers.length : Int)), (18, vI i92), (26, sl A110 x99 c111), (27, vI (x99.length : Int)), (28, vI i121)] (by kernel_rfl) ?_
      obtain ⟨l134, hv135, hp⟩ := obind hp
      obtain ⟨es136, ck137, h138, hrun139⟩ := MapOK.update h119 (KeyLaw.int Try.underlying3) Try.underlying112 x123 (v := i92) (vs := [vI i92]) (rfl)
      rw [Option.some.inj hv135] at h138
      refine ops_unit (op := (.mapUpdate 112 (.tmp 32) (.tmp 33) (.tmp 34))) (σ := Unit) (M' := fun _ => Mem w0 (.obj g1 (.map es136 ck137) :: Fz F W :: cs)) ⟨by kernel_rfl⟩ (fun o_ w_ ho_ hM hS => have h' := hM.setObj 0 rfl _; ⟨(), _, run_updateV rfl rfl rfl (hrun139 g1 w_ (hM.mapAt 0 rfl)) o_ ho_, h', trivial⟩) (fun _ => ?_)
      refine ops_nil (fin_then (st_region [oF 0, oF 1, oF 2] (by rfl) ?_))
      refine oQ [oF 0, oF 1, oF 2] [(6, vI (IntKind.i64.wrap (i120 + 1))), (0, sl A_l l c_l), (5, .map (some g1)), (7, vI i92), (16, sl A_layers layers c_layers), (17, vI (layers.length : Int)), (18, vI i92), (26, sl A110 x99 c111), (27, vI (x99.length : Int)), (28, vI i121)] (by kernel_rfl) ?_
      refine ops_nil (fin_block (fin_then (st_region [oF 0, oF 1] (by rfl) ?_)))
      refine oQ [oF 0, oF 1] [(28, vI (IntKind.i64.wrap (i121 + 1))), (6, vI (IntKind.i64.wrap (i120 + 1))), (0, sl A_l l c_l), (5, .map (some g1)), (7, vI i92), (16, sl A_layers layers c_layers), (17, vI (layers.length : Int)), (18, vI i92), (26, sl A110 x99 c111), (27, vI (x99.length : Int))] (by kernel_rfl) ?_
      refine ops_nil ?_
      exact fin_again (l134, IntKind.i64.wrap (i120 + 1), IntKind.i64.wrap (i121 + 1)) (es136, ck137) (Option.some.inj hp).symm h138 (look_has ⟨rfl, rfl, rfl, rfl, rfl, rfl, rfl, rfl, rfl, rfl, trivial⟩) (fun w_ hM => hM)
     ·
      have hp := cnd_f hc122 hp
      refine st_exit (fin_exit_then (fin_exit_then (fin_exit (fin_block ?_))))
      obtain hq_ := Option.some.inj hp
      subst hq_
      obtain hq_ := hd9 _ rfl
      subst hq_
      have hp : (tourref3_Divided_j8 i92) l118 i120 = some o7 := hk9
      exact fin_join HJ8 (es116, ck117, l118, i120) ⟨hp, h119⟩ (look_has ⟨rfl, rfl, rfl, rfl, rfl, rfl, trivial⟩) (fun w_ hM => hM)
  ·
   have hp := cnd_f hc93 hp
   refine st_exit (fin_exit_then (fin_exit_then (fin_exit ?_)))
   obtain hq_ := Option.some.inj hp
   subst hq_
   obtain hq_ := hd7 _ rfl
   subst hq_
   have hp : (tourref3_Divided_j1 l) l89 i91 = some t9001 := hk7
   exact fin_join HJ1 (es87, ck88, l89, i91) ⟨hp, h90⟩ (look_has ⟨rfl, rfl, rfl, trivial⟩) (fun w_ hM => hM)
end Go.Proofs.Ytnnhijlgohlaeaa.P
