/- The Go functions come to what the plain functions tell. No condition. -/
import Derived.Test.YthcniadbdjoecaaProg
import Derived.Test.YthcniadbdjoecaaFnQ
import Derived.Test.YthcniadbdjoecaaEqQ
import Derived.Test.YthcniadbdjoecaaExMap
namespace Go.Proofs.Ythcniadbdjoecaa.Q
open Go Go.RowKit Go.Proofs.Ythcniadbdjoecaa.Sx
set_option linter.unusedVariables false
set_option maxHeartbeats 4000000
set_option maxRecDepth 100000
theorem tourref3_Fits_ok (w0 w : World) (cs : List Chunk) (F : Nat → Prop) (W : World) (it_0 : Int) (it_1 : Int) (A_it_2 : Option Addr) (c_it_2 : Nat) (it_2 : List api_Comp) (A_with : Option Addr) (c_with : Nat) (with_1 : List Int) (A_without : Option Addr) (c_without : Nat) (without : List Int) (hM0 : Mem w0 (Fz F W :: cs) w) (h_it_2 : RdS R_api_Comp F W A_it_2 c_it_2 it_2) (h_with : RdS (Rep.int .i64) F W A_with c_with with_1) (h_without : RdS (Rep.int .i64) F W A_without c_without without) (t9001 : Bool) (hp : tourref3_Fits it_0 it_1 it_2 with_1 without = some t9001) : Calls Try.prog 11 #[.agg #[vI it_0, vI it_1, sl A_it_2 it_2 c_it_2], sl A_with with_1 c_with, sl A_without without c_without] w fun e w' => (True) ∧ e = .returned (.bool t9001) ∧ Mem w0 (Fz F W :: cs) w' := by
 unfold tourref3_Fits at hp
 refine sx_calls Try.func11 rfl (n := 47) (by kernel_rfl) (l := [(0, .agg #[vI it_0, vI it_1, sl A_it_2 it_2 c_it_2]), (1, sl A_with with_1 c_with), (2, sl A_without without c_without)]) rfl (by rfl) hM0 ?_
 refine st_seq (st_region [oF 0, oF 1] (by rfl) ?_)
 refine ops_newB (d := some 3) [vI it_0, vI it_1, sl A_it_2 it_2 c_it_2] 38 (fun b1 => ⟨by kernel_rfl⟩) (fun w_ hM hS => trivial) (fun b1 => ?_)
 refine oQ [oF 1] [(3, vP b1 0), (1, sl A_with with_1 c_with), (2, sl A_without without c_without)] (by kernel_rfl) ?_
 refine ops_nil (fin_then (st_seq (st_region [oF 0, oF 1] (by rfl) ?_)))
 have h3 := (MapOK.nil : MapOK (fun x_ : Int => Value.int .i64 x_) Rep.bool false F W ([] : List (Int × Bool)) #[] 0)
 refine ops_new (d := some 14) (o := .map #[] 0) (v := fun g2 => .map (some g2)) (M' := fun g2 => Mem w0 (.obj g2 (.map #[] 0) :: .blk b1 [vI it_0, vI it_1, sl A_it_2 it_2 c_it_2] 38 :: Fz F W :: cs)) (fun g2 => ⟨by kernel_rfl⟩) (fun w_ hM hS => ⟨hM.objNew _, trivial⟩) (fun g2 => ?_)
 refine oQ [oF 1] [(7, .map (some g2)), (3, vP b1 0), (1, sl A_with with_1 c_with), (2, sl A_without without c_without)] (by kernel_rfl) ?_
 refine ops_nil (fin_then ?_)
 refine st_join1 (σ := (Array MapEntry) × Nat × (List (Int × Bool))) (L := fun x_ => match x_ with | (es4, ck5, l6) => [(1, sl A_with with_1 c_with), (2, sl A_without without c_without), (7, .map (some g2))]) (N := fun x_ => match x_ with | (es4, ck5, l6) => Mem w0 (.obj g2 (.map es4 ck5) :: Fz F W :: cs)) (I := fun x_ => match x_ with | (es4, ck5, l6) => ((tourref3_Fits_j1 with_1 without) l6 = some t9001) ∧ (MapOK (fun x_ : Int => Value.int .i64 x_) Rep.bool false F W l6 es4 ck5)) ?_ ?_
 ·
  rintro ⟨es4, ck5, l6⟩ ⟨hp, h7⟩
  unfold tourref3_Fits_j1 at hp
  refine st_join1 (σ := Unit) (L := fun _ => [(2, sl A_without without c_without), (7, .map (some g2))]) (N := fun _ => Mem w0 (.obj g2 (.map es4 ck5) :: Fz F W :: cs)) (I := fun _ => ((tourref3_Fits_j2 without l6) = some t9001)) ?_ ?_
  ·
   rintro _ hp
   unfold tourref3_Fits_j2 at hp
   refine st_join1 (σ := Unit) (L := fun _ => []) (N := fun _ => Mem w0 (Fz F W :: cs)) (I := fun _ => (tourref3_Fits_j3 = some t9001)) ?_ ?_
   ·
    rintro _ hp
    unfold tourref3_Fits_j3 at hp
    refine st_seq (st_region [oF 0] (by rfl) ?_)
    refine oQ [oF 0] [(6, .bool true)] (by kernel_rfl) ?_
    refine ops_nil (fin_then (st_ret ?_))
    have hq_ := Option.some.inj hp
    have hr0_ := hq_
    subst hr0_
    refine fin_ret [.tmp 6] [.bool true] rfl rfl (fun w_ hM => (.tmp rfl .nil)) (fun w_ hM => ?_)
    exact ⟨trivial, rfl, hM⟩
   ·
    intro HJ3
    refine st_seq (st_seq (st_region [oF 0, oF 1, oF 2] (by rfl) ?_))
    refine oQ [oF 0, oF 1, oF 2] [(39, vI 0), (38, vI (without.length : Int)), (37, sl A_without without c_without), (7, .map (some g2))] (by kernel_rfl) ?_
    refine ops_nil (fin_then (st_block ?_))
    obtain ⟨r4, hl4, hk4⟩ := obind hp
    refine st_loopP (σ := Int) (ρ := (Bool ⊕ Unit)) (γ := Unit) hl4 () (fun s_ g_ => match s_, g_ with | i8, _ => [(7, .map (some g2)), (37, sl A_without without c_without), (38, vI (without.length : Int)), (39, vI i8)]) (fun s_ g_ => match s_, g_ with | i8, _ => Mem w0 (.obj g2 (.map es4 ck5) :: Fz F W :: cs)) (fun s_ g_ => match s_, g_ with | i8, _ => True) trivial (look_has ⟨rfl, rfl, rfl, rfl, trivial⟩) (fun w_ hM => hM) ?_
    rintro i8 _ o4 - hs_ hd4
    have hp : (tourref3_Fits_l4 without l6) i8 = some o4 := hs_
    clear hs_
    unfold tourref3_Fits_l4 at hp
    refine st_seq (st_region [oF 0] (by rfl) ?_)
    refine oQ [oF 0] [(40, .bool (decide (i8 < (without.length : Int)))), (7, .map (some g2)), (37, sl A_without without c_without), (38, vI (without.length : Int)), (39, vI i8)] (by kernel_rfl) ?_
    refine ops_nil (fin_then (st_seq ?_))
    refine st_if (b := decide (i8 < (without.length : Int))) rfl (fun hc9 => ?_) (fun hc9 => ?_)
    ·
     have hp := cnd_t hc9 hp
     refine st_skip (fin_then (st_seq (st_block (st_seq (st_region [oF 0, oF 1, oF 2] (by rfl) ?_)))))
     obtain ⟨x10, hv11, hp⟩ := obind hp
     obtain ⟨m12, hm13, hx14⟩ := idx_some hv11
     have hl17 := (List.getElem?_eq_some_iff.1 hx14).1
     obtain ⟨ad18, vs15, hA19, hr16, hq20⟩ := RdS.el h_without hx14
     obtain rfl := hr16
     refine ops_val (op := (.indexAddr 23 (.tmp 37) (.tmp 39))) (d := some 41) (v := .pointer (some (ad18.add (m12 * 1)))) ⟨by kernel_rfl⟩ (run_indexA hA19 Try.underlying23 (z := 1) (by kernel_rfl) rfl rfl hm13 hl17) ?_
     refine ops_mem (d := some 42) (an := [.v (vI x10)]) (evs := [.load (ad18.add (m12 * 1)) (vI x10)]) (v := vI x10) ⟨by kernel_rfl⟩ (fun w_ hM hS => ⟨w_, ⟨hM.elcell 1 rfl hq20 0 rfl, rfl⟩, hM, trivial⟩) ?_
     refine oQ [oF 2] [(13, vI x10), (7, .map (some g2)), (37, sl A_without without c_without), (38, vI (without.length : Int)), (39, vI i8)] (by kernel_rfl) ?_
     refine ops_nil (fin_then (st_seq (st_region [oF 0, oF 1, oF 2] (by rfl) ?_)))
     refine oQ [oF 0, oF 1] [(44, vI x10), (43, .map (some g2)), (7, .map (some g2)), (37, sl A_without without c_without), (38, vI (without.length : Int)), (39, vI i8)] (by kernel_rfl) ?_
     obtain ⟨x21, hv22, hp⟩ := obind hp
     obtain ⟨vs23, hr24, hrun25⟩ := h7.get (KeyLaw.int Try.underlying3) Try.underlying114 x10 false (rfl) (fun u_ => Try.zeroValue4 u_)
     have hr24 : Rep.bool.rd F W x21 vs23 := by rw [← Option.some.inj hv22]; exact hr24
     obtain rfl := hr24
     refine ops_law (op := (.lookup 114 (.tmp 43) (.tmp 44) false)) (d := some 45) (σ := Unit) (v := fun _ => .bool x21) (M' := fun _ => Mem w0 (.obj g2 (.map es4 ck5) :: Fz F W :: cs)) ⟨by kernel_rfl⟩ (fun o_ w_ ho_ hM hS => ⟨(), w_, run_lookupV rfl rfl (hrun25 false g2 w_ (hM.mapAt 0 rfl)) o_ ho_, hM, trivial⟩) (fun _ => ?_)
     refine ops_nil (fin_then ?_)
     refine st_if (b := x21) rfl (fun hc26 => ?_) (fun hc26 => ?_)
     ·
      have hp := cnd_t hc26 hp
      refine st_seq (st_region [oF 0] (by rfl) ?_)
      refine oQ [oF 0] [(6, .bool false)] (by kernel_rfl) ?_
      refine ops_nil (fin_then (st_ret (fin_ret_block (fin_ret_then (fin_ret_then (fin_ret_block (fin_ret_then ?_)))))))
      obtain hq_ := Option.some.inj hp
      subst hq_
      obtain hq_ := hd4 _ rfl
      subst hq_
      have hp : some false = some t9001 := hk4
      have hq_ := Option.some.inj hp
      have hr0_ := hq_
      subst hr0_
      refine fin_ret [.tmp 6] [.bool false] rfl rfl (fun w_ hM => (.tmp rfl .nil)) (fun w_ hM => ?_)
      exact ⟨trivial, rfl, hM.pick 2 [1] (by kernel_rfl) (by decide) rfl⟩
     ·
      have hp := cnd_f hc26 hp
      refine st_skip (fin_block (fin_then (st_region [oF 0, oF 1] (by rfl) ?_)))
      refine oQ [oF 0, oF 1] [(39, vI (IntKind.i64.wrap (i8 + 1))), (7, .map (some g2)), (37, sl A_without without c_without), (38, vI (without.length : Int))] (by kernel_rfl) ?_
      refine ops_nil ?_
      exact fin_again (IntKind.i64.wrap (i8 + 1)) () (Option.some.inj hp).symm trivial (look_has ⟨rfl, rfl, rfl, rfl, trivial⟩) (fun w_ hM => hM)
    ·
     have hp := cnd_f hc9 hp
     refine st_exit (fin_exit_then (fin_exit_then (fin_exit ?_)))
     obtain hq_ := Option.some.inj hp
     subst hq_
     obtain hq_ := hd4 _ rfl
     subst hq_
     have hp : tourref3_Fits_j3 = some t9001 := hk4
     exact fin_join HJ3 () hp (look_has trivial) (fun w_ hM => hM.pick 2 [1] (by kernel_rfl) (by decide) rfl)
  ·
   intro HJ2
   refine st_seq (st_seq (st_region [oF 0, oF 1, oF 2] (by rfl) ?_))
   refine oQ [oF 0, oF 1, oF 2] [(28, vI 0), (27, vI (with_1.length : Int)), (26, sl A_with with_1 c_with), (2, sl A_without without c_without), (7, .map (some g2))] (by kernel_rfl) ?_
   refine ops_nil (fin_then (st_block ?_))
   obtain ⟨r5, hl5, hk5⟩ := obind hp
   refine st_loopP (σ := Int) (ρ := (Bool ⊕ Unit)) (γ := Unit) hl5 () (fun s_ g_ => match s_, g_ with | i27, _ => [(2, sl A_without without c_without), (7, .map (some g2)), (26, sl A_with with_1 c_with), (27, vI (with_1.length : Int)), (28, vI i27)]) (fun s_ g_ => match s_, g_ with | i27, _ => Mem w0 (.obj g2 (.map es4 ck5) :: Fz F W :: cs)) (fun s_ g_ => match s_, g_ with | i27, _ => True) trivial (look_has ⟨rfl, rfl, rfl, rfl, rfl, trivial⟩) (fun w_ hM => hM) ?_
   rintro i27 _ o5 - hs_ hd5
   have hp : (tourref3_Fits_l5 with_1 l6) i27 = some o5 := hs_
   clear hs_
   unfold tourref3_Fits_l5 at hp
   refine st_seq (st_region [oF 0] (by rfl) ?_)
   refine oQ [oF 0] [(29, .bool (decide (i27 < (with_1.length : Int)))), (2, sl A_without without c_without), (7, .map (some g2)), (26, sl A_with with_1 c_with), (27, vI (with_1.length : Int)), (28, vI i27)] (by kernel_rfl) ?_
   refine ops_nil (fin_then (st_seq ?_))
   refine st_if (b := decide (i27 < (with_1.length : Int))) rfl (fun hc28 => ?_) (fun hc28 => ?_)
   ·
    have hp := cnd_t hc28 hp
    refine st_skip (fin_then (st_seq (st_block (st_seq (st_region [oF 0, oF 1, oF 2] (by rfl) ?_)))))
    obtain ⟨x29, hv30, hp⟩ := obind hp
    obtain ⟨m31, hm32, hx33⟩ := idx_some hv30
    have hl36 := (List.getElem?_eq_some_iff.1 hx33).1
    obtain ⟨ad37, vs34, hA38, hr35, hq39⟩ := RdS.el h_with hx33
    obtain rfl := hr35
    refine ops_val (op := (.indexAddr 23 (.tmp 26) (.tmp 28))) (d := some 30) (v := .pointer (some (ad37.add (m31 * 1)))) ⟨by kernel_rfl⟩ (run_indexA hA38 Try.underlying23 (z := 1) (by kernel_rfl) rfl rfl hm32 hl36) ?_
    refine ops_mem (d := some 31) (an := [.v (vI x29)]) (evs := [.load (ad37.add (m31 * 1)) (vI x29)]) (v := vI x29) ⟨by kernel_rfl⟩ (fun w_ hM hS => ⟨w_, ⟨hM.elcell 1 rfl hq39 0 rfl, rfl⟩, hM, trivial⟩) ?_
    refine oQ [oF 2] [(11, vI x29), (2, sl A_without without c_without), (7, .map (some g2)), (26, sl A_with with_1 c_with), (27, vI (with_1.length : Int)), (28, vI i27)] (by kernel_rfl) ?_
    refine ops_nil (fin_then (st_seq (st_region [oF 0, oF 1, oF 2, oF 3] (by rfl) ?_)))
    refine oQ [oF 0, oF 1] [(33, vI x29), (32, .map (some g2)), (2, sl A_without without c_without), (7, .map (some g2)), (26, sl A_with with_1 c_with), (27, vI (with_1.length : Int)), (28, vI i27)] (by kernel_rfl) ?_
    obtain ⟨x40, hv41, hp⟩ := obind hp
    obtain ⟨vs42, hr43, hrun44⟩ := h7.get (KeyLaw.int Try.underlying3) Try.underlying114 x29 false (rfl) (fun u_ => Try.zeroValue4 u_)
    have hr43 : Rep.bool.rd F W x40 vs42 := by rw [← Option.some.inj hv41]; exact hr43
    obtain rfl := hr43
    refine ops_law (op := (.lookup 114 (.tmp 32) (.tmp 33) false)) (d := some 34) (σ := Unit) (v := fun _ => .bool x40) (M' := fun _ => Mem w0 (.obj g2 (.map es4 ck5) :: Fz F W :: cs)) ⟨by kernel_rfl⟩ (fun o_ w_ ho_ hM hS => ⟨(), w_, run_lookupV rfl rfl (hrun44 false g2 w_ (hM.mapAt 0 rfl)) o_ ho_, hM, trivial⟩) (fun _ => ?_)
    refine oQ [oF 3] [(35, .bool (!x40)), (2, sl A_without without c_without), (7, .map (some g2)), (26, sl A_with with_1 c_with), (27, vI (with_1.length : Int)), (28, vI i27)] (by kernel_rfl) ?_
    refine ops_nil (fin_then ?_)
    refine st_if (b := !x40) rfl (fun hc45 => ?_) (fun hc45 => ?_)
    ·
     have hp := cnd_t hc45 hp
     refine st_seq (st_region [oF 0] (by rfl) ?_)
     refine oQ [oF 0] [(6, .bool false)] (by kernel_rfl) ?_
     refine ops_nil (fin_then (st_ret (fin_ret_block (fin_ret_then (fin_ret_then (fin_ret_block (fin_ret_then ?_)))))))
     obtain hq_ := Option.some.inj hp
     subst hq_
     obtain hq_ := hd5 _ rfl
     subst hq_
     have hp : some false = some t9001 := hk5
     have hq_ := Option.some.inj hp
     have hr0_ := hq_
     subst hr0_
     refine fin_ret [.tmp 6] [.bool false] rfl rfl (fun w_ hM => (.tmp rfl .nil)) (fun w_ hM => ?_)
     exact ⟨trivial, rfl, hM.pick 2 [1] (by kernel_rfl) (by decide) rfl⟩
    ·
     have hp := cnd_f hc45 hp
     refine st_skip (fin_block (fin_then (st_region [oF 0, oF 1] (by rfl) ?_)))
     refine oQ [oF 0, oF 1] [(28, vI (IntKind.i64.wrap (i27 + 1))), (2, sl A_without without c_without), (7, .map (some g2)), (26, sl A_with with_1 c_with), (27, vI (with_1.length : Int))] (by kernel_rfl) ?_
     refine ops_nil ?_
     exact fin_again (IntKind.i64.wrap (i27 + 1)) () (Option.some.inj hp).symm trivial (look_has ⟨rfl, rfl, rfl, rfl, rfl, trivial⟩) (fun w_ hM => hM)
   ·
    have hp := cnd_f hc28 hp
    refine st_exit (fin_exit_then (fin_exit_then (fin_exit ?_)))
    obtain hq_ := Option.some.inj hp
    subst hq_
    obtain hq_ := hd5 _ rfl
    subst hq_
    have hp : (tourref3_Fits_j2 without l6) = some t9001 := hk5
    exact fin_join HJ2 () hp (look_has ⟨rfl, rfl, trivial⟩) (fun w_ hM => hM)
 ·
  intro HJ1
  refine st_seq (st_seq (st_region [oF 0, oF 1, oF 2, oF 3] (by rfl) ?_))
  refine oQ [oF 0] [(15, vP b1 2), (7, .map (some g2)), (1, sl A_with with_1 c_with), (2, sl A_without without c_without)] (by kernel_rfl) ?_
  refine ops_mem (d := some 16) (an := [.v (sl A_it_2 it_2 c_it_2)]) (evs := [ld b1 2 (sl A_it_2 it_2 c_it_2)]) (v := sl A_it_2 it_2 c_it_2) ⟨by kernel_rfl⟩ (fun w_ hM hS => ⟨w_, ⟨hM.cell 1 rfl rfl, rfl⟩, hM, trivial⟩) ?_
  refine oQ [oF 2, oF 3] [(18, vI 0), (17, vI (it_2.length : Int)), (16, sl A_it_2 it_2 c_it_2), (7, .map (some g2)), (1, sl A_with with_1 c_with), (2, sl A_without without c_without)] (by kernel_rfl) ?_
  refine ops_nil (fin_then (st_block ?_))
  obtain ⟨r6, hl6, hk6⟩ := obind hp
  refine st_loopP (σ := (List (Int × Bool)) × Int) (ρ := (List (Int × Bool))) (γ := (Array MapEntry) × Nat) hl6 (#[], 0) (fun s_ g_ => match s_, g_ with | (l48, i50), (es46, ck47) => [(1, sl A_with with_1 c_with), (2, sl A_without without c_without), (7, .map (some g2)), (16, sl A_it_2 it_2 c_it_2), (17, vI (it_2.length : Int)), (18, vI i50)]) (fun s_ g_ => match s_, g_ with | (l48, i50), (es46, ck47) => Mem w0 (.obj g2 (.map es46 ck47) :: Fz F W :: cs)) (fun s_ g_ => match s_, g_ with | (l48, i50), (es46, ck47) => (MapOK (fun x_ : Int => Value.int .i64 x_) Rep.bool false F W l48 es46 ck47)) h3 (look_has ⟨rfl, rfl, rfl, rfl, rfl, rfl, trivial⟩) (fun w_ hM => hM.pick 3 [0, 2] (by kernel_rfl) (by decide) rfl) ?_
  rintro ⟨l48, i50⟩ ⟨es46, ck47⟩ o6 h49 hs_ hd6
  have hp : (tourref3_Fits_l6 it_2) l48 i50 = some o6 := hs_
  clear hs_
  unfold tourref3_Fits_l6 at hp
  refine st_seq (st_region [oF 0] (by rfl) ?_)
  refine oQ [oF 0] [(19, .bool (decide (i50 < (it_2.length : Int)))), (1, sl A_with with_1 c_with), (2, sl A_without without c_without), (7, .map (some g2)), (16, sl A_it_2 it_2 c_it_2), (17, vI (it_2.length : Int)), (18, vI i50)] (by kernel_rfl) ?_
  refine ops_nil (fin_then (st_seq ?_))
  refine st_if (b := decide (i50 < (it_2.length : Int))) rfl (fun hc51 => ?_) (fun hc51 => ?_)
  ·
   have hp := cnd_t hc51 hp
   refine st_skip (fin_then (st_seq (st_block (st_seq (st_region [oF 0, oF 1, oF 2, oF 3] (by rfl) ?_)))))
   obtain ⟨x52, hv53, hp⟩ := obind hp
   obtain ⟨m54, hm55, hx56⟩ := idx_some hv53
   have hl59 := (List.getElem?_eq_some_iff.1 hx56).1
   obtain ⟨ad60, vs57, hA61, hr58, hq62⟩ := RdS.el h_it_2 hx56
   obtain ⟨A63, c64, rfl, h65⟩ := dec_api_Comp hr58
   refine ops_val (op := (.indexAddr 36 (.tmp 16) (.tmp 18))) (d := some 20) (v := .pointer (some (ad60.add (m54 * 2)))) ⟨by kernel_rfl⟩ (run_indexA hA61 Try.underlying36 (z := 2) (by kernel_rfl) rfl rfl hm55 hl59) ?_
   refine ops_mem (d := some 21) (an := [.v (vI x52.Kind), .v (sl A63 x52.Vals c64)]) (evs := [.load (ad60.add (m54 * 2)) (vI x52.Kind), .load ((ad60.add (m54 * 2)).add 1) (sl A63 x52.Vals c64)]) (v := .agg #[vI x52.Kind, sl A63 x52.Vals c64]) ⟨by kernel_rfl⟩ (fun w_ hM hS => ⟨w_, ⟨hM.elcell 1 rfl hq62 0 rfl, hM.elcell 1 rfl hq62 1 rfl, rfl⟩, hM, trivial⟩) ?_
   refine ops_newB (d := some 9) [vI 0, .slice none 0 0] 43 (fun b66 => ⟨by kernel_rfl⟩) (fun w_ hM hS => trivial) (fun b66 => ?_)
   refine ops_store (an := []) (evs := [sr b66 0 (vI x52.Kind), sr b66 1 (sl A63 x52.Vals c64)]) ⟨by kernel_rfl⟩ (fun w_ hM hS => let ⟨w', he, h'⟩ := hM.evs_stores [vI x52.Kind, sl A63 x52.Vals c64] 0 rfl 0 (Nat.le_of_ble_eq_true rfl); ⟨w', he, h', trivial⟩) ?_
   refine ops_nil (fin_then (st_region [oF 0, oF 1, oF 2, oF 3] (by rfl) ?_))
   refine oQ [oF 0, oF 1] [(23, vP b66 0), (22, .map (some g2)), (1, sl A_with with_1 c_with), (2, sl A_without without c_without), (7, .map (some g2)), (16, sl A_it_2 it_2 c_it_2), (17, vI (it_2.length : Int)), (18, vI i50)] (by kernel_rfl) ?_
   refine ops_mem (d := some 24) (an := [.v (vI x52.Kind)]) (evs := [ld b66 0 (vI x52.Kind)]) (v := vI x52.Kind) ⟨by kernel_rfl⟩ (fun w_ hM hS => ⟨w_, ⟨hM.cell 0 rfl rfl, rfl⟩, hM, trivial⟩) ?_
   obtain ⟨l67, hv68, hp⟩ := obind hp
   obtain ⟨es69, ck70, h71, hrun72⟩ := MapOK.update h49 (KeyLaw.int Try.underlying3) Try.underlying114 x52.Kind (v := true) (vs := [.bool true]) (rfl)
   rw [Option.some.inj hv68] at h71
   refine ops_unit (op := (.mapUpdate 114 (.tmp 22) (.tmp 24) (.const (Go.Value.bool true)))) (σ := Unit) (M' := fun _ => Mem w0 (.blk b66 [vI x52.Kind, sl A63 x52.Vals c64] 43 :: .obj g2 (.map es69 ck70) :: Fz F W :: cs)) ⟨by kernel_rfl⟩ (fun o_ w_ ho_ hM hS => have h' := hM.setObj 1 rfl _; ⟨(), _, run_updateV rfl rfl rfl (hrun72 g2 w_ (hM.mapAt 1 rfl)) o_ ho_, h', trivial⟩) (fun _ => ?_)
   refine ops_nil (fin_block (fin_then (st_region [oF 0, oF 1] (by rfl) ?_)))
   refine oQ [oF 0, oF 1] [(18, vI (IntKind.i64.wrap (i50 + 1))), (1, sl A_with with_1 c_with), (2, sl A_without without c_without), (7, .map (some g2)), (16, sl A_it_2 it_2 c_it_2), (17, vI (it_2.length : Int))] (by kernel_rfl) ?_
   refine ops_nil ?_
   exact fin_again (l67, IntKind.i64.wrap (i50 + 1)) (es69, ck70) (Option.some.inj hp).symm h71 (look_has ⟨rfl, rfl, rfl, rfl, rfl, rfl, trivial⟩) (fun w_ hM => hM.pick 3 [1, 2] (by kernel_rfl) (by decide) rfl)
  ·
   have hp := cnd_f hc51 hp
   refine st_exit (fin_exit_then (fin_exit_then (fin_exit ?_)))
   obtain hq_ := Option.some.inj hp
   subst hq_
   obtain hq_ := hd6 _ rfl
   subst hq_
   have hp : (tourref3_Fits_j1 with_1 without) l48 = some t9001 := hk6
   exact fin_join HJ1 (es46, ck47, l48) ⟨hp, h49⟩ (look_has ⟨rfl, rfl, rfl, trivial⟩) (fun w_ hM => hM)
def query_Fields__t0 : List Row := [⟨0, 17592186044416, 64⟩, ⟨0, 35184372088832, 512⟩, ⟨2, 70368744177664, 35184372088832⟩, ⟨4, 140737488355328, 70368744177664⟩, ⟨9, 281474976710656, 158329674399744⟩, ⟨0, 562949953421312, 128⟩, ⟨0, 1125899906842624, 2048⟩, ⟨64, 2251799813685248, 1125899906842624⟩, ⟨0, 4503599627370496, 8⟩, ⟨256, 9007199254740992, 4503599627370496⟩, ⟨640, 18014398509481984, 11258999068426240⟩, ⟨1024, 36028797018963968, 18014398509481984⟩, ⟨2048, 72057594037927936, 36028797018963968⟩, ⟨4144, 144115188075855872, 72620543991349248⟩, ⟨8223, 64, 281474976710656⟩, ⟨32767, 128, 144115188075855872⟩]
theorem query_Fields_ok (w0 w : World) (cs : List Chunk) (F : Nat → Prop) (W : World) (A_w_0 : Option Addr) (c_w_0 : Nat) (w_0 : List api_Kind) (A_w_1 : Option Addr) (c_w_1 : Nat) (w_1 : List Int) (A_w_2 : Option Addr) (c_w_2 : Nat) (w_2 : List api_Item) (r_0 : Int) (r_1 : Int) (hM0 : Mem w0 (Fz F W :: cs) w) (h_w_0 : RdS R_api_Kind F W A_w_0 c_w_0 w_0) (h_w_1 : RdS (Rep.int .i64) F W A_w_1 c_w_1 w_1) (h_w_2 : RdS R_api_Item F W A_w_2 c_w_2 w_2) (l9003 : List api_Ent) (l9008 : List Int) (hp : query_Fields w_0 w_1 w_2 r_0 r_1 = some (l9003, l9008)) : Calls Try.prog 13 #[.agg #[sl A_w_0 w_0 c_w_0, sl A_w_1 w_1 c_w_1, sl A_w_2 w_2 c_w_2], .agg #[vI r_0, vI r_1]] w fun e w' => ∃ (A9001 : Option Addr), ∃ (c9002 : Nat), ∃ (y9004 : List Value), ∃ (A9006 : Option Addr), ∃ (c9007 : Nat), ∃ (y9009 : List Value), ((RepL R_api_Ent F W l9003 y9004) ∧ (RepL (Rep.int .i64) F W l9008 y9009)) ∧ e = .returned (.tuple #[sl A9001 l9003 c9002, sl A9006 l9008 c9007]) ∧ Mem w0 (ow A9001 l9003 c9002 35 2 y9004 :: ow A9006 l9008 c9007 3 1 y9009 :: Fz F W :: cs) w' := by
 unfold query_Fields at hp
 refine sx_calls Try.func13 rfl (n := 62) (by kernel_rfl) (l := [(0, .agg #[sl A_w_0 w_0 c_w_0, sl A_w_1 w_1 c_w_1, sl A_w_2 w_2 c_w_2]), (1, .agg #[vI r_0, vI r_1])]) rfl (by rfl) hM0 ?_
 refine st_seq (st_region [oF 0, oF 1, oF 2, oF 3] (by rfl) ?_)
 refine ops_newB (d := some 2) [sl A_w_0 w_0 c_w_0, sl A_w_1 w_1 c_w_1, sl A_w_2 w_2 c_w_2] 26 (fun b1 => ⟨by kernel_rfl⟩) (fun w_ hM hS => trivial) (fun b1 => ?_)
 refine ops_newB (d := some 3) [vI r_0, vI r_1] 28 (fun b2 => ⟨by kernel_rfl⟩) (fun w_ hM hS => trivial) (fun b2 => ?_)
 refine oQ [oF 2, oF 3] [(3, vP b2 0), (2, vP b1 0)] (by kernel_rfl) ?_
 refine ops_nil (fin_then (st_seq (st_region [oF 0] (by rfl) ?_)))
 refine oQ [oF 0] [(6, .slice none 0 0), (3, vP b2 0), (2, vP b1 0)] (by kernel_rfl) ?_
 refine ops_nil (fin_then (st_seq (st_region [oF 0] (by rfl) ?_)))
 refine oQ [oF 0] [(7, .slice none 0 0), (6, .slice none 0 0), (3, vP b2 0), (2, vP b1 0)] (by kernel_rfl) ?_
 refine ops_nil (fin_then ?_)
 refine st_join1 (σ := (Option Addr) × Nat × (List api_Ent) × (List Value) × (Option Addr) × Nat × (List Int) × (List Value)) (L := fun x_ => match x_ with | (A3, c4, l5, y6, A8, c9, l10, y11) => [(6, sl A3 l5 c4), (7, sl A8 l10 c9)]) (N := fun x_ => match x_ with | (A3, c4, l5, y6, A8, c9, l10, y11) => Mem w0 (ow A3 l5 c4 35 2 y6 :: ow A8 l10 c9 3 1 y11 :: Fz F W :: cs)) (I := fun x_ => match x_ with | (A3, c4, l5, y6, A8, c9, l10, y11) => (query_Fields_j1 l5 l10 = some (l9003, l9008)) ∧ (RepL R_api_Ent F W l5 y6) ∧ (RepL (Rep.int .i64) F W l10 y11)) ?_ ?_
 ·
  rintro ⟨A3, c4, l5, y6, A8, c9, l10, y11⟩ ⟨hp, h7, h12⟩
  unfold query_Fields_j1 at hp
  refine st_seq (st_region [oF 0, oF 1, oF 2, oF 3] (by rfl) ?_)
  refine oQ [oF 0, oF 1, oF 2, oF 3] [(5, sl A8 l10 c9), (4, sl A3 l5 c4)] (by kernel_rfl) ?_
  refine ops_nil (fin_then (st_ret ?_))
  have hq_ := Option.some.inj hp
  obtain ⟨hr0_, hq_⟩ := Prod.mk.inj hq_
  have hr1_ := hq_
  subst hr0_
  subst hr1_
  refine fin_ret [.tmp 4, .tmp 5] [sl A3 l5 c4, sl A8 l10 c9] rfl rfl (fun w_ hM => (.tmp rfl (.tmp rfl .nil))) (fun w_ hM => ?_)
  exact ⟨A3, c4, y6, A8, c9, y11, ⟨h7, h12⟩, rfl, hM⟩
 ·
  intro HJ1
  refine st_seq (st_seq (st_region [oF 0, oF 1, oF 2, oF 3] (by rfl) ?_))
  refine oQ [oF 0] [(12, vP b1 2), (7, .slice none 0 0), (6, .slice none 0 0), (3, vP b2 0)] (by kernel_rfl) ?_
  refine ops_mem (d := some 13) (an := [.v (sl A_w_2 w_2 c_w_2)]) (evs := [ld b1 2 (sl A_w_2 w_2 c_w_2)]) (v := sl A_w_2 w_2 c_w_2) ⟨by kernel_rfl⟩ (fun w_ hM hS => ⟨w_, ⟨hM.cell 1 rfl rfl, rfl⟩, hM, trivial⟩) ?_
  refine oQ [oF 2, oF 3] [(15, vI 0), (14, vI (w_2.length : Int)), (13, sl A_w_2 w_2 c_w_2), (7, .slice none 0 0), (6, .slice none 0 0), (3, vP b2 0)] (by kernel_rfl) ?_
  refine ops_nil (fin_then (st_block ?_))
  refine st_conv (l' := [(15, vI 0), (14, vI (w_2.length : Int)), (13, sl A_w_2 w_2 c_w_2), (7, .slice none 0 0), (6, .slice none 0 0), (3, vP b2 0)]) (M' := Mem w0 (ow none ([] : List api_Ent) 0 35 2 [] :: .blk b2 [vI r_0, vI r_1] 28 :: .blk b1 [sl A_w_0 w_0 c_w_0, sl A_w_1 w_1 c_w_1, sl A_w_2 w_2 c_w_2] 26 :: Fz F W :: cs)) rfl (fun w_ h => h.onil none 35 2) ?_
  refine st_conv (l' := [(15, vI 0), (14, vI (w_2.length : Int)), (13, sl A_w_2 w_2 c_w_2), (7, .slice none 0 0), (6, .slice none 0 0), (3, vP b2 0)]) (M' := Mem w0 (ow none ([] : List Int) 0 3 1 [] :: ow none ([] : List api_Ent) 0 35 2 [] :: .blk b2 [vI r_0, vI r_1] 28 :: .blk b1 [sl A_w_0 w_0 c_w_0, sl A_w_1 w_1 c_w_1, sl A_w_2 w_2 c_w_2] 26 :: Fz F W :: cs)) rfl (fun w_ h => h.onil none 3 1) ?_
  obtain ⟨r2, hl2, hk2⟩ := obind hp
  refine st_loopP (σ := (List api_Ent) × (List Int) × Int) (ρ := (List api_Ent) × (List Int)) (γ := (Option Addr) × Nat × (List Value) × (Option Addr) × Nat × (List Value)) hl2 (none, 0, [], none, 0, []) (fun s_ g_ => match s_, g_ with | (l15, l20, i23), (A13, c14, y16, A18, c19, y21) => [(3, vP b2 0), (6, sl A13 l15 c14), (7, sl A18 l20 c19), (13, sl A_w_2 w_2 c_w_2), (14, vI (w_2.length : Int)), (15, vI i23)]) (fun s_ g_ => match s_, g_ with | (l15, l20, i23), (A13, c14, y16, A18, c19, y21) => Mem w0 (.blk b2 [vI r_0, vI r_1] 28 :: ow A13 l15 c14 35 2 y16 :: ow A18 l20 c19 3 1 y21 :: Fz F W :: cs)) (fun s_ g_ => match s_, g_ with | (l15, l20, i23), (A13, c14, y16, A18, c19, y21) => (RepL R_api_Ent F W l15 y16) ∧ (RepL (Rep.int .i64) F W l20 y21)) ⟨(RepL.nil (R := R_api_Ent)), (RepL.nil (R := (Rep.int .i64)))⟩ (look_has ⟨rfl, rfl, rfl, rfl, rfl, rfl, trivial⟩) (fun w_ hM => hM.pick 5 [2, 1, 0, 4] (by kernel_rfl) (by decide) rfl) ?_
  rintro ⟨l15, l20, i23⟩ ⟨A13, c14, y16, A18, c19, y21⟩ o2 ⟨h17, h22⟩ hs_ hd2
  have hp : (query_Fields_l2 w_2 r_0 r_1) l15 l20 i23 = some o2 := hs_
  clear hs_
  unfold query_Fields_l2 at hp
  refine st_seq (st_region [oF 0] (by rfl) ?_)
  refine oQ [oF 0] [(16, .bool (decide (i23 < (w_2.length : Int)))), (3, vP b2 0), (6, sl A13 l15 c14), (7, sl A18 l20 c19), (13, sl A_w_2 w_2 c_w_2), (14, vI (w_2.length : Int)), (15, vI i23)] (by kernel_rfl) ?_
  refine ops_nil (fin_then (st_seq ?_))
  refine st_if (b := decide (i23 < (w_2.length : Int))) rfl (fun hc24 => ?_) (fun hc24 => ?_)
  ·
   have hp := cnd_t hc24 hp
   refine st_skip (fin_then ?_)
   refine st_join1 (σ := (Option Addr) × Nat × (List api_Ent) × (List Value) × (Option Addr) × Nat × (List Int) × (List Value)) (L := fun x_ => match x_ with | (A25, c26, l27, y28, A30, c31, l32, y33) => [(3, vP b2 0), (6, sl A25 l27 c26), (7, sl A30 l32 c31), (13, sl A_w_2 w_2 c_w_2), (14, vI (w_2.length : Int)), (15, vI i23)]) (N := fun x_ => match x_ with | (A25, c26, l27, y28, A30, c31, l32, y33) => Mem w0 (.blk b2 [vI r_0, vI r_1] 28 :: ow A25 l27 c26 35 2 y28 :: ow A30 l32 c31 3 1 y33 :: Fz F W :: cs)) (I := fun x_ => match x_ with | (A25, c26, l27, y28, A30, c31, l32, y33) => ((query_Fields_j3 i23) l27 l32 = some o2) ∧ (RepL R_api_Ent F W l27 y28) ∧ (RepL (Rep.int .i64) F W l32 y33)) ?_ ?_
   ·
    rintro ⟨A25, c26, l27, y28, A30, c31, l32, y33⟩ ⟨hp, h29, h34⟩
    unfold query_Fields_j3 at hp
    refine st_region [oF 0, oF 1] (by rfl) ?_
    refine oQ [oF 0, oF 1] [(15, vI (IntKind.i64.wrap (i23 + 1))), (3, vP b2 0), (6, sl A25 l27 c26), (7, sl A30 l32 c31), (13, sl A_w_2 w_2 c_w_2), (14, vI (w_2.length : Int))] (by kernel_rfl) ?_
    refine ops_nil ?_
    exact fin_again (l27, l32, IntKind.i64.wrap (i23 + 1)) (A25, c26, y28, A30, c31, y33) (Option.some.inj hp).symm ⟨h29, h34⟩ (look_has ⟨rfl, rfl, rfl, rfl, rfl, rfl, trivial⟩) (fun w_ hM => hM)
   ·
    intro HJ3
    refine st_seq (st_block (st_seq (st_region [oF 0, oF 1, oF 2, oF 3] (by rfl) ?_)))
    obtain ⟨x35, hv36, hp⟩ := obind hp
    obtain ⟨m37, hm38, hx39⟩ := idx_some hv36
    have hl42 := (List.getElem?_eq_some_iff.1 hx39).1
    obtain ⟨ad43, vs40, hA44, hr41, hq45⟩ := RdS.el h_w_2 hx39
    obtain ⟨A46, c47, rfl, h48⟩ := dec_api_Item hr41
    refine ops_val (op := (.indexAddr 24 (.tmp 13) (.tmp 15))) (d := some 17) (v := .pointer (some (ad43.add (m37 * 3)))) ⟨by kernel_rfl⟩ (run_indexA hA44 Try.underlying24 (z := 3) (by kernel_rfl) rfl rfl hm38 hl42) ?_
    refine ops_mem (d := some 18) (an := [.v (vI x35.Ent.N), .v (vI x35.Ent.Gen), .v (sl A46 x35.Comps c47)]) (evs := [.load (ad43.add (m37 * 3)) (vI x35.Ent.N), .load ((ad43.add (m37 * 3)).add 1) (vI x35.Ent.Gen), .load ((ad43.add (m37 * 3)).add 2) (sl A46 x35.Comps c47)]) (v := .agg #[vI x35.Ent.N, vI x35.Ent.Gen, sl A46 x35.Comps c47]) ⟨by kernel_rfl⟩ (fun w_ hM hS => ⟨w_, ⟨hM.elcell 3 rfl hq45 0 rfl, hM.elcell 3 rfl hq45 1 rfl, hM.elcell 3 rfl hq45 2 rfl, rfl⟩, hM, trivial⟩) ?_
    refine ops_newB (d := some 9) [vI 0, vI 0, .slice none 0 0] 38 (fun b49 => ⟨by kernel_rfl⟩) (fun w_ hM hS => trivial) (fun b49 => ?_)
    refine ops_store (an := []) (evs := [sr b49 0 (vI x35.Ent.N), sr b49 1 (vI x35.Ent.Gen), sr b49 2 (sl A46 x35.Comps c47)]) ⟨by kernel_rfl⟩ (fun w_ hM hS => let ⟨w', he, h'⟩ := hM.evs_stores [vI x35.Ent.N, vI x35.Ent.Gen, sl A46 x35.Comps c47] 0 rfl 0 (Nat.le_of_ble_eq_true rfl); ⟨w', he, h', trivial⟩) ?_
    refine ops_nil (fin_then (st_seq (st_region [oF 0, oF 1, oF 2, oF 3] (by rfl) ?_)))
    refine oQ [oF 0] [(19, vP b49 2), (9, vP b49 0), (3, vP b2 0), (6, sl A13 l15 c14), (7, sl A18 l20 c19), (13, sl A_w_2 w_2 c_w_2), (14, vI (w_2.length : Int)), (15, vI i23)] (by kernel_rfl) ?_
    refine ops_mem (d := some 20) (an := [.v (sl A46 x35.Comps c47)]) (evs := [ld b49 2 (sl A46 x35.Comps c47)]) (v := sl A46 x35.Comps c47) ⟨by kernel_rfl⟩ (fun w_ hM hS => ⟨w_, ⟨hM.cell 0 rfl rfl, rfl⟩, hM, trivial⟩) ?_
    refine oQ [oF 2, oF 3] [(22, vI 0), (21, vI (x35.Comps.length : Int)), (20, sl A46 x35.Comps c47), (9, vP b49 0), (3, vP b2 0), (6, sl A13 l15 c14), (7, sl A18 l20 c19), (13, sl A_w_2 w_2 c_w_2), (14, vI (w_2.length : Int)), (15, vI i23)] (by kernel_rfl) ?_
    refine ops_nil (fin_then (st_block ?_))
    obtain ⟨r4, hl4, hk4⟩ := obind hp
    refine st_loopP (σ := (List api_Ent) × (List Int) × Int) (ρ := (List api_Ent) × (List Int)) (γ := (Option Addr) × Nat × (List Value) × (Option Addr) × Nat × (List Value)) hl4 (A13, c14, y16, A18, c19, y21) (fun s_ g_ => match s_, g_ with | (l52, l57, i60), (A50, c51, y53, A55, c56, y58) => [(3, vP b2 0), (6, sl A50 l52 c51), (7, sl A55 l57 c56), (9, vP b49 0), (13, sl A_w_2 w_2 c_w_2), (14, vI (w_2.length : Int)), (15, vI i23), (20, sl A46 x35.Comps c47), (21, vI (x35.Comps.length : Int)), (22, vI i60)]) (fun s_ g_ => match s_, g_ with | (l52, l57, i60), (A50, c51, y53, A55, c56, y58) => Mem w0 (.blk b2 [vI r_0, vI r_1] 28 :: ow A50 l52 c51 35 2 y53 :: ow A55 l57 c56 3 1 y58 :: .blk b49 [vI x35.Ent.N, vI x35.Ent.Gen, sl A46 x35.Comps c47] 38 :: Fz F W :: cs)) (fun s_ g_ => match s_, g_ with | (l52, l57, i60), (A50, c51, y53, A55, c56, y58) => (RepL R_api_Ent F W l52 y53) ∧ (RepL (Rep.int .i64) F W l57 y58)) ⟨h17, h22⟩ (look_has ⟨rfl, rfl, rfl, rfl, rfl, rfl, rfl, rfl, rfl, rfl, trivial⟩) (fun w_ hM => hM.pick 5 [1, 2, 3, 0, 4] (by kernel_rfl) (by decide) rfl) ?_
    rintro ⟨l52, l57, i60⟩ ⟨A50, c51, y53, A55, c56, y58⟩ o4 ⟨h54, h59⟩ hs_ hd4
    have hp : (query_Fields_l4 x35 r_0 r_1) l52 l57 i60 = some o4 := hs_
    clear hs_
    unfold query_Fields_l4 at hp
    refine st_seq (st_region [oF 0] (by rfl) ?_)
    refine oQ [oF 0] [(23, .bool (decide (i60 < (x35.Comps.length : Int)))), (3, vP b2 0), (6, sl A50 l52 c51), (7, sl A55 l57 c56), (9, vP b49 0), (13, sl A_w_2 w_2 c_w_2), (14, vI (w_2.length : Int)), (15, vI i23), (20, sl A46 x35.Comps c47), (21, vI (x35.Comps.length : Int)), (22, vI i60)] (by kernel_rfl) ?_
    refine ops_nil (fin_then (st_seq ?_))
    refine st_if (b := decide (i60 < (x35.Comps.length : Int))) rfl (fun hc61 => ?_) (fun hc61 => ?_)
    ·
     have hp := cnd_t hc61 hp
     refine st_skip (fin_then ?_)
     refine st_join1 (σ := (Option Addr) × Nat × (List api_Ent) × (List Value) × (Option Addr) × Nat × (List Int) × (List Value)) (L := fun x_ => match x_ with | (A62, c63, l64, y65, A67, c68, l69, y70) => [(3, vP b2 0), (6, sl A62 l64 c63), (7, sl A67 l69 c68), (9, vP b49 0), (13, sl A_w_2 w_2 c_w_2), (14, vI (w_2.length : Int)), (15, vI i23), (20, sl A46 x35.Comps c47), (21, vI (x35.Comps.length : Int)), (22, vI i60)]) (N := fun x_ => match x_ with | (A62, c63, l64, y65, A67, c68, l69, y70) => Mem w0 (.blk b2 [vI r_0, vI r_1] 28 :: ow A62 l64 c63 35 2 y65 :: ow A67 l69 c68 3 1 y70 :: .blk b49 [vI x35.Ent.N, vI x35.Ent.Gen, sl A46 x35.Comps c47] 38 :: Fz F W :: cs)) (I := fun x_ => match x_ with | (A62, c63, l64, y65, A67, c68, l69, y70) => ((query_Fields_j5 i60) l64 l69 = some o4) ∧ (RepL R_api_Ent F W l64 y65) ∧ (RepL (Rep.int .i64) F W l69 y70)) ?_ ?_
     ·
      rintro ⟨A62, c63, l64, y65, A67, c68, l69, y70⟩ ⟨hp, h66, h71⟩
      unfold query_Fields_j5 at hp
      refine st_region [oF 0, oF 1] (by rfl) ?_
      refine oQ [oF 0, oF 1] [(22, vI (IntKind.i64.wrap (i60 + 1))), (3, vP b2 0), (6, sl A62 l64 c63), (7, sl A67 l69 c68), (9, vP b49 0), (13, sl A_w_2 w_2 c_w_2), (14, vI (w_2.length : Int)), (15, vI i23), (20, sl A46 x35.Comps c47), (21, vI (x35.Comps.length : Int))] (by kernel_rfl) ?_
      refine ops_nil ?_
      exact fin_again (l64, l69, IntKind.i64.wrap (i60 + 1)) (A62, c63, y65, A67, c68, y70) (Option.some.inj hp).symm ⟨h66, h71⟩ (look_has ⟨rfl, rfl, rfl, rfl, rfl, rfl, rfl, rfl, rfl, rfl, trivial⟩) (fun w_ hM => hM)
     ·
      intro HJ5
      refine st_seq (st_block (st_seq (st_region [oF 0, oF 1, oF 2, oF 3] (by rfl) ?_)))
      obtain ⟨x72, hv73, hp⟩ := obind hp
      obtain ⟨m74, hm75, hx76⟩ := idx_some hv73
      have hl79 := (List.getElem?_eq_some_iff.1 hx76).1
      obtain ⟨ad80, vs77, hA81, hr78, hq82⟩ := RdS.el h48 hx76
      obtain ⟨A83, c84, rfl, h85⟩ := dec_api_Comp hr78
      refine ops_val (op := (.indexAddr 36 (.tmp 20) (.tmp 22))) (d := some 24) (v := .pointer (some (ad80.add (m74 * 2)))) ⟨by kernel_rfl⟩ (run_indexA hA81 Try.underlying36 (z := 2) (by kernel_rfl) rfl rfl hm75 hl79) ?_
      refine ops_mem (d := some 25) (an := [.v (vI x72.Kind), .v (sl A83 x72.Vals c84)]) (evs := [.load (ad80.add (m74 * 2)) (vI x72.Kind), .load ((ad80.add (m74 * 2)).add 1) (sl A83 x72.Vals c84)]) (v := .agg #[vI x72.Kind, sl A83 x72.Vals c84]) ⟨by kernel_rfl⟩ (fun w_ hM hS => ⟨w_, ⟨hM.elcell 4 rfl hq82 0 rfl, hM.elcell 4 rfl hq82 1 rfl, rfl⟩, hM, trivial⟩) ?_
      refine ops_newB (d := some 11) [vI 0, .slice none 0 0] 43 (fun b86 => ⟨by kernel_rfl⟩) (fun w_ hM hS => trivial) (fun b86 => ?_)
      refine ops_store (an := []) (evs := [sr b86 0 (vI x72.Kind), sr b86 1 (sl A83 x72.Vals c84)]) ⟨by kernel_rfl⟩ (fun w_ hM hS => let ⟨w', he, h'⟩ := hM.evs_stores [vI x72.Kind, sl A83 x72.Vals c84] 0 rfl 0 (Nat.le_of_ble_eq_true rfl); ⟨w', he, h', trivial⟩) ?_
      refine ops_nil (fin_then (st_seq (st_region [oF 0, oF 1, oF 2, oF 3, oF 4, oF 5, oF 6, oF 7, oF 8, oF 9, oF 10, oF 11, oF 12, oF 13, oF 14, oF 15, oF 16, oF 17] (by rfl) ?_)))
      refine oQ [oF 0] [(26, vP b86 0), (11, vP b86 0), (3, vP b2 0), (6, sl A50 l52 c51), (7, sl A55 l57 c56), (9, vP b49 0), (13, sl A_w_2 w_2 c_w_2), (14, vI (w_2.length : Int)), (15, vI i23), (20, sl A46 x35.Comps c47), (21, vI (x35.Comps.length : Int)), (22, vI i60)] (by kernel_rfl) ?_
      refine ops_mem (d := some 27) (an := [.v (vI x72.Kind)]) (evs := [ld b86 0 (vI x72.Kind)]) (v := vI x72.Kind) ⟨by kernel_rfl⟩ (fun w_ hM hS => ⟨w_, ⟨hM.cell 0 rfl rfl, rfl⟩, hM, trivial⟩) ?_
      refine oQ [oF 2] [(28, vP b2 0), (27, vI x72.Kind), (11, vP b86 0), (3, vP b2 0), (6, sl A50 l52 c51), (7, sl A55 l57 c56), (9, vP b49 0), (13, sl A_w_2 w_2 c_w_2), (14, vI (w_2.length : Int)), (15, vI i23), (20, sl A46 x35.Comps c47), (21, vI (x35.Comps.length : Int)), (22, vI i60)] (by kernel_rfl) ?_
      refine ops_mem (d := some 29) (an := [.v (vI r_0)]) (evs := [ld b2 0 (vI r_0)]) (v := vI r_0) ⟨by kernel_rfl⟩ (fun w_ hM hS => ⟨w_, ⟨hM.cell 1 rfl rfl, rfl⟩, hM, trivial⟩) ?_
      refine oQ [oF 4, oF 5] [(31, .bool (x72.Kind == r_0)), (11, vP b86 0), (3, vP b2 0), (6, sl A50 l52 c51), (7, sl A55 l57 c56), (9, vP b49 0), (13, sl A_w_2 w_2 c_w_2), (14, vI (w_2.length : Int)), (15, vI i23), (20, sl A46 x35.Comps c47), (21, vI (x35.Comps.length : Int)), (22, vI i60)] (by kernel_rfl) ?_
      refine ops_bool (t := (x72.Kind == r_0)) (l1 := [(31, .bool true), (11, vP b86 0), (3, vP b2 0), (6, sl A50 l52 c51), (7, sl A55 l57 c56), (9, vP b49 0), (13, sl A_w_2 w_2 c_w_2), (14, vI (w_2.length : Int)), (15, vI i23), (20, sl A46 x35.Comps c47), (21, vI (x35.Comps.length : Int)), (22, vI i60)]) (l2 := [(31, .bool false), (11, vP b86 0), (3, vP b2 0), (6, sl A50 l52 c51), (7, sl A55 l57 c56), (9, vP b49 0), (13, sl A_w_2 w_2 c_w_2), (14, vI (w_2.length : Int)), (15, vI i23), (20, sl A46 x35.Comps c47), (21, vI (x35.Comps.length : Int)), (22, vI i60)]) (fun h => by rw [h]) (fun h => by rw [h]) (fun hc87 => ?_) (fun hc87 => ?_)
      ·
       have hp := cnd_t hc87 hp
       refine oQ [oF 6] [(32, vP b2 1), (31, .bool true), (11, vP b86 0), (3, vP b2 0), (6, sl A50 l52 c51), (7, sl A55 l57 c56), (9, vP b49 0), (13, sl A_w_2 w_2 c_w_2), (14, vI (w_2.length : Int)), (15, vI i23), (20, sl A46 x35.Comps c47), (21, vI (x35.Comps.length : Int)), (22, vI i60)] (by kernel_rfl) ?_
       refine ops_mem (d := some 33) (an := [.v (vI r_1)]) (evs := [ld b2 1 (vI r_1)]) (v := vI r_1) ⟨by kernel_rfl⟩ (fun w_ hM hS => ⟨w_, ⟨hM.cell 1 rfl rfl, rfl⟩, hM, trivial⟩) ?_
       refine oQ [oF 8, oF 9, oF 10] [(36, .bool (decide (0 ≤ r_1))), (11, vP b86 0), (3, vP b2 0), (6, sl A50 l52 c51), (7, sl A55 l57 c56), (9, vP b49 0), (13, sl A_w_2 w_2 c_w_2), (14, vI (w_2.length : Int)), (15, vI i23), (20, sl A46 x35.Comps c47), (21, vI (x35.Comps.length : Int)), (22, vI i60)] (by kernel_rfl) ?_
       refine ops_bool (t := decide (0 ≤ r_1)) (l1 := [(36, .bool true), (11, vP b86 0), (3, vP b2 0), (6, sl A50 l52 c51), (7, sl A55 l57 c56), (9, vP b49 0), (13, sl A_w_2 w_2 c_w_2), (14, vI (w_2.length : Int)), (15, vI i23), (20, sl A46 x35.Comps c47), (21, vI (x35.Comps.length : Int)), (22, vI i60)]) (l2 := [(36, .bool false), (11, vP b86 0), (3, vP b2 0), (6, sl A50 l52 c51), (7, sl A55 l57 c56), (9, vP b49 0), (13, sl A_w_2 w_2 c_w_2), (14, vI (w_2.length : Int)), (15, vI i23), (20, sl A46 x35.Comps c47), (21, vI (x35.Comps.length : Int)), (22, vI i60)]) (fun h => by rw [h]) (fun h => by rw [h]) (fun hc88 => ?_) (fun hc88 => ?_)
       ·
        have hp := cnd_t hc88 hp
        refine oQ [oF 11] [(37, vP b2 1), (36, .bool true), (11, vP b86 0), (3, vP b2 0), (6, sl A50 l52 c51), (7, sl A55 l57 c56), (9, vP b49 0), (13, sl A_w_2 w_2 c_w_2), (14, vI (w_2.length : Int)), (15, vI i23), (20, sl A46 x35.Comps c47), (21, vI (x35.Comps.length : Int)), (22, vI i60)] (by kernel_rfl) ?_
        refine ops_mem (d := some 38) (an := [.v (vI r_1)]) (evs := [ld b2 1 (vI r_1)]) (v := vI r_1) ⟨by kernel_rfl⟩ (fun w_ hM hS => ⟨w_, ⟨hM.cell 1 rfl rfl, rfl⟩, hM, trivial⟩) ?_
        refine oQ [oF 13] [(39, vP b86 1), (38, vI r_1), (36, .bool true), (11, vP b86 0), (3, vP b2 0), (6, sl A50 l52 c51), (7, sl A55 l57 c56), (9, vP b49 0), (13, sl A_w_2 w_2 c_w_2), (14, vI (w_2.length : Int)), (15, vI i23), (20, sl A46 x35.Comps c47), (21, vI (x35.Comps.length : Int)), (22, vI i60)] (by kernel_rfl) ?_
        refine ops_mem (d := some 40) (an := [.v (sl A83 x72.Vals c84)]) (evs := [ld b86 1 (sl A83 x72.Vals c84)]) (v := sl A83 x72.Vals c84) ⟨by kernel_rfl⟩ (fun w_ hM hS => ⟨w_, ⟨hM.cell 0 rfl rfl, rfl⟩, hM, trivial⟩) ?_
        refine oQ [oF 15, oF 16, oF 17] [(43, .bool (decide (r_1 < (x72.Vals.length : Int)))), (11, vP b86 0), (3, vP b2 0), (6, sl A50 l52 c51), (7, sl A55 l57 c56), (9, vP b49 0), (13, sl A_w_2 w_2 c_w_2), (14, vI (w_2.length : Int)), (15, vI i23), (20, sl A46 x35.Comps c47), (21, vI (x35.Comps.length : Int)), (22, vI i60)] (by kernel_rfl) ?_
        refine ops_nil (fin_then ?_)
        refine st_if (b := decide (r_1 < (x72.Vals.length : Int))) rfl (fun hc89 => ?_) (fun hc89 => ?_)
        ·
         have hp := cnd_t hc89 hp
         obtain ⟨x90, hv91, hp⟩ := obind hp
         obtain ⟨l103, hv104, hp⟩ := obind hp
         obtain ⟨l114, hv115, hp⟩ := obind hp
         refine st_region_treeF query_Fields__t0 16 (.node [oT 0, oT 1, oT 2, oT 5, oT 6, oT 7, oT 8, oT 9, oT 10, oT 11] (.node [oF 3] (.leaf [oF 4, oF 12, oF 13, oT 14, oT 15]) (.leaf [oF 12, oF 4, oF 13, oT 14, oT 15])) (.leaf [oF 12, oF 3, oF 4, oF 13, oT 14, oT 15])) (Mem w0 (.blk b86 [vI x72.Kind, sl A83 x72.Vals c84] 43 :: .blk b2 [vI r_0, vI r_1] 28 :: .blk b49 [vI x35.Ent.N, vI x35.Ent.Gen, sl A46 x35.Comps c47] 38 :: Fz F W :: cs)) (by kernel_rfl) (by kernel_rfl) (by kernel_rfl) (by kernel_rfl) (by kernel_rfl) (fun _ d _ _ _ h => by cases d <;> exact h) (M' := Mem w0 (.blk b86 [vI x72.Kind, sl A83 x72.Vals c84] 43 :: .blk b2 [vI r_0, vI r_1] 28 :: ow A50 l52 c51 35 2 y53 :: ow A55 l57 c56 3 1 y58 :: .blk b49 [vI x35.Ent.N, vI x35.Ent.Gen, sl A46 x35.Comps c47] 38 :: Fz F W :: cs)) (fun w_ hM => ⟨hM.drew, hM.drew.sub (.cons_cons _ (.cons_cons _ (.cons _ (.cons _ (.cons_cons _ (.cons_cons _ (.refl _)))))))⟩) ?_
         refine tree_node ?_
         refine oQ [oT 0, oT 1] [(45, vP b49 0), (44, sl A50 l52 c51), (11, vP b86 0), (3, vP b2 0), (6, sl A50 l52 c51), (7, sl A55 l57 c56), (9, vP b49 0), (13, sl A_w_2 w_2 c_w_2), (14, vI (w_2.length : Int)), (15, vI i23), (20, sl A46 x35.Comps c47), (21, vI (x35.Comps.length : Int)), (22, vI i60)] (by kernel_rfl) ?_
         refine ops_load (d := some 46) (an := [.v (vI x35.Ent.N), .v (vI x35.Ent.Gen)]) (evs := [ld b49 0 (vI x35.Ent.N), ld b49 1 (vI x35.Ent.Gen)]) (v := .agg #[vI x35.Ent.N, vI x35.Ent.Gen]) ⟨by kernel_rfl⟩ (fun w_ hM => ⟨hM.cell 2 rfl rfl, hM.cell 2 rfl rfl, rfl⟩) ?_
         refine oQ [oT 5, oT 6] [(50, vP b86 1), (49, sl A55 l57 c56), (46, .agg #[vI x35.Ent.N, vI x35.Ent.Gen]), (44, sl A50 l52 c51), (3, vP b2 0), (6, sl A50 l52 c51), (7, sl A55 l57 c56), (9, vP b49 0), (13, sl A_w_2 w_2 c_w_2), (14, vI (w_2.length : Int)), (15, vI i23), (20, sl A46 x35.Comps c47), (21, vI (x35.Comps.length : Int)), (22, vI i60)] (by kernel_rfl) ?_
         refine ops_load (d := some 51) (an := [.v (sl A83 x72.Vals c84)]) (evs := [ld b86 1 (sl A83 x72.Vals c84)]) (v := sl A83 x72.Vals c84) ⟨by kernel_rfl⟩ (fun w_ hM => ⟨hM.cell 0 rfl rfl, rfl⟩) ?_
         refine oQ [oT 8] [(52, vP b2 1), (51, sl A83 x72.Vals c84), (49, sl A55 l57 c56), (46, .agg #[vI x35.Ent.N, vI x35.Ent.Gen]), (44, sl A50 l52 c51), (3, vP b2 0), (6, sl A50 l52 c51), (7, sl A55 l57 c56), (9, vP b49 0), (13, sl A_w_2 w_2 c_w_2), (14, vI (w_2.length : Int)), (15, vI i23), (20, sl A46 x35.Comps c47), (21, vI (x35.Comps.length : Int)), (22, vI i60)] (by kernel_rfl) ?_
         refine ops_load (d := some 53) (an := [.v (vI r_1)]) (evs := [ld b2 1 (vI r_1)]) (v := vI r_1) ⟨by kernel_rfl⟩ (fun w_ hM => ⟨hM.cell 1 rfl rfl, rfl⟩) ?_
         obtain ⟨m116, hm117, hx118⟩ := idx_some hv91
         have hl121 := (List.getElem?_eq_some_iff.1 hx118).1
         obtain ⟨ad122, vs119, hA123, hr120, hq124⟩ := RdS.el h85 hx118
         obtain rfl := hr120
         refine ops_val (op := (.indexAddr 23 (.tmp 51) (.tmp 53))) (d := some 54) (v := .pointer (some (ad122.add (m116 * 1)))) ⟨by kernel_rfl⟩ (run_indexA hA123 Try.underlying23 (z := 1) (by kernel_rfl) rfl rfl hm117 hl121) ?_
         refine ops_load (d := some 55) (an := [.v (vI x90)]) (evs := [.load (ad122.add (m116 * 1)) (vI x90)]) (v := vI x90) ⟨by kernel_rfl⟩ (fun w_ hM => ⟨hM.elcell 3 rfl hq124 0 rfl, rfl⟩) ?_
         refine ops_nil ?_
         refine tree_both ?_ ?_
         ·
          refine tree_node ?_
          have h125 : RepL R_api_Ent F W ([(api_Ent.mk x35.Ent.N x35.Ent.Gen)] : List api_Ent) ([vI x35.Ent.N, vI x35.Ent.Gen]) := (RepL.cons (R := R_api_Ent) (F := F) (w := W) (vs := [vI x35.Ent.N, vI x35.Ent.Gen]) (ys := []) (enc_api_Ent) RepL.nil)
          refine ops_new (d := some 47) (o := .cells ([vI x35.Ent.N, vI x35.Ent.Gen] : List Value).toArray 35) (v := fun g126 => .slice (sa g126) ([(api_Ent.mk x35.Ent.N x35.Ent.Gen)] : List api_Ent).length 1) (M' := fun g126 => Mem w0 (orow (sa g126) ([(api_Ent.mk x35.Ent.N x35.Ent.Gen)] : List api_Ent).length 1 35 2 ([vI x35.Ent.N, vI x35.Ent.Gen]) :: .blk b86 [vI x72.Kind, sl A83 x72.Vals c84] 43 :: .blk b2 [vI r_0, vI r_1] 28 :: ow A50 l52 c51 35 2 y53 :: ow A55 l57 c56 3 1 y58 :: .blk b49 [vI x35.Ent.N, vI x35.Ent.Gen, sl A46 x35.Comps c47] 38 :: Fz F W :: cs)) (fun g126 => ⟨by kernel_rfl⟩) (fun w_ hM hS => ⟨hM.onew [vI x35.Ent.N, vI x35.Ent.Gen] 35 1 2 rfl (by decide), hS.alloc _⟩) (fun g126 => ?_)
          refine ops_nil ?_
          refine tree_both ?_ ?_
          ·
           refine tree_leaf ?_
           obtain ⟨he127, hb128⟩ := app_some hv104
           obtain ⟨y129, hy130⟩ : ∃ y_, y53 ++ ([vI x35.Ent.N, vI x35.Ent.Gen]) = y_ := ⟨_, rfl⟩
           have h131 : RepL R_api_Ent F W l103 y129 := by rw [he127, ← hy130]; exact RepL.app h54 h125
           refine ops_appendO (x := (Go.Operand.tmp 44)) (y := (Go.Operand.tmp 47)) (t := 40) (e := 35) (d := some 48) (n' := l103.length) (z := 2) (m := ([(api_Ent.mk x35.Ent.N x35.Ent.Gen)] : List api_Ent).length) (bytes := 16) (xs' := y129) (news := ([vI x35.Ent.N, vI x35.Ent.Gen])) (zv := .agg #[vI 0, vI 0]) 3 ⟨by kernel_rfl⟩ rfl rfl Try.underlying40 (by kernel_rfl) (by rfl) rfl (fun w_ hM => hM.srcO 0 rfl) h125.len h125.one hb128 (by have z_ := congrArg List.length he127; rw [List.length_append] at z_; exact z_.symm) hy130 (fun _ _ _ _ hS h' => (by exact h'.sub (.cons _ (.cons_cons _ (.cons_cons _ (.cons _ (.cons _ (.cons_cons _ (.cons_cons _ (.refl _)))))))))) ?_
           rintro ⟨A132, c133⟩
           have h134 : RepL (Rep.int .i64) F W ([x90] : List Int) ([vI x90]) := (RepL.cons (R := (Rep.int .i64)) (F := F) (w := W) (vs := [vI x90]) (ys := []) rfl RepL.nil)
           refine ops_new (d := some 56) (o := .cells ([vI x90] : List Value).toArray 3) (v := fun g135 => .slice (sa g135) ([x90] : List Int).length 1) (M' := fun g135 => Mem w0 (orow (sa g135) ([x90] : List Int).length 1 3 1 ([vI x90]) :: orow (sa g126) ([(api_Ent.mk x35.Ent.N x35.Ent.Gen)] : List api_Ent).length 1 35 2 ([vI x35.Ent.N, vI x35.Ent.Gen]) :: .blk b86 [vI x72.Kind, sl A83 x72.Vals c84] 43 :: .blk b2 [vI r_0, vI r_1] 28 :: ow A132 l103 c133 35 2 y129 :: ow A55 l57 c56 3 1 y58 :: .blk b49 [vI x35.Ent.N, vI x35.Ent.Gen, sl A46 x35.Comps c47] 38 :: Fz F W :: cs)) (fun g135 => ⟨by kernel_rfl⟩) (fun w_ hM hS => ⟨hM.onew [vI x90] 3 1 1 rfl (by decide), hS.alloc _⟩) (fun g135 => ?_)
           obtain ⟨he136, hb137⟩ := app_some hv115
           obtain ⟨y138, hy139⟩ : ∃ y_, y58 ++ ([vI x90]) = y_ := ⟨_, rfl⟩
           have h140 : RepL (Rep.int .i64) F W l114 y138 := by rw [he136, ← hy139]; exact RepL.app h59 h134
           refine ops_appendO (x := (Go.Operand.tmp 49)) (y := (Go.Operand.tmp 56)) (t := 23) (e := 3) (d := some 57) (n' := l114.length) (z := 1) (m := ([x90] : List Int).length) (bytes := 8) (xs' := y138) (news := ([vI x90])) (zv := vI 0) 5 ⟨by kernel_rfl⟩ rfl rfl Try.underlying23 (by kernel_rfl) (by rfl) rfl (fun w_ hM => hM.srcO 0 rfl) h134.len h134.one hb137 (by have z_ := congrArg List.length he136; rw [List.length_append] at z_; exact z_.symm) hy139 (fun _ _ _ _ hS h' => (by exact h'.sub (.cons _ (.cons _ (.cons_cons _ (.cons_cons _ (.cons _ (.cons _ (.cons_cons _ (.cons_cons _ (.refl _))))))))))) ?_
           rintro ⟨A141, c142⟩
           refine oQ [oT 14, oT 15] [(7, sl A141 l114 c142), (6, sl A132 l103 c133), (3, vP b2 0), (9, vP b49 0), (13, sl A_w_2 w_2 c_w_2), (14, vI (w_2.length : Int)), (15, vI i23), (20, sl A46 x35.Comps c47), (21, vI (x35.Comps.length : Int)), (22, vI i60)] (by kernel_rfl) ?_
           refine ops_nil (fin_block ?_)
           exact fin_join HJ5 (A132, c133, l103, y129, A141, c142, l114, y138) ⟨hp, h131, h140⟩ (look_has ⟨rfl, rfl, rfl, rfl, rfl, rfl, rfl, rfl, rfl, rfl, trivial⟩) (fun w_ hM => hM.pick 8 [3, 4, 5, 6, 7] (by kernel_rfl) (by decide) rfl)
          ·
           refine tree_leaf ?_
           have h143 : RepL (Rep.int .i64) F W ([x90] : List Int) ([vI x90]) := (RepL.cons (R := (Rep.int .i64)) (F := F) (w := W) (vs := [vI x90]) (ys := []) rfl RepL.nil)
           refine ops_new (d := some 56) (o := .cells ([vI x90] : List Value).toArray 3) (v := fun g144 => .slice (sa g144) ([x90] : List Int).length 1) (M' := fun g144 => Mem w0 (orow (sa g144) ([x90] : List Int).length 1 3 1 ([vI x90]) :: orow (sa g126) ([(api_Ent.mk x35.Ent.N x35.Ent.Gen)] : List api_Ent).length 1 35 2 ([vI x35.Ent.N, vI x35.Ent.Gen]) :: .blk b86 [vI x72.Kind, sl A83 x72.Vals c84] 43 :: .blk b2 [vI r_0, vI r_1] 28 :: ow A50 l52 c51 35 2 y53 :: ow A55 l57 c56 3 1 y58 :: .blk b49 [vI x35.Ent.N, vI x35.Ent.Gen, sl A46 x35.Comps c47] 38 :: Fz F W :: cs)) (fun g144 => ⟨by kernel_rfl⟩) (fun w_ hM hS => ⟨hM.onew [vI x90] 3 1 1 rfl (by decide), hS.alloc _⟩) (fun g144 => ?_)
           obtain ⟨he145, hb146⟩ := app_some hv104
           obtain ⟨y147, hy148⟩ : ∃ y_, y53 ++ ([vI x35.Ent.N, vI x35.Ent.Gen]) = y_ := ⟨_, rfl⟩
           have h149 : RepL R_api_Ent F W l103 y147 := by rw [he145, ← hy148]; exact RepL.app h54 h125
           refine ops_appendO (x := (Go.Operand.tmp 44)) (y := (Go.Operand.tmp 47)) (t := 40) (e := 35) (d := some 48) (n' := l103.length) (z := 2) (m := ([(api_Ent.mk x35.Ent.N x35.Ent.Gen)] : List api_Ent).length) (bytes := 16) (xs' := y147) (news := ([vI x35.Ent.N, vI x35.Ent.Gen])) (zv := .agg #[vI 0, vI 0]) 4 ⟨by kernel_rfl⟩ rfl rfl Try.underlying40 (by kernel_rfl) (by rfl) rfl (fun w_ hM => hM.srcO 1 rfl) h125.len h125.one hb146 (by have z_ := congrArg List.length he145; rw [List.length_append] at z_; exact z_.symm) hy148 (fun _ _ _ _ hS h' => (by exact h'.sub (.cons _ (.cons _ (.cons_cons _ (.cons_cons _ (.cons _ (.cons _ (.cons_cons _ (.cons_cons _ (.refl _))))))))))) ?_
           rintro ⟨A150, c151⟩
           obtain ⟨he152, hb153⟩ := app_some hv115
           obtain ⟨y154, hy155⟩ : ∃ y_, y58 ++ ([vI x90]) = y_ := ⟨_, rfl⟩
           have h156 : RepL (Rep.int .i64) F W l114 y154 := by rw [he152, ← hy155]; exact RepL.app h59 h143
           refine ops_appendO (x := (Go.Operand.tmp 49)) (y := (Go.Operand.tmp 56)) (t := 23) (e := 3) (d := some 57) (n' := l114.length) (z := 1) (m := ([x90] : List Int).length) (bytes := 8) (xs' := y154) (news := ([vI x90])) (zv := vI 0) 5 ⟨by kernel_rfl⟩ rfl rfl Try.underlying23 (by kernel_rfl) (by rfl) rfl (fun w_ hM => hM.srcO 0 rfl) h143.len h143.one hb153 (by have z_ := congrArg List.length he152; rw [List.length_append] at z_; exact z_.symm) hy155 (fun _ _ _ _ hS h' => (by exact h'.sub (.cons _ (.cons _ (.cons_cons _ (.cons_cons _ (.cons _ (.cons _ (.cons_cons _ (.cons_cons _ (.refl _))))))))))) ?_
           rintro ⟨A157, c158⟩
           refine oQ [oT 14, oT 15] [(7, sl A157 l114 c158), (6, sl A150 l103 c151), (3, vP b2 0), (9, vP b49 0), (13, sl A_w_2 w_2 c_w_2), (14, vI (w_2.length : Int)), (15, vI i23), (20, sl A46 x35.Comps c47), (21, vI (x35.Comps.length : Int)), (22, vI i60)] (by kernel_rfl) ?_
           refine ops_nil (fin_block ?_)
           exact fin_join HJ5 (A150, c151, l103, y147, A157, c158, l114, y154) ⟨hp, h149, h156⟩ (look_has ⟨rfl, rfl, rfl, rfl, rfl, rfl, rfl, rfl, rfl, rfl, trivial⟩) (fun w_ hM => hM.pick 8 [3, 4, 5, 6, 7] (by kernel_rfl) (by decide) rfl)
         ·
          refine tree_leaf ?_
          have h159 : RepL (Rep.int .i64) F W ([x90] : List Int) ([vI x90]) := (RepL.cons (R := (Rep.int .i64)) (F := F) (w := W) (vs := [vI x90]) (ys := []) rfl RepL.nil)
          refine ops_new (d := some 56) (o := .cells ([vI x90] : List Value).toArray 3) (v := fun g160 => .slice (sa g160) ([x90] : List Int).length 1) (M' := fun g160 => Mem w0 (orow (sa g160) ([x90] : List Int).length 1 3 1 ([vI x90]) :: .blk b86 [vI x72.Kind, sl A83 x72.Vals c84] 43 :: .blk b2 [vI r_0, vI r_1] 28 :: ow A50 l52 c51 35 2 y53 :: ow A55 l57 c56 3 1 y58 :: .blk b49 [vI x35.Ent.N, vI x35.Ent.Gen, sl A46 x35.Comps c47] 38 :: Fz F W :: cs)) (fun g160 => ⟨by kernel_rfl⟩) (fun w_ hM hS => ⟨hM.onew [vI x90] 3 1 1 rfl (by decide), hS.alloc _⟩) (fun g160 => ?_)
          have h161 : RepL R_api_Ent F W ([(api_Ent.mk x35.Ent.N x35.Ent.Gen)] : List api_Ent) ([vI x35.Ent.N, vI x35.Ent.Gen]) := (RepL.cons (R := R_api_Ent) (F := F) (w := W) (vs := [vI x35.Ent.N, vI x35.Ent.Gen]) (ys := []) (enc_api_Ent) RepL.nil)
          refine ops_new (d := some 47) (o := .cells ([vI x35.Ent.N, vI x35.Ent.Gen] : List Value).toArray 35) (v := fun g162 => .slice (sa g162) ([(api_Ent.mk x35.Ent.N x35.Ent.Gen)] : List api_Ent).length 1) (M' := fun g162 => Mem w0 (orow (sa g162) ([(api_Ent.mk x35.Ent.N x35.Ent.Gen)] : List api_Ent).length 1 35 2 ([vI x35.Ent.N, vI x35.Ent.Gen]) :: orow (sa g160) ([x90] : List Int).length 1 3 1 ([vI x90]) :: .blk b86 [vI x72.Kind, sl A83 x72.Vals c84] 43 :: .blk b2 [vI r_0, vI r_1] 28 :: ow A50 l52 c51 35 2 y53 :: ow A55 l57 c56 3 1 y58 :: .blk b49 [vI x35.Ent.N, vI x35.Ent.Gen, sl A46 x35.Comps c47] 38 :: Fz F W :: cs)) (fun g162 => ⟨by kernel_rfl⟩) (fun w_ hM hS => ⟨hM.onew [vI x35.Ent.N, vI x35.Ent.Gen] 35 1 2 rfl (by decide), hS.alloc _⟩) (fun g162 => ?_)
          obtain ⟨he163, hb164⟩ := app_some hv104
          obtain ⟨y165, hy166⟩ : ∃ y_, y53 ++ ([vI x35.Ent.N, vI x35.Ent.Gen]) = y_ := ⟨_, rfl⟩
          have h167 : RepL R_api_Ent F W l103 y165 := by rw [he163, ← hy166]; exact RepL.app h54 h161
          refine ops_appendO (x := (Go.Operand.tmp 44)) (y := (Go.Operand.tmp 47)) (t := 40) (e := 35) (d := some 48) (n' := l103.length) (z := 2) (m := ([(api_Ent.mk x35.Ent.N x35.Ent.Gen)] : List api_Ent).length) (bytes := 16) (xs' := y165) (news := ([vI x35.Ent.N, vI x35.Ent.Gen])) (zv := .agg #[vI 0, vI 0]) 4 ⟨by kernel_rfl⟩ rfl rfl Try.underlying40 (by kernel_rfl) (by rfl) rfl (fun w_ hM => hM.srcO 0 rfl) h161.len h161.one hb164 (by have z_ := congrArg List.length he163; rw [List.length_append] at z_; exact z_.symm) hy166 (fun _ _ _ _ hS h' => (by exact h'.sub (.cons _ (.cons _ (.cons_cons _ (.cons_cons _ (.cons _ (.cons _ (.cons_cons _ (.cons_cons _ (.refl _))))))))))) ?_
          rintro ⟨A168, c169⟩
          obtain ⟨he170, hb171⟩ := app_some hv115
          obtain ⟨y172, hy173⟩ : ∃ y_, y58 ++ ([vI x90]) = y_ := ⟨_, rfl⟩
          have h174 : RepL (Rep.int .i64) F W l114 y172 := by rw [he170, ← hy173]; exact RepL.app h59 h159
          refine ops_appendO (x := (Go.Operand.tmp 49)) (y := (Go.Operand.tmp 56)) (t := 23) (e := 3) (d := some 57) (n' := l114.length) (z := 1) (m := ([x90] : List Int).length) (bytes := 8) (xs' := y172) (news := ([vI x90])) (zv := vI 0) 5 ⟨by kernel_rfl⟩ rfl rfl Try.underlying23 (by kernel_rfl) (by rfl) rfl (fun w_ hM => hM.srcO 1 rfl) h159.len h159.one hb171 (by have z_ := congrArg List.length he170; rw [List.length_append] at z_; exact z_.symm) hy173 (fun _ _ _ _ hS h' => (by exact h'.sub (.cons _ (.cons _ (.cons_cons _ (.cons_cons _ (.cons _ (.cons _ (.cons_cons _ (.cons_cons _ (.refl _))))))))))) ?_
          rintro ⟨A175, c176⟩
          refine oQ [oT 14, oT 15] [(7, sl A175 l114 c176), (6, sl A168 l103 c169), (3, vP b2 0), (9, vP b49 0), (13, sl A_w_2 w_2 c_w_2), (14, vI (w_2.length : Int)), (15, vI i23), (20, sl A46 x35.Comps c47), (21, vI (x35.Comps.length : Int)), (22, vI i60)] (by kernel_rfl) ?_
          refine ops_nil (fin_block ?_)
          exact fin_join HJ5 (A168, c169, l103, y165, A175, c176, l114, y172) ⟨hp, h167, h174⟩ (look_has ⟨rfl, rfl, rfl, rfl, rfl, rfl, rfl, rfl, rfl, rfl, trivial⟩) (fun w_ hM => hM.pick 8 [3, 4, 5, 6, 7] (by kernel_rfl) (by decide) rfl)
        ·
         have hp := cnd_f hc89 hp
         refine st_skip (fin_block ?_)
         exact fin_join HJ5 (A50, c51, l52, y53, A55, c56, l57, y58) ⟨hp, h54, h59⟩ (look_has ⟨rfl, rfl, rfl, rfl, rfl, rfl, rfl, rfl, rfl, rfl, trivial⟩) (fun w_ hM => hM.pick 6 [1, 2, 3, 4, 5] (by kernel_rfl) (by decide) rfl)
       ·
        have hp := cnd_f hc88 hp
        refine oQ [oF 11, oF 12, oF 13, oF 14, oF 15, oF 16, oF 17] [(43, .bool false), (11, vP b86 0), (3, vP b2 0), (6, sl A50 l52 c51), (7, sl A55 l57 c56), (9, vP b49 0), (13, sl A_w_2 w_2 c_w_2), (14, vI (w_2.length : Int)), (15, vI i23), (20, sl A46 x35.Comps c47), (21, vI (x35.Comps.length : Int)), (22, vI i60)] (by kernel_rfl) ?_
        refine ops_nil (fin_then (st_false rfl (st_skip (fin_block ?_))))
        exact fin_join HJ5 (A50, c51, l52, y53, A55, c56, l57, y58) ⟨hp, h54, h59⟩ (look_has ⟨rfl, rfl, rfl, rfl, rfl, rfl, rfl, rfl, rfl, rfl, trivial⟩) (fun w_ hM => hM.pick 6 [1, 2, 3, 4, 5] (by kernel_rfl) (by decide) rfl)
      ·
       have hp := cnd_f hc87 hp
       refine oQ [oF 6, oF 7, oF 8, oF 9, oF 10, oF 11, oF 12, oF 13, oF 14, oF 15, oF 16, oF 17] [(43, .bool false), (11, vP b86 0), (3, vP b2 0), (6, sl A50 l52 c51), (7, sl A55 l57 c56), (9, vP b49 0), (13, sl A_w_2 w_2 c_w_2), (14, vI (w_2.length : Int)), (15, vI i23), (20, sl A46 x35.Comps c47), (21, vI (x35.Comps.length : Int)), (22, vI i60)] (by kernel_rfl) ?_
       refine ops_nil (fin_then (st_false rfl (st_skip (fin_block ?_))))
       exact fin_join HJ5 (A50, c51, l52, y53, A55, c56, l57, y58) ⟨hp, h54, h59⟩ (look_has ⟨rfl, rfl, rfl, rfl, rfl, rfl, rfl, rfl, rfl, rfl, trivial⟩) (fun w_ hM => hM.pick 6 [1, 2, 3, 4, 5] (by kernel_rfl) (by decide) rfl)
    ·
     have hp := cnd_f hc61 hp
     refine st_exit (fin_exit_then (fin_exit_then (fin_exit (fin_block ?_))))
     obtain hq_ := Option.some.inj hp
     subst hq_
     obtain hq_ := hd4 _ rfl
     subst hq_
     have hp : (query_Fields_j3 i23) l52 l57 = some o2 := hk4
     exact fin_join HJ3 (A50, c51, l52, y53, A55, c56, l57, y58) ⟨hp, h54, h59⟩ (look_has ⟨rfl, rfl, rfl, rfl, rfl, rfl, trivial⟩) (fun w_ hM => hM.pick 5 [0, 1, 2, 4] (by kernel_rfl) (by decide) rfl)
  ·
   have hp := cnd_f hc24 hp
   refine st_exit (fin_exit_then (fin_exit_then (fin_exit ?_)))
   obtain hq_ := Option.some.inj hp
   subst hq_
   obtain hq_ := hd2 _ rfl
   subst hq_
   have hp : query_Fields_j1 l15 l20 = some (l9003, l9008) := hk2
   exact fin_join HJ1 (A13, c14, l15, y16, A18, c19, l20, y21) ⟨hp, h17, h22⟩ (look_has ⟨rfl, rfl, trivial⟩) (fun w_ hM => hM.pick 4 [1, 2, 3] (by kernel_rfl) (by decide) rfl)
theorem slices_Equal_api_Ent_api_Ent_ok (w0 w : World) (cs : List Chunk) (F : Nat → Prop) (W : World) (A_s1 : Option Addr) (c_s1 : Nat) (s1_1 : List api_Ent) (A_s2 : Option Addr) (c_s2 : Nat) (s2_1 : List api_Ent) (hM0 : Mem w0 (Fz F W :: cs) w) (h_s1 : RdS R_api_Ent F W A_s1 c_s1 s1_1) (h_s2 : RdS R_api_Ent F W A_s2 c_s2 s2_1) (t9001 : Bool) (hp : slices_Equal_api_Ent_api_Ent s1_1 s2_1 = some t9001) : Calls Try.prog 15 #[sl A_s1 s1_1 c_s1, sl A_s2 s2_1 c_s2] w fun e w' => (True) ∧ e = .returned (.bool t9001) ∧ Mem w0 (Fz F W :: cs) w' := by
 unfold slices_Equal_api_Ent_api_Ent at hp
 refine sx_calls Try.func15 rfl (n := 26) (by kernel_rfl) (l := [(0, sl A_s1 s1_1 c_s1), (1, sl A_s2 s2_1 c_s2)]) rfl (by rfl) hM0 ?_
 refine st_seq (st_region [oF 0] (by rfl) ?_)
 refine oQ [oF 0] [(0, sl A_s1 s1_1 c_s1), (1, sl A_s2 s2_1 c_s2)] (by kernel_rfl) ?_
 refine ops_nil (fin_then (st_seq (st_seq (st_region [oF 0, oF 1, oF 2, oF 3, oF 4] (by rfl) ?_))))
 refine oQ [oF 0, oF 1, oF 2, oF 3, oF 4] [(10, .bool (!((s1_1.length : Int) == (s2_1.length : Int)))), (0, sl A_s1 s1_1 c_s1), (1, sl A_s2 s2_1 c_s2)] (by kernel_rfl) ?_
 refine ops_nil (fin_then ?_)
 refine st_if (b := !((s1_1.length : Int) == (s2_1.length : Int))) rfl (fun hc1 => ?_) (fun hc1 => ?_)
 ·
  have hp := cnd_t hc1 hp
  refine st_seq (st_region [oF 0] (by rfl) ?_)
  refine oQ [oF 0] [(4, .bool false)] (by kernel_rfl) ?_
  refine ops_nil (fin_then (st_ret (fin_ret_then ?_)))
  have hq_ := Option.some.inj hp
  have hr0_ := hq_
  subst hr0_
  refine fin_ret [.tmp 4] [.bool false] rfl rfl (fun w_ hM => (.tmp rfl .nil)) (fun w_ hM => ?_)
  exact ⟨trivial, rfl, hM⟩
 ·
  have hp := cnd_f hc1 hp
  refine st_skip (fin_then ?_)
  refine st_join1 (σ := Unit) (L := fun _ => []) (N := fun _ => Mem w0 (Fz F W :: cs)) (I := fun _ => (slices_Equal_api_Ent_api_Ent_j1 = some t9001)) ?_ ?_
  ·
   rintro _ hp
   unfold slices_Equal_api_Ent_api_Ent_j1 at hp
   refine st_seq (st_region [oF 0] (by rfl) ?_)
   refine oQ [oF 0] [(4, .bool true)] (by kernel_rfl) ?_
   refine ops_nil (fin_then (st_ret ?_))
   have hq_ := Option.some.inj hp
   have hr0_ := hq_
   subst hr0_
   refine fin_ret [.tmp 4] [.bool true] rfl rfl (fun w_ hM => (.tmp rfl .nil)) (fun w_ hM => ?_)
   exact ⟨trivial, rfl, hM⟩
  ·
   intro HJ1
   refine st_seq (st_seq (st_region [oF 0, oF 1, oF 2] (by rfl) ?_))
   refine oQ [oF 0, oF 1, oF 2] [(13, vI 0), (12, vI (s1_1.length : Int)), (0, sl A_s1 s1_1 c_s1), (1, sl A_s2 s2_1 c_s2)] (by kernel_rfl) ?_
   refine ops_nil (fin_then (st_block ?_))
   obtain ⟨r2, hl2, hk2⟩ := obind hp
   refine st_loopP (σ := Int) (ρ := (Bool ⊕ Unit)) (γ := Unit) hl2 () (fun s_ g_ => match s_, g_ with | i2, _ => [(0, sl A_s1 s1_1 c_s1), (1, sl A_s2 s2_1 c_s2), (12, vI (s1_1.length : Int)), (13, vI i2)]) (fun s_ g_ => match s_, g_ with | i2, _ => Mem w0 (Fz F W :: cs)) (fun s_ g_ => match s_, g_ with | i2, _ => True) trivial (look_has ⟨rfl, rfl, rfl, rfl, trivial⟩) (fun w_ hM => hM) ?_
   rintro i2 _ o2 - hs_ hd2
   have hp : (slices_Equal_api_Ent_api_Ent_l2 s1_1 s2_1) i2 = some o2 := hs_
   clear hs_
   unfold slices_Equal_api_Ent_api_Ent_l2 at hp
   refine st_seq (st_region [oF 0] (by rfl) ?_)
   refine oQ [oF 0] [(14, .bool (decide (i2 < (s1_1.length : Int)))), (0, sl A_s1 s1_1 c_s1), (1, sl A_s2 s2_1 c_s2), (12, vI (s1_1.length : Int)), (13, vI i2)] (by kernel_rfl) ?_
   refine ops_nil (fin_then (st_seq ?_))
   refine st_if (b := decide (i2 < (s1_1.length : Int))) rfl (fun hc3 => ?_) (fun hc3 => ?_)
   ·
    have hp := cnd_t hc3 hp
    refine st_skip (fin_then (st_seq (st_block (st_seq (st_region [oF 0, oF 1] (by rfl) ?_)))))
    refine oQ [oF 0, oF 1] [(5, vI i2), (0, sl A_s1 s1_1 c_s1), (1, sl A_s2 s2_1 c_s2), (12, vI (s1_1.length : Int)), (13, vI i2)] (by kernel_rfl) ?_
    refine ops_nil (fin_then (st_seq ?_))
    refine st_region_draw [oT 0, oT 1, oT 2, oT 3, oT 4, oT 5, oT 6, oT 7, oT 8] (Mem w0 (Fz F W :: cs)) (by kernel_rfl) (by kernel_rfl) (by kernel_rfl) (fun _ d _ _ _ h => by cases d <;> exact h) (M' := Mem w0 (Fz F W :: cs)) (fun w_ hM => ⟨hM.drew, hM.drew.sub (.cons_cons _ (.refl _))⟩) ?_
    refine oQ [oT 0, oT 1] [(17, vI i2), (16, sl A_s1 s1_1 c_s1), (5, vI i2), (0, sl A_s1 s1_1 c_s1), (1, sl A_s2 s2_1 c_s2), (12, vI (s1_1.length : Int)), (13, vI i2)] (by kernel_rfl) ?_
    obtain ⟨x4, hv5, hp⟩ := obind hp
    obtain ⟨m6, hm7, hx8⟩ := idx_some hv5
    have hl11 := (List.getElem?_eq_some_iff.1 hx8).1
    obtain ⟨ad12, vs9, hA13, hr10, hq14⟩ := RdS.el h_s1 hx8
    obtain rfl := dec_api_Ent hr10
    refine ops_val (op := (.indexAddr 40 (.tmp 16) (.tmp 17))) (d := some 18) (v := .pointer (some (ad12.add (m6 * 2)))) ⟨by kernel_rfl⟩ (run_indexA hA13 Try.underlying40 (z := 2) (by kernel_rfl) rfl rfl hm7 hl11) ?_
    refine ops_load (d := some 19) (an := [.v (vI x4.N), .v (vI x4.Gen)]) (evs := [.load (ad12.add (m6 * 2)) (vI x4.N), .load ((ad12.add (m6 * 2)).add 1) (vI x4.Gen)]) (v := .agg #[vI x4.N, vI x4.Gen]) ⟨by kernel_rfl⟩ (fun w_ hM => ⟨hM.elcell 0 rfl hq14 0 rfl, hM.elcell 0 rfl hq14 1 rfl, rfl⟩) ?_
    refine oQ [oT 4, oT 5] [(21, vI i2), (20, sl A_s2 s2_1 c_s2), (19, .agg #[vI x4.N, vI x4.Gen]), (0, sl A_s1 s1_1 c_s1), (1, sl A_s2 s2_1 c_s2), (12, vI (s1_1.length : Int)), (13, vI i2)] (by kernel_rfl) ?_
    obtain ⟨x15, hv16, hp⟩ := obind hp
    obtain ⟨m17, hm18, hx19⟩ := idx_some hv16
    have hl22 := (List.getElem?_eq_some_iff.1 hx19).1
    obtain ⟨ad23, vs20, hA24, hr21, hq25⟩ := RdS.el h_s2 hx19
    obtain rfl := dec_api_Ent hr21
    refine ops_val (op := (.indexAddr 40 (.tmp 20) (.tmp 21))) (d := some 22) (v := .pointer (some (ad23.add (m17 * 2)))) ⟨by kernel_rfl⟩ (run_indexA hA24 Try.underlying40 (z := 2) (by kernel_rfl) rfl rfl hm18 hl22) ?_
    refine ops_load (d := some 23) (an := [.v (vI x15.N), .v (vI x15.Gen)]) (evs := [.load (ad23.add (m17 * 2)) (vI x15.N), .load ((ad23.add (m17 * 2)).add 1) (vI x15.Gen)]) (v := .agg #[vI x15.N, vI x15.Gen]) ⟨by kernel_rfl⟩ (fun w_ hM => ⟨hM.elcell 0 rfl hq25 0 rfl, hM.elcell 0 rfl hq25 1 rfl, rfl⟩) ?_
    refine ops_val (op := (.binOp Go.BinOp.neq 35 (.tmp 19) (.tmp 23) 35)) (d := some 24) (v := .bool (!(x4.N == x15.N && (x4.Gen == x15.Gen)))) ⟨by kernel_rfl⟩ (run_neq_agg (r := x4.N == x15.N && (x4.Gen == x15.Gen)) rfl rfl (by kernel_rfl) (fun w => eqA35 9998 w x4.N x15.N x4.Gen x15.Gen)) ?_
    refine ops_nil (fin_then ?_)
    refine st_if (b := !(x4.N == x15.N && (x4.Gen == x15.Gen))) rfl (fun hc26 => ?_) (fun hc26 => ?_)
    ·
     have hp := cnd_t hc26 hp
     refine st_seq (st_region [oF 0] (by rfl) ?_)
     refine oQ [oF 0] [(4, .bool false)] (by kernel_rfl) ?_
     refine ops_nil (fin_then (st_ret (fin_ret_block (fin_ret_then (fin_ret_then (fin_ret_block (fin_ret_then ?_)))))))
     obtain hq_ := Option.some.inj hp
     subst hq_
     obtain hq_ := hd2 _ rfl
     subst hq_
     have hp : some false = some t9001 := hk2
     have hq_ := Option.some.inj hp
     have hr0_ := hq_
     subst hr0_
     refine fin_ret [.tmp 4] [.bool false] rfl rfl (fun w_ hM => (.tmp rfl .nil)) (fun w_ hM => ?_)
     exact ⟨trivial, rfl, hM⟩
    ·
     have hp := cnd_f hc26 hp
     refine st_skip (fin_block (fin_then (st_region [oF 0, oF 1] (by rfl) ?_)))
     refine oQ [oF 0, oF 1] [(13, vI (IntKind.i64.wrap (i2 + 1))), (0, sl A_s1 s1_1 c_s1), (1, sl A_s2 s2_1 c_s2), (12, vI (s1_1.length : Int))] (by kernel_rfl) ?_
     refine ops_nil ?_
     exact fin_again (IntKind.i64.wrap (i2 + 1)) () (Option.some.inj hp).symm trivial (look_has ⟨rfl, rfl, rfl, rfl, trivial⟩) (fun w_ hM => hM)
   ·
    have hp := cnd_f hc3 hp
    refine st_exit (fin_exit_then (fin_exit_then (fin_exit ?_)))
    obtain hq_ := Option.some.inj hp
    subst hq_
    obtain hq_ := hd2 _ rfl
    subst hq_
    have hp : slices_Equal_api_Ent_api_Ent_j1 = some t9001 := hk2
    exact fin_join HJ1 () hp (look_has trivial) (fun w_ hM => hM)
end Go.Proofs.Ythcniadbdjoecaa.Q
