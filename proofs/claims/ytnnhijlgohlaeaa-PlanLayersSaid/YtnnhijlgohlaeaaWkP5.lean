/- The Go functions come to what the plain functions tell. No condition. -/
import Derived.Test.YtnnhijlgohlaeaaProg
import Derived.Test.YtnnhijlgohlaeaaFnP
import Derived.Test.YtnnhijlgohlaeaaWkP0
import Derived.Test.YtnnhijlgohlaeaaWkP1
import Derived.Test.YtnnhijlgohlaeaaWkP2
import Derived.Test.YtnnhijlgohlaeaaWkP3
import Derived.Test.YtnnhijlgohlaeaaWkP4
import Derived.Test.YtnnhijlgohlaeaaExMap
import Derived.Test.YtnnhijlgohlaeaaExOwn
namespace Go.Proofs.Ytnnhijlgohlaeaa.P
open Go Go.RowKit Go.Proofs.Ytnnhijlgohlaeaa.Sx
set_option linter.unusedVariables false
set_option maxHeartbeats 4000000
set_option maxRecDepth 100000
theorem tourref3_Longest_1_okK : ∀ (k_ : Nat) (w0 w : World) (cs : List Chunk) (F : Nat → Prop) (W : World) (i : Int) (b_p1 : Nat) (b_p1_0 : Nat) (es_p1_0 : Array MapEntry) (ck_p1_0 : Nat) (p1_0 : List (Int × (List Int))) (b_p2 : Nat) (A_p2_0 : Option Addr) (c_p2_0 : Nat) (p2_0 : List api_System) (b_p3 : Nat) (hM0 : Mem w0 (.blk b_p1 [.map (some b_p1_0)] 154 :: .obj b_p1_0 (.map es_p1_0 ck_p1_0) :: .blk b_p2 [sl A_p2_0 p2_0 c_p2_0] 22 :: .blk b_p3 [.func (.func 97) #[] #[vP b_p1 0, vP b_p2 0, vP b_p3 0]] 155 :: Fz F W :: cs) w) (h_p1_0 : MapOK (fun x_ : Int => Value.int .i64 x_) (Rep.sl (Rep.int .i64)) false F W p1_0 es_p1_0 ck_p1_0) (h_p2_0 : RdS R_api_System F W A_p2_0 c_p2_0 p2_0) (l7003 : List Int) (l7007 : List (Int × (List Int))) (hp : fixK tourref3_Longest_1_s k_ (i, p1_0, p2_0) = some (l7003, l7007)), Calls Try.prog 97 #[vI i, vP b_p1 0, vP b_p2 0, vP b_p3 0] w fun e w' => ∃ (A7001 : Option Addr), ∃ (c7002 : Nat), ∃ (es7005 : Array MapEntry), ∃ (ck7006 : Nat), ∃ (F7010 : Nat → Prop), ∃ (W7011 : World), ((RdS (Rep.int .i64) F7010 W7011 A7001 c7002 l7003) ∧ (MapOK (fun x_ : Int => Value.int .i64 x_) (Rep.sl (Rep.int .i64)) false F7010 W7011 l7007 es7005 ck7006) ∧ (RdS R_api_System F7010 W7011 A_p2_0 c_p2_0 p2_0) ∧ (Ext w0 F W F7010 W7011)) ∧ e = .returned (sl A7001 l7003 c7002) ∧ Mem w0 (.blk b_p1 [.map (some b_p1_0)] 154 :: .obj b_p1_0 (.map es7005 ck7006) :: .blk b_p2 [sl A_p2_0 p2_0 c_p2_0] 22 :: .blk b_p3 [.func (.func 97) #[] #[vP b_p1 0, vP b_p2 0, vP b_p3 0]] 155 :: Fz F7010 W7011 :: cs) w' := by
 intro k_
 induction k_ with
 | zero => intro w0 w cs F W i b_p1 b_p1_0 es_p1_0 ck_p1_0 p1_0 b_p2 A_p2_0 c_p2_0 p2_0 b_p3 hM0 h_p1_0 h_p2_0 l7003 l7007 hp; exact nomatch (show (none : Option ((List Int) × (List (Int × (List Int))))) = some (l7003, l7007) from hp)
 | succ k_ ih_ =>
  intro w0 w cs F W i b_p1 b_p1_0 es_p1_0 ck_p1_0 p1_0 b_p2 A_p2_0 c_p2_0 p2_0 b_p3 hM0 h_p1_0 h_p2_0 l7003 l7007 hp
  obtain ⟨self_, hself_⟩ : ∃ f_ : Int → (List (Int × (List Int))) → (List api_System) → Option ((List Int) × (List (Int × (List Int)))), f_ = fun i p1_0 p2_0 => fixK tourref3_Longest_1_s k_ (i, p1_0, p2_0) := ⟨_, rfl⟩
  have hp : tourref3_Longest_1_b self_ i p1_0 p2_0 = some (l7003, l7007) := by rw [hself_]; exact hp
  unfold tourref3_Longest_1_b at hp
  refine sx_calls Try.func97 rfl (n := 59) (by kernel_rfl) (l := [(0, vI i), (1, vP b_p1 0), (2, vP b_p2 0), (3, vP b_p3 0)]) rfl (by rfl) hM0 ?_
  refine st_seq (st_region [oF 0] (by rfl) ?_)
  refine oQ [oF 0] [(0, vI i), (1, vP b_p1 0), (2, vP b_p2 0), (3, vP b_p3 0)] (by kernel_rfl) ?_
  refine ops_nil (fin_then (st_seq (st_seq (st_region [oF 0, oF 1, oF 2, oF 3, oF 4, oF 5, oF 6, oF 7] (by rfl) ?_))))
  refine ops_mem (d := some 12) (an := [.v (.map (some b_p1_0))]) (evs := [ld b_p1 0 (.map (some b_p1_0))]) (v := .map (some b_p1_0)) ⟨by kernel_rfl⟩ (fun w_ hM hS => ⟨w_, ⟨hM.cell 0 rfl rfl, rfl⟩, hM, trivial⟩) ?_
  refine oQ [oF 1] [(13, vI i), (12, .map (some b_p1_0)), (0, vI i), (1, vP b_p1 0), (2, vP b_p2 0), (3, vP b_p3 0)] (by kernel_rfl) ?_
  obtain ⟨x1, hv2, hp⟩ := obind hp
  obtain ⟨vs3, hr4, hrun5⟩ := h_p1_0.get (KeyLaw.int Try.underlying3) Try.underlying154 i ([] : List Int) ((slrd (RdS.empty _))) (fun u_ => Try.zeroValue26 u_)
  have hr4 : (Rep.sl (Rep.int .i64)).rd F W x1 vs3 := by rw [← Option.some.inj hv2]; exact hr4
  obtain ⟨A6, c7, rfl, h8⟩ := hr4
  refine ops_law (op := (.lookup 154 (.tmp 12) (.tmp 13) true)) (d := some 14) (σ := Unit) (v := fun _ => .tuple #[sl A6 x1 c7, .bool ((mget p1_0 i).isSome)]) (M' := fun _ => Mem w0 (.blk b_p1 [.map (some b_p1_0)] 154 :: .obj b_p1_0 (.map es_p1_0 ck_p1_0) :: .blk b_p2 [sl A_p2_0 p2_0 c_p2_0] 22 :: .blk b_p3 [.func (.func 97) #[] #[vP b_p1 0, vP b_p2 0, vP b_p3 0]] 155 :: Fz F W :: cs)) ⟨by kernel_rfl⟩ (fun o_ w_ ho_ hM hS => ⟨(), w_, run_lookupV rfl rfl (hrun5 true b_p1_0 w_ (hM.mapAt 1 rfl)) o_ ho_, hM, trivial⟩) (fun _ => ?_)
  refine oQ [oF 3, oF 4, oF 5, oF 6, oF 7] [(7, .bool ((mget p1_0 i).isSome)), (6, sl A6 x1 c7), (0, vI i), (1, vP b_p1 0), (2, vP b_p2 0), (3, vP b_p3 0)] (by kernel_rfl) ?_
  refine ops_nil (fin_then (st_seq (st_region [oF 0] (by rfl) ?_)))
  refine oQ [oF 0] [(17, .bool ((mget p1_0 i).isSome)), (6, sl A6 x1 c7), (0, vI i), (1, vP b_p1 0), (2, vP b_p2 0), (3, vP b_p3 0)] (by kernel_rfl) ?_
  refine ops_nil (fin_then ?_)
  refine st_if (b := (mget p1_0 i).isSome) rfl (fun hc9 => ?_) (fun hc9 => ?_)
  ·
   have hp := cnd_t hc9 hp
   refine st_seq (st_region [oF 0, oF 1] (by rfl) ?_)
   refine oQ [oF 0, oF 1] [(5, sl A6 x1 c7)] (by kernel_rfl) ?_
   refine ops_nil (fin_then (st_ret (fin_ret_then ?_)))
   refine fin_conv (l' := [(5, sl A6 x1 c7)]) (M' := Mem w0 (.blk b_p1 [.map (some b_p1_0)] 154 :: .obj b_p1_0 (.map es_p1_0 ck_p1_0) :: .blk b_p2 [sl A_p2_0 p2_0 c_p2_0] 22 :: .blk b_p3 [.func (.func 97) #[] #[vP b_p1 0, vP b_p2 0, vP b_p3 0]] 155 :: Fz F W :: cs)) rfl (fun _ h => h) ?_
   have hq_ := Option.some.inj hp
   obtain ⟨hr0_, hq_⟩ := Prod.mk.inj hq_
   have hr1_ := hq_
   subst hr0_
   subst hr1_
   refine fin_ret [.tmp 5] [sl A6 x1 c7] rfl rfl (fun w_ hM => (.tmp rfl .nil)) (fun w_ hM => ?_)
   exact ⟨A6, c7, es_p1_0, ck_p1_0, F, W, ⟨h8, h_p1_0, h_p2_0, (Ext.refl _ _ _)⟩, rfl, hM⟩
  ·
   have hp := cnd_f hc9 hp
   refine st_skip (fin_then (st_seq (st_region [oF 0] (by rfl) ?_)))
   refine oQ [oF 0] [(8, .slice none 0 0), (0, vI i), (1, vP b_p1 0), (2, vP b_p2 0), (3, vP b_p3 0)] (by kernel_rfl) ?_
   refine ops_nil (fin_then ?_)
   refine st_join1 (σ := (Array MapEntry) × Nat × (List (Int × (List Int))) × (Option Addr) × Nat × (List Int) × (Nat → Prop) × World) (L := fun x_ => match x_ with | (es10, ck11, l12, A14, c15, l16, F19, W20) => [(0, vI i), (1, vP b_p1 0), (8, sl A14 l16 c15)]) (N := fun x_ => match x_ with | (es10, ck11, l12, A14, c15, l16, F19, W20) => Mem w0 (.blk b_p1 [.map (some b_p1_0)] 154 :: .obj b_p1_0 (.map es10 ck11) :: .blk b_p2 [sl A_p2_0 p2_0 c_p2_0] 22 :: .blk b_p3 [.func (.func 97) #[] #[vP b_p1 0, vP b_p2 0, vP b_p3 0]] 155 :: Fz F19 W20 :: cs)) (I := fun x_ => match x_ with | (es10, ck11, l12, A14, c15, l16, F19, W20) => ((tourref3_Longest_1_j1 i) l12 l16 = some (l7003, l7007)) ∧ (MapOK (fun x_ : Int => Value.int .i64 x_) (Rep.sl (Rep.int .i64)) false F19 W20 l12 es10 ck11) ∧ (RdS (Rep.int .i64) F19 W20 A14 c15 l16) ∧ (RdS R_api_System F19 W20 A_p2_0 c_p2_0 p2_0) ∧ (Ext w0 F W F19 W20)) ?_ ?_
   ·
    rintro ⟨es10, ck11, l12, A14, c15, l16, F19, W20⟩ ⟨hp, h13, h17, h18, hx1⟩
    unfold tourref3_Longest_1_j1 at hp
    refine st_join1 (σ := (Option Addr) × Nat × (List Int) × (Nat → Prop) × World) (L := fun x_ => match x_ with | (A21, c22, l23, F25, W26) => [(0, vI i), (1, vP b_p1 0), (8, sl A21 l23 c22)]) (N := fun x_ => match x_ with | (A21, c22, l23, F25, W26) => Mem w0 (.blk b_p1 [.map (some b_p1_0)] 154 :: .obj b_p1_0 (.map es10 ck11) :: .blk b_p2 [sl A_p2_0 p2_0 c_p2_0] 22 :: .blk b_p3 [.func (.func 97) #[] #[vP b_p1 0, vP b_p2 0, vP b_p3 0]] 155 :: Fz F25 W26 :: cs)) (I := fun x_ => match x_ with | (A21, c22, l23, F25, W26) => ((tourref3_Longest_1_j2 l12 i) l23 = some (l7003, l7007)) ∧ (RdS (Rep.int .i64) F25 W26 A21 c22 l23) ∧ (Ext w0 F19 W20 F25 W26)) ?_ ?_
    ·
     rintro ⟨A21, c22, l23, F25, W26⟩ ⟨hp, h24, hx2⟩
     have h13 := h13.ext hx2
     have h18 := h18.ext hx2
     unfold tourref3_Longest_1_j2 at hp
     refine st_seq (st_region [oF 0, oF 1, oF 2, oF 3] (by rfl) ?_)
     refine ops_mem (d := some 55) (an := [.v (.map (some b_p1_0))]) (evs := [ld b_p1 0 (.map (some b_p1_0))]) (v := .map (some b_p1_0)) ⟨by kernel_rfl⟩ (fun w_ hM hS => ⟨w_, ⟨hM.cell 0 rfl rfl, rfl⟩, hM, trivial⟩) ?_
     refine oQ [oF 1, oF 2] [(57, sl A21 l23 c22), (56, vI i), (55, .map (some b_p1_0)), (8, sl A21 l23 c22)] (by kernel_rfl) ?_
     obtain ⟨l27, hv28, hp⟩ := obind hp
     obtain ⟨es29, ck30, h31, hrun32⟩ := MapOK.update h13 (KeyLaw.int Try.underlying3) Try.underlying154 i (v := l23) (vs := [sl A21 l23 c22]) ((slrd h24))
     rw [Option.some.inj hv28] at h31
     refine ops_unit (op := (.mapUpdate 154 (.tmp 55) (.tmp 56) (.tmp 57))) (σ := Unit) (M' := fun _ => Mem w0 (.blk b_p1 [.map (some b_p1_0)] 154 :: .obj b_p1_0 (.map es29 ck30) :: .blk b_p2 [sl A_p2_0 p2_0 c_p2_0] 22 :: .blk b_p3 [.func (.func 97) #[] #[vP b_p1 0, vP b_p2 0, vP b_p3 0]] 155 :: Fz F25 W26 :: cs)) ⟨by kernel_rfl⟩ (fun o_ w_ ho_ hM hS => have h' := hM.setObj 1 rfl _; ⟨(), _, run_updateV rfl rfl rfl (hrun32 b_p1_0 w_ (hM.mapAt 1 rfl)) o_ ho_, h', trivial⟩) (fun _ => ?_)
     refine ops_nil (fin_then (st_seq (st_region [oF 0, oF 1] (by rfl) ?_)))
     refine oQ [oF 0, oF 1] [(5, sl A21 l23 c22)] (by kernel_rfl) ?_
     refine ops_nil (fin_then (st_ret ?_))
     refine fin_conv (l' := [(5, sl A21 l23 c22)]) (M' := Mem w0 (.blk b_p1 [.map (some b_p1_0)] 154 :: .obj b_p1_0 (.map es29 ck30) :: .blk b_p2 [sl A_p2_0 p2_0 c_p2_0] 22 :: .blk b_p3 [.func (.func 97) #[] #[vP b_p1 0, vP b_p2 0, vP b_p3 0]] 155 :: Fz F25 W26 :: cs)) rfl (fun _ h => h) ?_
     have hq_ := Option.some.inj hp
     obtain ⟨hr0_, hq_⟩ := Prod.mk.inj hq_
     have hr1_ := hq_
     subst hr0_
     subst hr1_
     refine fin_ret [.tmp 5] [sl A21 l23 c22] rfl rfl (fun w_ hM => (.tmp rfl .nil)) (fun w_ hM => ?_)
     exact ⟨A21, c22, es29, ck30, F25, W26, ⟨h24, h31, h18, (hx1.trans hx2)⟩, rfl, hM⟩
    ·
     intro HJ2
     refine st_seq (st_seq (st_region [oF 0, oF 1] (by rfl) ?_))
     refine oQ [oF 0, oF 1] [(50, .bool (decide (0 ≤ i))), (0, vI i), (1, vP b_p1 0), (8, sl A14 l16 c15)] (by kernel_rfl) ?_
     refine ops_nil (fin_then ?_)
     refine st_if (b := decide (0 ≤ i)) rfl (fun hc33 => ?_) (fun hc33 => ?_)
     ·
      have hp := cnd_t hc33 hp
      refine st_region [oF 0, oF 1, oF 2, oF 3, oF 4] (by rfl) ?_
      refine oQ [oF 0] [(51, vI i), (0, vI i), (1, vP b_p1 0), (8, sl A14 l16 c15)] (by kernel_rfl) ?_
      have h34 : RepL (Rep.int .i64) F19 W20 ([i] : List Int) ([vI i]) := (RepL.cons (R := (Rep.int .i64)) (F := F19) (w := W20) (vs := [vI i]) (ys := []) rfl RepL.nil)
      refine ops_new (d := some 52) (o := .cells ([vI i]).toArray 3) (v := fun g35 => .slice (sa g35) ([i] : List Int).length 1) (M' := fun g35 => Mem w0 (orow (sa g35) ([i] : List Int).length 1 3 1 ([vI i]) :: .blk b_p1 [.map (some b_p1_0)] 154 :: .obj b_p1_0 (.map es10 ck11) :: .blk b_p2 [sl A_p2_0 p2_0 c_p2_0] 22 :: .blk b_p3 [.func (.func 97) #[] #[vP b_p1 0, vP b_p2 0, vP b_p3 0]] 155 :: Fz F19 W20 :: cs)) (fun g35 => ⟨by kernel_rfl⟩) (fun w_ hM hS => ⟨hM.onew [vI i] 3 1 1 rfl (by decide), trivial⟩) (fun g35 => ?_)
      refine oQ [oF 2] [(53, sl A14 l16 c15), (52, .slice (sa g35) ([i] : List Int).length 1), (0, vI i), (1, vP b_p1 0), (8, sl A14 l16 c15)] (by kernel_rfl) ?_
      obtain ⟨l36, hv37, hp⟩ := obind hp
      obtain ⟨he38, hb39⟩ := app_some hv37
      obtain ⟨y43, h44, hs45⟩ := RdS.src h17
      obtain ⟨y40, hy41⟩ : ∃ y_, ([vI i]) ++ y43 = y_ := ⟨_, rfl⟩
      have h42 : RepL (Rep.int .i64) F19 W20 l36 y40 := by rw [he38, ← hy41]; exact RepL.app h34 h44
      refine ops_appendO (x := (Go.Operand.tmp 52)) (y := (Go.Operand.tmp 53)) (t := 26) (e := 3) (d := some 54) (n' := l36.length) (z := 1) (m := l16.length) (bytes := 8) (xs' := y40) (news := y43) (zv := vI 0) 0 ⟨by kernel_rfl⟩ rfl rfl Try.underlying26 (by kernel_rfl) (by rfl) rfl (fun w_ hM => hM.srcS 5 rfl h44 hs45) h44.len h44.one hb39 (by have z_ := congrArg List.length he38; rw [List.length_append] at z_; exact z_.symm) hy41 (fun _ _ _ _ hS h' => trivial) ?_
      rintro ⟨A46, c47⟩
      refine oQ [oF 4] [(8, sl A46 l36 c47), (0, vI i), (1, vP b_p1 0)] (by kernel_rfl) ?_
      refine ops_nil ?_
      refine fin_ex (σ := (Nat → Prop) × World) (I := fun x_ => Ext w0 F19 W20 x_.1 x_.2 ∧ RdS (Rep.int .i64) x_.1 x_.2 A46 c47 l36) (M' := fun x_ => Mem w0 (.blk b_p1 [.map (some b_p1_0)] 154 :: .obj b_p1_0 (.map es10 ck11) :: .blk b_p2 [sl A_p2_0 p2_0 c_p2_0] 22 :: .blk b_p3 [.func (.func 97) #[] #[vP b_p1 0, vP b_p2 0, vP b_p3 0]] 155 :: Fz x_.1 x_.2 :: cs)) (fun w_ hM => ?_) ?_
      · obtain ⟨F_, h1_, h2_, h3_⟩ := (hM.pick 6 [0, 5, 1, 2, 3, 4] (by kernel_rfl) (by decide) rfl : Mem w0 (ow A46 l36 c47 3 1 y40 :: Fz F19 W20 :: .blk b_p1 [.map (some b_p1_0)] 154 :: .obj b_p1_0 (.map es10 ck11) :: .blk b_p2 [sl A_p2_0 p2_0 c_p2_0] 22 :: .blk b_p3 [.func (.func 97) #[] #[vP b_p1 0, vP b_p2 0, vP b_p3 0]] 155 :: cs) w_).freeze (z := 1) h42 rfl rfl
        exact ⟨(F_, w_), ⟨h1_, h2_⟩, h3_.pick 5 [1, 2, 3, 4, 0] (by kernel_rfl) (by decide) rfl⟩
      rintro ⟨F48, W49⟩ ⟨hx50, h51⟩
      have hx50 : Ext w0 F19 W20 F48 W49 := hx50
      have h51 : RdS (Rep.int .i64) F48 W49 A46 c47 l36 := h51
      have h13 := h13.ext hx50
      have h18 := h18.ext hx50
      refine fin_conv (l' := [(8, sl A46 l36 c47), (0, vI i), (1, vP b_p1 0)]) (M' := Mem w0 (.blk b_p1 [.map (some b_p1_0)] 154 :: .obj b_p1_0 (.map es10 ck11) :: .blk b_p2 [sl A_p2_0 p2_0 c_p2_0] 22 :: .blk b_p3 [.func (.func 97) #[] #[vP b_p1 0, vP b_p2 0, vP b_p3 0]] 155 :: Fz F48 W49 :: cs)) rfl (fun _ h => h) ?_
      refine fin_conv (l' := [(8, sl A46 l36 c47), (0, vI i), (1, vP b_p1 0)]) (M' := Mem w0 (.blk b_p1 [.map (some b_p1_0)] 154 :: .obj b_p1_0 (.map es10 ck11) :: .blk b_p2 [sl A_p2_0 p2_0 c_p2_0] 22 :: .blk b_p3 [.func (.func 97) #[] #[vP b_p1 0, vP b_p2 0, vP b_p3 0]] 155 :: Fz F48 W49 :: cs)) rfl (fun _ h => h) ?_
      exact fin_join HJ2 (A46, c47, l36, F48, W49) ⟨hp, h51, hx50⟩ (look_has ⟨rfl, rfl, rfl, trivial⟩) (fun w_ hM => hM)
     ·
      have hp := cnd_f hc33 hp
      refine st_skip ?_
      refine fin_conv (l' := [(50, .bool (decide (0 ≤ i))), (0, vI i), (1, vP b_p1 0), (8, sl A14 l16 c15)]) (M' := Mem w0 (.blk b_p1 [.map (some b_p1_0)] 154 :: .obj b_p1_0 (.map es10 ck11) :: .blk b_p2 [sl A_p2_0 p2_0 c_p2_0] 22 :: .blk b_p3 [.func (.func 97) #[] #[vP b_p1 0, vP b_p2 0, vP b_p3 0]] 155 :: Fz F19 W20 :: cs)) rfl (fun _ h => h) ?_
      exact fin_join HJ2 (A14, c15, l16, F19, W20) ⟨hp, h17, (Ext.refl _ _ _)⟩ (look_has ⟨rfl, rfl, rfl, trivial⟩) (fun w_ hM => hM)
   ·
    intro HJ1
    refine st_seq (st_seq (st_region [oF 0, oF 1, oF 2] (by rfl) ?_))
    refine oQ [oF 0, oF 1, oF 2] [(9, vI (IntKind.i64.wrap (i + 1))), (8, .slice none 0 0), (0, vI i), (1, vP b_p1 0), (2, vP b_p2 0), (3, vP b_p3 0)] (by kernel_rfl) ?_
    refine ops_nil (fin_then (st_block ?_))
    obtain ⟨r3, hl3, hk3⟩ := obind hp
    refine st_loopP (σ := (List (Int × (List Int))) × (List Int) × Int) (ρ := (List (Int × (List Int))) × (List Int)) (γ := (Array MapEntry) × Nat × (Option Addr) × Nat × (Nat → Prop) × World) hl3 (es_p1_0, ck_p1_0, none, 0, F, W) (fun s_ g_ => match s_, g_ with | (l54, l59, i61), (es52, ck53, A57, c58, F62, W63) => [(0, vI i), (1, vP b_p1 0), (2, vP b_p2 0), (3, vP b_p3 0), (8, sl A57 l59 c58), (9, vI i61)]) (fun s_ g_ => match s_, g_ with | (l54, l59, i61), (es52, ck53, A57, c58, F62, W63) => Mem w0 (.blk b_p1 [.map (some b_p1_0)] 154 :: .obj b_p1_0 (.map es52 ck53) :: .blk b_p2 [sl A_p2_0 p2_0 c_p2_0] 22 :: .blk b_p3 [.func (.func 97) #[] #[vP b_p1 0, vP b_p2 0, vP b_p3 0]] 155 :: Fz F62 W63 :: cs)) (fun s_ g_ => match s_, g_ with | (l54, l59, i61), (es52, ck53, A57, c58, F62, W63) => (MapOK (fun x_ : Int => Value.int .i64 x_) (Rep.sl (Rep.int .i64)) false F62 W63 l54 es52 ck53) ∧ (RdS R_api_System F62 W63 A_p2_0 c_p2_0 p2_0) ∧ (RdS (Rep.int .i64) F62 W63 A57 c58 l59) ∧ (Ext w0 F W F62 W63)) ⟨h_p1_0, h_p2_0, (RdS.empty _), (Ext.refl _ _ _)⟩ (look_has ⟨rfl, rfl, rfl, rfl, rfl, rfl, trivial⟩) (fun w_ hM => hM) ?_
    rintro ⟨l54, l59, i61⟩ ⟨es52, ck53, A57, c58, F62, W63⟩ o3 ⟨h55, h56, h60, hx3⟩ hs_ hd3
    have hp : (tourref3_Longest_1_l3 p2_0 i self_) l54 l59 i61 = some o3 := hs_
    clear hs_
    unfold tourref3_Longest_1_l3 at hp
    refine st_seq (st_seq (st_region [oF 0, oF 1, oF 2, oF 3] (by rfl) ?_))
    refine oQ [oF 0] [(21, vI i61), (0, vI i), (1, vP b_p1 0), (2, vP b_p2 0), (3, vP b_p3 0), (8, sl A57 l59 c58), (9, vI i61)] (by kernel_rfl) ?_
    refine ops_mem (d := some 22) (an := [.v (sl A_p2_0 p2_0 c_p2_0)]) (evs := [ld b_p2 0 (sl A_p2_0 p2_0 c_p2_0)]) (v := sl A_p2_0 p2_0 c_p2_0) ⟨by kernel_rfl⟩ (fun w_ hM hS => ⟨w_, ⟨hM.cell 2 rfl rfl, rfl⟩, hM, trivial⟩) ?_
    refine oQ [oF 2, oF 3] [(24, .bool (decide (i61 < (p2_0.length : Int)))), (0, vI i), (1, vP b_p1 0), (2, vP b_p2 0), (3, vP b_p3 0), (8, sl A57 l59 c58), (9, vI i61)] (by kernel_rfl) ?_
    refine ops_nil (fin_then ?_)
    refine st_if (b := decide (i61 < (p2_0.length : Int))) rfl (fun hc64 => ?_) (fun hc64 => ?_)
    ·
     have hp := cnd_t hc64 hp
     refine st_skip (fin_then ?_)
     refine st_join1 (σ := (Array MapEntry) × Nat × (List (Int × (List Int))) × (Option Addr) × Nat × (List Int) × (Nat → Prop) × World) (L := fun x_ => match x_ with | (es65, ck66, l67, A70, c71, l72, F74, W75) => [(0, vI i), (1, vP b_p1 0), (2, vP b_p2 0), (3, vP b_p3 0), (8, sl A70 l72 c71), (9, vI i61)]) (N := fun x_ => match x_ with | (es65, ck66, l67, A70, c71, l72, F74, W75) => Mem w0 (.blk b_p1 [.map (some b_p1_0)] 154 :: .obj b_p1_0 (.map es65 ck66) :: .blk b_p2 [sl A_p2_0 p2_0 c_p2_0] 22 :: .blk b_p3 [.func (.func 97) #[] #[vP b_p1 0, vP b_p2 0, vP b_p3 0]] 155 :: Fz F74 W75 :: cs)) (I := fun x_ => match x_ with | (es65, ck66, l67, A70, c71, l72, F74, W75) => ((tourref3_Longest_1_j4 i61) l67 l72 = some o3) ∧ (MapOK (fun x_ : Int => Value.int .i64 x_) (Rep.sl (Rep.int .i64)) false F74 W75 l67 es65 ck66) ∧ (RdS R_api_System F74 W75 A_p2_0 c_p2_0 p2_0) ∧ (RdS (Rep.int .i64) F74 W75 A70 c71 l72) ∧ (Ext w0 F62 W63 F74 W75)) ?_ ?_
     ·
      rintro ⟨es65, ck66, l67, A70, c71, l72, F74, W75⟩ ⟨hp, h68, h69, h73, hx4⟩
      unfold tourref3_Longest_1_j4 at hp
      refine st_region [oF 0, oF 1, oF 2] (by rfl) ?_
      refine oQ [oF 0, oF 1, oF 2] [(9, vI (IntKind.i64.wrap (i61 + 1))), (0, vI i), (1, vP b_p1 0), (2, vP b_p2 0), (3, vP b_p3 0), (8, sl A70 l72 c71)] (by kernel_rfl) ?_
      refine ops_nil ?_
      refine fin_conv (l' := [(9, vI (IntKind.i64.wrap (i61 + 1))), (0, vI i), (1, vP b_p1 0), (2, vP b_p2 0), (3, vP b_p3 0), (8, sl A70 l72 c71)]) (M' := Mem w0 (.blk b_p1 [.map (some b_p1_0)] 154 :: .obj b_p1_0 (.map es65 ck66) :: .blk b_p2 [sl A_p2_0 p2_0 c_p2_0] 22 :: .blk b_p3 [.func (.func 97) #[] #[vP b_p1 0, vP b_p2 0, vP b_p3 0]] 155 :: Fz F74 W75 :: cs)) rfl (fun _ h => h) ?_
      exact fin_again (l67, l72, IntKind.i64.wrap (i61 + 1)) (es65, ck66, A70, c71, F74, W75) (Option.some.inj hp).symm ⟨h68, h69, h73, (hx3.trans hx4)⟩ (look_has ⟨rfl, rfl, rfl, rfl, rfl, rfl, trivial⟩) (fun w_ hM => hM)
     ·
      intro HJ4
      refine st_seq (st_block (st_seq ?_))
      refine st_region_draw [oT 0, oT 1, oT 2, oT 3, oT 4, oT 5, oT 6, oT 7, oT 8, oT 9, oT 10, oF 11, oT 12] (Mem w0 (.blk b_p1 [.map (some b_p1_0)] 154 :: .obj b_p1_0 (.map es52 ck53) :: .blk b_p2 [sl A_p2_0 p2_0 c_p2_0] 22 :: .blk b_p3 [.func (.func 97) #[] #[vP b_p1 0, vP b_p2 0, vP b_p3 0]] 155 :: Fz F62 W63 :: cs)) (by kernel_rfl) (by kernel_rfl) (by kernel_rfl) (fun _ d _ _ _ h => by cases d <;> exact h) (M' := Mem w0 (.blk b_p1 [.map (some b_p1_0)] 154 :: .obj b_p1_0 (.map es52 ck53) :: .blk b_p2 [sl A_p2_0 p2_0 c_p2_0] 22 :: .blk b_p3 [.func (.func 97) #[] #[vP b_p1 0, vP b_p2 0, vP b_p3 0]] 155 :: Fz F62 W63 :: cs)) (fun w_ hM => ⟨hM.drew, hM.drew.sub (.cons_cons _ (.cons_cons _ (.cons_cons _ (.cons_cons _ (.cons_cons _ (.refl _))))))⟩) ?_
      refine oQ [oT 0, oT 1, oT 2] [(29, .bool (decide (i < 0))), (0, vI i), (1, vP b_p1 0), (2, vP b_p2 0), (3, vP b_p3 0), (8, sl A57 l59 c58), (9, vI i61)] (by kernel_rfl) ?_
      refine ops_bool (t := decide (i < 0)) (l1 := [(29, .bool true), (0, vI i), (1, vP b_p1 0), (2, vP b_p2 0), (3, vP b_p3 0), (8, sl A57 l59 c58), (9, vI i61)]) (l2 := [(29, .bool false), (0, vI i), (1, vP b_p1 0), (2, vP b_p2 0), (3, vP b_p3 0), (8, sl A57 l59 c58), (9, vI i61)]) (fun h => by rw [h]) (fun h => by rw [h]) (fun hc76 => ?_) (fun hc76 => ?_)
      ·
       have hp := cnd_t hc76 hp
       refine oQ [oT 3, oT 4, oT 5, oT 6, oT 7, oT 8, oT 9, oT 10, oF 11, oT 12] [(39, .bool true), (0, vI i), (1, vP b_p1 0), (2, vP b_p2 0), (3, vP b_p3 0), (8, sl A57 l59 c58), (9, vI i61)] (by kernel_rfl) ?_
       refine ops_nil (fin_then (st_true rfl (st_seq (st_region [oF 0, oF 1, oF 2, oF 3] (by rfl) ?_))))
       refine ops_mem (d := some 40) (an := [.v (.func (.func 97) #[] #[vP b_p1 0, vP b_p2 0, vP b_p3 0])]) (evs := [ld b_p3 0 (.func (.func 97) #[] #[vP b_p1 0, vP b_p2 0, vP b_p3 0])]) (v := .func (.func 97) #[] #[vP b_p1 0, vP b_p2 0, vP b_p3 0]) ⟨by kernel_rfl⟩ (fun w_ hM hS => ⟨w_, ⟨hM.cell 3 rfl rfl, rfl⟩, hM, trivial⟩) ?_
       refine oQ [oF 1] [(41, vI i61), (40, .func (.func 97) #[] #[vP b_p1 0, vP b_p2 0, vP b_p3 0]), (0, vI i), (1, vP b_p1 0), (2, vP b_p2 0), (3, vP b_p3 0), (8, sl A57 l59 c58), (9, vI i61)] (by kernel_rfl) ?_
       obtain ⟨x77, x78, hv79, hp⟩ := obind2 hp
       rw [hself_] at hv79
       refine ops_callI (σ := (Option Addr) × Nat × (Array MapEntry) × Nat × (Nat → Prop) × World) (d := some 42) (f := 97) (args := #[vI i61, vP b_p1 0, vP b_p2 0, vP b_p3 0]) (v := (fun x_ => match x_ with | (A80, c81, es82, ck83, F84, W85) => sl A80 x77 c81)) (I := (fun x_ => match x_ with | (A80, c81, es82, ck83, F84, W85) => (RdS (Rep.int .i64) F84 W85 A80 c81 x77) ∧ (MapOK (fun x_ : Int => Value.int .i64 x_) (Rep.sl (Rep.int .i64)) false F84 W85 x78 es82 ck83) ∧ (RdS R_api_System F84 W85 A_p2_0 c_p2_0 p2_0) ∧ (Ext w0 F62 W63 F84 W85))) (M' := (fun x_ => match x_ with | (A80, c81, es82, ck83, F84, W85) => Mem w0 (.blk b_p1 [.map (some b_p1_0)] 154 :: .obj b_p1_0 (.map es82 ck83) :: .blk b_p2 [sl A_p2_0 p2_0 c_p2_0] 22 :: .blk b_p3 [.func (.func 97) #[] #[vP b_p1 0, vP b_p2 0, vP b_p3 0]] 155 :: Fz F84 W85 :: cs))) ⟨by kernel_rfl⟩ (fun w_ hM hS => (ih_ w0 w_ (cs) F62 W63 i61 b_p1 b_p1_0 es52 ck53 l54 b_p2 A_p2_0 c_p2_0 p2_0 b_p3 hM h55 h56 x77 x78 hv79).mono (by rintro e w' ⟨A80, c81, es82, ck83, F84, W85, ⟨h86, h87, h88, h89⟩, rfl, h'⟩; have h' : Mem w0 (.blk b_p1 [.map (some b_p1_0)] 154 :: .obj b_p1_0 (.map es82 ck83) :: .blk b_p2 [sl A_p2_0 p2_0 c_p2_0] 22 :: .blk b_p3 [.func (.func 97) #[] #[vP b_p1 0, vP b_p2 0, vP b_p3 0]] 155 :: Fz F84 W85 :: cs) w' := h'; exact ⟨(A80, c81, es82, ck83, F84, W85), ⟨h86, h87, h88, h89⟩, rfl, h', trivial⟩)) ?_
       rintro ⟨A80, c81, es82, ck83, F84, W85⟩ ⟨h86, h87, h88, h89⟩
       have h60 := h60.ext h89
       refine oQ [oF 3] [(10, sl A80 x77 c81), (0, vI i), (1, vP b_p1 0), (2, vP b_p2 0), (3, vP b_p3 0), (8, sl A57 l59 c58), (9, vI i61)] (by kernel_rfl) ?_
       refine ops_nil (fin_then (st_seq (st_region [oF 0, oF 1, oF 2, oF 3, oF 4] (by rfl) ?_)))
       refine oQ [oF 0, oF 1, oF 2, oF 3, oF 4] [(47, .bool (decide ((l59.length : Int) < (x77.length : Int)))), (10, sl A80 x77 c81), (0, vI i), (1, vP b_p1 0), (2, vP b_p2 0), (3, vP b_p3 0), (8, sl A57 l59 c58), (9, vI i61)] (by kernel_rfl) ?_
       refine ops_nil (fin_then ?_)
       refine st_if (b := decide ((l59.length : Int) < (x77.length : Int))) rfl (fun hc90 => ?_) (fun hc90 => ?_)
       ·
        have hp := cnd_t hc90 hp
        refine st_region [oF 0, oF 1] (by rfl) ?_
        refine oQ [oF 0, oF 1] [(8, sl A80 x77 c81), (0, vI i), (1, vP b_p1 0), (2, vP b_p2 0), (3, vP b_p3 0), (9, vI i61)] (by kernel_rfl) ?_
        refine ops_nil (fin_block ?_)
        refine fin_conv (l' := [(8, sl A80 x77 c81), (0, vI i), (1, vP b_p1 0), (2, vP b_p2 0), (3, vP b_p3 0), (9, vI i61)]) (M' := Mem w0 (.blk b_p1 [.map (some b_p1_0)] 154 :: .obj b_p1_0 (.map es82 ck83) :: .blk b_p2 [sl A_p2_0 p2_0 c_p2_0] 22 :: .blk b_p3 [.func (.func 97) #[] #[vP b_p1 0, vP b_p2 0, vP b_p3 0]] 155 :: Fz F84 W85 :: cs)) rfl (fun _ h => h) ?_
        exact fin_join HJ4 (es82, ck83, x78, A80, c81, x77, F84, W85) ⟨hp, h87, h88, h86, h89⟩ (look_has ⟨rfl, rfl, rfl, rfl, rfl, rfl, trivial⟩) (fun w_ hM => hM)
       ·
        have hp := cnd_f hc90 hp
        refine st_skip (fin_block ?_)
        refine fin_conv (l' := [(47, .bool (decide ((l59.length : Int) < (x77.length : Int)))), (10, sl A80 x77 c81), (0, vI i), (1, vP b_p1 0), (2, vP b_p2 0), (3, vP b_p3 0), (8, sl A57 l59 c58), (9, vI i61)]) (M' := Mem w0 (.blk b_p1 [.map (some b_p1_0)] 154 :: .obj b_p1_0 (.map es82 ck83) :: .blk b_p2 [sl A_p2_0 p2_0 c_p2_0] 22 :: .blk b_p3 [.func (.func 97) #[] #[vP b_p1 0, vP b_p2 0, vP b_p3 0]] 155 :: Fz F84 W85 :: cs)) rfl (fun _ h => h) ?_
        exact fin_join HJ4 (es82, ck83, x78, A57, c58, l59, F84, W85) ⟨hp, h87, h88, h60, h89⟩ (look_has ⟨rfl, rfl, rfl, rfl, rfl, rfl, trivial⟩) (fun w_ hM => hM)
      ·
       have hp := cnd_f hc76 hp
       refine ops_load (d := some 30) (an := [.v (sl A_p2_0 p2_0 c_p2_0)]) (evs := [ld b_p2 0 (sl A_p2_0 p2_0 c_p2_0)]) (v := sl A_p2_0 p2_0 c_p2_0) ⟨by kernel_rfl⟩ (fun w_ hM => ⟨hM.cell 2 rfl rfl, rfl⟩) ?_
       refine oQ [oT 4] [(31, vI i), (30, sl A_p2_0 p2_0 c_p2_0), (29, .bool false), (0, vI i), (1, vP b_p1 0), (2, vP b_p2 0), (3, vP b_p3 0), (8, sl A57 l59 c58), (9, vI i61)] (by kernel_rfl) ?_
       obtain ⟨x91, hv92, hp⟩ := obind hp
       obtain ⟨m93, hm94, hx95⟩ := idx_some hv92
       have hl98 := (List.getElem?_eq_some_iff.1 hx95).1
       obtain ⟨ad99, vs96, hA100, hr97, hq101⟩ := RdS.el h56 hx95
       obtain ⟨A102, c103, A105, c106, A108, c109, A111, c112, A114, c115, A117, c118, rfl, h104, h107, h110, h113, h116, h119⟩ := dec_api_System hr97
       refine ops_val (op := (.indexAddr 22 (.tmp 30) (.tmp 31))) (d := some 32) (v := .pointer (some (ad99.add (m93 * 7)))) ⟨by kernel_rfl⟩ (run_indexA hA100 Try.underlying22 (z := 7) (by kernel_rfl) rfl rfl hm94 hl98) ?_
       refine ops_load (d := some 33) (an := [.v (.string x91.Name), .v (sl A102 x91.With c103), .v (sl A105 x91.Without c106), .v (sl A108 x91.Reads c109), .v (sl A111 x91.Writes c112), .v (sl A114 x91.Ops c115), .v (sl A117 x91.Spawn c118)]) (evs := [.load (ad99.add (m93 * 7)) (.string x91.Name), .load ((ad99.add (m93 * 7)).add 1) (sl A102 x91.With c103), .load ((ad99.add (m93 * 7)).add 2) (sl A105 x91.Without c106), .load ((ad99.add (m93 * 7)).add 3) (sl A108 x91.Reads c109), .load ((ad99.add (m93 * 7)).add 4) (sl A111 x91.Writes c112), .load ((ad99.add (m93 * 7)).add 5) (sl A114 x91.Ops c115), .load ((ad99.add (m93 * 7)).add 6) (sl A117 x91.Spawn c118)]) (v := .agg #[.string x91.Name, sl A102 x91.With c103, sl A105 x91.Without c106, sl A108 x91.Reads c109, sl A111 x91.Writes c112, sl A114 x91.Ops c115, sl A117 x91.Spawn c118]) ⟨by kernel_rfl⟩ (fun w_ hM => ⟨hM.elcell 4 rfl hq101 0 rfl, hM.elcell 4 rfl hq101 1 rfl, hM.elcell 4 rfl hq101 2 rfl, hM.elcell 4 rfl hq101 3 rfl, hM.elcell 4 rfl hq101 4 rfl, hM.elcell 4 rfl hq101 5 rfl, hM.elcell 4 rfl hq101 6 rfl, rfl⟩) ?_
       refine ops_load (d := some 34) (an := [.v (sl A_p2_0 p2_0 c_p2_0)]) (evs := [ld b_p2 0 (sl A_p2_0 p2_0 c_p2_0)]) (v := sl A_p2_0 p2_0 c_p2_0) ⟨by kernel_rfl⟩ (fun w_ hM => ⟨hM.cell 2 rfl rfl, rfl⟩) ?_
       refine oQ [oT 8] [(35, vI i61), (34, sl A_p2_0 p2_0 c_p2_0), (33, .agg #[.string x91.Name, sl A102 x91.With c103, sl A105 x91.Without c106, sl A108 x91.Reads c109, sl A111 x91.Writes c112, sl A114 x91.Ops c115, sl A117 x91.Spawn c118]), (29, .bool false), (0, vI i), (1, vP b_p1 0), (2, vP b_p2 0), (3, vP b_p3 0), (8, sl A57 l59 c58), (9, vI i61)] (by kernel_rfl) ?_
       obtain ⟨x120, hv121, hp⟩ := obind hp
       obtain ⟨m122, hm123, hx124⟩ := idx_some hv121
       have hl127 := (List.getElem?_eq_some_iff.1 hx124).1
       obtain ⟨ad128, vs125, hA129, hr126, hq130⟩ := RdS.el h56 hx124
       obtain ⟨A131, c132, A134, c135, A137, c138, A140, c141, A143, c144, A146, c147, rfl, h133, h136, h139, h142, h145, h148⟩ := dec_api_System hr126
       refine ops_val (op := (.indexAddr 22 (.tmp 34) (.tmp 35))) (d := some 36) (v := .pointer (some (ad128.add (m122 * 7)))) ⟨by kernel_rfl⟩ (run_indexA hA129 Try.underlying22 (z := 7) (by kernel_rfl) rfl rfl hm123 hl127) ?_
       refine ops_load (d := some 37) (an := [.v (.string x120.Name), .v (sl A131 x120.With c132), .v (sl A134 x120.Without c135), .v (sl A137 x120.Reads c138), .v (sl A140 x120.Writes c141), .v (sl A143 x120.Ops c144), .v (sl A146 x120.Spawn c147)]) (evs := [.load (ad128.add (m122 * 7)) (.string x120.Name), .load ((ad128.add (m122 * 7)).add 1) (sl A131 x120.With c132), .load ((ad128.add (m122 * 7)).add 2) (sl A134 x120.Without c135), .load ((ad128.add (m122 * 7)).add 3) (sl A137 x120.Reads c138), .load ((ad128.add (m122 * 7)).add 4) (sl A140 x120.Writes c141), .load ((ad128.add (m122 * 7)).add 5) (sl A143 x120.Ops c144), .load ((ad128.add (m122 * 7)).add 6) (sl A146 x120.Spawn c147)]) (v := .agg #[.string x120.Name, sl A131 x120.With c132, sl A134 x120.Without c135, sl A137 x120.Reads c138, sl A140 x120.Writes c141, sl A143 x120.Ops c144, sl A146 x120.Spawn c147]) ⟨by kernel_rfl⟩ (fun w_ hM => ⟨hM.elcell 4 rfl hq130 0 rfl, hM.elcell 4 rfl hq130 1 rfl, hM.elcell 4 rfl hq130 2 rfl, hM.elcell 4 rfl hq130 3 rfl, hM.elcell 4 rfl hq130 4 rfl, hM.elcell 4 rfl hq130 5 rfl, hM.elcell 4 rfl hq130 6 rfl, rfl⟩) ?_
       obtain ⟨x149, hv150, hp⟩ := obind hp
       refine ops_callI (σ := Unit) (d := some 38) (f := 26) (args := #[.agg #[.string x91.Name, sl A102 x91.With c103, sl A105 x91.Without c106, sl A108 x91.Reads c109, sl A111 x91.Writes c112, sl A114 x91.Ops c115, sl A117 x91.Spawn c118], .agg #[.string x120.Name, sl A131 x120.With c132, sl A134 x120.Without c135, sl A137 x120.Reads c138, sl A140 x120.Writes c141, sl A143 x120.Ops c144, sl A146 x120.Spawn c147]]) (v := (fun _ => .bool x149)) (I := (fun _ => True)) (M' := (fun _ => Mem w0 (.blk b_p1 [.map (some b_p1_0)] 154 :: .obj b_p1_0 (.map es52 ck53) :: .blk b_p2 [sl A_p2_0 p2_0 c_p2_0] 22 :: .blk b_p3 [.func (.func 97) #[] #[vP b_p1 0, vP b_p2 0, vP b_p3 0]] 155 :: Fz F62 W63 :: cs))) ⟨by kernel_rfl⟩ (fun w_ hM hS => (tourref3_Clash_ok w0 w_ (.blk b_p1 [.map (some b_p1_0)] 154 :: .obj b_p1_0 (.map es52 ck53) :: .blk b_p2 [sl A_p2_0 p2_0 c_p2_0] 22 :: .blk b_p3 [.func (.func 97) #[] #[vP b_p1 0, vP b_p2 0, vP b_p3 0]] 155 :: cs) F62 W63 x91.Name A102 c103 x91.With A105 c106 x91.Without A108 c109 x91.Reads A111 c112 x91.Writes A114 c115 x91.Ops A117 c118 x91.Spawn x120.Name A131 c132 x120.With A134 c135 x120.Without A137 c138 x120.Reads A140 c141 x120.Writes A143 c144 x120.Ops A146 c147 x120.Spawn (hM.pick 5 [4, 0, 1, 2, 3] (by kernel_rfl) (by decide) rfl) h104 h107 h110 h113 h116 h119 h133 h136 h139 h142 h145 h148 x149 hv150).mono (by rintro e w' ⟨-, rfl, h'⟩; have h' : Mem w0 (.blk b_p1 [.map (some b_p1_0)] 154 :: .obj b_p1_0 (.map es52 ck53) :: .blk b_p2 [sl A_p2_0 p2_0 c_p2_0] 22 :: .blk b_p3 [.func (.func 97) #[] #[vP b_p1 0, vP b_p2 0, vP b_p3 0]] 155 :: Fz F62 W63 :: cs) w' := (h'.pick 5 [1, 2, 3, 4, 0] (by kernel_rfl) (by decide) rfl); exact ⟨(), trivial, rfl, h', (by exact h'.sub (.cons_cons _ (.cons_cons _ (.cons_cons _ (.cons_cons _ (.cons_cons _ (.refl _)))))))⟩)) ?_
       rintro _ -
       refine oQ [oT 12] [(39, .bool x149), (0, vI i), (1, vP b_p1 0), (2, vP b_p2 0), (3, vP b_p3 0), (8, sl A57 l59 c58), (9, vI i61)] (by kernel_rfl) ?_
       refine ops_nil (fin_then ?_)
       refine st_if (b := x149) rfl (fun hc151 => ?_) (fun hc151 => ?_)
       ·
        have hp := cnd_t hc151 hp
        refine st_seq (st_region [oF 0, oF 1, oF 2, oF 3] (by rfl) ?_)
        refine ops_mem (d := some 40) (an := [.v (.func (.func 97) #[] #[vP b_p1 0, vP b_p2 0, vP b_p3 0])]) (evs := [ld b_p3 0 (.func (.func 97) #[] #[vP b_p1 0, vP b_p2 0, vP b_p3 0])]) (v := .func (.func 97) #[] #[vP b_p1 0, vP b_p2 0, vP b_p3 0]) ⟨by kernel_rfl⟩ (fun w_ hM hS => ⟨w_, ⟨hM.cell 3 rfl rfl, rfl⟩, hM, trivial⟩) ?_
        refine oQ [oF 1] [(41, vI i61), (40, .func (.func 97) #[] #[vP b_p1 0, vP b_p2 0, vP b_p3 0]), (0, vI i), (1, vP b_p1 0), (2, vP b_p2 0), (3, vP b_p3 0), (8, sl A57 l59 c58), (9, vI i61)] (by kernel_rfl) ?_
        obtain ⟨x152, x153, hv154, hp⟩ := obind2 hp
        rw [hself_] at hv154
        refine ops_callI (σ := (Option Addr) × Nat × (Array MapEntry) × Nat × (Nat → Prop) × World) (d := some 42) (f := 97) (args := #[vI i61, vP b_p1 0, vP b_p2 0, vP b_p3 0]) (v := (fun x_ => match x_ with | (A155, c156, es157, ck158, F159, W160) => sl A155 x152 c156)) (I := (fun x_ => match x_ with | (A155, c156, es157, ck158, F159, W160) => (RdS (Rep.int .i64) F159 W160 A155 c156 x152) ∧ (MapOK (fun x_ : Int => Value.int .i64 x_) (Rep.sl (Rep.int .i64)) false F159 W160 x153 es157 ck158) ∧ (RdS R_api_System F159 W160 A_p2_0 c_p2_0 p2_0) ∧ (Ext w0 F62 W63 F159 W160))) (M' := (fun x_ => match x_ with | (A155, c156, es157, ck158, F159, W160) => Mem w0 (.blk b_p1 [.map (some b_p1_0)] 154 :: .obj b_p1_0 (.map es157 ck158) :: .blk b_p2 [sl A_p2_0 p2_0 c_p2_0] 22 :: .blk b_p3 [.func (.func 97) #[] #[vP b_p1 0, vP b_p2 0, vP b_p3 0]] 155 :: Fz F159 W160 :: cs))) ⟨by kernel_rfl⟩ (fun w_ hM hS => (ih_ w0 w_ (cs) F62 W63 i61 b_p1 b_p1_0 es52 ck53 l54 b_p2 A_p2_0 c_p2_0 p2_0 b_p3 hM h55 h56 x152 x153 hv154).mono (by rintro e w' ⟨A155, c156, es157, ck158, F159, W160, ⟨h161, h162, h163, h164⟩, rfl, h'⟩; have h' : Mem w0 (.blk b_p1 [.map (some b_p1_0)] 154 :: .obj b_p1_0 (.map es157 ck158) :: .blk b_p2 [sl A_p2_0 p2_0 c_p2_0] 22 :: .blk b_p3 [.func (.func 97) #[] #[vP b_p1 0, vP b_p2 0, vP b_p3 0]] 155 :: Fz F159 W160 :: cs) w' := h'; exact ⟨(A155, c156, es157, ck158, F159, W160), ⟨h161, h162, h163, h164⟩, rfl, h', trivial⟩)) ?_
        rintro ⟨A155, c156, es157, ck158, F159, W160⟩ ⟨h161, h162, h163, h164⟩
        have h60 := h60.ext h164
        refine oQ [oF 3] [(10, sl A155 x152 c156), (0, vI i), (1, vP b_p1 0), (2, vP b_p2 0), (3, vP b_p3 0), (8, sl A57 l59 c58), (9, vI i61)] (by kernel_rfl) ?_
        refine ops_nil (fin_then (st_seq (st_region [oF 0, oF 1, oF 2, oF 3, oF 4] (by rfl) ?_)))
        refine oQ [oF 0, oF 1, oF 2, oF 3, oF 4] [(47, .bool (decide ((l59.length : Int) < (x152.length : Int)))), (10, sl A155 x152 c156), (0, vI i), (1, vP b_p1 0), (2, vP b_p2 0), (3, vP b_p3 0), (8, sl A57 l59 c58), (9, vI i61)] (by kernel_rfl) ?_
        refine ops_nil (fin_then ?_)
        refine st_if (b := decide ((l59.length : Int) < (x152.length : Int))) rfl (fun hc165 => ?_) (fun hc165 => ?_)
        ·
         have hp := cnd_t hc165 hp
         refine st_region [oF 0, oF 1] (by rfl) ?_
         refine oQ [oF 0, oF 1] [(8, sl A155 x152 c156), (0, vI i), (1, vP b_p1 0), (2, vP b_p2 0), (3, vP b_p3 0), (9, vI i61)] (by kernel_rfl) ?_
         refine ops_nil (fin_block ?_)
         refine fin_conv (l' := [(8, sl A155 x152 c156), (0, vI i), (1, vP b_p1 0), (2, vP b_p2 0), (3, vP b_p3 0), (9, vI i61)]) (M' := Mem w0 (.blk b_p1 [.map (some b_p1_0)] 154 :: .obj b_p1_0 (.map es157 ck158) :: .blk b_p2 [sl A_p2_0 p2_0 c_p2_0] 22 :: .blk b_p3 [.func (.func 97) #[] #[vP b_p1 0, vP b_p2 0, vP b_p3 0]] 155 :: Fz F159 W160 :: cs)) rfl (fun _ h => h) ?_
         exact fin_join HJ4 (es157, ck158, x153, A155, c156, x152, F159, W160) ⟨hp, h162, h163, h161, h164⟩ (look_has ⟨rfl, rfl, rfl, rfl, rfl, rfl, trivial⟩) (fun w_ hM => hM)
        ·
         have hp := cnd_f hc165 hp
         refine st_skip (fin_block ?_)
         refine fin_conv (l' := [(47, .bool (decide ((l59.length : Int) < (x152.length : Int)))), (10, sl A155 x152 c156), (0, vI i), (1, vP b_p1 0), (2, vP b_p2 0), (3, vP b_p3 0), (8, sl A57 l59 c58), (9, vI i61)]) (M' := Mem w0 (.blk b_p1 [.map (some b_p1_0)] 154 :: .obj b_p1_0 (.map es157 ck158) :: .blk b_p2 [sl A_p2_0 p2_0 c_p2_0] 22 :: .blk b_p3 [.func (.func 97) #[] #[vP b_p1 0, vP b_p2 0, vP b_p3 0]] 155 :: Fz F159 W160 :: cs)) rfl (fun _ h => h) ?_
         exact fin_join HJ4 (es157, ck158, x153, A57, c58, l59, F159, W160) ⟨hp, h162, h163, h60, h164⟩ (look_has ⟨rfl, rfl, rfl, rfl, rfl, rfl, trivial⟩) (fun w_ hM => hM)
       ·
        have hp := cnd_f hc151 hp
        refine st_skip (fin_block ?_)
        refine fin_conv (l' := [(39, .bool x149), (0, vI i), (1, vP b_p1 0), (2, vP b_p2 0), (3, vP b_p3 0), (8, sl A57 l59 c58), (9, vI i61)]) (M' := Mem w0 (.blk b_p1 [.map (some b_p1_0)] 154 :: .obj b_p1_0 (.map es52 ck53) :: .blk b_p2 [sl A_p2_0 p2_0 c_p2_0] 22 :: .blk b_p3 [.func (.func 97) #[] #[vP b_p1 0, vP b_p2 0, vP b_p3 0]] 155 :: Fz F62 W63 :: cs)) rfl (fun _ h => h) ?_
        exact fin_join HJ4 (es52, ck53, l54, A57, c58, l59, F62, W63) ⟨hp, h55, h56, h60, (Ext.refl _ _ _)⟩ (look_has ⟨rfl, rfl, rfl, rfl, rfl, rfl, trivial⟩) (fun w_ hM => hM)
    ·
     have hp := cnd_f hc64 hp
     refine st_exit (fin_exit_then (fin_exit_then (fin_exit ?_)))
     refine fin_conv (l' := [(24, .bool (decide (i61 < (p2_0.length : Int)))), (0, vI i), (1, vP b_p1 0), (2, vP b_p2 0), (3, vP b_p3 0), (8, sl A57 l59 c58), (9, vI i61)]) (M' := Mem w0 (.blk b_p1 [.map (some b_p1_0)] 154 :: .obj b_p1_0 (.map es52 ck53) :: .blk b_p2 [sl A_p2_0 p2_0 c_p2_0] 22 :: .blk b_p3 [.func (.func 97) #[] #[vP b_p1 0, vP b_p2 0, vP b_p3 0]] 155 :: Fz F62 W63 :: cs)) rfl (fun _ h => h) ?_
     obtain hq_ := Option.some.inj hp
     subst hq_
     obtain hq_ := hd3 _ rfl
     subst hq_
     have hp : (tourref3_Longest_1_j1 i) l54 l59 = some (l7003, l7007) := hk3
     exact fin_join HJ1 (es52, ck53, l54, A57, c58, l59, F62, W63) ⟨hp, h55, h60, h56, hx3⟩ (look_has ⟨rfl, rfl, rfl, trivial⟩) (fun w_ hM => hM)
theorem tourref3_Longest_1_ok (w0 w : World) (cs : List Chunk) (F : Nat → Prop) (W : World) (i : Int) (b_p1 : Nat) (b_p1_0 : Nat) (es_p1_0 : Array MapEntry) (ck_p1_0 : Nat) (p1_0 : List (Int × (List Int))) (b_p2 : Nat) (A_p2_0 : Option Addr) (c_p2_0 : Nat) (p2_0 : List api_System) (b_p3 : Nat) (hM0 : Mem w0 (.blk b_p1 [.map (some b_p1_0)] 154 :: .obj b_p1_0 (.map es_p1_0 ck_p1_0) :: .blk b_p2 [sl A_p2_0 p2_0 c_p2_0] 22 :: .blk b_p3 [.func (.func 97) #[] #[vP b_p1 0, vP b_p2 0, vP b_p3 0]] 155 :: Fz F W :: cs) w) (h_p1_0 : MapOK (fun x_ : Int => Value.int .i64 x_) (Rep.sl (Rep.int .i64)) false F W p1_0 es_p1_0 ck_p1_0) (h_p2_0 : RdS R_api_System F W A_p2_0 c_p2_0 p2_0) (l7003 : List Int) (l7007 : List (Int × (List Int))) (hp : tourref3_Longest_1 i p1_0 p2_0 = some (l7003, l7007)) : Calls Try.prog 97 #[vI i, vP b_p1 0, vP b_p2 0, vP b_p3 0] w fun e w' => ∃ (A7001 : Option Addr), ∃ (c7002 : Nat), ∃ (es7005 : Array MapEntry), ∃ (ck7006 : Nat), ∃ (F7010 : Nat → Prop), ∃ (W7011 : World), ((RdS (Rep.int .i64) F7010 W7011 A7001 c7002 l7003) ∧ (MapOK (fun x_ : Int => Value.int .i64 x_) (Rep.sl (Rep.int .i64)) false F7010 W7011 l7007 es7005 ck7006) ∧ (RdS R_api_System F7010 W7011 A_p2_0 c_p2_0 p2_0) ∧ (Ext w0 F W F7010 W7011)) ∧ e = .returned (sl A7001 l7003 c7002) ∧ Mem w0 (.blk b_p1 [.map (some b_p1_0)] 154 :: .obj b_p1_0 (.map es7005 ck7006) :: .blk b_p2 [sl A_p2_0 p2_0 c_p2_0] 22 :: .blk b_p3 [.func (.func 97) #[] #[vP b_p1 0, vP b_p2 0, vP b_p3 0]] 155 :: Fz F7010 W7011 :: cs) w' := by
 obtain ⟨k_, hk_⟩ := fix_some hp
 exact tourref3_Longest_1_okK k_ w0 w cs F W i b_p1 b_p1_0 es_p1_0 ck_p1_0 p1_0 b_p2 A_p2_0 c_p2_0 p2_0 b_p3 hM0 h_p1_0 h_p2_0 l7003 l7007 hk_
theorem tourref3_Longest_ok (w0 w : World) (cs : List Chunk) (F : Nat → Prop) (W : World) (A_l : Option Addr) (c_l : Nat) (l : List api_System) (hM0 : Mem w0 (Fz F W :: cs) w) (h_l : RdS R_api_System F W A_l c_l l) (l9003 : List Int) (hp : tourref3_Longest l = some l9003) : Calls Try.prog 29 #[sl A_l l c_l] w fun e w' => ∃ (A9001 : Option Addr), ∃ (c9002 : Nat), ∃ (F9005 : Nat → Prop), ∃ (W9006 : World), ((RdS (Rep.int .i64) F9005 W9006 A9001 c9002 l9003) ∧ (Ext w0 F W F9005 W9006)) ∧ e = .returned (sl A9001 l9003 c9002) ∧ Mem w0 (Fz F9005 W9006 :: cs) w' := by
 unfold tourref3_Longest at hp
 refine sx_calls Try.func29 rfl (n := 9) (by kernel_rfl) (l := [(0, sl A_l l c_l)]) rfl (by rfl) hM0 ?_
 refine st_seq (st_region [oF 0, oF 1] (by rfl) ?_)
 refine ops_newB (d := some 1) [sl A_l l c_l] 22 (fun b1 => ⟨by kernel_rfl⟩) (fun w_ hM hS => trivial) (fun b1 => ?_)
 refine oQ [oF 1] [(1, vP b1 0)] (by kernel_rfl) ?_
 refine ops_nil (fin_then (st_seq (st_region [oF 0, oF 1, oF 2] (by rfl) ?_)))
 have h3 := (MapOK.nil : MapOK (fun x_ : Int => Value.int .i64 x_) (Rep.sl (Rep.int .i64)) false F W ([] : List (Int × (List Int))) #[] 0)
 refine ops_new (d := some 5) (o := .map #[] 0) (v := fun g2 => .map (some g2)) (M' := fun g2 => Mem w0 (.obj g2 (.map #[] 0) :: .blk b1 [sl A_l l c_l] 22 :: Fz F W :: cs)) (fun g2 => ⟨by kernel_rfl⟩) (fun w_ hM hS => ⟨hM.objNew _, trivial⟩) (fun g2 => ?_)
 refine ops_newB (d := some 3) [.map none] 154 (fun b4 => ⟨by kernel_rfl⟩) (fun w_ hM hS => trivial) (fun b4 => ?_)
 refine ops_store (an := []) (evs := [sr b4 0 (.map (some g2))]) ⟨by kernel_rfl⟩ (fun w_ hM hS => let ⟨w', he, h'⟩ := hM.evs_stores [.map (some g2)] 0 rfl 0 (Nat.le_of_ble_eq_true rfl); ⟨w', he, h', trivial⟩) ?_
 refine ops_nil (fin_then (st_seq (st_region [oF 0] (by rfl) ?_)))
 refine ops_newB (d := some 4) [.nilFunc] 155 (fun b5 => ⟨by kernel_rfl⟩) (fun w_ hM hS => trivial) (fun b5 => ?_)
 refine ops_nil (fin_then (st_seq (st_region [oF 0, oF 1] (by rfl) ?_)))
 refine oQ [oF 0] [(6, .func (.func 97) #[] #[vP b4 0, vP b1 0, vP b5 0]), (4, vP b5 0)] (by kernel_rfl) ?_
 refine ops_store (an := []) (evs := [sr b5 0 (.func (.func 97) #[] #[vP b4 0, vP b1 0, vP b5 0])]) ⟨by kernel_rfl⟩ (fun w_ hM hS => let ⟨w', he, h'⟩ := hM.evs_stores [.func (.func 97) #[] #[vP b4 0, vP b1 0, vP b5 0]] 0 rfl 0 (Nat.le_of_ble_eq_true rfl); ⟨w', he, h', trivial⟩) ?_
 refine ops_nil (fin_then (st_seq (st_region [oF 0, oF 1, oF 2] (by rfl) ?_)))
 refine ops_mem (d := some 7) (an := [.v (.func (.func 97) #[] #[vP b4 0, vP b1 0, vP b5 0])]) (evs := [ld b5 0 (.func (.func 97) #[] #[vP b4 0, vP b1 0, vP b5 0])]) (v := .func (.func 97) #[] #[vP b4 0, vP b1 0, vP b5 0]) ⟨by kernel_rfl⟩ (fun w_ hM hS => ⟨w_, ⟨hM.cell 0 rfl rfl, rfl⟩, hM, trivial⟩) ?_
 obtain ⟨x6, x7, hv8, hp⟩ := obind2 hp
 refine ops_callI (σ := (Option Addr) × Nat × (Array MapEntry) × Nat × (Nat → Prop) × World) (d := some 8) (f := 97) (args := #[vI (-1), vP b4 0, vP b1 0, vP b5 0]) (v := (fun x_ => match x_ with | (A9, c10, es11, ck12, F13, W14) => sl A9 x6 c10)) (I := (fun x_ => match x_ with | (A9, c10, es11, ck12, F13, W14) => (RdS (Rep.int .i64) F13 W14 A9 c10 x6) ∧ (MapOK (fun x_ : Int => Value.int .i64 x_) (Rep.sl (Rep.int .i64)) false F13 W14 x7 es11 ck12) ∧ (RdS R_api_System F13 W14 A_l c_l l) ∧ (Ext w0 F W F13 W14))) (M' := (fun x_ => match x_ with | (A9, c10, es11, ck12, F13, W14) => Mem w0 (.blk b5 [.func (.func 97) #[] #[vP b4 0, vP b1 0, vP b5 0]] 155 :: .blk b4 [.map (some g2)] 154 :: .obj g2 (.map es11 ck12) :: .blk b1 [sl A_l l c_l] 22 :: Fz F13 W14 :: cs))) ⟨by kernel_rfl⟩ (fun w_ hM hS => (tourref3_Longest_1_ok w0 w_ (cs) F W (-1) b4 g2 #[] 0 ([] : List (Int × (List Int))) b1 A_l c_l l b5 (hM.pick 5 [1, 2, 3, 0, 4] (by kernel_rfl) (by decide) rfl) h3 h_l x6 x7 hv8).mono (by rintro e w' ⟨A9, c10, es11, ck12, F13, W14, ⟨h15, h16, h17, h18⟩, rfl, h'⟩; have h' : Mem w0 (.blk b5 [.func (.func 97) #[] #[vP b4 0, vP b1 0, vP b5 0]] 155 :: .blk b4 [.map (some g2)] 154 :: .obj g2 (.map es11 ck12) :: .blk b1 [sl A_l l c_l] 22 :: Fz F13 W14 :: cs) w' := (h'.pick 5 [3, 0, 1, 2, 4] (by kernel_rfl) (by decide) rfl); exact ⟨(A9, c10, es11, ck12, F13, W14), ⟨h15, h16, h17, h18⟩, rfl, h', trivial⟩)) ?_
 rintro ⟨A9, c10, es11, ck12, F13, W14⟩ ⟨h15, h16, h17, h18⟩
 refine oQ [oF 2] [(2, sl A9 x6 c10)] (by kernel_rfl) ?_
 refine ops_nil (fin_then (st_ret ?_))
 have hq_ := Option.some.inj hp
 have hr0_ := hq_
 subst hr0_
 refine fin_ret [.tmp 2] [sl A9 x6 c10] rfl rfl (fun w_ hM => (.tmp rfl .nil)) (fun w_ hM => ?_)
 exact ⟨A9, c10, F13, W14, ⟨h15, h18⟩, rfl, hM.pick 5 [4] (by kernel_rfl) (by decide) rfl⟩
def tourlaw3_PlanLayers__t0 : List Row := [⟨0, 8589934592, 1⟩, ⟨0, 17179869184, 128⟩, ⟨3, 34359738368, 25769803776⟩, ⟨4, 68719476736, 34359738368⟩, ⟨0, 137438953472, 1⟩, ⟨0, 274877906944, 256⟩, ⟨48, 549755813888, 412316860416⟩, ⟨64, 1099511627776, 549755813888⟩, ⟨136, 2199023255552, 1168231104512⟩, ⟨0, 4398046511104, 1⟩, ⟨0, 8796093022208, 128⟩, ⟨1536, 17592186044416, 13194139533312⟩, ⟨2048, 35184372088832, 17592186044416⟩, ⟨0, 70368744177664, 1⟩, ⟨0, 140737488355328, 256⟩, ⟨24576, 281474976710656, 211106232532992⟩, ⟨32768, 562949953421312, 281474976710656⟩, ⟨69888, 1125899906842624, 598134325510144⟩, ⟨131328, 2251799813685248, 1128098930098176⟩]
theorem tourlaw3_PlanLayers_ok (w0 w : World) (cs : List Chunk) (F : Nat → Prop) (W : World) (A_l : Option Addr) (c_l : Nat) (l : List api_System) (hM0 : Mem w0 (Fz F W :: cs) w) (h_l : RdS R_api_System F W A_l c_l l) (t9001 : Bool) (hp : tourlaw3_PlanLayers l = some t9001) : Calls Try.prog 5 #[sl A_l l c_l] w fun e w' => ∃ (F9002 : Nat → Prop), ∃ (W9003 : World), ((Ext w0 F W F9002 W9003)) ∧ e = .returned (.bool t9001) ∧ Mem w0 (Fz F9002 W9003 :: cs) w' := by
 unfold tourlaw3_PlanLayers at hp
 refine sx_calls Try.func5 rfl (n := 98) (by kernel_rfl) (l := [(0, sl A_l l c_l)]) rfl (by rfl) hM0 ?_
 refine st_seq (st_region [oF 0] (by rfl) ?_)
 refine oQ [oF 0] [(0, sl A_l l c_l)] (by kernel_rfl) ?_
 refine ops_nil (fin_then (st_seq (st_seq (st_region [oF 0, oF 1] (by rfl) ?_))))
 obtain ⟨x1, hv2, hp⟩ := obind hp
 refine ops_callI (σ := (Nat → Prop) × World) (d := some 9) (f := 10) (args := #[]) (v := (fun x_ => match x_ with | (F3, W4) => .bool x1)) (I := (fun x_ => match x_ with | (F3, W4) => (Ext w0 F W F3 W4))) (M' := (fun x_ => match x_ with | (F3, W4) => Mem w0 (Fz F3 W4 :: cs))) ⟨by kernel_rfl⟩ (fun w_ hM hS => (tourlaw3_layered_ok w0 w_ (cs) F W  hM  x1 hv2).mono (by rintro e w' ⟨F3, W4, h5, rfl, h'⟩; have h' : Mem w0 (Fz F3 W4 :: cs) w' := h'; exact ⟨(F3, W4), h5, rfl, h', trivial⟩)) ?_
 rintro ⟨F3, W4⟩ h5
 have h_l := h_l.ext h5
 refine oQ [oF 1] [(10, .bool (!x1)), (0, sl A_l l c_l)] (by kernel_rfl) ?_
 refine ops_nil (fin_then ?_)
 refine st_if (b := !x1) rfl (fun hc6 => ?_) (fun hc6 => ?_)
 ·
  have hp := cnd_t hc6 hp
  refine st_seq (st_region [oF 0] (by rfl) ?_)
  refine oQ [oF 0] [(2, .bool false)] (by kernel_rfl) ?_
  refine ops_nil (fin_then (st_ret (fin_ret_then ?_)))
  have hq_ := Option.some.inj hp
  have hr0_ := hq_
  subst hr0_
  refine fin_ret [.tmp 2] [.bool false] rfl rfl (fun w_ hM => (.tmp rfl .nil)) (fun w_ hM => ?_)
  exact ⟨F3, W4, h5, rfl, hM⟩
 ·
  have hp := cnd_f hc6 hp
  refine st_skip (fin_then (st_seq (st_region [oF 0, oF 1, oF 2, oF 3, oF 4, oF 5, oF 6] (by rfl) ?_)))
  refine oQ [oF 0] [(12, sl A_l l c_l), (0, sl A_l l c_l)] (by kernel_rfl) ?_
  obtain ⟨x7, x8, hv9, hp⟩ := obind2 hp
  refine ops_callI (σ := (Option Addr) × Nat × (List Value) × Chunk) (d := some 13) (f := 14) (args := #[sl A_l l c_l]) (v := (fun x_ => match x_ with | (A10, c11, y12, K13) => .tuple #[sl A10 x7 c11, vI x8])) (I := (fun x_ => match x_ with | (A10, c11, y12, K13) => (OwL (Own.sr (Rep.int .i64) 3) F3 W4 x7 y12 K13))) (M' := (fun x_ => match x_ with | (A10, c11, y12, K13) => Mem w0 (ow A10 x7 c11 26 1 y12 :: K13 :: Fz F3 W4 :: cs))) ⟨by kernel_rfl⟩ (fun w_ hM hS => (plan_Layers_ok w0 w_ (cs) F3 W4 A_l c_l l hM h_l x7 x8 hv9).mono (by rintro e w' ⟨A10, c11, y12, K13, h14, rfl, h'⟩; have h' : Mem w0 (ow A10 x7 c11 26 1 y12 :: K13 :: Fz F3 W4 :: cs) w' := h'; exact ⟨(A10, c11, y12, K13), h14, rfl, h', trivial⟩)) ?_
  rintro ⟨A10, c11, y12, K13⟩ h14
  refine oQ [oF 2, oF 3, oF 4, oF 5, oF 6] [(4, vI x8), (3, sl A10 x7 c11), (0, sl A_l l c_l)] (by kernel_rfl) ?_
  refine ops_nil (fin_then (st_seq (st_region [oF 0, oF 1, oF 2, oF 3, oF 4, oF 5, oF 6] (by rfl) ?_)))
  refine oQ [oF 0] [(17, sl A_l l c_l), (4, vI x8), (3, sl A10 x7 c11), (0, sl A_l l c_l)] (by kernel_rfl) ?_
  obtain ⟨x15, x16, hv17, hp⟩ := obind2 hp
  refine ops_callI (σ := (Option Addr) × Nat × (List Value)) (d := some 18) (f := 24) (args := #[sl A_l l c_l]) (v := (fun x_ => match x_ with | (A18, c19, y20) => .tuple #[sl A18 x15 c19, vI x16])) (I := (fun x_ => match x_ with | (A18, c19, y20) => (RepL (Rep.int .i64) F3 W4 x15 y20))) (M' := (fun x_ => match x_ with | (A18, c19, y20) => Mem w0 (ow A18 x15 c19 3 1 y20 :: ow A10 x7 c11 26 1 y12 :: K13 :: Fz F3 W4 :: cs))) ⟨by kernel_rfl⟩ (fun w_ hM hS => (plan_Chain_ok w0 w_ (ow A10 x7 c11 26 1 y12 :: K13 :: cs) F3 W4 A_l c_l l (hM.pick 3 [2, 0, 1] (by kernel_rfl) (by decide) rfl) h_l x15 x16 hv17).mono (by rintro e w' ⟨A18, c19, y20, h21, rfl, h'⟩; have h' : Mem w0 (ow A18 x15 c19 3 1 y20 :: ow A10 x7 c11 26 1 y12 :: K13 :: Fz F3 W4 :: cs) w' := (h'.pick 4 [0, 2, 3, 1] (by kernel_rfl) (by decide) rfl); exact ⟨(A18, c19, y20), h21, rfl, h', trivial⟩)) ?_
  rintro ⟨A18, c19, y20⟩ h21
  refine oQ [oF 2, oF 3, oF 4, oF 5, oF 6] [(6, vI x16), (5, sl A18 x15 c19), (4, vI x8), (3, sl A10 x7 c11), (0, sl A_l l c_l)] (by kernel_rfl) ?_
  refine ops_nil (fin_then ?_)
  refine st_join1 (σ := Unit) (L := fun _ => [(0, sl A_l l c_l), (3, sl A10 x7 c11), (4, vI x8), (5, sl A18 x15 c19), (6, vI x16)]) (N := fun _ => Mem w0 (ow A10 x7 c11 26 1 y12 :: K13 :: ow A18 x15 c19 3 1 y20 :: Fz F3 W4 :: cs)) (I := fun _ => ((tourlaw3_PlanLayers_j1 l x8 x16 x7 x15) = some t9001)) ?_ ?_
  ·
   rintro _ hp
   unfold tourlaw3_PlanLayers_j1 at hp
   refine st_seq (st_seq (st_region [oF 0, oF 1, oF 2] (by rfl) ?_))
   refine oQ [oF 0, oF 1, oF 2] [(56, .bool (decide (24 < (l.length : Int)))), (0, sl A_l l c_l), (3, sl A10 x7 c11), (4, vI x8), (5, sl A18 x15 c19), (6, vI x16)] (by kernel_rfl) ?_
   refine ops_nil (fin_then ?_)
   refine st_if (b := decide (24 < (l.length : Int))) rfl (fun hc22 => ?_) (fun hc22 => ?_)
   ·
    have hp := cnd_t hc22 hp
    refine st_join1 (σ := Bool) (L := fun x_ => match x_ with | t23 => [(2, .bool t23)]) (N := fun x_ => match x_ with | t23 => Mem w0 (Fz F3 W4 :: cs)) (I := fun x_ => match x_ with | t23 => (tourlaw3_PlanLayers_j2 t23 = some t9001)) ?_ ?_
    ·
     rintro t23 hp
     unfold tourlaw3_PlanLayers_j2 at hp
     refine st_ret (fin_ret_then ?_)
     have hq_ := Option.some.inj hp
     have hr0_ := hq_
     subst hr0_
     refine fin_ret [.tmp 2] [.bool t23] rfl rfl (fun w_ hM => (.tmp rfl .nil)) (fun w_ hM => ?_)
     exact ⟨F3, W4, h5, rfl, hM⟩
    ·
     intro HJ2
     refine st_seq (st_region [oF 0, oF 1, oF 2, oF 3, oF 4, oF 5, oF 6, oF 7, oF 8, oF 9, oF 10, oF 11, oF 12, oF 13, oF 14, oF 15, oF 16] (by rfl) ?_)
     refine oQ [oF 0, oF 1, oF 2] [(59, .bool (x8 == 2)), (3, sl A10 x7 c11), (5, sl A18 x15 c19), (6, vI x16)] (by kernel_rfl) ?_
     refine ops_bool (t := (x8 == 2)) (l1 := [(59, .bool true), (3, sl A10 x7 c11), (5, sl A18 x15 c19), (6, vI x16)]) (l2 := [(59, .bool false), (3, sl A10 x7 c11), (5, sl A18 x15 c19), (6, vI x16)]) (fun h => by rw [h]) (fun h => by rw [h]) (fun hc24 => ?_) (fun hc24 => ?_)
     ·
      have hp := cnd_t hc24 hp
      refine oQ [oF 3, oF 4, oF 5, oF 6] [(63, .bool (x16 == 2)), (3, sl A10 x7 c11), (5, sl A18 x15 c19)] (by kernel_rfl) ?_
      refine ops_bool (t := (x16 == 2)) (l1 := [(63, .bool true), (3, sl A10 x7 c11), (5, sl A18 x15 c19)]) (l2 := [(63, .bool false), (3, sl A10 x7 c11), (5, sl A18 x15 c19)]) (fun h => by rw [h]) (fun h => by rw [h]) (fun hc25 => ?_) (fun hc25 => ?_)
      ·
       have hp := cnd_t hc25 hp
       refine oQ [oF 7, oF 8, oF 9, oF 10, oF 11] [(68, .bool ((x7.length : Int) == 0)), (5, sl A18 x15 c19)] (by kernel_rfl) ?_
       refine ops_bool (t := ((x7.length : Int) == 0)) (l1 := [(68, .bool true), (5, sl A18 x15 c19)]) (l2 := [(68, .bool false), (5, sl A18 x15 c19)]) (fun h => by rw [h]) (fun h => by rw [h]) (fun hc26 => ?_) (fun hc26 => ?_)
       ·
        have hp := cnd_t hc26 hp
        refine oQ [oF 12, oF 13, oF 14, oF 15, oF 16] [(2, .bool ((x15.length : Int) == 0))] (by kernel_rfl) ?_
        refine ops_nil ?_
        exact fin_join HJ2 ((x15.length : Int) == 0) hp (look_has ⟨rfl, trivial⟩) (fun w_ hM => hM.pick 4 [3] (by kernel_rfl) (by decide) rfl)
       ·
        have hp := cnd_f hc26 hp
        refine oQ [oF 12, oF 13, oF 14, oF 15, oF 16] [(2, .bool false)] (by kernel_rfl) ?_
        refine ops_nil ?_
        exact fin_join HJ2 false hp (look_has ⟨rfl, trivial⟩) (fun w_ hM => hM.pick 4 [3] (by kernel_rfl) (by decide) rfl)
      ·
       have hp := cnd_f hc25 hp
       refine oQ [oF 7, oF 8, oF 9, oF 10, oF 11, oF 12, oF 13, oF 14, oF 15, oF 16] [(2, .bool false)] (by kernel_rfl) ?_
       refine ops_nil ?_
       exact fin_join HJ2 false hp (look_has ⟨rfl, trivial⟩) (fun w_ hM => hM.pick 4 [3] (by kernel_rfl) (by decide) rfl)
     ·
      have hp := cnd_f hc24 hp
      refine oQ [oF 3, oF 4, oF 5, oF 6, oF 7, oF 8, oF 9, oF 10, oF 11, oF 12, oF 13, oF 14, oF 15, oF 16] [(2, .bool false)] (by kernel_rfl) ?_
      refine ops_nil ?_
      exact fin_join HJ2 false hp (look_has ⟨rfl, trivial⟩) (fun w_ hM => hM.pick 4 [3] (by kernel_rfl) (by decide) rfl)
   ·
    have hp := cnd_f hc22 hp
    refine st_skip (fin_then ?_)
    refine st_join1 (σ := Bool × (Nat → Prop) × World) (L := fun x_ => match x_ with | (t27, F28, W29) => [(2, .bool t27)]) (N := fun x_ => match x_ with | (t27, F28, W29) => Mem w0 (Fz F28 W29 :: cs)) (I := fun x_ => match x_ with | (t27, F28, W29) => (tourlaw3_PlanLayers_j3 t27 = some t9001) ∧ (Ext w0 F3 W4 F28 W29)) ?_ ?_
    ·
     rintro ⟨t27, F28, W29⟩ ⟨hp, hx3⟩
     unfold tourlaw3_PlanLayers_j3 at hp
     refine st_ret ?_
     have hq_ := Option.some.inj hp
     have hr0_ := hq_
     subst hr0_
     refine fin_ret [.tmp 2] [.bool t27] rfl rfl (fun w_ hM => (.tmp rfl .nil)) (fun w_ hM => ?_)
     exact ⟨F28, W29, (h5.trans hx3), rfl, hM⟩
    ·
     intro HJ3
     refine st_seq (st_region [oF 0, oF 1, oF 2, oF 3, oF 4, oF 5, oF 6, oF 7, oF 8, oF 9, oF 10, oF 11, oF 12, oF 13, oF 14, oF 15, oF 16, oF 17, oF 18, oF 19, oF 20, oF 21, oF 22, oF 23, oF 24, oF 25] (by rfl) ?_)
     refine oQ [oF 0, oF 1, oF 2] [(75, .bool (x8 == 0)), (0, sl A_l l c_l), (3, sl A10 x7 c11), (5, sl A18 x15 c19), (6, vI x16)] (by kernel_rfl) ?_
     refine ops_bool (t := (x8 == 0)) (l1 := [(75, .bool true), (0, sl A_l l c_l), (3, sl A10 x7 c11), (5, sl A18 x15 c19), (6, vI x16)]) (l2 := [(75, .bool false), (0, sl A_l l c_l), (3, sl A10 x7 c11), (5, sl A18 x15 c19), (6, vI x16)]) (fun h => by rw [h]) (fun h => by rw [h]) (fun hc30 => ?_) (fun hc30 => ?_)
     ·
      have hp := cnd_t hc30 hp
      refine oQ [oF 3, oF 4, oF 5, oF 6] [(79, .bool (x16 == 0)), (0, sl A_l l c_l), (3, sl A10 x7 c11), (5, sl A18 x15 c19)] (by kernel_rfl) ?_
      refine ops_bool (t := (x16 == 0)) (l1 := [(79, .bool true), (0, sl A_l l c_l), (3, sl A10 x7 c11), (5, sl A18 x15 c19)]) (l2 := [(79, .bool false), (0, sl A_l l c_l), (3, sl A10 x7 c11), (5, sl A18 x15 c19)]) (fun h => by rw [h]) (fun h => by rw [h]) (fun hc31 => ?_) (fun hc31 => ?_)
      ·
       have hp := cnd_t hc31 hp
       refine oQ [oF 7, oF 8] [(81, sl A_l l c_l), (80, sl A10 x7 c11), (79, .bool true), (0, sl A_l l c_l), (3, sl A10 x7 c11), (5, sl A18 x15 c19)] (by kernel_rfl) ?_
       obtain ⟨x32, hv33, hp⟩ := obind hp
       refine ops_callI (σ := (Option Addr) × Nat × (List Value) × (Nat → Prop) × World) (d := some 82) (f := 28) (args := #[sl A_l l c_l]) (v := (fun x_ => match x_ with | (A34, c35, y36, F37, W38) => sl A34 x32 c35)) (I := (fun x_ => match x_ with | (A34, c35, y36, F37, W38) => (RepL (Rep.sl (Rep.int .i64)) F37 W38 x32 y36) ∧ (Ext w0 F3 W4 F37 W38))) (M' := (fun x_ => match x_ with | (A34, c35, y36, F37, W38) => Mem w0 (ow A34 x32 c35 26 1 y36 :: ow A10 x7 c11 26 1 y12 :: K13 :: ow A18 x15 c19 3 1 y20 :: Fz F37 W38 :: cs))) ⟨by kernel_rfl⟩ (fun w_ hM hS => (tourref3_Rounds_ok w0 w_ (ow A10 x7 c11 26 1 y12 :: K13 :: ow A18 x15 c19 3 1 y20 :: cs) F3 W4 A_l c_l l (hM.pick 4 [3, 0, 1, 2] (by kernel_rfl) (by decide) rfl) h_l x32 hv33).mono (by rintro e w' ⟨A34, c35, y36, F37, W38, ⟨h39, h40⟩, rfl, h'⟩; have h' : Mem w0 (ow A34 x32 c35 26 1 y36 :: ow A10 x7 c11 26 1 y12 :: K13 :: ow A18 x15 c19 3 1 y20 :: Fz F37 W38 :: cs) w' := (h'.pick 5 [0, 2, 3, 4, 1] (by kernel_rfl) (by decide) rfl); exact ⟨(A34, c35, y36, F37, W38), ⟨h39, h40⟩, rfl, h', trivial⟩)) ?_
       rintro ⟨A34, c35, y36, F37, W38⟩ ⟨h39, h40⟩
       have h_l := h_l.ext h40
       have h14 := h14.ext h40
       have h21 := h21.ext h40
       obtain ⟨x41, hv42, hp⟩ := obind hp
       refine ops_callI (σ := Unit) (d := some 83) (f := 27) (args := #[sl A10 x7 c11, sl A34 x32 c35, .func (.func 22) #[] #[]]) (v := (fun _ => .bool x41)) (I := (fun _ => True)) (M' := (fun _ => Mem w0 (ow A34 x32 c35 26 1 y36 :: ow A10 x7 c11 26 1 y12 :: K13 :: ow A18 x15 c19 3 1 y20 :: Fz F37 W38 :: cs))) ⟨by kernel_rfl⟩ (fun w_ hM hS => (slices_EqualFunc_int_int_int_int_ok w_ w_ [] (fun b => b < w_.heap.size) w_ A10 c11 x7 A34 c35 x32 (Mem.fz0 w_) ((hM.pick 5 [1, 2, 4] (by kernel_rfl) (by decide) rfl : Mem w0 (ow A10 x7 c11 26 1 y12 :: K13 :: Fz F37 W38 :: cs) w_).ownS h14 rfl rfl) (hM.ordS 0 4 rfl rfl h39 rfl rfl) x41 hv42).mono (by rintro e w' ⟨-, rfl, h'⟩; have h' : Mem w_ [] w' := h'.pick 1 [] (by kernel_rfl) (by decide) rfl; exact ⟨(), trivial, rfl, hM.join h' rfl, trivial⟩)) ?_
       rintro _ -
       refine oQ [oF 11, oF 12] [(85, .bool x41), (0, sl A_l l c_l), (3, sl A10 x7 c11), (5, sl A18 x15 c19)] (by kernel_rfl) ?_
       refine ops_bool (t := x41) (l1 := [(85, .bool true), (0, sl A_l l c_l), (3, sl A10 x7 c11), (5, sl A18 x15 c19)]) (l2 := [(85, .bool false), (0, sl A_l l c_l), (3, sl A10 x7 c11), (5, sl A18 x15 c19)]) (fun h => by rw [h]) (fun h => by rw [h]) (fun hc43 => ?_) (fun hc43 => ?_)
       ·
        have hp := cnd_t hc43 hp
        refine oQ [oF 13, oF 14] [(87, sl A_l l c_l), (86, sl A18 x15 c19), (85, .bool true), (3, sl A10 x7 c11), (5, sl A18 x15 c19)] (by kernel_rfl) ?_
        obtain ⟨x44, hv45, hp⟩ := obind hp
        refine ops_callI (σ := (Option Addr) × Nat × (Nat → Prop) × World) (d := some 88) (f := 29) (args := #[sl A_l l c_l]) (v := (fun x_ => match x_ with | (A46, c47, F48, W49) => sl A46 x44 c47)) (I := (fun x_ => match x_ with | (A46, c47, F48, W49) => (RdS (Rep.int .i64) F48 W49 A46 c47 x44) ∧ (Ext w0 F37 W38 F48 W49))) (M' := (fun x_ => match x_ with | (A46, c47, F48, W49) => Mem w0 (ow A34 x32 c35 26 1 y36 :: ow A10 x7 c11 26 1 y12 :: K13 :: ow A18 x15 c19 3 1 y20 :: Fz F48 W49 :: cs))) ⟨by kernel_rfl⟩ (fun w_ hM hS => (tourref3_Longest_ok w0 w_ (ow A34 x32 c35 26 1 y36 :: ow A10 x7 c11 26 1 y12 :: K13 :: ow A18 x15 c19 3 1 y20 :: cs) F37 W38 A_l c_l l (hM.pick 5 [4, 0, 1, 2, 3] (by kernel_rfl) (by decide) rfl) h_l x44 hv45).mono (by rintro e w' ⟨A46, c47, F48, W49, ⟨h50, h51⟩, rfl, h'⟩; have h' : Mem w0 (ow A34 x32 c35 26 1 y36 :: ow A10 x7 c11 26 1 y12 :: K13 :: ow A18 x15 c19 3 1 y20 :: Fz F48 W49 :: cs) w' := (h'.pick 5 [1, 2, 3, 4, 0] (by kernel_rfl) (by decide) rfl); exact ⟨(A46, c47, F48, W49), ⟨h50, h51⟩, rfl, h', trivial⟩)) ?_
        rintro ⟨A46, c47, F48, W49⟩ ⟨h50, h51⟩
        have h_l := h_l.ext h51
        have h39 := h39.ext h51
        have h14 := h14.ext h51
        have h21 := h21.ext h51
        obtain ⟨x52, hv53, hp⟩ := obind hp
        refine ops_callI (σ := Unit) (d := some 89) (f := 22) (args := #[sl A18 x15 c19, sl A46 x44 c47]) (v := (fun _ => .bool x52)) (I := (fun _ => True)) (M' := (fun _ => Mem w0 (ow A34 x32 c35 26 1 y36 :: ow A10 x7 c11 26 1 y12 :: K13 :: ow A18 x15 c19 3 1 y20 :: Fz F48 W49 :: cs))) ⟨by kernel_rfl⟩ (fun w_ hM hS => (slices_Equal_int_int_ok w_ w_ [] (fun b => b < w_.heap.size) w_ A18 c19 x15 A46 c47 x44 (Mem.fz0 w_) (hM.ordS 3 4 rfl rfl h21 rfl rfl) (hM.now 4 rfl h50) x52 hv53).mono (by rintro e w' ⟨-, rfl, h'⟩; have h' : Mem w_ [] w' := h'.pick 1 [] (by kernel_rfl) (by decide) rfl; exact ⟨(), trivial, rfl, hM.join h' rfl, trivial⟩)) ?_
        rintro _ -
        refine oQ [oF 17, oF 18] [(91, .bool x52), (3, sl A10 x7 c11), (5, sl A18 x15 c19)] (by kernel_rfl) ?_
        refine ops_bool (t := x52) (l1 := [(91, .bool true), (3, sl A10 x7 c11), (5, sl A18 x15 c19)]) (l2 := [(91, .bool false), (3, sl A10 x7 c11), (5, sl A18 x15 c19)]) (fun h => by rw [h]) (fun h => by rw [h]) (fun hc54 => ?_) (fun hc54 => ?_)
        ·
         have hp := cnd_t hc54 hp
         refine oQ [oF 19, oF 20, oF 21, oF 22, oF 23, oF 24, oF 25] [(2, .bool ((x15.length : Int) == (x7.length : Int)))] (by kernel_rfl) ?_
         refine ops_nil ?_
         exact fin_join HJ3 (((x15.length : Int) == (x7.length : Int)), F48, W49) ⟨hp, (h40.trans h51)⟩ (look_has ⟨rfl, trivial⟩) (fun w_ hM => hM.pick 5 [4] (by kernel_rfl) (by decide) rfl)
        ·
         have hp := cnd_f hc54 hp
         refine oQ [oF 19, oF 20, oF 21, oF 22, oF 23, oF 24, oF 25] [(2, .bool false)] (by kernel_rfl) ?_
         refine ops_nil ?_
         exact fin_join HJ3 (false, F48, W49) ⟨hp, (h40.trans h51)⟩ (look_has ⟨rfl, trivial⟩) (fun w_ hM => hM.pick 5 [4] (by kernel_rfl) (by decide) rfl)
       ·
        have hp := cnd_f hc43 hp
        refine oQ [oF 13, oF 14, oF 15, oF 16, oF 17, oF 18, oF 19, oF 20, oF 21, oF 22, oF 23, oF 24, oF 25] [(2, .bool false)] (by kernel_rfl) ?_
        refine ops_nil ?_
        exact fin_join HJ3 (false, F37, W38) ⟨hp, h40⟩ (look_has ⟨rfl, trivial⟩) (fun w_ hM => hM.pick 5 [4] (by kernel_rfl) (by decide) rfl)
      ·
       have hp := cnd_f hc31 hp
       refine oQ [oF 7, oF 8, oF 9, oF 10, oF 11, oF 12, oF 13, oF 14, oF 15, oF 16, oF 17, oF 18, oF 19, oF 20, oF 21, oF 22, oF 23, oF 24, oF 25] [(2, .bool false)] (by kernel_rfl) ?_
       refine ops_nil ?_
       exact fin_join HJ3 (false, F3, W4) ⟨hp, (Ext.refl _ _ _)⟩ (look_has ⟨rfl, trivial⟩) (fun w_ hM => hM.pick 4 [3] (by kernel_rfl) (by decide) rfl)
     ·
      have hp := cnd_f hc30 hp
      refine oQ [oF 3, oF 4, oF 5, oF 6, oF 7, oF 8, oF 9, oF 10, oF 11, oF 12, oF 13, oF 14, oF 15, oF 16, oF 17, oF 18, oF 19, oF 20, oF 21, oF 22, oF 23, oF 24, oF 25] [(2, .bool false)] (by kernel_rfl) ?_
      refine ops_nil ?_
      exact fin_join HJ3 (false, F3, W4) ⟨hp, (Ext.refl _ _ _)⟩ (look_has ⟨rfl, trivial⟩) (fun w_ hM => hM.pick 4 [3] (by kernel_rfl) (by decide) rfl)
  ·
   intro HJ1
   refine st_seq (st_seq (st_region [oF 0, oF 1, oF 2, oF 3] (by rfl) ?_))
   refine oQ [oF 0, oF 1] [(22, vI (l.length : Int)), (6, vI x16), (5, sl A18 x15 c19), (4, vI x8), (3, sl A10 x7 c11), (0, sl A_l l c_l)] (by kernel_rfl) ?_
   refine ops_val (op := (.call { callee := (Go.Callee.builtin Go.Builtin.min), args := #[(.tmp 22), (.const (Go.Value.int Go.IntKind.i64 30))], argTypes := #[3, 3] })) (d := some 23) (v := vI (min (l.length : Int) 30)) ⟨by kernel_rfl⟩ (run_min rfl rfl) ?_
   refine oQ [oF 3] [(24, vI 0), (23, vI (min (l.length : Int) 30)), (6, vI x16), (5, sl A18 x15 c19), (4, vI x8), (3, sl A10 x7 c11), (0, sl A_l l c_l)] (by kernel_rfl) ?_
   refine ops_nil (fin_then (st_block ?_))
   obtain ⟨r4, hl4, hk4⟩ := obind hp
   refine st_loopP (σ := Int) (ρ := (Bool ⊕ Unit)) (γ := Unit) hl4 () (fun s_ g_ => match s_, g_ with | i55, _ => [(0, sl A_l l c_l), (3, sl A10 x7 c11), (4, vI x8), (5, sl A18 x15 c19), (6, vI x16), (23, vI (min (l.length : Int) 30)), (24, vI i55)]) (fun s_ g_ => match s_, g_ with | i55, _ => Mem w0 (ow A10 x7 c11 26 1 y12 :: K13 :: ow A18 x15 c19 3 1 y20 :: Fz F3 W4 :: cs)) (fun s_ g_ => match s_, g_ with | i55, _ => True) trivial (look_has ⟨rfl, rfl, rfl, rfl, rfl, rfl, rfl, trivial⟩) (fun w_ hM => hM.pick 4 [1, 2, 0, 3] (by kernel_rfl) (by decide) rfl) ?_
   rintro i55 _ o4 - hs_ hd4
   have hp : (tourlaw3_PlanLayers_l4 l) i55 = some o4 := hs_
   clear hs_
   unfold tourlaw3_PlanLayers_l4 at hp
   refine st_seq (st_region [oF 0] (by rfl) ?_)
   refine oQ [oF 0] [(25, .bool (decide (i55 < min (l.length : Int) 30))), (0, sl A_l l c_l), (3, sl A10 x7 c11), (4, vI x8), (5, sl A18 x15 c19), (6, vI x16), (23, vI (min (l.length : Int) 30)), (24, vI i55)] (by kernel_rfl) ?_
   refine ops_nil (fin_then (st_seq ?_))
   refine st_if (b := decide (i55 < min (l.length : Int) 30)) rfl (fun hc56 => ?_) (fun hc56 => ?_)
   ·
    have hp := cnd_t hc56 hp
    refine st_skip (fin_then ?_)
    refine st_join1 (σ := Unit) (L := fun _ => [(0, sl A_l l c_l), (3, sl A10 x7 c11), (4, vI x8), (5, sl A18 x15 c19), (6, vI x16), (23, vI (min (l.length : Int) 30)), (24, vI i55)]) (N := fun _ => Mem w0 (ow A10 x7 c11 26 1 y12 :: K13 :: ow A18 x15 c19 3 1 y20 :: Fz F3 W4 :: cs)) (I := fun _ => ((tourlaw3_PlanLayers_j5 i55) = some o4)) ?_ ?_
    ·
     rintro _ hp
     unfold tourlaw3_PlanLayers_j5 at hp
     refine st_region [oF 0, oF 1] (by rfl) ?_
     refine oQ [oF 0, oF 1] [(24, vI (IntKind.i64.wrap (i55 + 1))), (0, sl A_l l c_l), (3, sl A10 x7 c11), (4, vI x8), (5, sl A18 x15 c19), (6, vI x16), (23, vI (min (l.length : Int) 30))] (by kernel_rfl) ?_
     refine ops_nil ?_
     exact fin_again (IntKind.i64.wrap (i55 + 1)) () (Option.some.inj hp).symm trivial (look_has ⟨rfl, rfl, rfl, rfl, rfl, rfl, rfl, trivial⟩) (fun w_ hM => hM)
    ·
     intro HJ5
     refine st_seq (st_block (st_seq (st_region [oF 0, oF 1] (by rfl) ?_)))
     refine oQ [oF 0, oF 1] [(7, vI i55), (0, sl A_l l c_l), (3, sl A10 x7 c11), (4, vI x8), (5, sl A18 x15 c19), (6, vI x16), (23, vI (min (l.length : Int) 30)), (24, vI i55)] (by kernel_rfl) ?_
     refine ops_nil (fin_then (st_seq (st_region [oF 0, oF 1, oF 2, oF 3] (by rfl) ?_)))
     refine oQ [oF 0, oF 1] [(28, vI (l.length : Int)), (7, vI i55), (0, sl A_l l c_l), (3, sl A10 x7 c11), (4, vI x8), (5, sl A18 x15 c19), (6, vI x16), (23, vI (min (l.length : Int) 30)), (24, vI i55)] (by kernel_rfl) ?_
     refine ops_val (op := (.call { callee := (Go.Callee.builtin Go.Builtin.min), args := #[(.tmp 28), (.const (Go.Value.int Go.IntKind.i64 30))], argTypes := #[3, 3] })) (d := some 29) (v := vI (min (l.length : Int) 30)) ⟨by kernel_rfl⟩ (run_min rfl rfl) ?_
     refine oQ [oF 3] [(30, vI 0), (29, vI (min (l.length : Int) 30)), (7, vI i55), (0, sl A_l l c_l), (3, sl A10 x7 c11), (4, vI x8), (5, sl A18 x15 c19), (6, vI x16), (23, vI (min (l.length : Int) 30)), (24, vI i55)] (by kernel_rfl) ?_
     refine ops_nil (fin_then (st_block ?_))
     obtain ⟨r6, hl6, hk6⟩ := obind hp
     refine st_loopP (σ := Int) (ρ := (Bool ⊕ Unit)) (γ := Unit) hl6 () (fun s_ g_ => match s_, g_ with | i57, _ => [(0, sl A_l l c_l), (3, sl A10 x7 c11), (4, vI x8), (5, sl A18 x15 c19), (6, vI x16), (7, vI i55), (23, vI (min (l.length : Int) 30)), (24, vI i55), (29, vI (min (l.length : Int) 30)), (30, vI i57)]) (fun s_ g_ => match s_, g_ with | i57, _ => Mem w0 (ow A10 x7 c11 26 1 y12 :: K13 :: ow A18 x15 c19 3 1 y20 :: Fz F3 W4 :: cs)) (fun s_ g_ => match s_, g_ with | i57, _ => True) trivial (look_has ⟨rfl, rfl, rfl, rfl, rfl, rfl, rfl, rfl, rfl, rfl, trivial⟩) (fun w_ hM => hM) ?_
     rintro i57 _ o6 - hs_ hd6
     have hp : (tourlaw3_PlanLayers_l6 l i55) i57 = some o6 := hs_
     clear hs_
     unfold tourlaw3_PlanLayers_l6 at hp
     refine st_seq (st_region [oF 0] (by rfl) ?_)
     refine oQ [oF 0] [(31, .bool (decide (i57 < min (l.length : Int) 30))), (0, sl A_l l c_l), (3, sl A10 x7 c11), (4, vI x8), (5, sl A18 x15 c19), (6, vI x16), (7, vI i55), (23, vI (min (l.length : Int) 30)), (24, vI i55), (29, vI (min (l.length : Int) 30)), (30, vI i57)] (by kernel_rfl) ?_
     refine ops_nil (fin_then (st_seq ?_))
     refine st_if (b := decide (i57 < min (l.length : Int) 30)) rfl (fun hc58 => ?_) (fun hc58 => ?_)
     ·
      have hp := cnd_t hc58 hp
      refine st_skip (fin_then (st_seq (st_block (st_seq (st_region [oF 0, oF 1] (by rfl) ?_)))))
      refine oQ [oF 0, oF 1] [(8, vI i57), (0, sl A_l l c_l), (3, sl A10 x7 c11), (4, vI x8), (5, sl A18 x15 c19), (6, vI x16), (7, vI i55), (23, vI (min (l.length : Int) 30)), (24, vI i55), (29, vI (min (l.length : Int) 30)), (30, vI i57)] (by kernel_rfl) ?_
      refine ops_nil (fin_then (st_seq ?_))
      refine st_region_fast tourlaw3_PlanLayers__t0 [oT 0, oT 1, oT 2, oT 3, oT 4, oT 5, oT 6, oT 7, oT 9, oT 10, oT 11, oT 12, oT 13, oT 14, oT 15, oT 16, oF 8, oF 17, oT 18] (Mem w0 (ow A10 x7 c11 26 1 y12 :: K13 :: ow A18 x15 c19 3 1 y20 :: Fz F3 W4 :: cs)) (by kernel_rfl) (by kernel_rfl) (by kernel_rfl) (by kernel_rfl) (by kernel_rfl) (fun _ d _ _ _ h => by cases d <;> exact h) (M' := Mem w0 (ow A10 x7 c11 26 1 y12 :: K13 :: ow A18 x15 c19 3 1 y20 :: Fz F3 W4 :: cs)) (fun w_ hM => ⟨hM.drew, hM.drew.sub (.cons_cons _ (.cons_cons _ (.cons_cons _ (.cons_cons _ (.refl _)))))⟩) ?_
      refine oQ [oT 0, oT 1] [(34, vI i55), (33, sl A_l l c_l), (8, vI i57), (0, sl A_l l c_l), (3, sl A10 x7 c11), (4, vI x8), (5, sl A18 x15 c19), (6, vI x16), (7, vI i55), (23, vI (min (l.length : Int) 30)), (24, vI i55), (29, vI (min (l.length : Int) 30)), (30, vI i57)] (by kernel_rfl) ?_
      obtain ⟨x59, hv60, hp⟩ := obind hp
      obtain ⟨m61, hm62, hx63⟩ := idx_some hv60
      have hl66 := (List.getElem?_eq_some_iff.1 hx63).1
      obtain ⟨ad67, vs64, hA68, hr65, hq69⟩ := RdS.el h_l hx63
      obtain ⟨A70, c71, A73, c74, A76, c77, A79, c80, A82, c83, A85, c86, rfl, h72, h75, h78, h81, h84, h87⟩ := dec_api_System hr65
      refine ops_val (op := (.indexAddr 22 (.tmp 33) (.tmp 34))) (d := some 35) (v := .pointer (some (ad67.add (m61 * 7)))) ⟨by kernel_rfl⟩ (run_indexA hA68 Try.underlying22 (z := 7) (by kernel_rfl) rfl rfl hm62 hl66) ?_
      refine ops_load (d := some 36) (an := [.v (.string x59.Name), .v (sl A70 x59.With c71), .v (sl A73 x59.Without c74), .v (sl A76 x59.Reads c77), .v (sl A79 x59.Writes c80), .v (sl A82 x59.Ops c83), .v (sl A85 x59.Spawn c86)]) (evs := [.load (ad67.add (m61 * 7)) (.string x59.Name), .load ((ad67.add (m61 * 7)).add 1) (sl A70 x59.With c71), .load ((ad67.add (m61 * 7)).add 2) (sl A73 x59.Without c74), .load ((ad67.add (m61 * 7)).add 3) (sl A76 x59.Reads c77), .load ((ad67.add (m61 * 7)).add 4) (sl A79 x59.Writes c80), .load ((ad67.add (m61 * 7)).add 5) (sl A82 x59.Ops c83), .load ((ad67.add (m61 * 7)).add 6) (sl A85 x59.Spawn c86)]) (v := .agg #[.string x59.Name, sl A70 x59.With c71, sl A73 x59.Without c74, sl A76 x59.Reads c77, sl A79 x59.Writes c80, sl A82 x59.Ops c83, sl A85 x59.Spawn c86]) ⟨by kernel_rfl⟩ (fun w_ hM => ⟨hM.elcell 3 rfl hq69 0 rfl, hM.elcell 3 rfl hq69 1 rfl, hM.elcell 3 rfl hq69 2 rfl, hM.elcell 3 rfl hq69 3 rfl, hM.elcell 3 rfl hq69 4 rfl, hM.elcell 3 rfl hq69 5 rfl, hM.elcell 3 rfl hq69 6 rfl, rfl⟩) ?_
      refine oQ [oT 4, oT 5] [(38, vI i57), (37, sl A_l l c_l), (36, .agg #[.string x59.Name, sl A70 x59.With c71, sl A73 x59.Without c74, sl A76 x59.Reads c77, sl A79 x59.Writes c80, sl A82 x59.Ops c83, sl A85 x59.Spawn c86]), (8, vI i57), (0, sl A_l l c_l), (3, sl A10 x7 c11), (4, vI x8), (5, sl A18 x15 c19), (6, vI x16), (7, vI i55), (23, vI (min (l.length : Int) 30)), (24, vI i55), (29, vI (min (l.length : Int) 30)), (30, vI i57)] (by kernel_rfl) ?_
      obtain ⟨x88, hv89, hp⟩ := obind hp
      obtain ⟨m90, hm91, hx92⟩ := idx_some hv89
      have hl95 := (List.getElem?_eq_some_iff.1 hx92).1
      obtain ⟨ad96, vs93, hA97, hr94, hq98⟩ := RdS.el h_l hx92
      obtain ⟨A99, c100, A102, c103, A105, c106, A108, c109, A111, c112, A114, c115, rfl, h101, h104, h107, h110, h113, h116⟩ := dec_api_System hr94
      refine ops_val (op := (.indexAddr 22 (.tmp 37) (.tmp 38))) (d := some 39) (v := .pointer (some (ad96.add (m90 * 7)))) ⟨by kernel_rfl⟩ (run_indexA hA97 Try.underlying22 (z := 7) (by kernel_rfl) rfl rfl hm91 hl95) ?_
      refine ops_load (d := some 40) (an := [.v (.string x88.Name), .v (sl A99 x88.With c100), .v (sl A102 x88.Without c103), .v (sl A105 x88.Reads c106), .v (sl A108 x88.Writes c109), .v (sl A111 x88.Ops c112), .v (sl A114 x88.Spawn c115)]) (evs := [.load (ad96.add (m90 * 7)) (.string x88.Name), .load ((ad96.add (m90 * 7)).add 1) (sl A99 x88.With c100), .load ((ad96.add (m90 * 7)).add 2) (sl A102 x88.Without c103), .load ((ad96.add (m90 * 7)).add 3) (sl A105 x88.Reads c106), .load ((ad96.add (m90 * 7)).add 4) (sl A108 x88.Writes c109), .load ((ad96.add (m90 * 7)).add 5) (sl A111 x88.Ops c112), .load ((ad96.add (m90 * 7)).add 6) (sl A114 x88.Spawn c115)]) (v := .agg #[.string x88.Name, sl A99 x88.With c100, sl A102 x88.Without c103, sl A105 x88.Reads c106, sl A108 x88.Writes c109, sl A111 x88.Ops c112, sl A114 x88.Spawn c115]) ⟨by kernel_rfl⟩ (fun w_ hM => ⟨hM.elcell 3 rfl hq98 0 rfl, hM.elcell 3 rfl hq98 1 rfl, hM.elcell 3 rfl hq98 2 rfl, hM.elcell 3 rfl hq98 3 rfl, hM.elcell 3 rfl hq98 4 rfl, hM.elcell 3 rfl hq98 5 rfl, hM.elcell 3 rfl hq98 6 rfl, rfl⟩) ?_
      refine oQ [oT 9, oT 10] [(43, vI i55), (42, sl A_l l c_l), (40, .agg #[.string x88.Name, sl A99 x88.With c100, sl A102 x88.Without c103, sl A105 x88.Reads c106, sl A108 x88.Writes c109, sl A111 x88.Ops c112, sl A114 x88.Spawn c115]), (36, .agg #[.string x59.Name, sl A70 x59.With c71, sl A73 x59.Without c74, sl A76 x59.Reads c77, sl A79 x59.Writes c80, sl A82 x59.Ops c83, sl A85 x59.Spawn c86]), (8, vI i57), (0, sl A_l l c_l), (3, sl A10 x7 c11), (4, vI x8), (5, sl A18 x15 c19), (6, vI x16), (7, vI i55), (23, vI (min (l.length : Int) 30)), (24, vI i55), (29, vI (min (l.length : Int) 30)), (30, vI i57)] (by kernel_rfl) ?_
      obtain ⟨x117, hv118, hp⟩ := obind hp
      obtain ⟨m119, hm120, hx121⟩ := idx_some hv118
      have hl124 := (List.getElem?_eq_some_iff.1 hx121).1
      obtain ⟨ad125, vs122, hA126, hr123, hq127⟩ := RdS.el h_l hx121
      obtain ⟨A128, c129, A131, c132, A134, c135, A137, c138, A140, c141, A143, c144, rfl, h130, h133, h136, h139, h142, h145⟩ := dec_api_System hr123
      refine ops_val (op := (.indexAddr 22 (.tmp 42) (.tmp 43))) (d := some 44) (v := .pointer (some (ad125.add (m119 * 7)))) ⟨by kernel_rfl⟩ (run_indexA hA126 Try.underlying22 (z := 7) (by kernel_rfl) rfl rfl hm120 hl124) ?_
      refine ops_load (d := some 45) (an := [.v (.string x117.Name), .v (sl A128 x117.With c129), .v (sl A131 x117.Without c132), .v (sl A134 x117.Reads c135), .v (sl A137 x117.Writes c138), .v (sl A140 x117.Ops c141), .v (sl A143 x117.Spawn c144)]) (evs := [.load (ad125.add (m119 * 7)) (.string x117.Name), .load ((ad125.add (m119 * 7)).add 1) (sl A128 x117.With c129), .load ((ad125.add (m119 * 7)).add 2) (sl A131 x117.Without c132), .load ((ad125.add (m119 * 7)).add 3) (sl A134 x117.Reads c135), .load ((ad125.add (m119 * 7)).add 4) (sl A137 x117.Writes c138), .load ((ad125.add (m119 * 7)).add 5) (sl A140 x117.Ops c141), .load ((ad125.add (m119 * 7)).add 6) (sl A143 x117.Spawn c144)]) (v := .agg #[.string x117.Name, sl A128 x117.With c129, sl A131 x117.Without c132, sl A134 x117.Reads c135, sl A137 x117.Writes c138, sl A140 x117.Ops c141, sl A143 x117.Spawn c144]) ⟨by kernel_rfl⟩ (fun w_ hM => ⟨hM.elcell 3 rfl hq127 0 rfl, hM.elcell 3 rfl hq127 1 rfl, hM.elcell 3 rfl hq127 2 rfl, hM.elcell 3 rfl hq127 3 rfl, hM.elcell 3 rfl hq127 4 rfl, hM.elcell 3 rfl hq127 5 rfl, hM.elcell 3 rfl hq127 6 rfl, rfl⟩) ?_
      refine oQ [oT 13, oT 14] [(47, vI i57), (46, sl A_l l c_l), (45, .agg #[.string x117.Name, sl A128 x117.With c129, sl A131 x117.Without c132, sl A134 x117.Reads c135, sl A137 x117.Writes c138, sl A140 x117.Ops c141, sl A143 x117.Spawn c144]), (40, .agg #[.string x88.Name, sl A99 x88.With c100, sl A102 x88.Without c103, sl A105 x88.Reads c106, sl A108 x88.Writes c109, sl A111 x88.Ops c112, sl A114 x88.Spawn c115]), (36, .agg #[.string x59.Name, sl A70 x59.With c71, sl A73 x59.Without c74, sl A76 x59.Reads c77, sl A79 x59.Writes c80, sl A82 x59.Ops c83, sl A85 x59.Spawn c86]), (0, sl A_l l c_l), (3, sl A10 x7 c11), (4, vI x8), (5, sl A18 x15 c19), (6, vI x16), (7, vI i55), (23, vI (min (l.length : Int) 30)), (24, vI i55), (29, vI (min (l.length : Int) 30)), (30, vI i57)] (by kernel_rfl) ?_
      obtain ⟨x146, hv147, hp⟩ := obind hp
      obtain ⟨m148, hm149, hx150⟩ := idx_some hv147
      have hl153 := (List.getElem?_eq_some_iff.1 hx150).1
      obtain ⟨ad154, vs151, hA155, hr152, hq156⟩ := RdS.el h_l hx150
      obtain ⟨A157, c158, A160, c161, A163, c164, A166, c167, A169, c170, A172, c173, rfl, h159, h162, h165, h168, h171, h174⟩ := dec_api_System hr152
      refine ops_val (op := (.indexAddr 22 (.tmp 46) (.tmp 47))) (d := some 48) (v := .pointer (some (ad154.add (m148 * 7)))) ⟨by kernel_rfl⟩ (run_indexA hA155 Try.underlying22 (z := 7) (by kernel_rfl) rfl rfl hm149 hl153) ?_
      refine ops_load (d := some 49) (an := [.v (.string x146.Name), .v (sl A157 x146.With c158), .v (sl A160 x146.Without c161), .v (sl A163 x146.Reads c164), .v (sl A166 x146.Writes c167), .v (sl A169 x146.Ops c170), .v (sl A172 x146.Spawn c173)]) (evs := [.load (ad154.add (m148 * 7)) (.string x146.Name), .load ((ad154.add (m148 * 7)).add 1) (sl A157 x146.With c158), .load ((ad154.add (m148 * 7)).add 2) (sl A160 x146.Without c161), .load ((ad154.add (m148 * 7)).add 3) (sl A163 x146.Reads c164), .load ((ad154.add (m148 * 7)).add 4) (sl A166 x146.Writes c167), .load ((ad154.add (m148 * 7)).add 5) (sl A169 x146.Ops c170), .load ((ad154.add (m148 * 7)).add 6) (sl A172 x146.Spawn c173)]) (v := .agg #[.string x146.Name, sl A157 x146.With c158, sl A160 x146.Without c161, sl A163 x146.Reads c164, sl A166 x146.Writes c167, sl A169 x146.Ops c170, sl A172 x146.Spawn c173]) ⟨by kernel_rfl⟩ (fun w_ hM => ⟨hM.elcell 3 rfl hq156 0 rfl, hM.elcell 3 rfl hq156 1 rfl, hM.elcell 3 rfl hq156 2 rfl, hM.elcell 3 rfl hq156 3 rfl, hM.elcell 3 rfl hq156 4 rfl, hM.elcell 3 rfl hq156 5 rfl, hM.elcell 3 rfl hq156 6 rfl, rfl⟩) ?_
      obtain ⟨x175, hv176, hp⟩ := obind hp
      refine ops_callI (σ := Unit) (d := some 41) (f := 25) (args := #[.agg #[.string x59.Name, sl A70 x59.With c71, sl A73 x59.Without c74, sl A76 x59.Reads c77, sl A79 x59.Writes c80, sl A82 x59.Ops c83, sl A85 x59.Spawn c86], .agg #[.string x88.Name, sl A99 x88.With c100, sl A102 x88.Without c103, sl A105 x88.Reads c106, sl A108 x88.Writes c109, sl A111 x88.Ops c112, sl A114 x88.Spawn c115]]) (v := (fun _ => .bool x175)) (I := (fun _ => True)) (M' := (fun _ => Mem w0 (ow A10 x7 c11 26 1 y12 :: K13 :: ow A18 x15 c19 3 1 y20 :: Fz F3 W4 :: cs))) ⟨by kernel_rfl⟩ (fun w_ hM hS => (plan_Conflict_ok w0 w_ (ow A10 x7 c11 26 1 y12 :: K13 :: ow A18 x15 c19 3 1 y20 :: cs) F3 W4 x59.Name A70 c71 x59.With A73 c74 x59.Without A76 c77 x59.Reads A79 c80 x59.Writes A82 c83 x59.Ops A85 c86 x59.Spawn x88.Name A99 c100 x88.With A102 c103 x88.Without A105 c106 x88.Reads A108 c109 x88.Writes A111 c112 x88.Ops A114 c115 x88.Spawn (hM.pick 4 [3, 0, 1, 2] (by kernel_rfl) (by decide) rfl) h72 h75 h78 h81 h84 h87 h101 h104 h107 h110 h113 h116 x175 hv176).mono (by rintro e w' ⟨-, rfl, h'⟩; have h' : Mem w0 (ow A10 x7 c11 26 1 y12 :: K13 :: ow A18 x15 c19 3 1 y20 :: Fz F3 W4 :: cs) w' := (h'.pick 4 [1, 2, 3, 0] (by kernel_rfl) (by decide) rfl); exact ⟨(), trivial, rfl, h', (by exact h'.sub (.cons_cons _ (.cons_cons _ (.cons_cons _ (.cons_cons _ (.refl _))))))⟩)) ?_
      rintro _ -
      obtain ⟨x177, hv178, hp⟩ := obind hp
      refine ops_callI (σ := Unit) (d := some 50) (f := 26) (args := #[.agg #[.string x117.Name, sl A128 x117.With c129, sl A131 x117.Without c132, sl A134 x117.Reads c135, sl A137 x117.Writes c138, sl A140 x117.Ops c141, sl A143 x117.Spawn c144], .agg #[.string x146.Name, sl A157 x146.With c158, sl A160 x146.Without c161, sl A163 x146.Reads c164, sl A166 x146.Writes c167, sl A169 x146.Ops c170, sl A172 x146.Spawn c173]]) (v := (fun _ => .bool x177)) (I := (fun _ => True)) (M' := (fun _ => Mem w0 (ow A10 x7 c11 26 1 y12 :: K13 :: ow A18 x15 c19 3 1 y20 :: Fz F3 W4 :: cs))) ⟨by kernel_rfl⟩ (fun w_ hM hS => (tourref3_Clash_ok w0 w_ (ow A10 x7 c11 26 1 y12 :: K13 :: ow A18 x15 c19 3 1 y20 :: cs) F3 W4 x117.Name A128 c129 x117.With A131 c132 x117.Without A134 c135 x117.Reads A137 c138 x117.Writes A140 c141 x117.Ops A143 c144 x117.Spawn x146.Name A157 c158 x146.With A160 c161 x146.Without A163 c164 x146.Reads A166 c167 x146.Writes A169 c170 x146.Ops A172 c173 x146.Spawn (hM.pick 4 [3, 0, 1, 2] (by kernel_rfl) (by decide) rfl) h130 h133 h136 h139 h142 h145 h159 h162 h165 h168 h171 h174 x177 hv178).mono (by rintro e w' ⟨-, rfl, h'⟩; have h' : Mem w0 (ow A10 x7 c11 26 1 y12 :: K13 :: ow A18 x15 c19 3 1 y20 :: Fz F3 W4 :: cs) w' := (h'.pick 4 [1, 2, 3, 0] (by kernel_rfl) (by decide) rfl); exact ⟨(), trivial, rfl, h', (by exact h'.sub (.cons_cons _ (.cons_cons _ (.cons_cons _ (.cons_cons _ (.refl _))))))⟩)) ?_
      rintro _ -
      refine oQ [oT 18] [(51, .bool (!(x175 == x177))), (0, sl A_l l c_l), (3, sl A10 x7 c11), (4, vI x8), (5, sl A18 x15 c19), (6, vI x16), (7, vI i55), (23, vI (min (l.length : Int) 30)), (24, vI i55), (29, vI (min (l.length : Int) 30)), (30, vI i57)] (by kernel_rfl) ?_
      refine ops_nil (fin_then ?_)
      refine st_if (b := !(x175 == x177)) rfl (fun hc179 => ?_) (fun hc179 => ?_)
      ·
       have hp := cnd_t hc179 hp
       refine st_seq (st_region [oF 0] (by rfl) ?_)
       refine oQ [oF 0] [(2, .bool false)] (by kernel_rfl) ?_
       refine ops_nil (fin_then (st_ret (fin_ret_block (fin_ret_then (fin_ret_then (fin_ret_block (fin_ret_block (fin_ret_then (fin_ret_then (fin_ret_block (fin_ret_then ?_)))))))))))
       obtain hq_ := Option.some.inj hp
       subst hq_
       obtain hq_ := hd6 _ rfl
       subst hq_
       have hp : some (.inr (.inl false)) = some o4 := hk6
       obtain hq_ := Option.some.inj hp
       subst hq_
       obtain hq_ := hd4 _ rfl
       subst hq_
       have hp : some false = some t9001 := hk4
       have hq_ := Option.some.inj hp
       have hr0_ := hq_
       subst hr0_
       refine fin_ret [.tmp 2] [.bool false] rfl rfl (fun w_ hM => (.tmp rfl .nil)) (fun w_ hM => ?_)
       exact ⟨F3, W4, h5, rfl, hM.pick 4 [3] (by kernel_rfl) (by decide) rfl⟩
      ·
       have hp := cnd_f hc179 hp
       refine st_skip (fin_block (fin_then (st_region [oF 0, oF 1] (by rfl) ?_)))
       refine oQ [oF 0, oF 1] [(30, vI (IntKind.i64.wrap (i57 + 1))), (0, sl A_l l c_l), (3, sl A10 x7 c11), (4, vI x8), (5, sl A18 x15 c19), (6, vI x16), (7, vI i55), (23, vI (min (l.length : Int) 30)), (24, vI i55), (29, vI (min (l.length : Int) 30))] (by kernel_rfl) ?_
       refine ops_nil ?_
       exact fin_again (IntKind.i64.wrap (i57 + 1)) () (Option.some.inj hp).symm trivial (look_has ⟨rfl, rfl, rfl, rfl, rfl, rfl, rfl, rfl, rfl, rfl, trivial⟩) (fun w_ hM => hM)
     ·
      have hp := cnd_f hc58 hp
      refine st_exit (fin_exit_then (fin_exit_then (fin_exit (fin_block ?_))))
      obtain hq_ := Option.some.inj hp
      subst hq_
      obtain hq_ := hd6 _ rfl
      subst hq_
      have hp : (tourlaw3_PlanLayers_j5 i55) = some o4 := hk6
      exact fin_join HJ5 () hp (look_has ⟨rfl, rfl, rfl, rfl, rfl, rfl, rfl, trivial⟩) (fun w_ hM => hM)
   ·
    have hp := cnd_f hc56 hp
    refine st_exit (fin_exit_then (fin_exit_then (fin_exit ?_)))
    obtain hq_ := Option.some.inj hp
    subst hq_
    obtain hq_ := hd4 _ rfl
    subst hq_
    have hp : (tourlaw3_PlanLayers_j1 l x8 x16 x7 x15) = some t9001 := hk4
    exact fin_join HJ1 () hp (look_has ⟨rfl, rfl, rfl, rfl, rfl, trivial⟩) (fun w_ hM => hM)
end Go.Proofs.Ytnnhijlgohlaeaa.P
