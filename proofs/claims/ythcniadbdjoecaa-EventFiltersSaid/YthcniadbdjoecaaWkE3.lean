/- The Go functions come to what the plain functions tell. No condition. -/
import Derived.Test.YthcniadbdjoecaaProg
import Derived.Test.YthcniadbdjoecaaFnE
import Derived.Test.YthcniadbdjoecaaWkE1
import Derived.Test.YthcniadbdjoecaaWkE2
import Derived.Test.YthcniadbdjoecaaEqE
namespace Go.Proofs.Ythcniadbdjoecaa.E
open Go Go.RowKit Go.Proofs.Ythcniadbdjoecaa.Sx
set_option linter.unusedVariables false
set_option maxHeartbeats 4000000
set_option maxRecDepth 100000
theorem slices_Equal_api_Event_api_Event_ok (w0 w : World) (cs : List Chunk) (F : Nat → Prop) (W : World) (A_s1 : Option Addr) (c_s1 : Nat) (s1_1 : List api_Event) (A_s2 : Option Addr) (c_s2 : Nat) (s2_1 : List api_Event) (hM0 : Mem w0 (Fz F W :: cs) w) (h_s1 : RdS R_api_Event F W A_s1 c_s1 s1_1) (h_s2 : RdS R_api_Event F W A_s2 c_s2 s2_1) (t9001 : Bool) (hp : slices_Equal_api_Event_api_Event s1_1 s2_1 = some t9001) : Calls Try.prog 52 #[sl A_s1 s1_1 c_s1, sl A_s2 s2_1 c_s2] w fun e w' => (True) ∧ e = .returned (.bool t9001) ∧ Mem w0 (Fz F W :: cs) w' := by
 unfold slices_Equal_api_Event_api_Event at hp
 refine sx_calls Try.func52 rfl (n := 26) (by kernel_rfl) (l := [(0, sl A_s1 s1_1 c_s1), (1, sl A_s2 s2_1 c_s2)]) rfl (by rfl) hM0 ?_
 refine st_seq (st_region [oF 0] (by rfl) ?_)
 refine oQ [oF 0] [(0, sl A_s1 s1_1 c_s1), (1, sl A_s2 s2_1 c_s2)] (by kernel_rfl) ?_
 refine ops_nil (fin_then (st_seq (st_seq (st_region [oF 0, oF 1, oF 2, oF 3, oF 4] (by rfl) ?_))))
 refine oQ [oF 0, oF 1, oF 2, oF 3, oF 4] [(10, .bool (!((s1_1.length : Int) == (s2_1.length : Int)))), (0, sl A_s1 s1_1 c_s1), (1, sl A_s2 s2_1 c_s2)] (by kernel_rfl) ?_
 refine ops_nil (fin_then ?_)
 refine st_if (b := !((s1_1.length : Int) == (s2_1.length : Int))) rfl (fun hc1 => ?_) (fun hc1 => ?_)
 ·
  have hp := cnd_t hc1 hp
  refine st_seq (st_region [oF 0] (by rfl) ?_)
  refine oQ [oF 0] [(4, .bool false)] (by kernel_rfl) ?_
  refine ops_nil (fin_then (st_ret (fin_ret_then ?_)))
  have hq_ := Option.some.inj hp
  have hr0_ := hq_
  subst hr0_
  refine fin_ret [.tmp 4] [.bool false] rfl rfl (fun w_ hM => (.tmp rfl .nil)) (fun w_ hM => ?_)
  exact ⟨trivial, rfl, hM⟩
 ·
  have hp := cnd_f hc1 hp
  refine st_skip (fin_then ?_)
  refine st_join1 (σ := Unit) (L := fun _ => []) (N := fun _ => Mem w0 (Fz F W :: cs)) (I := fun _ => (slices_Equal_api_Event_api_Event_j1 = some t9001)) ?_ ?_
  ·
   rintro _ hp
   unfold slices_Equal_api_Event_api_Event_j1 at hp
   refine st_seq (st_region [oF 0] (by rfl) ?_)
   refine oQ [oF 0] [(4, .bool true)] (by kernel_rfl) ?_
   refine ops_nil (fin_then (st_ret ?_))
   have hq_ := Option.some.inj hp
   have hr0_ := hq_
   subst hr0_
   refine fin_ret [.tmp 4] [.bool true] rfl rfl (fun w_ hM => (.tmp rfl .nil)) (fun w_ hM => ?_)
   exact ⟨trivial, rfl, hM⟩
  ·
   intro HJ1
   refine st_seq (st_seq (st_region [oF 0, oF 1, oF 2] (by rfl) ?_))
   refine oQ [oF 0, oF 1, oF 2] [(13, vI 0), (12, vI (s1_1.length : Int)), (0, sl A_s1 s1_1 c_s1), (1, sl A_s2 s2_1 c_s2)] (by kernel_rfl) ?_
   refine ops_nil (fin_then (st_block ?_))
   obtain ⟨r2, hl2, hk2⟩ := obind hp
   refine st_loopP (σ := Int) (ρ := (Bool ⊕ Unit)) (γ := Unit) hl2 () (fun s_ g_ => match s_, g_ with | i2, _ => [(0, sl A_s1 s1_1 c_s1), (1, sl A_s2 s2_1 c_s2), (12, vI (s1_1.length : Int)), (13, vI i2)]) (fun s_ g_ => match s_, g_ with | i2, _ => Mem w0 (Fz F W :: cs)) (fun s_ g_ => match s_, g_ with | i2, _ => True) trivial (look_has ⟨rfl, rfl, rfl, rfl, trivial⟩) (fun w_ hM => hM) ?_
   rintro i2 _ o2 - hs_ hd2
   have hp : (slices_Equal_api_Event_api_Event_l2 s1_1 s2_1) i2 = some o2 := hs_
   clear hs_
   unfold slices_Equal_api_Event_api_Event_l2 at hp
   refine st_seq (st_region [oF 0] (by rfl) ?_)
   refine oQ [oF 0] [(14, .bool (decide (i2 < (s1_1.length : Int)))), (0, sl A_s1 s1_1 c_s1), (1, sl A_s2 s2_1 c_s2), (12, vI (s1_1.length : Int)), (13, vI i2)] (by kernel_rfl) ?_
   refine ops_nil (fin_then (st_seq ?_))
   refine st_if (b := decide (i2 < (s1_1.length : Int))) rfl (fun hc3 => ?_) (fun hc3 => ?_)
   ·
    have hp := cnd_t hc3 hp
    refine st_skip (fin_then (st_seq (st_block (st_seq (st_region [oF 0, oF 1] (by rfl) ?_)))))
    refine oQ [oF 0, oF 1] [(5, vI i2), (0, sl A_s1 s1_1 c_s1), (1, sl A_s2 s2_1 c_s2), (12, vI (s1_1.length : Int)), (13, vI i2)] (by kernel_rfl) ?_
    refine ops_nil (fin_then (st_seq ?_))
    refine st_region_draw [oT 0, oT 1, oT 2, oT 3, oT 4, oT 5, oT 6, oT 7, oT 8] (Mem w0 (Fz F W :: cs)) (by kernel_rfl) (by kernel_rfl) (by kernel_rfl) (fun _ d _ _ _ h => by cases d <;> exact h) (M' := Mem w0 (Fz F W :: cs)) (fun w_ hM => ⟨hM.drew, hM.drew.sub (.cons_cons _ (.refl _))⟩) ?_
    refine oQ [oT 0, oT 1] [(17, vI i2), (16, sl A_s1 s1_1 c_s1), (5, vI i2), (0, sl A_s1 s1_1 c_s1), (1, sl A_s2 s2_1 c_s2), (12, vI (s1_1.length : Int)), (13, vI i2)] (by kernel_rfl) ?_
    obtain ⟨x4, hv5, hp⟩ := obind hp
    obtain ⟨m6, hm7, hx8⟩ := idx_some hv5
    have hl11 := (List.getElem?_eq_some_iff.1 hx8).1
    obtain ⟨ad12, vs9, hA13, hr10, hq14⟩ := RdS.el h_s1 hx8
    obtain rfl := dec_api_Event hr10
    refine ops_val (op := (.indexAddr 88 (.tmp 16) (.tmp 17))) (d := some 18) (v := .pointer (some (ad12.add (m6 * 4)))) ⟨by kernel_rfl⟩ (run_indexA hA13 Try.underlying88 (z := 4) (by kernel_rfl) rfl rfl hm7 hl11) ?_
    refine ops_load (d := some 19) (an := [.v (vI x4.System), .v (vI x4.Ent.N), .v (vI x4.Ent.Gen), .v (vI x4.Value)]) (evs := [.load (ad12.add (m6 * 4)) (vI x4.System), .load ((ad12.add (m6 * 4)).add 1) (vI x4.Ent.N), .load ((ad12.add (m6 * 4)).add 2) (vI x4.Ent.Gen), .load ((ad12.add (m6 * 4)).add 3) (vI x4.Value)]) (v := .agg #[vI x4.System, vI x4.Ent.N, vI x4.Ent.Gen, vI x4.Value]) ⟨by kernel_rfl⟩ (fun w_ hM => ⟨hM.elcell 0 rfl hq14 0 rfl, hM.elcell 0 rfl hq14 1 rfl, hM.elcell 0 rfl hq14 2 rfl, hM.elcell 0 rfl hq14 3 rfl, rfl⟩) ?_
    refine oQ [oT 4, oT 5] [(21, vI i2), (20, sl A_s2 s2_1 c_s2), (19, .agg #[vI x4.System, vI x4.Ent.N, vI x4.Ent.Gen, vI x4.Value]), (0, sl A_s1 s1_1 c_s1), (1, sl A_s2 s2_1 c_s2), (12, vI (s1_1.length : Int)), (13, vI i2)] (by kernel_rfl) ?_
    obtain ⟨x15, hv16, hp⟩ := obind hp
    obtain ⟨m17, hm18, hx19⟩ := idx_some hv16
    have hl22 := (List.getElem?_eq_some_iff.1 hx19).1
    obtain ⟨ad23, vs20, hA24, hr21, hq25⟩ := RdS.el h_s2 hx19
    obtain rfl := dec_api_Event hr21
    refine ops_val (op := (.indexAddr 88 (.tmp 20) (.tmp 21))) (d := some 22) (v := .pointer (some (ad23.add (m17 * 4)))) ⟨by kernel_rfl⟩ (run_indexA hA24 Try.underlying88 (z := 4) (by kernel_rfl) rfl rfl hm18 hl22) ?_
    refine ops_load (d := some 23) (an := [.v (vI x15.System), .v (vI x15.Ent.N), .v (vI x15.Ent.Gen), .v (vI x15.Value)]) (evs := [.load (ad23.add (m17 * 4)) (vI x15.System), .load ((ad23.add (m17 * 4)).add 1) (vI x15.Ent.N), .load ((ad23.add (m17 * 4)).add 2) (vI x15.Ent.Gen), .load ((ad23.add (m17 * 4)).add 3) (vI x15.Value)]) (v := .agg #[vI x15.System, vI x15.Ent.N, vI x15.Ent.Gen, vI x15.Value]) ⟨by kernel_rfl⟩ (fun w_ hM => ⟨hM.elcell 0 rfl hq25 0 rfl, hM.elcell 0 rfl hq25 1 rfl, hM.elcell 0 rfl hq25 2 rfl, hM.elcell 0 rfl hq25 3 rfl, rfl⟩) ?_
    refine ops_val (op := (.binOp Go.BinOp.neq 94 (.tmp 19) (.tmp 23) 94)) (d := some 24) (v := .bool (!(x4.System == x15.System && (x4.Ent.N == x15.Ent.N && (x4.Ent.Gen == x15.Ent.Gen && (x4.Value == x15.Value)))))) ⟨by kernel_rfl⟩ (run_neq_agg (r := x4.System == x15.System && (x4.Ent.N == x15.Ent.N && (x4.Ent.Gen == x15.Ent.Gen && (x4.Value == x15.Value)))) rfl rfl (by kernel_rfl) (fun w => eqA94 9997 w x4.System x15.System x4.Ent.N x15.Ent.N x4.Ent.Gen x15.Ent.Gen x4.Value x15.Value)) ?_
    refine ops_nil (fin_then ?_)
    refine st_if (b := !(x4.System == x15.System && (x4.Ent.N == x15.Ent.N && (x4.Ent.Gen == x15.Ent.Gen && (x4.Value == x15.Value))))) rfl (fun hc26 => ?_) (fun hc26 => ?_)
    ·
     have hp := cnd_t hc26 hp
     refine st_seq (st_region [oF 0] (by rfl) ?_)
     refine oQ [oF 0] [(4, .bool false)] (by kernel_rfl) ?_
     refine ops_nil (fin_then (st_ret (fin_ret_block (fin_ret_then (fin_ret_then (fin_ret_block (fin_ret_then ?_)))))))
     obtain hq_ := Option.some.inj hp
     subst hq_
     obtain hq_ := hd2 _ rfl
     subst hq_
     have hp : some false = some t9001 := hk2
     have hq_ := Option.some.inj hp
     have hr0_ := hq_
     subst hr0_
     refine fin_ret [.tmp 4] [.bool false] rfl rfl (fun w_ hM => (.tmp rfl .nil)) (fun w_ hM => ?_)
     exact ⟨trivial, rfl, hM⟩
    ·
     have hp := cnd_f hc26 hp
     refine st_skip (fin_block (fin_then (st_region [oF 0, oF 1] (by rfl) ?_)))
     refine oQ [oF 0, oF 1] [(13, vI (IntKind.i64.wrap (i2 + 1))), (0, sl A_s1 s1_1 c_s1), (1, sl A_s2 s2_1 c_s2), (12, vI (s1_1.length : Int))] (by kernel_rfl) ?_
     refine ops_nil ?_
     exact fin_again (IntKind.i64.wrap (i2 + 1)) () (Option.some.inj hp).symm trivial (look_has ⟨rfl, rfl, rfl, rfl, trivial⟩) (fun w_ hM => hM)
   ·
    have hp := cnd_f hc3 hp
    refine st_exit (fin_exit_then (fin_exit_then (fin_exit ?_)))
    obtain hq_ := Option.some.inj hp
    subst hq_
    obtain hq_ := hd2 _ rfl
    subst hq_
    have hp : slices_Equal_api_Event_api_Event_j1 = some t9001 := hk2
    exact fin_join HJ1 () hp (look_has trivial) (fun w_ hM => hM)
theorem cmp_Or_int_ok (w0 w : World) (cs : List Chunk) (F : Nat → Prop) (W : World) (A_vals : Option Addr) (c_vals : Nat) (vals : List Int) (hM0 : Mem w0 (Fz F W :: cs) w) (h_vals : RdS (Rep.int .i64) F W A_vals c_vals vals) (i9001 : Int) (hp : cmp_Or_int vals = some i9001) : Calls Try.prog 93 #[sl A_vals vals c_vals] w fun e w' => (True) ∧ e = .returned (vI i9001) ∧ Mem w0 (Fz F W :: cs) w' := by
 unfold cmp_Or_int at hp
 refine sx_calls Try.func93 rfl (n := 18) (by kernel_rfl) (l := [(0, sl A_vals vals c_vals)]) rfl (by rfl) hM0 ?_
 refine st_seq (st_region [oF 0] (by rfl) ?_)
 refine oQ [oF 0] [(0, sl A_vals vals c_vals)] (by kernel_rfl) ?_
 refine ops_nil (fin_then (st_seq (st_region [oF 0] (by rfl) ?_)))
 refine oQ [oF 0] [(3, vI 0), (0, sl A_vals vals c_vals)] (by kernel_rfl) ?_
 refine ops_nil (fin_then ?_)
 refine st_join1 (σ := Unit) (L := fun _ => [(3, vI 0)]) (N := fun _ => Mem w0 (Fz F W :: cs)) (I := fun _ => (cmp_Or_int_j1 = some i9001)) ?_ ?_
 ·
  rintro _ hp
  unfold cmp_Or_int_j1 at hp
  refine st_seq (st_region [oF 0, oF 1] (by rfl) ?_)
  refine oQ [oF 0, oF 1] [(2, vI 0)] (by kernel_rfl) ?_
  refine ops_nil (fin_then (st_ret ?_))
  have hq_ := Option.some.inj hp
  have hr0_ := hq_
  subst hr0_
  refine fin_ret [.tmp 2] [vI 0] rfl rfl (fun w_ hM => (.tmp rfl .nil)) (fun w_ hM => ?_)
  exact ⟨trivial, rfl, hM⟩
 ·
  intro HJ1
  refine st_seq (st_seq (st_region [oF 0, oF 1, oF 2] (by rfl) ?_))
  refine oQ [oF 0, oF 1, oF 2] [(8, vI 0), (7, vI (vals.length : Int)), (6, sl A_vals vals c_vals), (3, vI 0)] (by kernel_rfl) ?_
  refine ops_nil (fin_then (st_block ?_))
  obtain ⟨r2, hl2, hk2⟩ := obind hp
  refine st_loopP (σ := Int) (ρ := (Int ⊕ Unit)) (γ := Unit) hl2 () (fun s_ g_ => match s_, g_ with | i1, _ => [(3, vI 0), (6, sl A_vals vals c_vals), (7, vI (vals.length : Int)), (8, vI i1)]) (fun s_ g_ => match s_, g_ with | i1, _ => Mem w0 (Fz F W :: cs)) (fun s_ g_ => match s_, g_ with | i1, _ => True) trivial (look_has ⟨rfl, rfl, rfl, rfl, trivial⟩) (fun w_ hM => hM) ?_
  rintro i1 _ o2 - hs_ hd2
  have hp : (cmp_Or_int_l2 vals) i1 = some o2 := hs_
  clear hs_
  unfold cmp_Or_int_l2 at hp
  refine st_seq (st_region [oF 0] (by rfl) ?_)
  refine oQ [oF 0] [(9, .bool (decide (i1 < (vals.length : Int)))), (3, vI 0), (6, sl A_vals vals c_vals), (7, vI (vals.length : Int)), (8, vI i1)] (by kernel_rfl) ?_
  refine ops_nil (fin_then (st_seq ?_))
  refine st_if (b := decide (i1 < (vals.length : Int))) rfl (fun hc2 => ?_) (fun hc2 => ?_)
  ·
   have hp := cnd_t hc2 hp
   refine st_skip (fin_then (st_seq (st_block (st_seq (st_region [oF 0, oF 1, oF 2] (by rfl) ?_)))))
   obtain ⟨x3, hv4, hp⟩ := obind hp
   obtain ⟨m5, hm6, hx7⟩ := idx_some hv4
   have hl10 := (List.getElem?_eq_some_iff.1 hx7).1
   obtain ⟨ad11, vs8, hA12, hr9, hq13⟩ := RdS.el h_vals hx7
   obtain rfl := hr9
   refine ops_val (op := (.indexAddr 23 (.tmp 6) (.tmp 8))) (d := some 10) (v := .pointer (some (ad11.add (m5 * 1)))) ⟨by kernel_rfl⟩ (run_indexA hA12 Try.underlying23 (z := 1) (by kernel_rfl) rfl rfl hm6 hl10) ?_
   refine ops_mem (d := some 11) (an := [.v (vI x3)]) (evs := [.load (ad11.add (m5 * 1)) (vI x3)]) (v := vI x3) ⟨by kernel_rfl⟩ (fun w_ hM hS => ⟨w_, ⟨hM.elcell 0 rfl hq13 0 rfl, rfl⟩, hM, trivial⟩) ?_
   refine oQ [oF 2] [(5, vI x3), (3, vI 0), (6, sl A_vals vals c_vals), (7, vI (vals.length : Int)), (8, vI i1)] (by kernel_rfl) ?_
   refine ops_nil (fin_then (st_seq (st_region [oF 0, oF 1, oF 2] (by rfl) ?_)))
   refine oQ [oF 0, oF 1, oF 2] [(14, .bool (!(x3 == 0))), (5, vI x3), (3, vI 0), (6, sl A_vals vals c_vals), (7, vI (vals.length : Int)), (8, vI i1)] (by kernel_rfl) ?_
   refine ops_nil (fin_then ?_)
   refine st_if (b := !(x3 == 0)) rfl (fun hc14 => ?_) (fun hc14 => ?_)
   ·
    have hp := cnd_t hc14 hp
    refine st_seq (st_region [oF 0, oF 1] (by rfl) ?_)
    refine oQ [oF 0, oF 1] [(2, vI x3)] (by kernel_rfl) ?_
    refine ops_nil (fin_then (st_ret (fin_ret_block (fin_ret_then (fin_ret_then (fin_ret_block (fin_ret_then ?_)))))))
    obtain hq_ := Option.some.inj hp
    subst hq_
    obtain hq_ := hd2 _ rfl
    subst hq_
    have hp : some x3 = some i9001 := hk2
    have hq_ := Option.some.inj hp
    have hr0_ := hq_
    subst hr0_
    refine fin_ret [.tmp 2] [vI x3] rfl rfl (fun w_ hM => (.tmp rfl .nil)) (fun w_ hM => ?_)
    exact ⟨trivial, rfl, hM⟩
   ·
    have hp := cnd_f hc14 hp
    refine st_skip (fin_block (fin_then (st_region [oF 0, oF 1] (by rfl) ?_)))
    refine oQ [oF 0, oF 1] [(8, vI (IntKind.i64.wrap (i1 + 1))), (3, vI 0), (6, sl A_vals vals c_vals), (7, vI (vals.length : Int))] (by kernel_rfl) ?_
    refine ops_nil ?_
    exact fin_again (IntKind.i64.wrap (i1 + 1)) () (Option.some.inj hp).symm trivial (look_has ⟨rfl, rfl, rfl, rfl, trivial⟩) (fun w_ hM => hM)
  ·
   have hp := cnd_f hc2 hp
   refine st_exit (fin_exit_then (fin_exit_then (fin_exit ?_)))
   obtain hq_ := Option.some.inj hp
   subst hq_
   obtain hq_ := hd2 _ rfl
   subst hq_
   have hp : cmp_Or_int_j1 = some i9001 := hk2
   exact fin_join HJ1 () hp (look_has ⟨rfl, trivial⟩) (fun w_ hM => hM)
def event_order__t0 : List Row := [⟨0, 32, 4⟩, ⟨1, 64, 32⟩, ⟨0, 128, 8⟩, ⟨4, 256, 128⟩, ⟨10, 512, 320⟩, ⟨0, 1024, 4⟩, ⟨32, 2048, 1024⟩, ⟨64, 4096, 2048⟩, ⟨0, 8192, 8⟩, ⟨256, 16384, 8192⟩, ⟨512, 32768, 16384⟩, ⟨1168, 65536, 36864⟩, ⟨0, 131072, 4⟩, ⟨4096, 262144, 131072⟩, ⟨8192, 524288, 262144⟩, ⟨0, 1048576, 8⟩, ⟨32768, 2097152, 1048576⟩, ⟨65536, 4194304, 2097152⟩, ⟨149504, 8388608, 4718592⟩, ⟨264208, 16777216, 8454656⟩, ⟨786432, 33554432, 16777216⟩, ⟨2097151, 16, 33554432⟩]
theorem event_order_ok (w0 w : World) (cs : List Chunk) (F : Nat → Prop) (W : World) (a_0 : Int) (a_1 : Int) (a_2 : Int) (a_3 : Int) (b_0 : Int) (b_1 : Int) (b_2 : Int) (b_3 : Int) (hM0 : Mem w0 (Fz F W :: cs) w) (i9001 : Int) (hp : event_order a_0 a_1 a_2 a_3 b_0 b_1 b_2 b_3 = some i9001) : Calls Try.prog 84 #[.agg #[vI a_0, vI a_1, vI a_2, vI a_3], .agg #[vI b_0, vI b_1, vI b_2, vI b_3]] w fun e w' => (True) ∧ e = .returned (vI i9001) ∧ Mem w0 (Fz F W :: cs) w' := by
 unfold event_order at hp
 refine sx_calls Try.func84 rfl (n := 26) (by kernel_rfl) (l := [(0, .agg #[vI a_0, vI a_1, vI a_2, vI a_3]), (1, .agg #[vI b_0, vI b_1, vI b_2, vI b_3])]) rfl (by rfl) hM0 ?_
 refine st_seq (st_region [oF 0, oF 1, oF 2] (by rfl) ?_)
 refine ops_newB (d := some 2) [vI a_0, vI a_1, vI a_2, vI a_3] 94 (fun b1 => ⟨by kernel_rfl⟩) (fun w_ hM hS => trivial) (fun b1 => ?_)
 refine ops_newB (d := some 3) [vI b_0, vI b_1, vI b_2, vI b_3] 94 (fun b2 => ⟨by kernel_rfl⟩) (fun w_ hM hS => trivial) (fun b2 => ?_)
 refine oQ [oF 2] [(3, vP b2 0), (2, vP b1 0)] (by kernel_rfl) ?_
 refine ops_nil (fin_then (st_seq ?_))
 refine st_region_fast event_order__t0 [oT 0, oT 1, oT 2, oT 3, oT 5, oT 6, oT 7, oT 8, oT 9, oT 10, oT 12, oT 13, oT 14, oT 15, oT 16, oT 17, oF 4, oF 11, oF 18, oF 19, oF 20, oT 21] (Mem w0 (.blk b2 [vI b_0, vI b_1, vI b_2, vI b_3] 94 :: .blk b1 [vI a_0, vI a_1, vI a_2, vI a_3] 94 :: Fz F W :: cs)) (by kernel_rfl) (by kernel_rfl) (by kernel_rfl) (by kernel_rfl) (by kernel_rfl) (fun _ d _ _ _ h => by cases d <;> exact h) (M' := Mem w0 (.blk b2 [vI b_0, vI b_1, vI b_2, vI b_3] 94 :: .blk b1 [vI a_0, vI a_1, vI a_2, vI a_3] 94 :: Fz F W :: cs)) (fun w_ hM => ⟨hM.drew, hM.drew.sub (.cons_cons _ (.cons_cons _ (.cons_cons _ (.refl _))))⟩) ?_
 refine oQ [oT 0] [(5, vP b1 0), (3, vP b2 0), (2, vP b1 0)] (by kernel_rfl) ?_
 refine ops_load (d := some 6) (an := [.v (vI a_0)]) (evs := [ld b1 0 (vI a_0)]) (v := vI a_0) ⟨by kernel_rfl⟩ (fun w_ hM => ⟨hM.cell 1 rfl rfl, rfl⟩) ?_
 refine oQ [oT 2] [(7, vP b2 0), (6, vI a_0), (3, vP b2 0), (2, vP b1 0)] (by kernel_rfl) ?_
 refine ops_load (d := some 8) (an := [.v (vI b_0)]) (evs := [ld b2 0 (vI b_0)]) (v := vI b_0) ⟨by kernel_rfl⟩ (fun w_ hM => ⟨hM.cell 0 rfl rfl, rfl⟩) ?_
 refine oQ [oT 5, oT 6] [(11, vP b1 1), (8, vI b_0), (6, vI a_0), (3, vP b2 0), (2, vP b1 0)] (by kernel_rfl) ?_
 refine ops_load (d := some 12) (an := [.v (vI a_1)]) (evs := [ld b1 1 (vI a_1)]) (v := vI a_1) ⟨by kernel_rfl⟩ (fun w_ hM => ⟨hM.cell 1 rfl rfl, rfl⟩) ?_
 refine oQ [oT 8, oT 9] [(14, vP b2 1), (12, vI a_1), (8, vI b_0), (6, vI a_0), (3, vP b2 0), (2, vP b1 0)] (by kernel_rfl) ?_
 refine ops_load (d := some 15) (an := [.v (vI b_1)]) (evs := [ld b2 1 (vI b_1)]) (v := vI b_1) ⟨by kernel_rfl⟩ (fun w_ hM => ⟨hM.cell 0 rfl rfl, rfl⟩) ?_
 refine oQ [oT 12, oT 13] [(18, vP b1 2), (15, vI b_1), (12, vI a_1), (8, vI b_0), (6, vI a_0), (3, vP b2 0)] (by kernel_rfl) ?_
 refine ops_load (d := some 19) (an := [.v (vI a_2)]) (evs := [ld b1 2 (vI a_2)]) (v := vI a_2) ⟨by kernel_rfl⟩ (fun w_ hM => ⟨hM.cell 1 rfl rfl, rfl⟩) ?_
 refine oQ [oT 15, oT 16] [(21, vP b2 2), (19, vI a_2), (15, vI b_1), (12, vI a_1), (8, vI b_0), (6, vI a_0)] (by kernel_rfl) ?_
 refine ops_load (d := some 22) (an := [.v (vI b_2)]) (evs := [ld b2 2 (vI b_2)]) (v := vI b_2) ⟨by kernel_rfl⟩ (fun w_ hM => ⟨hM.cell 0 rfl rfl, rfl⟩) ?_
 obtain ⟨x3, hv4, hp⟩ := obind hp
 refine ops_callI (σ := Unit) (d := some 9) (f := 79) (args := #[vI a_0, vI b_0]) (v := (fun _ => vI x3)) (I := (fun _ => True)) (M' := (fun _ => Mem w0 (.blk b2 [vI b_0, vI b_1, vI b_2, vI b_3] 94 :: .blk b1 [vI a_0, vI a_1, vI a_2, vI a_3] 94 :: Fz F W :: cs))) ⟨by kernel_rfl⟩ (fun w_ hM hS => (cmp_Compare_int_ok w0 w_ (.blk b2 [vI b_0, vI b_1, vI b_2, vI b_3] 94 :: .blk b1 [vI a_0, vI a_1, vI a_2, vI a_3] 94 :: cs) F W a_0 b_0 (hM.pick 3 [2, 0, 1] (by kernel_rfl) (by decide) rfl)  x3 hv4).mono (by rintro e w' ⟨-, rfl, h'⟩; have h' : Mem w0 (.blk b2 [vI b_0, vI b_1, vI b_2, vI b_3] 94 :: .blk b1 [vI a_0, vI a_1, vI a_2, vI a_3] 94 :: Fz F W :: cs) w' := (h'.pick 3 [1, 2, 0] (by kernel_rfl) (by decide) rfl); exact ⟨(), trivial, rfl, h', (by exact h'.sub (.cons_cons _ (.cons_cons _ (.cons_cons _ (.refl _)))))⟩)) ?_
 rintro _ -
 obtain ⟨x5, hv6, hp⟩ := obind hp
 refine ops_callI (σ := Unit) (d := some 16) (f := 79) (args := #[vI a_1, vI b_1]) (v := (fun _ => vI x5)) (I := (fun _ => True)) (M' := (fun _ => Mem w0 (.blk b2 [vI b_0, vI b_1, vI b_2, vI b_3] 94 :: .blk b1 [vI a_0, vI a_1, vI a_2, vI a_3] 94 :: Fz F W :: cs))) ⟨by kernel_rfl⟩ (fun w_ hM hS => (cmp_Compare_int_ok w0 w_ (.blk b2 [vI b_0, vI b_1, vI b_2, vI b_3] 94 :: .blk b1 [vI a_0, vI a_1, vI a_2, vI a_3] 94 :: cs) F W a_1 b_1 (hM.pick 3 [2, 0, 1] (by kernel_rfl) (by decide) rfl)  x5 hv6).mono (by rintro e w' ⟨-, rfl, h'⟩; have h' : Mem w0 (.blk b2 [vI b_0, vI b_1, vI b_2, vI b_3] 94 :: .blk b1 [vI a_0, vI a_1, vI a_2, vI a_3] 94 :: Fz F W :: cs) w' := (h'.pick 3 [1, 2, 0] (by kernel_rfl) (by decide) rfl); exact ⟨(), trivial, rfl, h', (by exact h'.sub (.cons_cons _ (.cons_cons _ (.cons_cons _ (.refl _)))))⟩)) ?_
 rintro _ -
 obtain ⟨x7, hv8, hp⟩ := obind hp
 refine ops_callI (σ := Unit) (d := some 23) (f := 79) (args := #[vI a_2, vI b_2]) (v := (fun _ => vI x7)) (I := (fun _ => True)) (M' := (fun _ => Mem w0 (.blk b2 [vI b_0, vI b_1, vI b_2, vI b_3] 94 :: .blk b1 [vI a_0, vI a_1, vI a_2, vI a_3] 94 :: Fz F W :: cs))) ⟨by kernel_rfl⟩ (fun w_ hM hS => (cmp_Compare_int_ok w0 w_ (.blk b2 [vI b_0, vI b_1, vI b_2, vI b_3] 94 :: .blk b1 [vI a_0, vI a_1, vI a_2, vI a_3] 94 :: cs) F W a_2 b_2 (hM.pick 3 [2, 0, 1] (by kernel_rfl) (by decide) rfl)  x7 hv8).mono (by rintro e w' ⟨-, rfl, h'⟩; have h' : Mem w0 (.blk b2 [vI b_0, vI b_1, vI b_2, vI b_3] 94 :: .blk b1 [vI a_0, vI a_1, vI a_2, vI a_3] 94 :: Fz F W :: cs) w' := (h'.pick 3 [1, 2, 0] (by kernel_rfl) (by decide) rfl); exact ⟨(), trivial, rfl, h', (by exact h'.sub (.cons_cons _ (.cons_cons _ (.cons_cons _ (.refl _)))))⟩)) ?_
 rintro _ -
 have h9 : RepL (Rep.int .i64) F W ([x3, x5, x7] : List Int) ([vI x3, vI x5, vI x7]) := (RepL.cons (R := (Rep.int .i64)) (F := F) (w := W) (vs := [vI x3]) (ys := [vI x5, vI x7]) rfl (RepL.cons (R := (Rep.int .i64)) (F := F) (w := W) (vs := [vI x5]) (ys := [vI x7]) rfl (RepL.cons (R := (Rep.int .i64)) (F := F) (w := W) (vs := [vI x7]) (ys := []) rfl RepL.nil)))
 refine ops_new (d := some 24) (o := .cells ([vI x3, vI x5, vI x7] : List Value).toArray 3) (v := fun g10 => .slice (sa g10) ([x3, x5, x7] : List Int).length 3) (M' := fun g10 => Mem w0 (orow (sa g10) ([x3, x5, x7] : List Int).length 3 3 1 ([vI x3, vI x5, vI x7]) :: .blk b2 [vI b_0, vI b_1, vI b_2, vI b_3] 94 :: .blk b1 [vI a_0, vI a_1, vI a_2, vI a_3] 94 :: Fz F W :: cs)) (fun g10 => ⟨by kernel_rfl⟩) (fun w_ hM hS => ⟨hM.onew [vI x3, vI x5, vI x7] 3 3 1 rfl (by decide), hS.alloc _⟩) (fun g10 => ?_)
 obtain ⟨x11, hv12, hp⟩ := obind hp
 refine ops_callI (σ := Unit) (d := some 25) (f := 93) (args := #[.slice (sa g10) ([x3, x5, x7] : List Int).length 3]) (v := (fun _ => vI x11)) (I := (fun _ => True)) (M' := (fun _ => Mem w0 (orow (sa g10) ([x3, x5, x7] : List Int).length 3 3 1 ([vI x3, vI x5, vI x7]) :: .blk b2 [vI b_0, vI b_1, vI b_2, vI b_3] 94 :: .blk b1 [vI a_0, vI a_1, vI a_2, vI a_3] 94 :: Fz F W :: cs))) ⟨by kernel_rfl⟩ (fun w_ hM hS => (cmp_Or_int_ok w_ w_ [] (fun b => b < w_.heap.size) w_ (sa g10) 3 ([x3, x5, x7] : List Int) (Mem.fz0 w_) (hM.ordS 0 3 rfl rfl h9 rfl rfl) x11 hv12).mono (by rintro e w' ⟨-, rfl, h'⟩; have h' : Mem w_ [] w' := h'.pick 1 [] (by kernel_rfl) (by decide) rfl; exact ⟨(), trivial, rfl, hM.join h' rfl, (hS.step h'.below)⟩)) ?_
 rintro _ -
 refine oQ [oT 21] [(4, vI x11)] (by kernel_rfl) ?_
 refine ops_nil (fin_then (st_ret ?_))
 have hq_ := Option.some.inj hp
 have hr0_ := hq_
 subst hr0_
 refine fin_ret [.tmp 4] [vI x11] rfl rfl (fun w_ hM => (.tmp rfl .nil)) (fun w_ hM => ?_)
 exact ⟨trivial, rfl, hM.pick 4 [3] (by kernel_rfl) (by decide) rfl⟩
def slices_BinarySearchFunc_api_Event_api_Event_api_Event__t0 : List Row := [⟨0, 34359738368, 512⟩, ⟨0, 68719476736, 512⟩, ⟨0, 137438953472, 256⟩, ⟨6, 274877906944, 206158430208⟩, ⟨8, 549755813888, 274877906944⟩, ⟨16, 1099511627776, 549755813892⟩, ⟨16, 2199023255552, 549755813889⟩, ⟨16, 4398046511104, 549755814400⟩, ⟨208, 8796093022208, 7146825580544⟩, ⟨272, 17592186044416, 9345848836096⟩, ⟨16, 35184372088832, 549755813904⟩, ⟨1584, 70368744177664, 54425825574912⟩, ⟨2064, 140737488355328, 70918499991552⟩, ⟨4112, 281474976710656, 141287244169216⟩, ⟨2049, 64, 34359738368⟩, ⟨32767, 128, 281474976710656⟩]
theorem slices_BinarySearchFunc_api_Event_api_Event_api_Event_ok (w0 w : World) (cs : List Chunk) (F : Nat → Prop) (W : World) (A_x : Option Addr) (c_x : Nat) (x : List api_Event) (target_0 : Int) (target_1 : Int) (target_2 : Int) (target_3 : Int) (hM0 : Mem w0 (Fz F W :: cs) w) (h_x : RdS R_api_Event F W A_x c_x x) (i9001 : Int) (t9002 : Bool) (hp : slices_BinarySearchFunc_api_Event_api_Event_api_Event x target_0 target_1 target_2 target_3 = some (i9001, t9002)) : Calls Try.prog 83 #[sl A_x x c_x, .agg #[vI target_0, vI target_1, vI target_2, vI target_3], .func (.func 84) #[] #[]] w fun e w' => (True) ∧ e = .returned (.tuple #[vI i9001, .bool t9002]) ∧ Mem w0 (Fz F W :: cs) w' := by
 unfold slices_BinarySearchFunc_api_Event_api_Event_api_Event at hp
 refine sx_calls Try.func83 rfl (n := 49) (by kernel_rfl) (l := [(0, sl A_x x c_x), (1, .agg #[vI target_0, vI target_1, vI target_2, vI target_3]), (2, .func (.func 84) #[] #[])]) rfl (by rfl) hM0 ?_
 refine st_seq (st_region [oF 0, oF 1, oF 2] (by rfl) ?_)
 refine ops_newB (d := some 4) [vI target_0, vI target_1, vI target_2, vI target_3] 94 (fun b1 => ⟨by kernel_rfl⟩) (fun w_ hM hS => trivial) (fun b1 => ?_)
 refine oQ [oF 1, oF 2] [(4, vP b1 0), (0, sl A_x x c_x), (2, .func (.func 84) #[] #[])] (by kernel_rfl) ?_
 refine ops_nil (fin_then (st_seq (st_region [oF 0, oF 1, oF 2] (by rfl) ?_)))
 refine oQ [oF 0, oF 1, oF 2] [(8, vI (x.length : Int)), (4, vP b1 0), (0, sl A_x x c_x), (2, .func (.func 84) #[] #[])] (by kernel_rfl) ?_
 refine ops_nil (fin_then (st_seq (st_region [oF 0, oF 1, oF 2] (by rfl) ?_)))
 refine oQ [oF 0, oF 1, oF 2] [(10, vI (x.length : Int)), (9, vI 0), (8, vI (x.length : Int)), (4, vP b1 0), (0, sl A_x x c_x), (2, .func (.func 84) #[] #[])] (by kernel_rfl) ?_
 refine ops_nil (fin_then ?_)
 refine st_join1 (σ := Int) (L := fun x_ => match x_ with | i2 => [(0, sl A_x x c_x), (2, .func (.func 84) #[] #[]), (4, vP b1 0), (8, vI (x.length : Int)), (9, vI i2)]) (N := fun x_ => match x_ with | i2 => Mem w0 (.blk b1 [vI target_0, vI target_1, vI target_2, vI target_3] 94 :: Fz F W :: cs)) (I := fun x_ => match x_ with | i2 => ((slices_BinarySearchFunc_api_Event_api_Event_api_Event_j1 x target_0 target_1 target_2 target_3) i2 = some (i9001, t9002))) ?_ ?_
 ·
  rintro i2 hp
  unfold slices_BinarySearchFunc_api_Event_api_Event_api_Event_j1 at hp
  refine st_join1 (σ := Bool) (L := fun x_ => match x_ with | t3 => [(6, vI i2), (7, .bool t3)]) (N := fun x_ => match x_ with | t3 => Mem w0 (Fz F W :: cs)) (I := fun x_ => match x_ with | t3 => ((slices_BinarySearchFunc_api_Event_api_Event_api_Event_j2 i2) t3 = some (i9001, t9002))) ?_ ?_
  ·
   rintro t3 hp
   unfold slices_BinarySearchFunc_api_Event_api_Event_api_Event_j2 at hp
   refine st_ret ?_
   have hq_ := Option.some.inj hp
   obtain ⟨hr0_, hq_⟩ := Prod.mk.inj hq_
   have hr1_ := hq_
   subst hr0_
   subst hr1_
   refine fin_ret [.tmp 6, .tmp 7] [vI i2, .bool t3] rfl rfl (fun w_ hM => (.tmp rfl (.tmp rfl .nil))) (fun w_ hM => ?_)
   exact ⟨trivial, rfl, hM⟩
  ·
   intro HJ2
   refine st_seq ?_
   refine st_region_fast slices_BinarySearchFunc_api_Event_api_Event_api_Event__t0 [oT 0, oT 1, oT 2, oT 3, oT 4, oT 5, oT 6, oT 7, oT 8, oT 9, oT 10, oF 11, oT 12, oT 13, oT 14, oT 15] (Mem w0 (.blk b1 [vI target_0, vI target_1, vI target_2, vI target_3] 94 :: Fz F W :: cs)) (by kernel_rfl) (by kernel_rfl) (by kernel_rfl) (by kernel_rfl) (by kernel_rfl) (fun _ d _ _ _ h => by cases d <;> exact h) (M' := Mem w0 (.blk b1 [vI target_0, vI target_1, vI target_2, vI target_3] 94 :: Fz F W :: cs)) (fun w_ hM => ⟨hM.drew, hM.drew.sub (.cons_cons _ (.cons_cons _ (.refl _)))⟩) ?_
   refine oQ [oT 0, oT 1, oT 2, oT 3, oT 4] [(39, .bool (decide (i2 < (x.length : Int)))), (35, vI i2), (0, sl A_x x c_x), (2, .func (.func 84) #[] #[]), (4, vP b1 0), (9, vI i2)] (by kernel_rfl) ?_
   refine ops_bool (t := decide (i2 < (x.length : Int))) (l1 := [(39, .bool true), (35, vI i2), (0, sl A_x x c_x), (2, .func (.func 84) #[] #[]), (4, vP b1 0), (9, vI i2)]) (l2 := [(39, .bool false), (35, vI i2), (0, sl A_x x c_x), (2, .func (.func 84) #[] #[]), (4, vP b1 0), (9, vI i2)]) (fun h => by rw [h]) (fun h => by rw [h]) (fun hc4 => ?_) (fun hc4 => ?_)
   ·
    have hp := cnd_t hc4 hp
    refine oQ [oT 5, oT 6, oT 7] [(42, vI i2), (41, sl A_x x c_x), (40, .func (.func 84) #[] #[]), (39, .bool true), (35, vI i2), (4, vP b1 0)] (by kernel_rfl) ?_
    obtain ⟨x5, hv6, hp⟩ := obind hp
    obtain ⟨m7, hm8, hx9⟩ := idx_some hv6
    have hl12 := (List.getElem?_eq_some_iff.1 hx9).1
    obtain ⟨ad13, vs10, hA14, hr11, hq15⟩ := RdS.el h_x hx9
    obtain rfl := dec_api_Event hr11
    refine ops_val (op := (.indexAddr 88 (.tmp 41) (.tmp 42))) (d := some 43) (v := .pointer (some (ad13.add (m7 * 4)))) ⟨by kernel_rfl⟩ (run_indexA hA14 Try.underlying88 (z := 4) (by kernel_rfl) rfl rfl hm8 hl12) ?_
    refine ops_load (d := some 44) (an := [.v (vI x5.System), .v (vI x5.Ent.N), .v (vI x5.Ent.Gen), .v (vI x5.Value)]) (evs := [.load (ad13.add (m7 * 4)) (vI x5.System), .load ((ad13.add (m7 * 4)).add 1) (vI x5.Ent.N), .load ((ad13.add (m7 * 4)).add 2) (vI x5.Ent.Gen), .load ((ad13.add (m7 * 4)).add 3) (vI x5.Value)]) (v := .agg #[vI x5.System, vI x5.Ent.N, vI x5.Ent.Gen, vI x5.Value]) ⟨by kernel_rfl⟩ (fun w_ hM => ⟨hM.elcell 1 rfl hq15 0 rfl, hM.elcell 1 rfl hq15 1 rfl, hM.elcell 1 rfl hq15 2 rfl, hM.elcell 1 rfl hq15 3 rfl, rfl⟩) ?_
    refine ops_load (d := some 45) (an := [.v (vI target_0), .v (vI target_1), .v (vI target_2), .v (vI target_3)]) (evs := [ld b1 0 (vI target_0), ld b1 1 (vI target_1), ld b1 2 (vI target_2), ld b1 3 (vI target_3)]) (v := .agg #[vI target_0, vI target_1, vI target_2, vI target_3]) ⟨by kernel_rfl⟩ (fun w_ hM => ⟨hM.cell 0 rfl rfl, hM.cell 0 rfl rfl, hM.cell 0 rfl rfl, hM.cell 0 rfl rfl, rfl⟩) ?_
    obtain ⟨x16, hv17, hp⟩ := obind hp
    refine ops_callI (σ := Unit) (d := some 46) (f := 84) (args := #[.agg #[vI x5.System, vI x5.Ent.N, vI x5.Ent.Gen, vI x5.Value], .agg #[vI target_0, vI target_1, vI target_2, vI target_3]]) (v := (fun _ => vI x16)) (I := (fun _ => True)) (M' := (fun _ => Mem w0 (.blk b1 [vI target_0, vI target_1, vI target_2, vI target_3] 94 :: Fz F W :: cs))) ⟨by kernel_rfl⟩ (fun w_ hM hS => (event_order_ok w0 w_ (.blk b1 [vI target_0, vI target_1, vI target_2, vI target_3] 94 :: cs) F W x5.System x5.Ent.N x5.Ent.Gen x5.Value target_0 target_1 target_2 target_3 (hM.pick 2 [1, 0] (by kernel_rfl) (by decide) rfl)  x16 hv17).mono (by rintro e w' ⟨-, rfl, h'⟩; have h' : Mem w0 (.blk b1 [vI target_0, vI target_1, vI target_2, vI target_3] 94 :: Fz F W :: cs) w' := (h'.pick 2 [1, 0] (by kernel_rfl) (by decide) rfl); exact ⟨(), trivial, rfl, h', (by exact h'.sub (.cons_cons _ (.cons_cons _ (.refl _))))⟩)) ?_
    rintro _ -
    refine oQ [oT 12, oT 13, oT 14, oT 15] [(7, .bool (x16 == 0)), (6, vI i2)] (by kernel_rfl) ?_
    refine ops_nil ?_
    exact fin_join HJ2 (x16 == 0) hp (look_has ⟨rfl, rfl, trivial⟩) (fun w_ hM => hM.pick 2 [1] (by kernel_rfl) (by decide) rfl)
   ·
    have hp := cnd_f hc4 hp
    refine oQ [oT 5, oT 6, oT 7, oT 8, oT 9, oT 10, oF 11, oT 12, oT 13, oT 14, oT 15] [(7, .bool false), (6, vI i2)] (by kernel_rfl) ?_
    refine ops_nil ?_
    exact fin_join HJ2 false hp (look_has ⟨rfl, rfl, trivial⟩) (fun w_ hM => hM.pick 2 [1] (by kernel_rfl) (by decide) rfl)
 ·
  intro HJ1
  refine st_seq (st_block ?_)
  obtain ⟨r3, hl3, hk3⟩ := obind hp
  refine st_loopP (σ := Int × Int) (ρ := Int) (γ := Unit) hl3 () (fun s_ g_ => match s_, g_ with | (i18, i19), _ => [(0, sl A_x x c_x), (2, .func (.func 84) #[] #[]), (4, vP b1 0), (8, vI (x.length : Int)), (9, vI i18), (10, vI i19)]) (fun s_ g_ => match s_, g_ with | (i18, i19), _ => Mem w0 (.blk b1 [vI target_0, vI target_1, vI target_2, vI target_3] 94 :: Fz F W :: cs)) (fun s_ g_ => match s_, g_ with | (i18, i19), _ => True) trivial (look_has ⟨rfl, rfl, rfl, rfl, rfl, rfl, trivial⟩) (fun w_ hM => hM) ?_
  rintro ⟨i18, i19⟩ _ o3 - hs_ hd3
  have hp : (slices_BinarySearchFunc_api_Event_api_Event_api_Event_l3 x target_0 target_1 target_2 target_3) i18 i19 = some o3 := hs_
  clear hs_
  unfold slices_BinarySearchFunc_api_Event_api_Event_api_Event_l3 at hp
  refine st_seq (st_seq (st_region [oF 0, oF 1, oF 2] (by rfl) ?_))
  refine oQ [oF 0, oF 1, oF 2] [(17, .bool (decide (i18 < i19))), (0, sl A_x x c_x), (2, .func (.func 84) #[] #[]), (4, vP b1 0), (8, vI (x.length : Int)), (9, vI i18), (10, vI i19)] (by kernel_rfl) ?_
  refine ops_nil (fin_then ?_)
  refine st_if (b := decide (i18 < i19)) rfl (fun hc20 => ?_) (fun hc20 => ?_)
  ·
   have hp := cnd_t hc20 hp
   refine st_skip (fin_then (st_block (st_seq (st_region [oF 0, oF 1, oF 2, oF 3, oF 4, oF 5, oF 6] (by rfl) ?_))))
   refine oQ [oF 0, oF 1, oF 2, oF 3, oF 4, oF 5, oF 6] [(11, vI (IntKind.i64.wrap (Int.fdiv (IntKind.u64.wrap (IntKind.i64.wrap (i18 + i19))) 2))), (0, sl A_x x c_x), (2, .func (.func 84) #[] #[]), (4, vP b1 0), (8, vI (x.length : Int)), (9, vI i18), (10, vI i19)] (by kernel_rfl) ?_
   obtain ⟨x21, hv22, hp⟩ := obind hp
   refine ops_conv (l' := [(11, vI x21), (0, sl A_x x c_x), (2, .func (.func 84) #[] #[]), (4, vP b1 0), (8, vI (x.length : Int)), (9, vI i18), (10, vI i19)]) (by rw [← Option.some.inj hv22]) (fun _ h => h) ?_
   refine ops_nil (fin_then (st_seq ?_))
   refine st_region_draw [oT 0, oT 1, oT 2, oT 3, oT 4, oT 5, oF 6, oT 7] (Mem w0 (.blk b1 [vI target_0, vI target_1, vI target_2, vI target_3] 94 :: Fz F W :: cs)) (by kernel_rfl) (by kernel_rfl) (by kernel_rfl) (fun _ d _ _ _ h => by cases d <;> exact h) (M' := Mem w0 (.blk b1 [vI target_0, vI target_1, vI target_2, vI target_3] 94 :: Fz F W :: cs)) (fun w_ hM => ⟨hM.drew, hM.drew.sub (.cons_cons _ (.cons_cons _ (.refl _)))⟩) ?_
   refine oQ [oT 0, oT 1, oT 2] [(26, vI x21), (25, sl A_x x c_x), (24, .func (.func 84) #[] #[]), (11, vI x21), (0, sl A_x x c_x), (2, .func (.func 84) #[] #[]), (4, vP b1 0), (8, vI (x.length : Int)), (9, vI i18), (10, vI i19)] (by kernel_rfl) ?_
   obtain ⟨x23, hv24, hp⟩ := obind hp
   obtain ⟨m25, hm26, hx27⟩ := idx_some hv24
   have hl30 := (List.getElem?_eq_some_iff.1 hx27).1
   obtain ⟨ad31, vs28, hA32, hr29, hq33⟩ := RdS.el h_x hx27
   obtain rfl := dec_api_Event hr29
   refine ops_val (op := (.indexAddr 88 (.tmp 25) (.tmp 26))) (d := some 27) (v := .pointer (some (ad31.add (m25 * 4)))) ⟨by kernel_rfl⟩ (run_indexA hA32 Try.underlying88 (z := 4) (by kernel_rfl) rfl rfl hm26 hl30) ?_
   refine ops_load (d := some 28) (an := [.v (vI x23.System), .v (vI x23.Ent.N), .v (vI x23.Ent.Gen), .v (vI x23.Value)]) (evs := [.load (ad31.add (m25 * 4)) (vI x23.System), .load ((ad31.add (m25 * 4)).add 1) (vI x23.Ent.N), .load ((ad31.add (m25 * 4)).add 2) (vI x23.Ent.Gen), .load ((ad31.add (m25 * 4)).add 3) (vI x23.Value)]) (v := .agg #[vI x23.System, vI x23.Ent.N, vI x23.Ent.Gen, vI x23.Value]) ⟨by kernel_rfl⟩ (fun w_ hM => ⟨hM.elcell 1 rfl hq33 0 rfl, hM.elcell 1 rfl hq33 1 rfl, hM.elcell 1 rfl hq33 2 rfl, hM.elcell 1 rfl hq33 3 rfl, rfl⟩) ?_
   refine ops_load (d := some 29) (an := [.v (vI target_0), .v (vI target_1), .v (vI target_2), .v (vI target_3)]) (evs := [ld b1 0 (vI target_0), ld b1 1 (vI target_1), ld b1 2 (vI target_2), ld b1 3 (vI target_3)]) (v := .agg #[vI target_0, vI target_1, vI target_2, vI target_3]) ⟨by kernel_rfl⟩ (fun w_ hM => ⟨hM.cell 0 rfl rfl, hM.cell 0 rfl rfl, hM.cell 0 rfl rfl, hM.cell 0 rfl rfl, rfl⟩) ?_
   obtain ⟨x34, hv35, hp⟩ := obind hp
   refine ops_callI (σ := Unit) (d := some 30) (f := 84) (args := #[.agg #[vI x23.System, vI x23.Ent.N, vI x23.Ent.Gen, vI x23.Value], .agg #[vI target_0, vI target_1, vI target_2, vI target_3]]) (v := (fun _ => vI x34)) (I := (fun _ => True)) (M' := (fun _ => Mem w0 (.blk b1 [vI target_0, vI target_1, vI target_2, vI target_3] 94 :: Fz F W :: cs))) ⟨by kernel_rfl⟩ (fun w_ hM hS => (event_order_ok w0 w_ (.blk b1 [vI target_0, vI target_1, vI target_2, vI target_3] 94 :: cs) F W x23.System x23.Ent.N x23.Ent.Gen x23.Value target_0 target_1 target_2 target_3 (hM.pick 2 [1, 0] (by kernel_rfl) (by decide) rfl)  x34 hv35).mono (by rintro e w' ⟨-, rfl, h'⟩; have h' : Mem w0 (.blk b1 [vI target_0, vI target_1, vI target_2, vI target_3] 94 :: Fz F W :: cs) w' := (h'.pick 2 [1, 0] (by kernel_rfl) (by decide) rfl); exact ⟨(), trivial, rfl, h', (by exact h'.sub (.cons_cons _ (.cons_cons _ (.refl _))))⟩)) ?_
   rintro _ -
   refine oQ [oT 7] [(31, .bool (decide (x34 < 0))), (11, vI x21), (0, sl A_x x c_x), (2, .func (.func 84) #[] #[]), (4, vP b1 0), (8, vI (x.length : Int)), (9, vI i18), (10, vI i19)] (by kernel_rfl) ?_
   refine ops_nil (fin_then ?_)
   refine st_if (b := decide (x34 < 0)) rfl (fun hc36 => ?_) (fun hc36 => ?_)
   ·
    have hp := cnd_t hc36 hp
    refine st_region [oF 0, oF 1, oF 2] (by rfl) ?_
    refine oQ [oF 0, oF 1, oF 2] [(9, vI (IntKind.i64.wrap (x21 + 1))), (0, sl A_x x c_x), (2, .func (.func 84) #[] #[]), (4, vP b1 0), (8, vI (x.length : Int)), (10, vI i19)] (by kernel_rfl) ?_
    refine ops_nil (fin_block ?_)
    exact fin_again (IntKind.i64.wrap (x21 + 1), i19) () (Option.some.inj hp).symm trivial (look_has ⟨rfl, rfl, rfl, rfl, rfl, rfl, trivial⟩) (fun w_ hM => hM)
   ·
    have hp := cnd_f hc36 hp
    refine st_region [oF 0, oF 1] (by rfl) ?_
    refine oQ [oF 0, oF 1] [(10, vI x21), (0, sl A_x x c_x), (2, .func (.func 84) #[] #[]), (4, vP b1 0), (8, vI (x.length : Int)), (9, vI i18)] (by kernel_rfl) ?_
    refine ops_nil (fin_block ?_)
    exact fin_again (i18, x21) () (Option.some.inj hp).symm trivial (look_has ⟨rfl, rfl, rfl, rfl, rfl, rfl, trivial⟩) (fun w_ hM => hM)
  ·
   have hp := cnd_f hc20 hp
   refine st_exit (fin_exit_then (fin_exit_then (fin_exit ?_)))
   obtain hq_ := Option.some.inj hp
   subst hq_
   obtain hq_ := hd3 _ rfl
   subst hq_
   have hp : (slices_BinarySearchFunc_api_Event_api_Event_api_Event_j1 x target_0 target_1 target_2 target_3) i18 = some (i9001, t9002) := hk3
   exact fin_join HJ1 i18 hp (look_has ⟨rfl, rfl, rfl, rfl, rfl, trivial⟩) (fun w_ hM => hM)
theorem event_Last_ok (w0 w : World) (cs : List Chunk) (F : Nat → Prop) (W : World) (A_l : Option Addr) (c_l : Nat) (l : List api_Event) (hM0 : Mem w0 (Fz F W :: cs) w) (h_l : RdS R_api_Event F W A_l c_l l) (l9003 : List api_Event) (hp : event_Last l = some l9003) : Calls Try.prog 54 #[sl A_l l c_l] w fun e w' => ∃ (A9001 : Option Addr), ∃ (c9002 : Nat), ∃ (y9004 : List Value), ((RepL R_api_Event F W l9003 y9004)) ∧ e = .returned (sl A9001 l9003 c9002) ∧ Mem w0 (ow A9001 l9003 c9002 94 4 y9004 :: Fz F W :: cs) w' := by
 unfold event_Last at hp
 refine sx_calls Try.func54 rfl (n := 32) (by kernel_rfl) (l := [(0, sl A_l l c_l)]) rfl (by rfl) hM0 ?_
 refine st_seq (st_region [oF 0] (by rfl) ?_)
 refine oQ [oF 0] [(0, sl A_l l c_l)] (by kernel_rfl) ?_
 refine ops_nil (fin_then (st_seq (st_region [oF 0] (by rfl) ?_)))
 refine oQ [oF 0] [(3, .slice none 0 0), (0, sl A_l l c_l)] (by kernel_rfl) ?_
 refine ops_nil (fin_then ?_)
 refine st_join1 (σ := (Option Addr) × Nat × (List api_Event) × (List Value)) (L := fun x_ => match x_ with | (A1, c2, l3, y4) => [(3, sl A1 l3 c2)]) (N := fun x_ => match x_ with | (A1, c2, l3, y4) => Mem w0 (ow A1 l3 c2 94 4 y4 :: Fz F W :: cs)) (I := fun x_ => match x_ with | (A1, c2, l3, y4) => (event_Last_j1 l3 = some l9003) ∧ (RepL R_api_Event F W l3 y4)) ?_ ?_
 ·
  rintro ⟨A1, c2, l3, y4⟩ ⟨hp, h5⟩
  unfold event_Last_j1 at hp
  refine st_seq (st_region [oF 0, oF 1] (by rfl) ?_)
  refine oQ [oF 0, oF 1] [(2, sl A1 l3 c2)] (by kernel_rfl) ?_
  refine ops_nil (fin_then (st_ret ?_))
  have hq_ := Option.some.inj hp
  have hr0_ := hq_
  subst hr0_
  refine fin_ret [.tmp 2] [sl A1 l3 c2] rfl rfl (fun w_ hM => (.tmp rfl .nil)) (fun w_ hM => ?_)
  exact ⟨A1, c2, y4, h5, rfl, hM⟩
 ·
  intro HJ1
  refine st_seq (st_seq (st_region [oF 0, oF 1, oF 2] (by rfl) ?_))
  refine oQ [oF 0, oF 1, oF 2] [(10, vI 0), (9, vI (l.length : Int)), (8, sl A_l l c_l), (3, .slice none 0 0)] (by kernel_rfl) ?_
  refine ops_nil (fin_then (st_block ?_))
  refine st_conv (l' := [(10, vI 0), (9, vI (l.length : Int)), (8, sl A_l l c_l), (3, .slice none 0 0)]) (M' := Mem w0 (ow none ([] : List api_Event) 0 94 4 [] :: Fz F W :: cs)) rfl (fun w_ h => h.onil none 94 4) ?_
  obtain ⟨r2, hl2, hk2⟩ := obind hp
  refine st_loopP (σ := (List api_Event) × Int) (ρ := (List api_Event)) (γ := (Option Addr) × Nat × (List Value)) hl2 (none, 0, []) (fun s_ g_ => match s_, g_ with | (l8, i11), (A6, c7, y9) => [(3, sl A6 l8 c7), (8, sl A_l l c_l), (9, vI (l.length : Int)), (10, vI i11)]) (fun s_ g_ => match s_, g_ with | (l8, i11), (A6, c7, y9) => Mem w0 (ow A6 l8 c7 94 4 y9 :: Fz F W :: cs)) (fun s_ g_ => match s_, g_ with | (l8, i11), (A6, c7, y9) => (RepL R_api_Event F W l8 y9)) (RepL.nil (R := R_api_Event)) (look_has ⟨rfl, rfl, rfl, rfl, trivial⟩) (fun w_ hM => hM) ?_
  rintro ⟨l8, i11⟩ ⟨A6, c7, y9⟩ o2 h10 hs_ hd2
  have hp : (event_Last_l2 l) l8 i11 = some o2 := hs_
  clear hs_
  unfold event_Last_l2 at hp
  refine st_seq (st_region [oF 0] (by rfl) ?_)
  refine oQ [oF 0] [(11, .bool (decide (i11 < (l.length : Int)))), (3, sl A6 l8 c7), (8, sl A_l l c_l), (9, vI (l.length : Int)), (10, vI i11)] (by kernel_rfl) ?_
  refine ops_nil (fin_then (st_seq ?_))
  refine st_if (b := decide (i11 < (l.length : Int))) rfl (fun hc12 => ?_) (fun hc12 => ?_)
  ·
   have hp := cnd_t hc12 hp
   refine st_skip (fin_then ?_)
   refine st_join1 (σ := (Option Addr) × Nat × (List api_Event) × (List Value)) (L := fun x_ => match x_ with | (A13, c14, l15, y16) => [(3, sl A13 l15 c14), (8, sl A_l l c_l), (9, vI (l.length : Int)), (10, vI i11)]) (N := fun x_ => match x_ with | (A13, c14, l15, y16) => Mem w0 (ow A13 l15 c14 94 4 y16 :: Fz F W :: cs)) (I := fun x_ => match x_ with | (A13, c14, l15, y16) => ((event_Last_j3 i11) l15 = some o2) ∧ (RepL R_api_Event F W l15 y16)) ?_ ?_
   ·
    rintro ⟨A13, c14, l15, y16⟩ ⟨hp, h17⟩
    unfold event_Last_j3 at hp
    refine st_region [oF 0, oF 1] (by rfl) ?_
    refine oQ [oF 0, oF 1] [(10, vI (IntKind.i64.wrap (i11 + 1))), (3, sl A13 l15 c14), (8, sl A_l l c_l), (9, vI (l.length : Int))] (by kernel_rfl) ?_
    refine ops_nil ?_
    exact fin_again (l15, IntKind.i64.wrap (i11 + 1)) (A13, c14, y16) (Option.some.inj hp).symm h17 (look_has ⟨rfl, rfl, rfl, rfl, trivial⟩) (fun w_ hM => hM)
   ·
    intro HJ3
    refine st_seq (st_block (st_seq (st_region [oF 0, oF 1, oF 2, oF 3] (by rfl) ?_)))
    obtain ⟨x18, hv19, hp⟩ := obind hp
    obtain ⟨m20, hm21, hx22⟩ := idx_some hv19
    have hl25 := (List.getElem?_eq_some_iff.1 hx22).1
    obtain ⟨ad26, vs23, hA27, hr24, hq28⟩ := RdS.el h_l hx22
    obtain rfl := dec_api_Event hr24
    refine ops_val (op := (.indexAddr 88 (.tmp 8) (.tmp 10))) (d := some 12) (v := .pointer (some (ad26.add (m20 * 4)))) ⟨by kernel_rfl⟩ (run_indexA hA27 Try.underlying88 (z := 4) (by kernel_rfl) rfl rfl hm21 hl25) ?_
    refine ops_mem (d := some 13) (an := [.v (vI x18.System), .v (vI x18.Ent.N), .v (vI x18.Ent.Gen), .v (vI x18.Value)]) (evs := [.load (ad26.add (m20 * 4)) (vI x18.System), .load ((ad26.add (m20 * 4)).add 1) (vI x18.Ent.N), .load ((ad26.add (m20 * 4)).add 2) (vI x18.Ent.Gen), .load ((ad26.add (m20 * 4)).add 3) (vI x18.Value)]) (v := .agg #[vI x18.System, vI x18.Ent.N, vI x18.Ent.Gen, vI x18.Value]) ⟨by kernel_rfl⟩ (fun w_ hM hS => ⟨w_, ⟨hM.elcell 1 rfl hq28 0 rfl, hM.elcell 1 rfl hq28 1 rfl, hM.elcell 1 rfl hq28 2 rfl, hM.elcell 1 rfl hq28 3 rfl, rfl⟩, hM, trivial⟩) ?_
    refine ops_newB (d := some 5) [vI 0, vI 0, vI 0, vI 0] 94 (fun b29 => ⟨by kernel_rfl⟩) (fun w_ hM hS => trivial) (fun b29 => ?_)
    refine ops_store (an := []) (evs := [sr b29 0 (vI x18.System), sr b29 1 (vI x18.Ent.N), sr b29 2 (vI x18.Ent.Gen), sr b29 3 (vI x18.Value)]) ⟨by kernel_rfl⟩ (fun w_ hM hS => let ⟨w', he, h'⟩ := hM.evs_stores [vI x18.System, vI x18.Ent.N, vI x18.Ent.Gen, vI x18.Value] 0 rfl 0 (Nat.le_of_ble_eq_true rfl); ⟨w', he, h', trivial⟩) ?_
    refine ops_nil (fin_then (st_seq (st_region [oF 0, oF 1, oF 2, oF 3, oF 4, oF 5, oF 6, oF 7] (by rfl) ?_)))
    refine oQ [oF 0] [(15, sl A6 l8 c7), (5, vP b29 0), (3, sl A6 l8 c7), (8, sl A_l l c_l), (9, vI (l.length : Int)), (10, vI i11)] (by kernel_rfl) ?_
    refine ops_mem (d := some 16) (an := [.v (vI x18.System), .v (vI x18.Ent.N), .v (vI x18.Ent.Gen), .v (vI x18.Value)]) (evs := [ld b29 0 (vI x18.System), ld b29 1 (vI x18.Ent.N), ld b29 2 (vI x18.Ent.Gen), ld b29 3 (vI x18.Value)]) (v := .agg #[vI x18.System, vI x18.Ent.N, vI x18.Ent.Gen, vI x18.Value]) ⟨by kernel_rfl⟩ (fun w_ hM hS => ⟨w_, ⟨hM.cell 0 rfl rfl, hM.cell 0 rfl rfl, hM.cell 0 rfl rfl, hM.cell 0 rfl rfl, rfl⟩, hM, trivial⟩) ?_
    obtain ⟨x30, x31, hv32, hp⟩ := obind2 hp
    refine ops_callI (σ := Unit) (d := some 17) (f := 83) (args := #[sl A6 l8 c7, .agg #[vI x18.System, vI x18.Ent.N, vI x18.Ent.Gen, vI x18.Value], .func (.func 84) #[] #[]]) (v := (fun _ => .tuple #[vI x30, .bool x31])) (I := (fun _ => True)) (M' := (fun _ => Mem w0 (.blk b29 [vI x18.System, vI x18.Ent.N, vI x18.Ent.Gen, vI x18.Value] 94 :: ow A6 l8 c7 94 4 y9 :: Fz F W :: cs))) ⟨by kernel_rfl⟩ (fun w_ hM hS => (slices_BinarySearchFunc_api_Event_api_Event_api_Event_ok w_ w_ [] (fun b => b < w_.heap.size) w_ A6 c7 l8 x18.System x18.Ent.N x18.Ent.Gen x18.Value (Mem.fz0 w_) (hM.ordS 1 2 rfl rfl h10 rfl rfl) x30 x31 hv32).mono (by rintro e w' ⟨-, rfl, h'⟩; have h' : Mem w_ [] w' := h'.pick 1 [] (by kernel_rfl) (by decide) rfl; exact ⟨(), trivial, rfl, hM.join h' rfl, trivial⟩)) ?_
    rintro _ -
    refine oQ [oF 3, oF 4, oF 5, oF 6, oF 7] [(7, .bool x31), (6, vI x30), (5, vP b29 0), (3, sl A6 l8 c7), (8, sl A_l l c_l), (9, vI (l.length : Int)), (10, vI i11)] (by kernel_rfl) ?_
    refine ops_nil (fin_then (st_seq (st_region [oF 0] (by rfl) ?_)))
    refine oQ [oF 0] [(20, .bool x31), (6, vI x30), (5, vP b29 0), (3, sl A6 l8 c7), (8, sl A_l l c_l), (9, vI (l.length : Int)), (10, vI i11)] (by kernel_rfl) ?_
    refine ops_nil (fin_then ?_)
    refine st_if (b := x31) rfl (fun hc33 => ?_) (fun hc33 => ?_)
    ·
     have hp := cnd_t hc33 hp
     refine st_region [oF 0, oF 1, oF 2, oF 3, oF 4] (by rfl) ?_
     refine oQ [oF 0, oF 1] [(22, vI x30), (21, sl A6 l8 c7), (5, vP b29 0), (3, sl A6 l8 c7), (8, sl A_l l c_l), (9, vI (l.length : Int)), (10, vI i11)] (by kernel_rfl) ?_
     refine ops_mem (d := some 23) (an := [.v (vI x18.System), .v (vI x18.Ent.N), .v (vI x18.Ent.Gen), .v (vI x18.Value)]) (evs := [ld b29 0 (vI x18.System), ld b29 1 (vI x18.Ent.N), ld b29 2 (vI x18.Ent.Gen), ld b29 3 (vI x18.Value)]) (v := .agg #[vI x18.System, vI x18.Ent.N, vI x18.Ent.Gen, vI x18.Value]) ⟨by kernel_rfl⟩ (fun w_ hM hS => ⟨w_, ⟨hM.cell 0 rfl rfl, hM.cell 0 rfl rfl, hM.cell 0 rfl rfl, hM.cell 0 rfl rfl, rfl⟩, hM, trivial⟩) ?_
     obtain ⟨x34, hv35, hp⟩ := obind hp
     obtain ⟨m36, hm37, hx38⟩ := idx_some hv35
     have hl41 := (List.getElem?_eq_some_iff.1 hx38).1
     refine ops_fact (fun w_ hM => hM.orowSome 1 rfl (Nat.lt_of_le_of_lt (Nat.zero_le _) hl41)) ?_
     rintro ⟨g42, rfl, -⟩
     obtain ⟨vs39, hr40, hq43⟩ := h10.at_ m36 x34 hx38
     obtain rfl := dec_api_Event hr40
     refine ops_val (op := (.indexAddr 88 (.tmp 21) (.tmp 22))) (d := some 24) (v := vP g42 (m36 * 4)) ⟨by kernel_rfl⟩ (run_indexRow Try.underlying88 (z := 4) (by kernel_rfl) rfl rfl hm37 hl41 rfl) ?_
     refine oQ [] [(24, vP g42 (m36 * 4)), (23, .agg #[vI x18.System, vI x18.Ent.N, vI x18.Ent.Gen, vI x18.Value]), (3, sl (sa g42) l8 c7), (8, sl A_l l c_l), (9, vI (l.length : Int)), (10, vI i11)] (by kernel_rfl) ?_
     obtain ⟨l44, hv45, hp⟩ := obind hp
     obtain ⟨m46, hm47, hl48, he49⟩ := upd_some hv45
     obtain rfl : m36 = m46 := by have := hm37; omega
     have hl50 : l8.length = l44.length := by rw [he49, List.length_set]
     obtain ⟨y51, hy52⟩ : ∃ y_, setAll y9 (m36 * 4 + 0) [vI x18.System, vI x18.Ent.N, vI x18.Ent.Gen, vI x18.Value] = y_ := ⟨_, rfl⟩
     have h53 : RepL R_api_Event F W l44 y51 := by rw [he49, ← hy52]; exact RepL.set h10 (List.getElem?_eq_getElem hl48) (fun vs_ hr_ _ => by obtain rfl := dec_api_Event hr_; exact ⟨(enc_api_Event), Nat.le_of_ble_eq_true rfl⟩)
     refine ops_store (an := []) (evs := [.store ⟨g42, m36 * 4, none⟩ (vI x18.System), .store ⟨g42, m36 * 4 + 1, none⟩ (vI x18.Ent.N), .store ⟨g42, m36 * 4 + 2, none⟩ (vI x18.Ent.Gen), .store ⟨g42, m36 * 4 + 3, none⟩ (vI x18.Value)]) ⟨by kernel_rfl⟩ (fun w_ hM hS => let ⟨w', he, h'⟩ := hM.ostore' 1 rfl (m36 * 4 + 0) [vI x18.System, vI x18.Ent.N, vI x18.Ent.Gen, vI x18.Value] (by have z_ : y9.length = l8.length * 4 := h10.len; have y_ : (m36 + 1) * 4 ≤ l8.length * 4 := Nat.mul_le_mul_right _ hl48; rw [Nat.add_mul] at y_; simp only [List.length_cons, List.length_nil]; omega) hl50 hy52; ⟨w', he, h', trivial⟩) ?_
     refine ops_conv (l' := [(24, vP g42 (m36 * 4)), (23, .agg #[vI x18.System, vI x18.Ent.N, vI x18.Ent.Gen, vI x18.Value]), (3, sl (sa g42) l44 c7), (8, sl A_l l c_l), (9, vI (l.length : Int)), (10, vI i11)]) (M' := Mem w0 (.blk b29 [vI x18.System, vI x18.Ent.N, vI x18.Ent.Gen, vI x18.Value] 94 :: ow (sa g42) l44 c7 94 4 y51 :: Fz F W :: cs)) (by first | rfl | ((try dsimp only [sl, ow]); rw [hl50])) (fun w_ hM => by first | exact hM | ((try dsimp only [sl, ow] at hM ⊢); rw [hl50] at hM; exact hM)) ?_
     refine ops_nil (fin_block ?_)
     exact fin_join HJ3 ((sa g42), c7, l44, y51) ⟨hp, h53⟩ (look_has ⟨rfl, rfl, rfl, rfl, trivial⟩) (fun w_ hM => hM.pick 3 [1, 2] (by kernel_rfl) (by decide) rfl)
    ·
     have hp := cnd_f hc33 hp
     refine st_region [oF 0, oF 1, oF 2, oF 3, oF 4, oF 5] (by rfl) ?_
     refine oQ [oF 0, oF 1] [(26, vI x30), (25, sl A6 l8 c7), (5, vP b29 0), (3, sl A6 l8 c7), (8, sl A_l l c_l), (9, vI (l.length : Int)), (10, vI i11)] (by kernel_rfl) ?_
     refine ops_mem (d := some 27) (an := [.v (vI x18.System), .v (vI x18.Ent.N), .v (vI x18.Ent.Gen), .v (vI x18.Value)]) (evs := [ld b29 0 (vI x18.System), ld b29 1 (vI x18.Ent.N), ld b29 2 (vI x18.Ent.Gen), ld b29 3 (vI x18.Value)]) (v := .agg #[vI x18.System, vI x18.Ent.N, vI x18.Ent.Gen, vI x18.Value]) ⟨by kernel_rfl⟩ (fun w_ hM hS => ⟨w_, ⟨hM.cell 0 rfl rfl, hM.cell 0 rfl rfl, hM.cell 0 rfl rfl, hM.cell 0 rfl rfl, rfl⟩, hM, trivial⟩) ?_
     have h55 : RepL R_api_Event F W ([(api_Event.mk x18.System (api_Ent.mk x18.Ent.N x18.Ent.Gen) x18.Value)] : List api_Event) ([vI x18.System, vI x18.Ent.N, vI x18.Ent.Gen, vI x18.Value]) := (RepL.cons (R := R_api_Event) (F := F) (w := W) (vs := [vI x18.System, vI x18.Ent.N, vI x18.Ent.Gen, vI x18.Value]) (ys := []) (enc_api_Event) RepL.nil)
     refine ops_new (d := some 28) (o := .cells ([vI x18.System, vI x18.Ent.N, vI x18.Ent.Gen, vI x18.Value] : List Value).toArray 94) (v := fun g56 => .slice (sa g56) ([(api_Event.mk x18.System (api_Ent.mk x18.Ent.N x18.Ent.Gen) x18.Value)] : List api_Event).length 1) (M' := fun g56 => Mem w0 (orow (sa g56) ([(api_Event.mk x18.System (api_Ent.mk x18.Ent.N x18.Ent.Gen) x18.Value)] : List api_Event).length 1 94 4 ([vI x18.System, vI x18.Ent.N, vI x18.Ent.Gen, vI x18.Value]) :: .blk b29 [vI x18.System, vI x18.Ent.N, vI x18.Ent.Gen, vI x18.Value] 94 :: ow A6 l8 c7 94 4 y9 :: Fz F W :: cs)) (fun g56 => ⟨by kernel_rfl⟩) (fun w_ hM hS => ⟨hM.onew [vI x18.System, vI x18.Ent.N, vI x18.Ent.Gen, vI x18.Value] 94 1 4 rfl (by decide), trivial⟩) (fun g56 => ?_)
     obtain ⟨x57, hv58, hp⟩ := obind hp
     refine ops_callI (σ := (Option Addr) × Nat × (List Value)) (d := some 29) (f := 85) (args := #[sl A6 l8 c7, vI x30, .slice (sa g56) ([(api_Event.mk x18.System (api_Ent.mk x18.Ent.N x18.Ent.Gen) x18.Value)] : List api_Event).length 1]) (v := (fun x_ => match x_ with | (A59, c60, y61) => sl A59 x57 c60)) (I := (fun x_ => match x_ with | (A59, c60, y61) => (RepL R_api_Event F W x57 y61))) (M' := (fun x_ => match x_ with | (A59, c60, y61) => Mem w0 (ow A59 x57 c60 94 4 y61 :: .blk b29 [vI x18.System, vI x18.Ent.N, vI x18.Ent.Gen, vI x18.Value] 94 :: Fz F W :: cs))) ⟨by kernel_rfl⟩ (fun w_ hM hS => (slices_Insert_api_Event_api_Event_ok w0 w_ (.blk b29 [vI x18.System, vI x18.Ent.N, vI x18.Ent.Gen, vI x18.Value] 94 :: cs) F W A6 c7 l8 y9 x30 (sa g56) 1 ([(api_Event.mk x18.System (api_Ent.mk x18.Ent.N x18.Ent.Gen) x18.Value)] : List api_Event) ([vI x18.System, vI x18.Ent.N, vI x18.Ent.Gen, vI x18.Value]) (hM.pick 4 [2, 0, 3, 1] (by kernel_rfl) (by decide) rfl) h10 h55 x57 hv58).mono (by rintro e w' ⟨A59, c60, y61, h62, rfl, h'⟩; have h' : Mem w0 (ow A59 x57 c60 94 4 y61 :: .blk b29 [vI x18.System, vI x18.Ent.N, vI x18.Ent.Gen, vI x18.Value] 94 :: Fz F W :: cs) w' := (h'.pick 3 [0, 2, 1] (by kernel_rfl) (by decide) rfl); exact ⟨(A59, c60, y61), h62, rfl, h', trivial⟩)) ?_
     rintro ⟨A59, c60, y61⟩ h62
     refine oQ [oF 5] [(3, sl A59 x57 c60), (8, sl A_l l c_l), (9, vI (l.length : Int)), (10, vI i11)] (by kernel_rfl) ?_
     refine ops_nil (fin_block ?_)
     exact fin_join HJ3 (A59, c60, x57, y61) ⟨hp, h62⟩ (look_has ⟨rfl, rfl, rfl, rfl, trivial⟩) (fun w_ hM => hM.pick 3 [0, 2] (by kernel_rfl) (by decide) rfl)
  ·
   have hp := cnd_f hc12 hp
   refine st_exit (fin_exit_then (fin_exit_then (fin_exit ?_)))
   obtain hq_ := Option.some.inj hp
   subst hq_
   obtain hq_ := hd2 _ rfl
   subst hq_
   have hp : event_Last_j1 l8 = some l9003 := hk2
   exact fin_join HJ1 (A6, c7, l8, y9) ⟨hp, h10⟩ (look_has ⟨rfl, trivial⟩) (fun w_ hM => hM)
theorem slices_Compare_int_int_ok (w0 w : World) (cs : List Chunk) (F : Nat → Prop) (W : World) (A_s1 : Option Addr) (c_s1 : Nat) (s1_1 : List Int) (A_s2 : Option Addr) (c_s2 : Nat) (s2_1 : List Int) (hM0 : Mem w0 (Fz F W :: cs) w) (h_s1 : RdS (Rep.int .i64) F W A_s1 c_s1 s1_1) (h_s2 : RdS (Rep.int .i64) F W A_s2 c_s2 s2_1) (i9001 : Int) (hp : slices_Compare_int_int s1_1 s2_1 = some i9001) : Calls Try.prog 86 #[sl A_s1 s1_1 c_s1, sl A_s2 s2_1 c_s2] w fun e w' => (True) ∧ e = .returned (vI i9001) ∧ Mem w0 (Fz F W :: cs) w' := by
 unfold slices_Compare_int_int at hp
 refine sx_calls Try.func86 rfl (n := 36) (by kernel_rfl) (l := [(0, sl A_s1 s1_1 c_s1), (1, sl A_s2 s2_1 c_s2)]) rfl (by rfl) hM0 ?_
 refine st_seq (st_region [oF 0] (by rfl) ?_)
 refine oQ [oF 0] [(0, sl A_s1 s1_1 c_s1), (1, sl A_s2 s2_1 c_s2)] (by kernel_rfl) ?_
 refine ops_nil (fin_then ?_)
 refine st_join1 (σ := Unit) (L := fun _ => [(0, sl A_s1 s1_1 c_s1), (1, sl A_s2 s2_1 c_s2)]) (N := fun _ => Mem w0 (Fz F W :: cs)) (I := fun _ => ((slices_Compare_int_int_j1 s1_1 s2_1) = some i9001)) ?_ ?_
 ·
  rintro _ hp
  unfold slices_Compare_int_int_j1 at hp
  refine st_seq (st_seq (st_region [oF 0, oF 1, oF 2, oF 3, oF 4] (by rfl) ?_))
  refine oQ [oF 0, oF 1, oF 2, oF 3, oF 4] [(35, .bool (decide ((s1_1.length : Int) < (s2_1.length : Int))))] (by kernel_rfl) ?_
  refine ops_nil (fin_then ?_)
  refine st_if (b := decide ((s1_1.length : Int) < (s2_1.length : Int))) rfl (fun hc1 => ?_) (fun hc1 => ?_)
  ·
   have hp := cnd_t hc1 hp
   refine st_seq (st_region [oF 0] (by rfl) ?_)
   refine oQ [oF 0] [(4, vI (-1))] (by kernel_rfl) ?_
   refine ops_nil (fin_then (st_ret (fin_ret_then ?_)))
   have hq_ := Option.some.inj hp
   have hr0_ := hq_
   subst hr0_
   refine fin_ret [.tmp 4] [vI (-1)] rfl rfl (fun w_ hM => (.tmp rfl .nil)) (fun w_ hM => ?_)
   exact ⟨trivial, rfl, hM⟩
  ·
   have hp := cnd_f hc1 hp
   refine st_skip (fin_then (st_seq (st_region [oF 0] (by rfl) ?_)))
   refine oQ [oF 0] [(4, vI 0)] (by kernel_rfl) ?_
   refine ops_nil (fin_then (st_ret ?_))
   have hq_ := Option.some.inj hp
   have hr0_ := hq_
   subst hr0_
   refine fin_ret [.tmp 4] [vI 0] rfl rfl (fun w_ hM => (.tmp rfl .nil)) (fun w_ hM => ?_)
   exact ⟨trivial, rfl, hM⟩
 ·
  intro HJ1
  refine st_seq (st_seq (st_region [oF 0, oF 1, oF 2] (by rfl) ?_))
  refine oQ [oF 0, oF 1, oF 2] [(11, vI 0), (10, vI (s1_1.length : Int)), (9, sl A_s1 s1_1 c_s1), (0, sl A_s1 s1_1 c_s1), (1, sl A_s2 s2_1 c_s2)] (by kernel_rfl) ?_
  refine ops_nil (fin_then (st_block ?_))
  obtain ⟨r2, hl2, hk2⟩ := obind hp
  refine st_loopP (σ := Int) (ρ := (Int ⊕ Unit)) (γ := Unit) hl2 () (fun s_ g_ => match s_, g_ with | i2, _ => [(0, sl A_s1 s1_1 c_s1), (1, sl A_s2 s2_1 c_s2), (9, sl A_s1 s1_1 c_s1), (10, vI (s1_1.length : Int)), (11, vI i2)]) (fun s_ g_ => match s_, g_ with | i2, _ => Mem w0 (Fz F W :: cs)) (fun s_ g_ => match s_, g_ with | i2, _ => True) trivial (look_has ⟨rfl, rfl, rfl, rfl, rfl, trivial⟩) (fun w_ hM => hM) ?_
  rintro i2 _ o2 - hs_ hd2
  have hp : (slices_Compare_int_int_l2 s1_1 s2_1) i2 = some o2 := hs_
  clear hs_
  unfold slices_Compare_int_int_l2 at hp
  refine st_seq (st_region [oF 0] (by rfl) ?_)
  refine oQ [oF 0] [(12, .bool (decide (i2 < (s1_1.length : Int)))), (0, sl A_s1 s1_1 c_s1), (1, sl A_s2 s2_1 c_s2), (9, sl A_s1 s1_1 c_s1), (10, vI (s1_1.length : Int)), (11, vI i2)] (by kernel_rfl) ?_
  refine ops_nil (fin_then (st_seq ?_))
  refine st_if (b := decide (i2 < (s1_1.length : Int))) rfl (fun hc3 => ?_) (fun hc3 => ?_)
  ·
   have hp := cnd_t hc3 hp
   refine st_skip (fin_then (st_seq (st_block (st_seq (st_region [oF 0, oF 1, oF 2, oF 3, oF 4] (by rfl) ?_)))))
   refine oQ [oF 0] [(13, vI i2), (0, sl A_s1 s1_1 c_s1), (1, sl A_s2 s2_1 c_s2), (9, sl A_s1 s1_1 c_s1), (10, vI (s1_1.length : Int)), (11, vI i2)] (by kernel_rfl) ?_
   obtain ⟨x4, hv5, hp⟩ := obind hp
   obtain ⟨m6, hm7, hx8⟩ := idx_some hv5
   have hl11 := (List.getElem?_eq_some_iff.1 hx8).1
   obtain ⟨ad12, vs9, hA13, hr10, hq14⟩ := RdS.el h_s1 hx8
   obtain rfl := hr10
   refine ops_val (op := (.indexAddr 23 (.tmp 9) (.tmp 11))) (d := some 14) (v := .pointer (some (ad12.add (m6 * 1)))) ⟨by kernel_rfl⟩ (run_indexA hA13 Try.underlying23 (z := 1) (by kernel_rfl) rfl rfl hm7 hl11) ?_
   refine ops_mem (d := some 15) (an := [.v (vI x4)]) (evs := [.load (ad12.add (m6 * 1)) (vI x4)]) (v := vI x4) ⟨by kernel_rfl⟩ (fun w_ hM hS => ⟨w_, ⟨hM.elcell 0 rfl hq14 0 rfl, rfl⟩, hM, trivial⟩) ?_
   refine oQ [oF 3, oF 4] [(6, vI x4), (5, vI i2), (0, sl A_s1 s1_1 c_s1), (1, sl A_s2 s2_1 c_s2), (9, sl A_s1 s1_1 c_s1), (10, vI (s1_1.length : Int)), (11, vI i2)] (by kernel_rfl) ?_
   refine ops_nil (fin_then (st_seq (st_seq (st_region [oF 0, oF 1, oF 2, oF 3] (by rfl) ?_))))
   refine oQ [oF 0, oF 1, oF 2, oF 3] [(19, .bool (decide ((s2_1.length : Int) ≤ i2))), (6, vI x4), (5, vI i2), (0, sl A_s1 s1_1 c_s1), (1, sl A_s2 s2_1 c_s2), (9, sl A_s1 s1_1 c_s1), (10, vI (s1_1.length : Int)), (11, vI i2)] (by kernel_rfl) ?_
   refine ops_nil (fin_then ?_)
   refine st_if (b := decide ((s2_1.length : Int) ≤ i2)) rfl (fun hc15 => ?_) (fun hc15 => ?_)
   ·
    have hp := cnd_t hc15 hp
    refine st_seq (st_region [oF 0] (by rfl) ?_)
    refine oQ [oF 0] [(4, vI 1)] (by kernel_rfl) ?_
    refine ops_nil (fin_then (st_ret (fin_ret_then (fin_ret_block (fin_ret_then (fin_ret_then (fin_ret_block (fin_ret_then ?_))))))))
    obtain hq_ := Option.some.inj hp
    subst hq_
    obtain hq_ := hd2 _ rfl
    subst hq_
    have hp : some 1 = some i9001 := hk2
    have hq_ := Option.some.inj hp
    have hr0_ := hq_
    subst hr0_
    refine fin_ret [.tmp 4] [vI 1] rfl rfl (fun w_ hM => (.tmp rfl .nil)) (fun w_ hM => ?_)
    exact ⟨trivial, rfl, hM⟩
   ·
    have hp := cnd_f hc15 hp
    refine st_skip (fin_then (st_seq (st_region [oF 0, oF 1, oF 2, oF 3, oF 4] (by rfl) ?_)))
    refine oQ [oF 0, oF 1] [(21, vI i2), (20, sl A_s2 s2_1 c_s2), (6, vI x4), (0, sl A_s1 s1_1 c_s1), (1, sl A_s2 s2_1 c_s2), (9, sl A_s1 s1_1 c_s1), (10, vI (s1_1.length : Int)), (11, vI i2)] (by kernel_rfl) ?_
    obtain ⟨x16, hv17, hp⟩ := obind hp
    obtain ⟨m18, hm19, hx20⟩ := idx_some hv17
    have hl23 := (List.getElem?_eq_some_iff.1 hx20).1
    obtain ⟨ad24, vs21, hA25, hr22, hq26⟩ := RdS.el h_s2 hx20
    obtain rfl := hr22
    refine ops_val (op := (.indexAddr 23 (.tmp 20) (.tmp 21))) (d := some 22) (v := .pointer (some (ad24.add (m18 * 1)))) ⟨by kernel_rfl⟩ (run_indexA hA25 Try.underlying23 (z := 1) (by kernel_rfl) rfl rfl hm19 hl23) ?_
    refine ops_mem (d := some 23) (an := [.v (vI x16)]) (evs := [.load (ad24.add (m18 * 1)) (vI x16)]) (v := vI x16) ⟨by kernel_rfl⟩ (fun w_ hM hS => ⟨w_, ⟨hM.elcell 0 rfl hq26 0 rfl, rfl⟩, hM, trivial⟩) ?_
    refine oQ [oF 4] [(7, vI x16), (6, vI x4), (0, sl A_s1 s1_1 c_s1), (1, sl A_s2 s2_1 c_s2), (9, sl A_s1 s1_1 c_s1), (10, vI (s1_1.length : Int)), (11, vI i2)] (by kernel_rfl) ?_
    refine ops_nil (fin_then (st_seq (st_region [oF 0, oF 1, oF 2, oF 3] (by rfl) ?_)))
    refine oQ [oF 0, oF 1] [(25, vI x16), (24, vI x4), (0, sl A_s1 s1_1 c_s1), (1, sl A_s2 s2_1 c_s2), (9, sl A_s1 s1_1 c_s1), (10, vI (s1_1.length : Int)), (11, vI i2)] (by kernel_rfl) ?_
    obtain ⟨x27, hv28, hp⟩ := obind hp
    refine ops_callI (σ := Unit) (d := some 26) (f := 79) (args := #[vI x4, vI x16]) (v := (fun _ => vI x27)) (I := (fun _ => True)) (M' := (fun _ => Mem w0 (Fz F W :: cs))) ⟨by kernel_rfl⟩ (fun w_ hM hS => (cmp_Compare_int_ok w0 w_ (cs) F W x4 x16 hM  x27 hv28).mono (by rintro e w' ⟨-, rfl, h'⟩; have h' : Mem w0 (Fz F W :: cs) w' := h'; exact ⟨(), trivial, rfl, h', trivial⟩)) ?_
    rintro _ -
    refine oQ [oF 3] [(8, vI x27), (0, sl A_s1 s1_1 c_s1), (1, sl A_s2 s2_1 c_s2), (9, sl A_s1 s1_1 c_s1), (10, vI (s1_1.length : Int)), (11, vI i2)] (by kernel_rfl) ?_
    refine ops_nil (fin_then (st_seq (st_region [oF 0, oF 1] (by rfl) ?_)))
    refine oQ [oF 0, oF 1] [(28, .bool (!(x27 == 0))), (8, vI x27), (0, sl A_s1 s1_1 c_s1), (1, sl A_s2 s2_1 c_s2), (9, sl A_s1 s1_1 c_s1), (10, vI (s1_1.length : Int)), (11, vI i2)] (by kernel_rfl) ?_
    refine ops_nil (fin_then ?_)
    refine st_if (b := !(x27 == 0)) rfl (fun hc29 => ?_) (fun hc29 => ?_)
    ·
     have hp := cnd_t hc29 hp
     refine st_seq (st_region [oF 0, oF 1] (by rfl) ?_)
     refine oQ [oF 0, oF 1] [(4, vI x27)] (by kernel_rfl) ?_
     refine ops_nil (fin_then (st_ret (fin_ret_block (fin_ret_then (fin_ret_then (fin_ret_block (fin_ret_then ?_)))))))
     obtain hq_ := Option.some.inj hp
     subst hq_
     obtain hq_ := hd2 _ rfl
     subst hq_
     have hp : some x27 = some i9001 := hk2
     have hq_ := Option.some.inj hp
     have hr0_ := hq_
     subst hr0_
     refine fin_ret [.tmp 4] [vI x27] rfl rfl (fun w_ hM => (.tmp rfl .nil)) (fun w_ hM => ?_)
     exact ⟨trivial, rfl, hM⟩
    ·
     have hp := cnd_f hc29 hp
     refine st_skip (fin_block (fin_then (st_region [oF 0, oF 1] (by rfl) ?_)))
     refine oQ [oF 0, oF 1] [(11, vI (IntKind.i64.wrap (i2 + 1))), (0, sl A_s1 s1_1 c_s1), (1, sl A_s2 s2_1 c_s2), (9, sl A_s1 s1_1 c_s1), (10, vI (s1_1.length : Int))] (by kernel_rfl) ?_
     refine ops_nil ?_
     exact fin_again (IntKind.i64.wrap (i2 + 1)) () (Option.some.inj hp).symm trivial (look_has ⟨rfl, rfl, rfl, rfl, rfl, trivial⟩) (fun w_ hM => hM)
  ·
   have hp := cnd_f hc3 hp
   refine st_exit (fin_exit_then (fin_exit_then (fin_exit ?_)))
   obtain hq_ := Option.some.inj hp
   subst hq_
   obtain hq_ := hd2 _ rfl
   subst hq_
   have hp : (slices_Compare_int_int_j1 s1_1 s2_1) = some i9001 := hk2
   exact fin_join HJ1 () hp (look_has ⟨rfl, rfl, trivial⟩) (fun w_ hM => hM)
theorem tourlaw3_ahead_ok (w0 w : World) (cs : List Chunk) (F : Nat → Prop) (W : World) (a_0 : Int) (a_1 : Int) (a_2 : Int) (a_3 : Int) (b_0 : Int) (b_1 : Int) (b_2 : Int) (b_3 : Int) (hM0 : Mem w0 (Fz F W :: cs) w) (t9001 : Bool) (hp : tourlaw3_ahead a_0 a_1 a_2 a_3 b_0 b_1 b_2 b_3 = some t9001) : Calls Try.prog 55 #[.agg #[vI a_0, vI a_1, vI a_2, vI a_3], .agg #[vI b_0, vI b_1, vI b_2, vI b_3]] w fun e w' => (True) ∧ e = .returned (.bool t9001) ∧ Mem w0 (Fz F W :: cs) w' := by
 unfold tourlaw3_ahead at hp
 refine sx_calls Try.func55 rfl (n := 25) (by kernel_rfl) (l := [(0, .agg #[vI a_0, vI a_1, vI a_2, vI a_3]), (1, .agg #[vI b_0, vI b_1, vI b_2, vI b_3])]) rfl (by rfl) hM0 ?_
 refine st_seq (st_region [oF 0, oF 1, oF 2] (by rfl) ?_)
 refine ops_newB (d := some 2) [vI a_0, vI a_1, vI a_2, vI a_3] 94 (fun b1 => ⟨by kernel_rfl⟩) (fun w_ hM hS => trivial) (fun b1 => ?_)
 refine ops_newB (d := some 3) [vI b_0, vI b_1, vI b_2, vI b_3] 94 (fun b2 => ⟨by kernel_rfl⟩) (fun w_ hM hS => trivial) (fun b2 => ?_)
 refine oQ [oF 2] [(3, vP b2 0), (2, vP b1 0)] (by kernel_rfl) ?_
 refine ops_nil (fin_then (st_seq (st_region [oF 0, oF 1, oF 2, oF 3, oF 4, oF 5, oF 6, oF 7, oF 8, oF 9, oF 10, oF 11, oF 12, oF 13, oF 14, oF 15, oF 16, oF 17, oF 18, oF 19, oF 20] (by rfl) ?_)))
 refine oQ [oF 0] [(5, vP b1 0), (3, vP b2 0), (2, vP b1 0)] (by kernel_rfl) ?_
 refine ops_mem (d := some 6) (an := [.v (vI a_0)]) (evs := [ld b1 0 (vI a_0)]) (v := vI a_0) ⟨by kernel_rfl⟩ (fun w_ hM hS => ⟨w_, ⟨hM.cell 1 rfl rfl, rfl⟩, hM, trivial⟩) ?_
 refine oQ [oF 2, oF 3] [(8, vP b1 1), (6, vI a_0), (3, vP b2 0), (2, vP b1 0)] (by kernel_rfl) ?_
 refine ops_mem (d := some 9) (an := [.v (vI a_1)]) (evs := [ld b1 1 (vI a_1)]) (v := vI a_1) ⟨by kernel_rfl⟩ (fun w_ hM hS => ⟨w_, ⟨hM.cell 1 rfl rfl, rfl⟩, hM, trivial⟩) ?_
 refine oQ [oF 5, oF 6] [(11, vP b1 2), (9, vI a_1), (6, vI a_0), (3, vP b2 0)] (by kernel_rfl) ?_
 refine ops_mem (d := some 12) (an := [.v (vI a_2)]) (evs := [ld b1 2 (vI a_2)]) (v := vI a_2) ⟨by kernel_rfl⟩ (fun w_ hM hS => ⟨w_, ⟨hM.cell 1 rfl rfl, rfl⟩, hM, trivial⟩) ?_
 have h3 : RepL (Rep.int .i64) F W ([a_0, a_1, a_2] : List Int) ([vI a_0, vI a_1, vI a_2]) := (RepL.cons (R := (Rep.int .i64)) (F := F) (w := W) (vs := [vI a_0]) (ys := [vI a_1, vI a_2]) rfl (RepL.cons (R := (Rep.int .i64)) (F := F) (w := W) (vs := [vI a_1]) (ys := [vI a_2]) rfl (RepL.cons (R := (Rep.int .i64)) (F := F) (w := W) (vs := [vI a_2]) (ys := []) rfl RepL.nil)))
 refine ops_new (d := some 13) (o := .cells ([vI a_0, vI a_1, vI a_2] : List Value).toArray 3) (v := fun g4 => .slice (sa g4) ([a_0, a_1, a_2] : List Int).length 3) (M' := fun g4 => Mem w0 (orow (sa g4) ([a_0, a_1, a_2] : List Int).length 3 3 1 ([vI a_0, vI a_1, vI a_2]) :: .blk b2 [vI b_0, vI b_1, vI b_2, vI b_3] 94 :: .blk b1 [vI a_0, vI a_1, vI a_2, vI a_3] 94 :: Fz F W :: cs)) (fun g4 => ⟨by kernel_rfl⟩) (fun w_ hM hS => ⟨hM.onew [vI a_0, vI a_1, vI a_2] 3 3 1 rfl (by decide), trivial⟩) (fun g4 => ?_)
 refine oQ [oF 9] [(14, vP b2 0), (13, .slice (sa g4) ([a_0, a_1, a_2] : List Int).length 3), (3, vP b2 0)] (by kernel_rfl) ?_
 refine ops_mem (d := some 15) (an := [.v (vI b_0)]) (evs := [ld b2 0 (vI b_0)]) (v := vI b_0) ⟨by kernel_rfl⟩ (fun w_ hM hS => ⟨w_, ⟨hM.cell 1 rfl rfl, rfl⟩, hM, trivial⟩) ?_
 refine oQ [oF 11, oF 12] [(17, vP b2 1), (15, vI b_0), (13, .slice (sa g4) ([a_0, a_1, a_2] : List Int).length 3), (3, vP b2 0)] (by kernel_rfl) ?_
 refine ops_mem (d := some 18) (an := [.v (vI b_1)]) (evs := [ld b2 1 (vI b_1)]) (v := vI b_1) ⟨by kernel_rfl⟩ (fun w_ hM hS => ⟨w_, ⟨hM.cell 1 rfl rfl, rfl⟩, hM, trivial⟩) ?_
 refine oQ [oF 14, oF 15] [(20, vP b2 2), (18, vI b_1), (15, vI b_0), (13, .slice (sa g4) ([a_0, a_1, a_2] : List Int).length 3)] (by kernel_rfl) ?_
 refine ops_mem (d := some 21) (an := [.v (vI b_2)]) (evs := [ld b2 2 (vI b_2)]) (v := vI b_2) ⟨by kernel_rfl⟩ (fun w_ hM hS => ⟨w_, ⟨hM.cell 1 rfl rfl, rfl⟩, hM, trivial⟩) ?_
 have h5 : RepL (Rep.int .i64) F W ([b_0, b_1, b_2] : List Int) ([vI b_0, vI b_1, vI b_2]) := (RepL.cons (R := (Rep.int .i64)) (F := F) (w := W) (vs := [vI b_0]) (ys := [vI b_1, vI b_2]) rfl (RepL.cons (R := (Rep.int .i64)) (F := F) (w := W) (vs := [vI b_1]) (ys := [vI b_2]) rfl (RepL.cons (R := (Rep.int .i64)) (F := F) (w := W) (vs := [vI b_2]) (ys := []) rfl RepL.nil)))
 refine ops_new (d := some 22) (o := .cells ([vI b_0, vI b_1, vI b_2] : List Value).toArray 3) (v := fun g6 => .slice (sa g6) ([b_0, b_1, b_2] : List Int).length 3) (M' := fun g6 => Mem w0 (orow (sa g6) ([b_0, b_1, b_2] : List Int).length 3 3 1 ([vI b_0, vI b_1, vI b_2]) :: orow (sa g4) ([a_0, a_1, a_2] : List Int).length 3 3 1 ([vI a_0, vI a_1, vI a_2]) :: .blk b2 [vI b_0, vI b_1, vI b_2, vI b_3] 94 :: .blk b1 [vI a_0, vI a_1, vI a_2, vI a_3] 94 :: Fz F W :: cs)) (fun g6 => ⟨by kernel_rfl⟩) (fun w_ hM hS => ⟨hM.onew [vI b_0, vI b_1, vI b_2] 3 3 1 rfl (by decide), trivial⟩) (fun g6 => ?_)
 obtain ⟨x7, hv8, hp⟩ := obind hp
 refine ops_callI (σ := Unit) (d := some 23) (f := 86) (args := #[.slice (sa g4) ([a_0, a_1, a_2] : List Int).length 3, .slice (sa g6) ([b_0, b_1, b_2] : List Int).length 3]) (v := (fun _ => vI x7)) (I := (fun _ => True)) (M' := (fun _ => Mem w0 (orow (sa g6) ([b_0, b_1, b_2] : List Int).length 3 3 1 ([vI b_0, vI b_1, vI b_2]) :: orow (sa g4) ([a_0, a_1, a_2] : List Int).length 3 3 1 ([vI a_0, vI a_1, vI a_2]) :: .blk b2 [vI b_0, vI b_1, vI b_2, vI b_3] 94 :: .blk b1 [vI a_0, vI a_1, vI a_2, vI a_3] 94 :: Fz F W :: cs))) ⟨by kernel_rfl⟩ (fun w_ hM hS => (slices_Compare_int_int_ok w_ w_ [] (fun b => b < w_.heap.size) w_ (sa g4) 3 ([a_0, a_1, a_2] : List Int) (sa g6) 3 ([b_0, b_1, b_2] : List Int) (Mem.fz0 w_) (hM.ordS 1 4 rfl rfl h3 rfl rfl) (hM.ordS 0 4 rfl rfl h5 rfl rfl) x7 hv8).mono (by rintro e w' ⟨-, rfl, h'⟩; have h' : Mem w_ [] w' := h'.pick 1 [] (by kernel_rfl) (by decide) rfl; exact ⟨(), trivial, rfl, hM.join h' rfl, trivial⟩)) ?_
 rintro _ -
 refine oQ [oF 19, oF 20] [(4, .bool (decide (x7 < 0)))] (by kernel_rfl) ?_
 refine ops_nil (fin_then (st_ret ?_))
 have hq_ := Option.some.inj hp
 have hr0_ := hq_
 subst hr0_
 refine fin_ret [.tmp 4] [.bool (decide (x7 < 0))] rfl rfl (fun w_ hM => (.tmp rfl .nil)) (fun w_ hM => ?_)
 exact ⟨trivial, rfl, hM.pick 5 [4] (by kernel_rfl) (by decide) rfl⟩
end Go.Proofs.Ythcniadbdjoecaa.E
