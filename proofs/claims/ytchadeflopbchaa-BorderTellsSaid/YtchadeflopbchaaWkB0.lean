/- The Go functions come to what the plain functions tell. No condition. -/
import Derived.Test.YtchadeflopbchaaProg
import Derived.Test.YtchadeflopbchaaFnB
import Derived.Test.YtchadeflopbchaaExFlt
namespace Go.Proofs.Ytchadeflopbchaa.B
open Go Go.RowKit Go.Proofs.Ytchadeflopbchaa.Sx
set_option linter.unusedVariables false
set_option maxHeartbeats 4000000
set_option maxRecDepth 100000
theorem math_IsNaN_ok (w0 w : World) (cs : List Chunk) (F : Nat → Prop) (W : World) (f : Nat) (hM0 : Mem w0 (Fz F W :: cs) w) (hp : math_IsNaN f = some ()) : Calls Try.prog 13 #[.float .f64 f] w fun e w' => (True) ∧ e = .returned (.bool (fneq f f)) ∧ Mem w0 (Fz F W :: cs) w' := by
 unfold math_IsNaN at hp
 refine sx_calls Try.func13 rfl (n := 6) (by kernel_rfl) (l := [(0, .float .f64 f)]) rfl (by rfl) hM0 ?_
 refine st_seq (st_region [oF 0] (by rfl) ?_)
 refine oQ [oF 0] [(0, .float .f64 f)] (by kernel_rfl) ?_
 refine ops_nil (fin_then (st_seq (st_region [oF 0, oF 1, oF 2, oF 3] (by rfl) ?_)))
 refine oQ [oF 0, oF 1, oF 2, oF 3] [(2, .bool (fneq f f))] (by kernel_rfl) ?_
 refine ops_nil (fin_then (st_ret ?_))
 refine fin_ret [.tmp 2] [.bool (fneq f f)] rfl rfl (fun w_ hM => (.tmp rfl .nil)) (fun w_ hM => ?_)
 exact ⟨trivial, rfl, hM⟩
theorem math_Abs_ok (w0 w : World) (cs : List Chunk) (F : Nat → Prop) (W : World) (x : Nat) (hM0 : Mem w0 (Fz F W :: cs) w) (q9001 : Nat) (hp : math_Abs x = some q9001) : Calls Try.prog 15 #[.float .f64 x] w fun e w' => (True) ∧ e = .returned (.float .f64 q9001) ∧ Mem w0 (Fz F W :: cs) w' := by
 unfold math_Abs at hp
 refine sx_calls Try.func15 rfl (n := 7) (by kernel_rfl) (l := [(0, .float .f64 x)]) rfl (by rfl) hM0 ?_
 refine st_seq (st_region [oF 0] (by rfl) ?_)
 refine oQ [oF 0] [(0, .float .f64 x)] (by kernel_rfl) ?_
 refine ops_nil (fin_then (st_seq (st_region [oF 0, oF 1, oF 2, oF 3, oF 4] (by rfl) ?_)))
 refine oQ [oF 0] [(3, .float .f64 x)] (by kernel_rfl) ?_
 refine ops_val (op := (.call { callee := (Go.Callee.value (.func 18)), args := #[(.tmp 3)], argTypes := #[37] })) (d := some 4) (v := vU ((x : Nat) : Int)) ⟨by kernel_rfl⟩ (run_ext (v0 := .float .f64 x) (e := Extern.MathFloatBits.float64bits) rfl Try.func18 (by kernel_rfl) (by kernel_rfl) (by kernel_rfl) (by kernel_rfl) (fun _ => rfl)) ?_
 refine oQ [oF 2] [(5, vU (Go.bits .andNot .u64 ((x : Nat) : Int) 9223372036854775808))] (by kernel_rfl) ?_
 refine ops_val (op := (.call { callee := (Go.Callee.value (.func 12)), args := #[(.tmp 5)], argTypes := #[22] })) (d := some 6) (v := .float .f64 ((Go.bits .andNot .u64 ((x : Nat) : Int) 9223372036854775808).toNat)) ⟨by kernel_rfl⟩ (run_ext (v0 := vU (Go.bits .andNot .u64 ((x : Nat) : Int) 9223372036854775808)) (e := Extern.MathFloatBits.float64frombits) rfl Try.func12 (by kernel_rfl) (by kernel_rfl) (by kernel_rfl) (by kernel_rfl) (fun _ => rfl)) ?_
 refine oQ [oF 4] [(2, .float .f64 ((Go.bits .andNot .u64 ((x : Nat) : Int) 9223372036854775808).toNat))] (by kernel_rfl) ?_
 refine ops_nil (fin_then (st_ret ?_))
 have hq_ := Option.some.inj hp
 have hr0_ := hq_
 subst hr0_
 refine fin_ret [.tmp 2] [.float .f64 ((Go.bits .andNot .u64 ((x : Nat) : Int) 9223372036854775808).toNat)] rfl rfl (fun w_ hM => (.tmp rfl .nil)) (fun w_ hM => ?_)
 exact ⟨trivial, rfl, hM⟩
theorem math_IsInf_ok (w0 w : World) (cs : List Chunk) (F : Nat → Prop) (W : World) (f : Nat) (sign : Int) (hM0 : Mem w0 (Fz F W :: cs) w) (t9001 : Bool) (hp : math_IsInf f sign = some t9001) : Calls Try.prog 14 #[.float .f64 f, vI sign] w fun e w' => (True) ∧ e = .returned (.bool t9001) ∧ Mem w0 (Fz F W :: cs) w' := by
 unfold math_IsInf at hp
 refine sx_calls Try.func14 rfl (n := 15) (by kernel_rfl) (l := [(0, .float .f64 f), (1, vI sign)]) rfl (by rfl) hM0 ?_
 refine st_seq (st_region [oF 0] (by rfl) ?_)
 refine oQ [oF 0] [(0, .float .f64 f), (1, vI sign)] (by kernel_rfl) ?_
 refine ops_nil (fin_then ?_)
 refine st_join1 (σ := Nat) (L := fun x_ => match x_ with | q1 => [(0, .float .f64 q1)]) (N := fun x_ => match x_ with | q1 => Mem w0 (Fz F W :: cs)) (I := fun x_ => match x_ with | q1 => (math_IsInf_j1 q1 = some t9001)) ?_ ?_
 ·
  rintro q1 hp
  unfold math_IsInf_j1 at hp
  refine st_seq (st_region [oF 0, oF 1, oF 2] (by rfl) ?_)
  refine oQ [oF 0, oF 1, oF 2] [(4, .bool (fgtr q1 9218868437227405311))] (by kernel_rfl) ?_
  refine ops_nil (fin_then (st_ret ?_))
  have hq_ := Option.some.inj hp
  have hr0_ := hq_
  subst hr0_
  refine fin_ret [.tmp 4] [.bool (fgtr q1 9218868437227405311)] rfl rfl (fun w_ hM => (.tmp rfl .nil)) (fun w_ hM => ?_)
  exact ⟨trivial, rfl, hM⟩
 ·
  intro HJ1
  refine st_seq (st_seq (st_region [oF 0, oF 1] (by rfl) ?_))
  refine oQ [oF 0, oF 1] [(6, .bool (sign == 0)), (0, .float .f64 f), (1, vI sign)] (by kernel_rfl) ?_
  refine ops_nil (fin_then ?_)
  refine st_if (b := (sign == 0)) rfl (fun hc2 => ?_) (fun hc2 => ?_)
  ·
   have hp := cnd_t hc2 hp
   refine st_region [oF 0, oF 1, oF 2] (by rfl) ?_
   refine oQ [oF 0] [(7, .float .f64 f), (0, .float .f64 f)] (by kernel_rfl) ?_
   obtain ⟨x3, hv4, hp⟩ := obind hp
   refine ops_callI (σ := Unit) (d := some 8) (f := 15) (args := #[.float .f64 f]) (v := (fun _ => .float .f64 x3)) (I := (fun _ => True)) (M' := (fun _ => Mem w0 (Fz F W :: cs))) ⟨by kernel_rfl⟩ (fun w_ hM hS => (math_Abs_ok w0 w_ (cs) F W f hM  x3 hv4).mono (by rintro e w' ⟨-, rfl, h'⟩; have h' : Mem w0 (Fz F W :: cs) w' := h'; exact ⟨(), trivial, rfl, h', trivial⟩)) ?_
   rintro _ -
   refine oQ [oF 2] [(0, .float .f64 x3)] (by kernel_rfl) ?_
   refine ops_nil ?_
   exact fin_join HJ1 x3 hp (look_has ⟨rfl, trivial⟩) (fun w_ hM => hM)
  ·
   have hp := cnd_f hc2 hp
   refine st_seq (st_region [oF 0, oF 1] (by rfl) ?_)
   refine oQ [oF 0, oF 1] [(10, .bool (decide (sign < 0))), (0, .float .f64 f)] (by kernel_rfl) ?_
   refine ops_nil (fin_then ?_)
   refine st_if (b := decide (sign < 0)) rfl (fun hc5 => ?_) (fun hc5 => ?_)
   ·
    have hp := cnd_t hc5 hp
    refine st_region [oF 0, oF 1, oF 2] (by rfl) ?_
    refine oQ [oF 0, oF 1, oF 2] [(0, .float .f64 (fneg f))] (by kernel_rfl) ?_
    refine ops_nil ?_
    exact fin_join HJ1 (fneg f) hp (look_has ⟨rfl, trivial⟩) (fun w_ hM => hM)
   ·
    have hp := cnd_f hc5 hp
    refine st_skip ?_
    exact fin_join HJ1 f hp (look_has ⟨rfl, trivial⟩) (fun w_ hM => hM)
theorem math_Trunc_ok (w0 w : World) (cs : List Chunk) (F : Nat → Prop) (W : World) (x : Nat) (hM0 : Mem w0 (Fz F W :: cs) w) (q9001 : Nat) (hp : math_Trunc x = some q9001) : Calls Try.prog 16 #[.float .f64 x] w fun e w' => (True) ∧ e = .returned (.float .f64 q9001) ∧ Mem w0 (Fz F W :: cs) w' := by
 unfold math_Trunc at hp
 refine sx_calls Try.func16 rfl (n := 7) (by kernel_rfl) (l := [(0, .float .f64 x)]) rfl (by rfl) hM0 ?_
 refine st_seq (st_region [oF 0] (by rfl) ?_)
 refine oQ [oF 0] [(0, .float .f64 x)] (by kernel_rfl) ?_
 refine ops_nil (fin_then (st_seq ?_))
 refine st_trueC ?_
 refine st_seq (st_region [oF 0, oF 1, oF 2] (by rfl) ?_)
 refine oQ [oF 0] [(3, .float .f64 x)] (by kernel_rfl) ?_
 obtain ⟨q1, hv2, hp⟩ := obind hp
 refine ops_val (op := (.call { callee := (Go.Callee.value (.func 19)), args := #[(.tmp 3)], argTypes := #[37] })) (d := some 4) (v := .float .f64 q1) ⟨by kernel_rfl⟩ (run_ext (v0 := .float .f64 x) (e := (Extern.MathFloor.toIntegral "math.archTrunc" .zero)) rfl Try.func19 (by kernel_rfl) (by kernel_rfl) (by kernel_rfl) (by kernel_rfl) (run_trunc hv2)) ?_
 refine oQ [oF 2] [(2, .float .f64 q1)] (by kernel_rfl) ?_
 refine ops_nil (fin_then (st_ret (fin_ret_then ?_)))
 have hq_ := Option.some.inj hp
 have hr0_ := hq_
 subst hr0_
 refine fin_ret [.tmp 2] [.float .f64 q1] rfl rfl (fun w_ hM => (.tmp rfl .nil)) (fun w_ hM => ?_)
 exact ⟨trivial, rfl, hM⟩
theorem border_From_ok (w0 w : World) (cs : List Chunk) (F : Nat → Prop) (W : World) (bits_1 : Int) (hM0 : Mem w0 (Fz F W :: cs) w) (i9001 : Int) (i9002 : Int) (hp : border_From bits_1 = some (i9001, i9002)) : Calls Try.prog 5 #[vU bits_1] w fun e w' => (True) ∧ e = .returned (.tuple #[vI i9001, vI i9002]) ∧ Mem w0 (Fz F W :: cs) w' := by
 unfold border_From at hp
 refine sx_calls Try.func5 rfl (n := 29) (by kernel_rfl) (l := [(0, vU bits_1)]) rfl (by rfl) hM0 ?_
 refine st_seq (st_region [oF 0, oF 1] (by rfl) ?_)
 refine oQ [oF 0, oF 1] [(0, vU bits_1)] (by kernel_rfl) ?_
 refine ops_nil (fin_then (st_seq (st_region [oF 0, oF 1, oF 2] (by rfl) ?_)))
 refine oQ [oF 0] [(5, vU bits_1), (0, vU bits_1)] (by kernel_rfl) ?_
 refine ops_val (op := (.call { callee := (Go.Callee.value (.func 12)), args := #[(.tmp 5)], argTypes := #[22] })) (d := some 6) (v := .float .f64 ((bits_1).toNat)) ⟨by kernel_rfl⟩ (run_ext (v0 := vU bits_1) (e := Extern.MathFloatBits.float64frombits) rfl Try.func12 (by kernel_rfl) (by kernel_rfl) (by kernel_rfl) (by kernel_rfl) (fun _ => rfl)) ?_
 refine oQ [oF 2] [(4, .float .f64 ((bits_1).toNat)), (0, vU bits_1)] (by kernel_rfl) ?_
 refine ops_nil (fin_then (st_seq (st_block (st_seq (st_region [oF 0, oF 1, oF 2, oF 3, oF 4, oF 5, oF 6] (by rfl) ?_)))))
 refine oQ [oF 0] [(8, .float .f64 ((bits_1).toNat)), (4, .float .f64 ((bits_1).toNat)), (0, vU bits_1)] (by kernel_rfl) ?_
 obtain ⟨_, hv1, hp⟩ := obind hp
 refine ops_callI (σ := Unit) (d := some 9) (f := 13) (args := #[.float .f64 ((bits_1).toNat)]) (v := (fun _ => .bool (fneq ((bits_1).toNat) ((bits_1).toNat)))) (I := (fun _ => True)) (M' := (fun _ => Mem w0 (Fz F W :: cs))) ⟨by kernel_rfl⟩ (fun w_ hM hS => (math_IsNaN_ok w0 w_ (cs) F W ((bits_1).toNat) hM   hv1).mono (by rintro e w' ⟨-, rfl, h'⟩; have h' : Mem w0 (Fz F W :: cs) w' := h'; exact ⟨(), trivial, rfl, h', trivial⟩)) ?_
 rintro _ -
 refine oQ [oF 2] [(10, .bool (fneq ((bits_1).toNat) ((bits_1).toNat))), (4, .float .f64 ((bits_1).toNat)), (0, vU bits_1)] (by kernel_rfl) ?_
 refine ops_bool (t := fneq ((bits_1).toNat) ((bits_1).toNat)) (l1 := [(10, .bool true), (4, .float .f64 ((bits_1).toNat)), (0, vU bits_1)]) (l2 := [(10, .bool false), (4, .float .f64 ((bits_1).toNat)), (0, vU bits_1)]) (fun h => by rw [h]) (fun h => by rw [h]) (fun hc2 => ?_) (fun hc2 => ?_)
 ·
  have hp := cnd_t hc2 hp
  refine oQ [oF 3, oF 4, oF 5, oF 6] [(7, .bool true), (4, .float .f64 ((bits_1).toNat)), (0, vU bits_1)] (by kernel_rfl) ?_
  refine ops_nil (fin_then (st_true rfl (st_seq (st_region [oF 0, oF 1] (by rfl) ?_))))
  refine oQ [oF 0, oF 1] [(3, vI 3), (2, vI 0)] (by kernel_rfl) ?_
  refine ops_nil (fin_then (st_ret (fin_ret_block (fin_ret_then ?_))))
  have hq_ := Option.some.inj hp
  obtain ⟨hr0_, hq_⟩ := Prod.mk.inj hq_
  have hr1_ := hq_
  subst hr0_
  subst hr1_
  refine fin_ret [.tmp 2, .tmp 3] [vI 0, vI 3] rfl rfl (fun w_ hM => (.tmp rfl (.tmp rfl .nil))) (fun w_ hM => ?_)
  exact ⟨trivial, rfl, hM⟩
 ·
  have hp := cnd_f hc2 hp
  refine oQ [oF 3] [(11, .float .f64 ((bits_1).toNat)), (10, .bool false), (4, .float .f64 ((bits_1).toNat)), (0, vU bits_1)] (by kernel_rfl) ?_
  obtain ⟨x3, hv4, hp⟩ := obind hp
  refine ops_callI (σ := Unit) (d := some 12) (f := 14) (args := #[.float .f64 ((bits_1).toNat), vI 0]) (v := (fun _ => .bool x3)) (I := (fun _ => True)) (M' := (fun _ => Mem w0 (Fz F W :: cs))) ⟨by kernel_rfl⟩ (fun w_ hM hS => (math_IsInf_ok w0 w_ (cs) F W ((bits_1).toNat) 0 hM  x3 hv4).mono (by rintro e w' ⟨-, rfl, h'⟩; have h' : Mem w0 (Fz F W :: cs) w' := h'; exact ⟨(), trivial, rfl, h', trivial⟩)) ?_
  rintro _ -
  refine oQ [oF 5, oF 6] [(7, .bool x3), (4, .float .f64 ((bits_1).toNat)), (0, vU bits_1)] (by kernel_rfl) ?_
  refine ops_nil (fin_then ?_)
  refine st_if (b := x3) rfl (fun hc5 => ?_) (fun hc5 => ?_)
  ·
   have hp := cnd_t hc5 hp
   refine st_seq (st_region [oF 0, oF 1] (by rfl) ?_)
   refine oQ [oF 0, oF 1] [(3, vI 3), (2, vI 0)] (by kernel_rfl) ?_
   refine ops_nil (fin_then (st_ret (fin_ret_block (fin_ret_then ?_))))
   have hq_ := Option.some.inj hp
   obtain ⟨hr0_, hq_⟩ := Prod.mk.inj hq_
   have hr1_ := hq_
   subst hr0_
   subst hr1_
   refine fin_ret [.tmp 2, .tmp 3] [vI 0, vI 3] rfl rfl (fun w_ hM => (.tmp rfl (.tmp rfl .nil))) (fun w_ hM => ?_)
   exact ⟨trivial, rfl, hM⟩
  ·
   have hp := cnd_f hc5 hp
   refine st_seq (st_region [oF 0, oF 1, oF 2, oF 3] (by rfl) ?_)
   refine oQ [oF 0] [(15, .float .f64 ((bits_1).toNat)), (4, .float .f64 ((bits_1).toNat)), (0, vU bits_1)] (by kernel_rfl) ?_
   obtain ⟨x6, hv7, hp⟩ := obind hp
   refine ops_callI (σ := Unit) (d := some 16) (f := 15) (args := #[.float .f64 ((bits_1).toNat)]) (v := (fun _ => .float .f64 x6)) (I := (fun _ => True)) (M' := (fun _ => Mem w0 (Fz F W :: cs))) ⟨by kernel_rfl⟩ (fun w_ hM hS => (math_Abs_ok w0 w_ (cs) F W ((bits_1).toNat) hM  x6 hv7).mono (by rintro e w' ⟨-, rfl, h'⟩; have h' : Mem w0 (Fz F W :: cs) w' := h'; exact ⟨(), trivial, rfl, h', trivial⟩)) ?_
   rintro _ -
   refine oQ [oF 2, oF 3] [(14, .bool (fgtr x6 4715268809856909312)), (4, .float .f64 ((bits_1).toNat)), (0, vU bits_1)] (by kernel_rfl) ?_
   refine ops_nil (fin_then ?_)
   refine st_if (b := fgtr x6 4715268809856909312) rfl (fun hc8 => ?_) (fun hc8 => ?_)
   ·
    have hp := cnd_t hc8 hp
    refine st_seq (st_region [oF 0, oF 1] (by rfl) ?_)
    refine oQ [oF 0, oF 1] [(3, vI 2), (2, vI 0)] (by kernel_rfl) ?_
    refine ops_nil (fin_then (st_ret (fin_ret_block (fin_ret_then ?_))))
    have hq_ := Option.some.inj hp
    obtain ⟨hr0_, hq_⟩ := Prod.mk.inj hq_
    have hr1_ := hq_
    subst hr0_
    subst hr1_
    refine fin_ret [.tmp 2, .tmp 3] [vI 0, vI 2] rfl rfl (fun w_ hM => (.tmp rfl (.tmp rfl .nil))) (fun w_ hM => ?_)
    exact ⟨trivial, rfl, hM⟩
   ·
    have hp := cnd_f hc8 hp
    refine st_seq (st_region [oF 0, oF 1, oF 2] (by rfl) ?_)
    refine oQ [oF 0, oF 1, oF 2] [(18, .bool (bits_1 == 9223372036854775808)), (4, .float .f64 ((bits_1).toNat))] (by kernel_rfl) ?_
    refine ops_nil (fin_then ?_)
    refine st_if (b := (bits_1 == 9223372036854775808)) rfl (fun hc9 => ?_) (fun hc9 => ?_)
    ·
     have hp := cnd_t hc9 hp
     refine st_seq (st_region [oF 0, oF 1] (by rfl) ?_)
     refine oQ [oF 0, oF 1] [(3, vI 3), (2, vI 0)] (by kernel_rfl) ?_
     refine ops_nil (fin_then (st_ret (fin_ret_block (fin_ret_then ?_))))
     have hq_ := Option.some.inj hp
     obtain ⟨hr0_, hq_⟩ := Prod.mk.inj hq_
     have hr1_ := hq_
     subst hr0_
     subst hr1_
     refine fin_ret [.tmp 2, .tmp 3] [vI 0, vI 3] rfl rfl (fun w_ hM => (.tmp rfl (.tmp rfl .nil))) (fun w_ hM => ?_)
     exact ⟨trivial, rfl, hM⟩
    ·
     have hp := cnd_f hc9 hp
     refine st_skip (fin_block (fin_then (st_seq (st_region [oF 0, oF 1, oF 2] (by rfl) ?_))))
     refine oQ [oF 0] [(21, .float .f64 ((bits_1).toNat)), (4, .float .f64 ((bits_1).toNat))] (by kernel_rfl) ?_
     obtain ⟨q10, hv11, hp⟩ := obind hp
     refine ops_val (op := (.binOp Go.BinOp.mul 37 (.tmp 21) (.const (Go.Value.float FloatKind.f64 4679240012837945344)) 37)) (d := some 22) (v := .float .f64 q10) ⟨by kernel_rfl⟩ (run_flt rfl rfl hv11) ?_
     refine oQ [oF 2] [(4, .float .f64 q10)] (by kernel_rfl) ?_
     refine ops_nil (fin_then (st_seq (st_seq (st_region [oF 0, oF 1, oF 2, oF 3] (by rfl) ?_))))
     refine oQ [oF 0, oF 1] [(24, .float .f64 q10), (23, .float .f64 q10), (4, .float .f64 q10)] (by kernel_rfl) ?_
     obtain ⟨x12, hv13, hp⟩ := obind hp
     refine ops_callI (σ := Unit) (d := some 25) (f := 16) (args := #[.float .f64 q10]) (v := (fun _ => .float .f64 x12)) (I := (fun _ => True)) (M' := (fun _ => Mem w0 (Fz F W :: cs))) ⟨by kernel_rfl⟩ (fun w_ hM hS => (math_Trunc_ok w0 w_ (cs) F W q10 hM  x12 hv13).mono (by rintro e w' ⟨-, rfl, h'⟩; have h' : Mem w0 (Fz F W :: cs) w' := h'; exact ⟨(), trivial, rfl, h', trivial⟩)) ?_
     rintro _ -
     refine oQ [oF 3] [(26, .bool (fneq q10 x12)), (4, .float .f64 q10)] (by kernel_rfl) ?_
     refine ops_nil (fin_then ?_)
     refine st_if (b := fneq q10 x12) rfl (fun hc14 => ?_) (fun hc14 => ?_)
     ·
      have hp := cnd_t hc14 hp
      refine st_seq (st_region [oF 0, oF 1] (by rfl) ?_)
      refine oQ [oF 0, oF 1] [(3, vI 3), (2, vI 0)] (by kernel_rfl) ?_
      refine ops_nil (fin_then (st_ret (fin_ret_then ?_)))
      have hq_ := Option.some.inj hp
      obtain ⟨hr0_, hq_⟩ := Prod.mk.inj hq_
      have hr1_ := hq_
      subst hr0_
      subst hr1_
      refine fin_ret [.tmp 2, .tmp 3] [vI 0, vI 3] rfl rfl (fun w_ hM => (.tmp rfl (.tmp rfl .nil))) (fun w_ hM => ?_)
      exact ⟨trivial, rfl, hM⟩
     ·
      have hp := cnd_f hc14 hp
      refine st_skip (fin_then (st_seq (st_region [oF 0, oF 1, oF 2, oF 3] (by rfl) ?_)))
      refine oQ [oF 0] [(27, .float .f64 q10)] (by kernel_rfl) ?_
      obtain ⟨x15, hv16, hp⟩ := obind hp
      refine ops_val (op := (.convert 37 3 (.tmp 27))) (d := some 28) (v := vI x15) ⟨by kernel_rfl⟩ (run_fint Try.underlying37 Try.underlying3 rfl hv16) ?_
      refine oQ [oF 2, oF 3] [(3, vI 0), (2, vI x15)] (by kernel_rfl) ?_
      refine ops_nil (fin_then (st_ret ?_))
      have hq_ := Option.some.inj hp
      obtain ⟨hr0_, hq_⟩ := Prod.mk.inj hq_
      have hr1_ := hq_
      subst hr0_
      subst hr1_
      refine fin_ret [.tmp 2, .tmp 3] [vI x15, vI 0] rfl rfl (fun w_ hM => (.tmp rfl (.tmp rfl .nil))) (fun w_ hM => ?_)
      exact ⟨trivial, rfl, hM⟩
theorem tourref1_FromBits_ok (w0 w : World) (cs : List Chunk) (F : Nat → Prop) (W : World) (b : Int) (hM0 : Mem w0 (Fz F W :: cs) w) (i9001 : Int) (i9002 : Int) (hp : tourref1_FromBits b = some (i9001, i9002)) : Calls Try.prog 6 #[vU b] w fun e w' => (True) ∧ e = .returned (.tuple #[vI i9001, vI i9002]) ∧ Mem w0 (Fz F W :: cs) w' := by
 unfold tourref1_FromBits at hp
 refine sx_calls Try.func6 rfl (n := 49) (by kernel_rfl) (l := [(0, vU b)]) rfl (by rfl) hM0 ?_
 refine st_seq (st_region [oF 0, oF 1] (by rfl) ?_)
 refine oQ [oF 0, oF 1] [(0, vU b)] (by kernel_rfl) ?_
 refine ops_nil (fin_then (st_seq (st_region [oF 0, oF 1, oF 2, oF 3, oF 4, oF 5, oF 6, oF 7, oF 8] (by rfl) ?_)))
 refine oQ [oF 0, oF 1, oF 2, oF 3, oF 4, oF 5, oF 6, oF 7, oF 8] [(5, vI (IntKind.i64.wrap (Go.bits .and .u64 b 4503599627370495))), (4, vI (IntKind.i64.wrap (Go.bits .and .u64 (Int.fdiv b 4503599627370496) 2047))), (0, vU b)] (by kernel_rfl) ?_
 obtain ⟨x1, hv2, hp⟩ := obind hp
 refine ops_conv (l' := [(5, vI (IntKind.i64.wrap (Go.bits .and .u64 b 4503599627370495))), (4, vI x1), (0, vU b)]) (by rw [← Option.some.inj hv2]) (fun _ h => h) ?_
 refine ops_nil (fin_then (st_seq (st_seq (st_region [oF 0, oF 1] (by rfl) ?_))))
 refine oQ [oF 0, oF 1] [(14, .bool (x1 == 2047)), (5, vI (IntKind.i64.wrap (Go.bits .and .u64 b 4503599627370495))), (4, vI x1), (0, vU b)] (by kernel_rfl) ?_
 refine ops_nil (fin_then ?_)
 refine st_if (b := (x1 == 2047)) rfl (fun hc3 => ?_) (fun hc3 => ?_)
 ·
  have hp := cnd_t hc3 hp
  refine st_seq (st_region [oF 0, oF 1] (by rfl) ?_)
  refine oQ [oF 0, oF 1] [(3, vI 3), (2, vI 0)] (by kernel_rfl) ?_
  refine ops_nil (fin_then (st_ret (fin_ret_then ?_)))
  have hq_ := Option.some.inj hp
  obtain ⟨hr0_, hq_⟩ := Prod.mk.inj hq_
  have hr1_ := hq_
  subst hr0_
  subst hr1_
  refine fin_ret [.tmp 2, .tmp 3] [vI 0, vI 3] rfl rfl (fun w_ hM => (.tmp rfl (.tmp rfl .nil))) (fun w_ hM => ?_)
  exact ⟨trivial, rfl, hM⟩
 ·
  have hp := cnd_f hc3 hp
  refine st_skip (fin_then ?_)
  refine st_join1 (σ := Int × Int) (L := fun x_ => match x_ with | (i4, i5) => [(0, vU b), (4, vI i4), (5, vI i5)]) (N := fun x_ => match x_ with | (i4, i5) => Mem w0 (Fz F W :: cs)) (I := fun x_ => match x_ with | (i4, i5) => ((tourref1_FromBits_j1 b) i4 i5 = some (i9001, i9002))) ?_ ?_
  ·
   rintro ⟨i4, i5⟩ hp
   unfold tourref1_FromBits_j1 at hp
   refine st_join1 (σ := Unit) (L := fun _ => [(0, vU b), (4, vI i4), (5, vI i5)]) (N := fun _ => Mem w0 (Fz F W :: cs)) (I := fun _ => ((tourref1_FromBits_j2 i5 b i4) = some (i9001, i9002))) ?_ ?_
   ·
    rintro _ hp
    unfold tourref1_FromBits_j2 at hp
    refine st_seq (st_seq (st_region [oF 0, oF 1] (by rfl) ?_))
    refine oQ [oF 0, oF 1] [(30, .bool (i5 == 0)), (0, vU b), (4, vI i4), (5, vI i5)] (by kernel_rfl) ?_
    refine ops_nil (fin_then ?_)
    refine st_if (b := (i5 == 0)) rfl (fun hc6 => ?_) (fun hc6 => ?_)
    ·
     have hp := cnd_t hc6 hp
     refine st_seq (st_seq (st_region [oF 0, oF 1, oF 2] (by rfl) ?_))
     refine oQ [oF 0, oF 1, oF 2] [(33, .bool (Int.fdiv b 9223372036854775808 == 1))] (by kernel_rfl) ?_
     refine ops_nil (fin_then ?_)
     refine st_if (b := (Int.fdiv b 9223372036854775808 == 1)) rfl (fun hc7 => ?_) (fun hc7 => ?_)
     ·
      have hp := cnd_t hc7 hp
      refine st_seq (st_region [oF 0, oF 1] (by rfl) ?_)
      refine oQ [oF 0, oF 1] [(3, vI 3), (2, vI 0)] (by kernel_rfl) ?_
      refine ops_nil (fin_then (st_ret (fin_ret_then (fin_ret_then ?_))))
      have hq_ := Option.some.inj hp
      obtain ⟨hr0_, hq_⟩ := Prod.mk.inj hq_
      have hr1_ := hq_
      subst hr0_
      subst hr1_
      refine fin_ret [.tmp 2, .tmp 3] [vI 0, vI 3] rfl rfl (fun w_ hM => (.tmp rfl (.tmp rfl .nil))) (fun w_ hM => ?_)
      exact ⟨trivial, rfl, hM⟩
     ·
      have hp := cnd_f hc7 hp
      refine st_skip (fin_then (st_seq (st_region [oF 0, oF 1] (by rfl) ?_)))
      refine oQ [oF 0, oF 1] [(3, vI 0), (2, vI 0)] (by kernel_rfl) ?_
      refine ops_nil (fin_then (st_ret (fin_ret_then ?_)))
      have hq_ := Option.some.inj hp
      obtain ⟨hr0_, hq_⟩ := Prod.mk.inj hq_
      have hr1_ := hq_
      subst hr0_
      subst hr1_
      refine fin_ret [.tmp 2, .tmp 3] [vI 0, vI 0] rfl rfl (fun w_ hM => (.tmp rfl (.tmp rfl .nil))) (fun w_ hM => ?_)
      exact ⟨trivial, rfl, hM⟩
    ·
     have hp := cnd_f hc6 hp
     refine st_skip (fin_then ?_)
     refine st_join1 (σ := Int) (L := fun x_ => match x_ with | i8 => [(0, vU b), (5, vI i8)]) (N := fun x_ => match x_ with | i8 => Mem w0 (Fz F W :: cs)) (I := fun x_ => match x_ with | i8 => ((tourref1_FromBits_j3 b) i8 = some (i9001, i9002))) ?_ ?_
     ·
      rintro i8 hp
      unfold tourref1_FromBits_j3 at hp
      refine st_join1 (σ := Int) (L := fun x_ => match x_ with | i9 => [(5, vI i9)]) (N := fun x_ => match x_ with | i9 => Mem w0 (Fz F W :: cs)) (I := fun x_ => match x_ with | i9 => (tourref1_FromBits_j4 i9 = some (i9001, i9002))) ?_ ?_
      ·
       rintro i9 hp
       unfold tourref1_FromBits_j4 at hp
       refine st_seq (st_region [oF 0, oF 1, oF 2] (by rfl) ?_)
       refine oQ [oF 0, oF 1, oF 2] [(3, vI 0), (2, vI i9)] (by kernel_rfl) ?_
       refine ops_nil (fin_then (st_ret ?_))
       have hq_ := Option.some.inj hp
       obtain ⟨hr0_, hq_⟩ := Prod.mk.inj hq_
       have hr1_ := hq_
       subst hr0_
       subst hr1_
       refine fin_ret [.tmp 2, .tmp 3] [vI i9, vI 0] rfl rfl (fun w_ hM => (.tmp rfl (.tmp rfl .nil))) (fun w_ hM => ?_)
       exact ⟨trivial, rfl, hM⟩
      ·
       intro HJ4
       refine st_seq (st_seq (st_region [oF 0, oF 1, oF 2] (by rfl) ?_))
       refine oQ [oF 0, oF 1, oF 2] [(45, .bool (Int.fdiv b 9223372036854775808 == 1)), (5, vI i8)] (by kernel_rfl) ?_
       refine ops_nil (fin_then ?_)
       refine st_if (b := (Int.fdiv b 9223372036854775808 == 1)) rfl (fun hc10 => ?_) (fun hc10 => ?_)
       ·
        have hp := cnd_t hc10 hp
        refine st_region [oF 0, oF 1, oF 2] (by rfl) ?_
        refine oQ [oF 0, oF 1, oF 2] [(5, vI (IntKind.i64.wrap (0 - i8)))] (by kernel_rfl) ?_
        refine ops_nil ?_
        exact fin_join HJ4 (IntKind.i64.wrap (0 - i8)) hp (look_has ⟨rfl, trivial⟩) (fun w_ hM => hM)
       ·
        have hp := cnd_f hc10 hp
        refine st_skip ?_
        exact fin_join HJ4 i8 hp (look_has ⟨rfl, trivial⟩) (fun w_ hM => hM)
     ·
      intro HJ3
      refine st_seq (st_block ?_)
      obtain ⟨r5, hl5, hk5⟩ := obind hp
      refine st_loopP (σ := Int × Int) (ρ := ((Int × Int) ⊕ Int)) (γ := Unit) hl5 () (fun s_ g_ => match s_, g_ with | (i11, i12), _ => [(0, vU b), (4, vI i11), (5, vI i12)]) (fun s_ g_ => match s_, g_ with | (i11, i12), _ => Mem w0 (Fz F W :: cs)) (fun s_ g_ => match s_, g_ with | (i11, i12), _ => True) trivial (look_has ⟨rfl, rfl, rfl, trivial⟩) (fun w_ hM => hM) ?_
      rintro ⟨i11, i12⟩ _ o5 - hs_ hd5
      have hp : tourref1_FromBits_l5 i11 i12 = some o5 := hs_
      clear hs_
      unfold tourref1_FromBits_l5 at hp
      refine st_seq (st_seq (st_region [oF 0, oF 1] (by rfl) ?_))
      refine oQ [oF 0, oF 1] [(35, .bool (decide (i11 < 1059))), (0, vU b), (4, vI i11), (5, vI i12)] (by kernel_rfl) ?_
      refine ops_nil (fin_then ?_)
      refine st_if (b := decide (i11 < 1059)) rfl (fun hc13 => ?_) (fun hc13 => ?_)
      ·
       have hp := cnd_t hc13 hp
       refine st_skip (fin_then (st_seq (st_block (st_seq (st_seq (st_region [oF 0, oF 1, oF 2] (by rfl) ?_))))))
       refine oQ [oF 0, oF 1, oF 2] [(40, .bool (Int.tmod i12 2 == 1)), (0, vU b), (4, vI i11), (5, vI i12)] (by kernel_rfl) ?_
       refine ops_nil (fin_then ?_)
       refine st_if (b := (Int.tmod i12 2 == 1)) rfl (fun hc14 => ?_) (fun hc14 => ?_)
       ·
        have hp := cnd_t hc14 hp
        refine st_seq (st_region [oF 0, oF 1] (by rfl) ?_)
        refine oQ [oF 0, oF 1] [(3, vI 3), (2, vI 0)] (by kernel_rfl) ?_
        refine ops_nil (fin_then (st_ret (fin_ret_then (fin_ret_block (fin_ret_then (fin_ret_then (fin_ret_block (fin_ret_then ?_))))))))
        obtain hq_ := Option.some.inj hp
        subst hq_
        obtain hq_ := hd5 _ rfl
        subst hq_
        have hp : some (0, 3) = some (i9001, i9002) := hk5
        have hq_ := Option.some.inj hp
        obtain ⟨hr0_, hq_⟩ := Prod.mk.inj hq_
        have hr1_ := hq_
        subst hr0_
        subst hr1_
        refine fin_ret [.tmp 2, .tmp 3] [vI 0, vI 3] rfl rfl (fun w_ hM => (.tmp rfl (.tmp rfl .nil))) (fun w_ hM => ?_)
        exact ⟨trivial, rfl, hM⟩
       ·
        have hp := cnd_f hc14 hp
        refine st_skip (fin_then (st_region [oF 0, oF 1, oF 2] (by rfl) ?_))
        refine oQ [oF 0, oF 1, oF 2] [(5, vI (IntKind.i64.wrap (Int.tdiv i12 2))), (0, vU b), (4, vI i11)] (by kernel_rfl) ?_
        refine ops_nil (fin_block (fin_then (st_region [oF 0, oF 1, oF 2] (by rfl) ?_)))
        refine oQ [oF 0, oF 1, oF 2] [(4, vI (IntKind.i64.wrap (i11 + 1))), (5, vI (IntKind.i64.wrap (Int.tdiv i12 2))), (0, vU b)] (by kernel_rfl) ?_
        refine ops_nil ?_
        exact fin_again (IntKind.i64.wrap (i11 + 1), IntKind.i64.wrap (Int.tdiv i12 2)) () (Option.some.inj hp).symm trivial (look_has ⟨rfl, rfl, rfl, trivial⟩) (fun w_ hM => hM)
      ·
       have hp := cnd_f hc13 hp
       refine st_exit (fin_exit_then (fin_exit_then (fin_exit ?_)))
       obtain hq_ := Option.some.inj hp
       subst hq_
       obtain hq_ := hd5 _ rfl
       subst hq_
       have hp : (tourref1_FromBits_j3 b) i12 = some (i9001, i9002) := hk5
       exact fin_join HJ3 i12 hp (look_has ⟨rfl, rfl, trivial⟩) (fun w_ hM => hM)
   ·
    intro HJ2
    refine st_seq (st_seq (st_region [oF 0, oF 1, oF 2, oF 3, oF 4, oF 5, oF 6, oF 7, oF 8, oF 9] (by rfl) ?_))
    refine oQ [oF 0, oF 1, oF 2] [(21, .bool (decide (1047 < i4))), (0, vU b), (4, vI i4), (5, vI i5)] (by kernel_rfl) ?_
    refine ops_bool (t := decide (1047 < i4)) (l1 := [(21, .bool true), (0, vU b), (4, vI i4), (5, vI i5)]) (l2 := [(21, .bool false), (0, vU b), (4, vI i4), (5, vI i5)]) (fun h => by rw [h]) (fun h => by rw [h]) (fun hc15 => ?_) (fun hc15 => ?_)
    ·
     have hp := cnd_t hc15 hp
     refine oQ [oF 3, oF 4, oF 5, oF 6, oF 7, oF 8, oF 9] [(28, .bool true), (0, vU b), (4, vI i4), (5, vI i5)] (by kernel_rfl) ?_
     refine ops_nil (fin_then (st_true rfl (st_seq (st_region [oF 0, oF 1] (by rfl) ?_))))
     refine oQ [oF 0, oF 1] [(3, vI 2), (2, vI 0)] (by kernel_rfl) ?_
     refine ops_nil (fin_then (st_ret (fin_ret_then ?_)))
     have hq_ := Option.some.inj hp
     obtain ⟨hr0_, hq_⟩ := Prod.mk.inj hq_
     have hr1_ := hq_
     subst hr0_
     subst hr1_
     refine fin_ret [.tmp 2, .tmp 3] [vI 0, vI 2] rfl rfl (fun w_ hM => (.tmp rfl (.tmp rfl .nil))) (fun w_ hM => ?_)
     exact ⟨trivial, rfl, hM⟩
    ·
     have hp := cnd_f hc15 hp
     refine oQ [oF 3, oF 4, oF 5] [(24, .bool (i4 == 1047)), (21, .bool false), (0, vU b), (4, vI i4), (5, vI i5)] (by kernel_rfl) ?_
     refine ops_bool (t := (i4 == 1047)) (l1 := [(24, .bool true), (21, .bool false), (0, vU b), (4, vI i4), (5, vI i5)]) (l2 := [(24, .bool false), (21, .bool false), (0, vU b), (4, vI i4), (5, vI i5)]) (fun h => by rw [h]) (fun h => by rw [h]) (fun hc16 => ?_) (fun hc16 => ?_)
     ·
      have hp := cnd_t hc16 hp
      refine oQ [oF 6, oF 7, oF 8, oF 9] [(28, .bool (decide (4503599627370496 < i5))), (0, vU b), (4, vI i4), (5, vI i5)] (by kernel_rfl) ?_
      refine ops_nil (fin_then ?_)
      refine st_if (b := decide (4503599627370496 < i5)) rfl (fun hc17 => ?_) (fun hc17 => ?_)
      ·
       have hp := cnd_t hc17 hp
       refine st_seq (st_region [oF 0, oF 1] (by rfl) ?_)
       refine oQ [oF 0, oF 1] [(3, vI 2), (2, vI 0)] (by kernel_rfl) ?_
       refine ops_nil (fin_then (st_ret (fin_ret_then ?_)))
       have hq_ := Option.some.inj hp
       obtain ⟨hr0_, hq_⟩ := Prod.mk.inj hq_
       have hr1_ := hq_
       subst hr0_
       subst hr1_
       refine fin_ret [.tmp 2, .tmp 3] [vI 0, vI 2] rfl rfl (fun w_ hM => (.tmp rfl (.tmp rfl .nil))) (fun w_ hM => ?_)
       exact ⟨trivial, rfl, hM⟩
      ·
       have hp := cnd_f hc17 hp
       refine st_skip ?_
       exact fin_join HJ2 () hp (look_has ⟨rfl, rfl, rfl, trivial⟩) (fun w_ hM => hM)
     ·
      have hp := cnd_f hc16 hp
      refine oQ [oF 6, oF 7, oF 8, oF 9] [(28, .bool false), (0, vU b), (4, vI i4), (5, vI i5)] (by kernel_rfl) ?_
      refine ops_nil (fin_then (st_false rfl (st_skip ?_)))
      exact fin_join HJ2 () hp (look_has ⟨rfl, rfl, rfl, trivial⟩) (fun w_ hM => hM)
  ·
   intro HJ1
   refine st_seq (st_seq (st_region [oF 0, oF 1] (by rfl) ?_))
   refine oQ [oF 0, oF 1] [(16, .bool (decide (0 < x1))), (5, vI (IntKind.i64.wrap (Go.bits .and .u64 b 4503599627370495))), (4, vI x1), (0, vU b)] (by kernel_rfl) ?_
   refine ops_nil (fin_then ?_)
   refine st_if (b := decide (0 < x1)) rfl (fun hc18 => ?_) (fun hc18 => ?_)
   ·
    have hp := cnd_t hc18 hp
    refine st_region [oF 0, oF 1, oF 2] (by rfl) ?_
    refine oQ [oF 0, oF 1, oF 2] [(5, vI (IntKind.i64.wrap (IntKind.i64.wrap (Go.bits .and .u64 b 4503599627370495) + 4503599627370496))), (4, vI x1), (0, vU b)] (by kernel_rfl) ?_
    obtain ⟨x19, hv20, hp⟩ := obind hp
    refine ops_conv (l' := [(5, vI x19), (4, vI x1), (0, vU b)]) (by rw [← Option.some.inj hv20]) (fun _ h => h) ?_
    refine ops_nil ?_
    exact fin_join HJ1 (x1, x19) hp (look_has ⟨rfl, rfl, rfl, trivial⟩) (fun w_ hM => hM)
   ·
    have hp := cnd_f hc18 hp
    refine st_region [oF 0] (by rfl) ?_
    refine oQ [oF 0] [(4, vI 1), (5, vI (IntKind.i64.wrap (Go.bits .and .u64 b 4503599627370495))), (0, vU b)] (by kernel_rfl) ?_
    refine ops_nil ?_
    exact fin_join HJ1 (1, IntKind.i64.wrap (Go.bits .and .u64 b 4503599627370495)) hp (look_has ⟨rfl, rfl, rfl, trivial⟩) (fun w_ hM => hM)
theorem fix_Clamp_ok (w0 w : World) (cs : List Chunk) (F : Nat → Prop) (W : World) (a : Int) (hM0 : Mem w0 (Fz F W :: cs) w) (i9001 : Int) (hp : fix_Clamp a = some i9001) : Calls Try.prog 17 #[vI a] w fun e w' => (True) ∧ e = .returned (vI i9001) ∧ Mem w0 (Fz F W :: cs) w' := by
 unfold fix_Clamp at hp
 refine sx_calls Try.func17 rfl (n := 6) (by kernel_rfl) (l := [(0, vI a)]) rfl (by rfl) hM0 ?_
 refine st_seq (st_region [oF 0] (by rfl) ?_)
 refine oQ [oF 0] [(0, vI a)] (by kernel_rfl) ?_
 refine ops_nil (fin_then (st_seq (st_region [oF 0, oF 1, oF 2, oF 3] (by rfl) ?_)))
 refine oQ [oF 0] [(3, vI a)] (by kernel_rfl) ?_
 refine ops_val (op := (.call { callee := (Go.Callee.builtin Go.Builtin.max), args := #[(.tmp 3), (.const (Go.Value.int Go.IntKind.i64 (-1099511627776)))], argTypes := #[3, 3] })) (d := some 4) (v := vI (max a (-1099511627776))) ⟨by kernel_rfl⟩ (run_max rfl rfl) ?_
 refine ops_val (op := (.call { callee := (Go.Callee.builtin Go.Builtin.min), args := #[(.tmp 4), (.const (Go.Value.int Go.IntKind.i64 1099511627776))], argTypes := #[3, 3] })) (d := some 5) (v := vI (min (max a (-1099511627776)) 1099511627776)) ⟨by kernel_rfl⟩ (run_min rfl rfl) ?_
 refine oQ [oF 3] [(2, vI (min (max a (-1099511627776)) 1099511627776))] (by kernel_rfl) ?_
 refine ops_nil (fin_then (st_ret ?_))
 have hq_ := Option.some.inj hp
 have hr0_ := hq_
 subst hr0_
 refine fin_ret [.tmp 2] [vI (min (max a (-1099511627776)) 1099511627776)] rfl rfl (fun w_ hM => (.tmp rfl .nil)) (fun w_ hM => ?_)
 exact ⟨trivial, rfl, hM⟩
theorem border_To_ok (w0 w : World) (cs : List Chunk) (F : Nat → Prop) (W : World) (a : Int) (hM0 : Mem w0 (Fz F W :: cs) w) (i9001 : Int) (i9002 : Int) (hp : border_To a = some (i9001, i9002)) : Calls Try.prog 7 #[vI a] w fun e w' => (True) ∧ e = .returned (.tuple #[vU i9001, vI i9002]) ∧ Mem w0 (Fz F W :: cs) w' := by
 unfold border_To at hp
 refine sx_calls Try.func7 rfl (n := 12) (by kernel_rfl) (l := [(0, vI a)]) rfl (by rfl) hM0 ?_
 refine st_seq (st_region [oF 0, oF 1] (by rfl) ?_)
 refine oQ [oF 0, oF 1] [(0, vI a)] (by kernel_rfl) ?_
 refine ops_nil (fin_then (st_seq (st_seq (st_region [oF 0, oF 1, oF 2, oF 3] (by rfl) ?_))))
 refine oQ [oF 0] [(4, vI a), (0, vI a)] (by kernel_rfl) ?_
 obtain ⟨x1, hv2, hp⟩ := obind hp
 refine ops_callI (σ := Unit) (d := some 5) (f := 17) (args := #[vI a]) (v := (fun _ => vI x1)) (I := (fun _ => True)) (M' := (fun _ => Mem w0 (Fz F W :: cs))) ⟨by kernel_rfl⟩ (fun w_ hM hS => (fix_Clamp_ok w0 w_ (cs) F W a hM  x1 hv2).mono (by rintro e w' ⟨-, rfl, h'⟩; have h' : Mem w0 (Fz F W :: cs) w' := h'; exact ⟨(), trivial, rfl, h', trivial⟩)) ?_
 rintro _ -
 refine oQ [oF 2, oF 3] [(7, .bool (!(x1 == a))), (0, vI a)] (by kernel_rfl) ?_
 refine ops_nil (fin_then ?_)
 refine st_if (b := !(x1 == a)) rfl (fun hc3 => ?_) (fun hc3 => ?_)
 ·
  have hp := cnd_t hc3 hp
  refine st_seq (st_region [oF 0, oF 1] (by rfl) ?_)
  refine oQ [oF 0, oF 1] [(3, vI 2), (2, vU 0)] (by kernel_rfl) ?_
  refine ops_nil (fin_then (st_ret (fin_ret_then ?_)))
  have hq_ := Option.some.inj hp
  obtain ⟨hr0_, hq_⟩ := Prod.mk.inj hq_
  have hr1_ := hq_
  subst hr0_
  subst hr1_
  refine fin_ret [.tmp 2, .tmp 3] [vU 0, vI 2] rfl rfl (fun w_ hM => (.tmp rfl (.tmp rfl .nil))) (fun w_ hM => ?_)
  exact ⟨trivial, rfl, hM⟩
 ·
  have hp := cnd_f hc3 hp
  refine st_skip (fin_then (st_seq (st_region [oF 0, oF 1, oF 2, oF 3, oF 4, oF 5] (by rfl) ?_)))
  refine oQ [oF 0, oF 1] [(9, .float .f64 (FloatKind.nearest .f64 a))] (by kernel_rfl) ?_
  obtain ⟨q4, hv5, hp⟩ := obind hp
  refine ops_val (op := (.binOp Go.BinOp.quo 37 (.tmp 9) (.const (Go.Value.float FloatKind.f64 4679240012837945344)) 37)) (d := some 10) (v := .float .f64 q4) ⟨by kernel_rfl⟩ (run_flt rfl rfl hv5) ?_
  refine ops_val (op := (.call { callee := (Go.Callee.value (.func 18)), args := #[(.tmp 10)], argTypes := #[37] })) (d := some 11) (v := vU ((q4 : Nat) : Int)) ⟨by kernel_rfl⟩ (run_ext (v0 := .float .f64 q4) (e := Extern.MathFloatBits.float64bits) rfl Try.func18 (by kernel_rfl) (by kernel_rfl) (by kernel_rfl) (by kernel_rfl) (fun _ => rfl)) ?_
  refine oQ [oF 4, oF 5] [(3, vI 0), (2, vU ((q4 : Nat) : Int))] (by kernel_rfl) ?_
  refine ops_nil (fin_then (st_ret ?_))
  have hq_ := Option.some.inj hp
  obtain ⟨hr0_, hq_⟩ := Prod.mk.inj hq_
  have hr1_ := hq_
  subst hr0_
  subst hr1_
  refine fin_ret [.tmp 2, .tmp 3] [vU ((q4 : Nat) : Int), vI 0] rfl rfl (fun w_ hM => (.tmp rfl (.tmp rfl .nil))) (fun w_ hM => ?_)
  exact ⟨trivial, rfl, hM⟩
theorem tourref1_Limit_ok (w0 w : World) (cs : List Chunk) (F : Nat → Prop) (W : World) (a : Int) (hM0 : Mem w0 (Fz F W :: cs) w) (i9001 : Int) (hp : tourref1_Limit a = some i9001) : Calls Try.prog 8 #[vI a] w fun e w' => (True) ∧ e = .returned (vI i9001) ∧ Mem w0 (Fz F W :: cs) w' := by
 unfold tourref1_Limit at hp
 refine sx_calls Try.func8 rfl (n := 10) (by kernel_rfl) (l := [(0, vI a)]) rfl (by rfl) hM0 ?_
 refine st_seq (st_region [oF 0] (by rfl) ?_)
 refine oQ [oF 0] [(0, vI a)] (by kernel_rfl) ?_
 refine ops_nil (fin_then (st_seq (st_block (st_seq (st_region [oF 0, oF 1, oF 2] (by rfl) ?_)))))
 refine oQ [oF 0, oF 1, oF 2] [(3, .bool (decide (1099511627776 < a))), (0, vI a)] (by kernel_rfl) ?_
 refine ops_nil (fin_then ?_)
 refine st_if (b := decide (1099511627776 < a)) rfl (fun hc1 => ?_) (fun hc1 => ?_)
 ·
  have hp := cnd_t hc1 hp
  refine st_seq (st_region [oF 0] (by rfl) ?_)
  refine oQ [oF 0] [(2, vI 1099511627776)] (by kernel_rfl) ?_
  refine ops_nil (fin_then (st_ret (fin_ret_block (fin_ret_then ?_))))
  have hq_ := Option.some.inj hp
  have hr0_ := hq_
  subst hr0_
  refine fin_ret [.tmp 2] [vI 1099511627776] rfl rfl (fun w_ hM => (.tmp rfl .nil)) (fun w_ hM => ?_)
  exact ⟨trivial, rfl, hM⟩
 ·
  have hp := cnd_f hc1 hp
  refine st_seq (st_region [oF 0, oF 1, oF 2] (by rfl) ?_)
  refine oQ [oF 0, oF 1, oF 2] [(6, .bool (decide (a < (-1099511627776)))), (0, vI a)] (by kernel_rfl) ?_
  refine ops_nil (fin_then ?_)
  refine st_if (b := decide (a < (-1099511627776))) rfl (fun hc2 => ?_) (fun hc2 => ?_)
  ·
   have hp := cnd_t hc2 hp
   refine st_seq (st_region [oF 0] (by rfl) ?_)
   refine oQ [oF 0] [(2, vI (-1099511627776))] (by kernel_rfl) ?_
   refine ops_nil (fin_then (st_ret (fin_ret_block (fin_ret_then ?_))))
   have hq_ := Option.some.inj hp
   have hr0_ := hq_
   subst hr0_
   refine fin_ret [.tmp 2] [vI (-1099511627776)] rfl rfl (fun w_ hM => (.tmp rfl .nil)) (fun w_ hM => ?_)
   exact ⟨trivial, rfl, hM⟩
  ·
   have hp := cnd_f hc2 hp
   refine st_skip (fin_block (fin_then (st_seq (st_region [oF 0, oF 1] (by rfl) ?_))))
   refine oQ [oF 0, oF 1] [(2, vI a)] (by kernel_rfl) ?_
   refine ops_nil (fin_then (st_ret ?_))
   have hq_ := Option.some.inj hp
   have hr0_ := hq_
   subst hr0_
   refine fin_ret [.tmp 2] [vI a] rfl rfl (fun w_ hM => (.tmp rfl .nil)) (fun w_ hM => ?_)
   exact ⟨trivial, rfl, hM⟩
theorem tourref1_ToBits_ok (w0 w : World) (cs : List Chunk) (F : Nat → Prop) (W : World) (a : Int) (hM0 : Mem w0 (Fz F W :: cs) w) (i9001 : Int) (hp : tourref1_ToBits a = some i9001) : Calls Try.prog 9 #[vI a] w fun e w' => (True) ∧ e = .returned (vU i9001) ∧ Mem w0 (Fz F W :: cs) w' := by
 unfold tourref1_ToBits at hp
 refine sx_calls Try.func9 rfl (n := 26) (by kernel_rfl) (l := [(0, vI a)]) rfl (by rfl) hM0 ?_
 refine st_seq (st_region [oF 0] (by rfl) ?_)
 refine oQ [oF 0] [(0, vI a)] (by kernel_rfl) ?_
 refine ops_nil (fin_then (st_seq (st_seq (st_region [oF 0, oF 1] (by rfl) ?_))))
 refine oQ [oF 0, oF 1] [(6, .bool (a == 0)), (0, vI a)] (by kernel_rfl) ?_
 refine ops_nil (fin_then ?_)
 refine st_if (b := (a == 0)) rfl (fun hc1 => ?_) (fun hc1 => ?_)
 ·
  have hp := cnd_t hc1 hp
  refine st_seq (st_region [oF 0] (by rfl) ?_)
  refine oQ [oF 0] [(2, vU 0)] (by kernel_rfl) ?_
  refine ops_nil (fin_then (st_ret (fin_ret_then ?_)))
  have hq_ := Option.some.inj hp
  have hr0_ := hq_
  subst hr0_
  refine fin_ret [.tmp 2] [vU 0] rfl rfl (fun w_ hM => (.tmp rfl .nil)) (fun w_ hM => ?_)
  exact ⟨trivial, rfl, hM⟩
 ·
  have hp := cnd_f hc1 hp
  refine st_skip (fin_then (st_seq (st_region [oF 0] (by rfl) ?_)))
  refine oQ [oF 0] [(3, vU 0), (0, vI a)] (by kernel_rfl) ?_
  refine ops_nil (fin_then ?_)
  refine st_join1 (σ := Int × Int) (L := fun x_ => match x_ with | (i2, i3) => [(0, vI i2), (3, vU i3)]) (N := fun x_ => match x_ with | (i2, i3) => Mem w0 (Fz F W :: cs)) (I := fun x_ => match x_ with | (i2, i3) => (tourref1_ToBits_j1 i2 i3 = some i9001)) ?_ ?_
  ·
   rintro ⟨i2, i3⟩ hp
   unfold tourref1_ToBits_j1 at hp
   refine st_seq (st_region [oF 0] (by rfl) ?_)
   refine oQ [oF 0] [(4, vI 1059), (0, vI i2), (3, vU i3)] (by kernel_rfl) ?_
   refine ops_nil (fin_then ?_)
   refine st_join1 (σ := Int × Int) (L := fun x_ => match x_ with | (i4, i5) => [(0, vI i4), (3, vU i3), (4, vI i5)]) (N := fun x_ => match x_ with | (i4, i5) => Mem w0 (Fz F W :: cs)) (I := fun x_ => match x_ with | (i4, i5) => ((tourref1_ToBits_j2 i3) i4 i5 = some i9001)) ?_ ?_
   ·
    rintro ⟨i4, i5⟩ hp
    unfold tourref1_ToBits_j2 at hp
    refine st_seq (st_region [oF 0, oF 1, oF 2, oF 3, oF 4, oF 5, oF 6, oF 7, oF 8, oF 9] (by rfl) ?_)
    refine oQ [oF 0, oF 1, oF 2, oF 3, oF 4, oF 5, oF 6, oF 7, oF 8, oF 9] [(2, vU (IntKind.u64.wrap (IntKind.u64.wrap (i3 + IntKind.u64.wrap (IntKind.u64.wrap i5 * 4503599627370496)) + IntKind.u64.wrap (IntKind.i64.wrap (i4 - 4503599627370496)))))] (by kernel_rfl) ?_
    obtain ⟨x6, hv7, hp⟩ := obind hp
    refine ops_conv (l' := [(2, vU x6)]) (by rw [← Option.some.inj hv7]) (fun _ h => h) ?_
    refine ops_nil (fin_then (st_ret ?_))
    have hq_ := Option.some.inj hp
    have hr0_ := hq_
    subst hr0_
    refine fin_ret [.tmp 2] [vU x6] rfl rfl (fun w_ hM => (.tmp rfl .nil)) (fun w_ hM => ?_)
    exact ⟨trivial, rfl, hM⟩
   ·
    intro HJ2
    refine st_seq (st_block ?_)
    obtain ⟨r3, hl3, hk3⟩ := obind hp
    refine st_loopP (σ := Int × Int) (ρ := Int × Int) (γ := Unit) hl3 () (fun s_ g_ => match s_, g_ with | (i8, i9), _ => [(0, vI i8), (3, vU i3), (4, vI i9)]) (fun s_ g_ => match s_, g_ with | (i8, i9), _ => Mem w0 (Fz F W :: cs)) (fun s_ g_ => match s_, g_ with | (i8, i9), _ => True) trivial (look_has ⟨rfl, rfl, rfl, trivial⟩) (fun w_ hM => hM) ?_
    rintro ⟨i8, i9⟩ _ o3 - hs_ hd3
    have hp : tourref1_ToBits_l3 i8 i9 = some o3 := hs_
    clear hs_
    unfold tourref1_ToBits_l3 at hp
    refine st_seq (st_seq (st_region [oF 0, oF 1] (by rfl) ?_))
    refine oQ [oF 0, oF 1] [(12, .bool (decide (i8 < 4503599627370496))), (0, vI i8), (3, vU i3), (4, vI i9)] (by kernel_rfl) ?_
    refine ops_nil (fin_then ?_)
    refine st_if (b := decide (i8 < 4503599627370496)) rfl (fun hc10 => ?_) (fun hc10 => ?_)
    ·
     have hp := cnd_t hc10 hp
     refine st_skip (fin_then (st_block (st_region [oF 0, oF 1, oF 2, oF 3, oF 4, oF 5] (by rfl) ?_)))
     refine oQ [oF 0, oF 1, oF 2, oF 3, oF 4, oF 5] [(4, vI (IntKind.i64.wrap (i9 - 1))), (0, vI (IntKind.i64.wrap (2 * i8))), (3, vU i3)] (by kernel_rfl) ?_
     refine ops_nil (fin_block ?_)
     exact fin_again (IntKind.i64.wrap (2 * i8), IntKind.i64.wrap (i9 - 1)) () (Option.some.inj hp).symm trivial (look_has ⟨rfl, rfl, rfl, trivial⟩) (fun w_ hM => hM)
    ·
     have hp := cnd_f hc10 hp
     refine st_exit (fin_exit_then (fin_exit_then (fin_exit ?_)))
     obtain hq_ := Option.some.inj hp
     subst hq_
     obtain hq_ := hd3 _ rfl
     subst hq_
     have hp : (tourref1_ToBits_j2 i3) i8 i9 = some i9001 := hk3
     exact fin_join HJ2 (i8, i9) hp (look_has ⟨rfl, rfl, rfl, trivial⟩) (fun w_ hM => hM)
  ·
   intro HJ1
   refine st_seq (st_seq (st_region [oF 0, oF 1] (by rfl) ?_))
   refine oQ [oF 0, oF 1] [(8, .bool (decide (a < 0))), (3, vU 0), (0, vI a)] (by kernel_rfl) ?_
   refine ops_nil (fin_then ?_)
   refine st_if (b := decide (a < 0)) rfl (fun hc11 => ?_) (fun hc11 => ?_)
   ·
    have hp := cnd_t hc11 hp
    refine st_region [oF 0, oF 1, oF 2, oF 3] (by rfl) ?_
    refine oQ [oF 0, oF 1, oF 2, oF 3] [(0, vI (IntKind.i64.wrap (0 - a))), (3, vU 9223372036854775808)] (by kernel_rfl) ?_
    refine ops_nil ?_
    exact fin_join HJ1 (IntKind.i64.wrap (0 - a), 9223372036854775808) hp (look_has ⟨rfl, rfl, trivial⟩) (fun w_ hM => hM)
   ·
    have hp := cnd_f hc11 hp
    refine st_skip ?_
    exact fin_join HJ1 (a, 0) hp (look_has ⟨rfl, rfl, trivial⟩) (fun w_ hM => hM)
theorem tourlaw1_BorderTells_ok (w0 w : World) (cs : List Chunk) (F : Nat → Prop) (W : World) (b : Int) (a : Int) (hM0 : Mem w0 (Fz F W :: cs) w) (t9001 : Bool) (hp : tourlaw1_BorderTells b a = some t9001) : Calls Try.prog 3 #[vU b, vI a] w fun e w' => (True) ∧ e = .returned (.bool t9001) ∧ Mem w0 (Fz F W :: cs) w' := by
 unfold tourlaw1_BorderTells at hp
 refine sx_calls Try.func3 rfl (n := 64) (by kernel_rfl) (l := [(0, vU b), (1, vI a)]) rfl (by rfl) hM0 ?_
 refine st_seq (st_region [oF 0] (by rfl) ?_)
 refine oQ [oF 0] [(0, vU b), (1, vI a)] (by kernel_rfl) ?_
 refine ops_nil (fin_then (st_seq (st_seq (st_region [oF 0, oF 1, oF 2, oF 3, oF 4, oF 5] (by rfl) ?_))))
 obtain ⟨x1, x2, hv3, hp⟩ := obind2 hp
 refine ops_callI (σ := Unit) (d := some 14) (f := 5) (args := #[vU 4609434218613702656]) (v := (fun _ => .tuple #[vI x1, vI x2])) (I := (fun _ => True)) (M' := (fun _ => Mem w0 (Fz F W :: cs))) ⟨by kernel_rfl⟩ (fun w_ hM hS => (border_From_ok w0 w_ (cs) F W 4609434218613702656 hM  x1 x2 hv3).mono (by rintro e w' ⟨-, rfl, h'⟩; have h' : Mem w0 (Fz F W :: cs) w' := h'; exact ⟨(), trivial, rfl, h', trivial⟩)) ?_
 rintro _ -
 refine oQ [oF 1, oF 2, oF 3, oF 4, oF 5] [(6, vI x2), (5, vI x1), (0, vU b), (1, vI a)] (by kernel_rfl) ?_
 refine ops_nil (fin_then (st_seq (st_region [oF 0, oF 1, oF 2, oF 3, oF 4, oF 5] (by rfl) ?_)))
 refine oQ [oF 0, oF 1, oF 2] [(19, .bool (!(x1 == 98304))), (6, vI x2), (0, vU b), (1, vI a)] (by kernel_rfl) ?_
 refine ops_bool (t := !(x1 == 98304)) (l1 := [(19, .bool true), (6, vI x2), (0, vU b), (1, vI a)]) (l2 := [(19, .bool false), (6, vI x2), (0, vU b), (1, vI a)]) (fun h => by rw [h]) (fun h => by rw [h]) (fun hc4 => ?_) (fun hc4 => ?_)
 ·
  have hp := cnd_t hc4 hp
  refine oQ [oF 3, oF 4, oF 5] [(22, .bool true), (0, vU b), (1, vI a)] (by kernel_rfl) ?_
  refine ops_nil (fin_then (st_true rfl (st_seq (st_region [oF 0] (by rfl) ?_))))
  refine oQ [oF 0] [(4, .bool false)] (by kernel_rfl) ?_
  refine ops_nil (fin_then (st_ret (fin_ret_then ?_)))
  have hq_ := Option.some.inj hp
  have hr0_ := hq_
  subst hr0_
  refine fin_ret [.tmp 4] [.bool false] rfl rfl (fun w_ hM => (.tmp rfl .nil)) (fun w_ hM => ?_)
  exact ⟨trivial, rfl, hM⟩
 ·
  have hp := cnd_f hc4 hp
  refine oQ [oF 3, oF 4, oF 5] [(22, .bool (!(x2 == 0))), (0, vU b), (1, vI a)] (by kernel_rfl) ?_
  refine ops_nil (fin_then ?_)
  refine st_if (b := !(x2 == 0)) rfl (fun hc5 => ?_) (fun hc5 => ?_)
  ·
   have hp := cnd_t hc5 hp
   refine st_seq (st_region [oF 0] (by rfl) ?_)
   refine oQ [oF 0] [(4, .bool false)] (by kernel_rfl) ?_
   refine ops_nil (fin_then (st_ret (fin_ret_then ?_)))
   have hq_ := Option.some.inj hp
   have hr0_ := hq_
   subst hr0_
   refine fin_ret [.tmp 4] [.bool false] rfl rfl (fun w_ hM => (.tmp rfl .nil)) (fun w_ hM => ?_)
   exact ⟨trivial, rfl, hM⟩
  ·
   have hp := cnd_f hc5 hp
   refine st_skip (fin_then (st_seq (st_region [oF 0, oF 1, oF 2, oF 3, oF 4, oF 5, oF 6] (by rfl) ?_)))
   refine oQ [oF 0] [(24, vU b), (0, vU b), (1, vI a)] (by kernel_rfl) ?_
   obtain ⟨x6, x7, hv8, hp⟩ := obind2 hp
   refine ops_callI (σ := Unit) (d := some 25) (f := 5) (args := #[vU b]) (v := (fun _ => .tuple #[vI x6, vI x7])) (I := (fun _ => True)) (M' := (fun _ => Mem w0 (Fz F W :: cs))) ⟨by kernel_rfl⟩ (fun w_ hM hS => (border_From_ok w0 w_ (cs) F W b hM  x6 x7 hv8).mono (by rintro e w' ⟨-, rfl, h'⟩; have h' : Mem w0 (Fz F W :: cs) w' := h'; exact ⟨(), trivial, rfl, h', trivial⟩)) ?_
   rintro _ -
   refine oQ [oF 2, oF 3, oF 4, oF 5, oF 6] [(8, vI x7), (7, vI x6), (0, vU b), (1, vI a)] (by kernel_rfl) ?_
   refine ops_nil (fin_then (st_seq (st_region [oF 0, oF 1, oF 2, oF 3, oF 4, oF 5, oF 6] (by rfl) ?_)))
   refine oQ [oF 0] [(29, vU b), (8, vI x7), (7, vI x6), (1, vI a)] (by kernel_rfl) ?_
   obtain ⟨x9, x10, hv11, hp⟩ := obind2 hp
   refine ops_callI (σ := Unit) (d := some 30) (f := 6) (args := #[vU b]) (v := (fun _ => .tuple #[vI x9, vI x10])) (I := (fun _ => True)) (M' := (fun _ => Mem w0 (Fz F W :: cs))) ⟨by kernel_rfl⟩ (fun w_ hM hS => (tourref1_FromBits_ok w0 w_ (cs) F W b hM  x9 x10 hv11).mono (by rintro e w' ⟨-, rfl, h'⟩; have h' : Mem w0 (Fz F W :: cs) w' := h'; exact ⟨(), trivial, rfl, h', trivial⟩)) ?_
   rintro _ -
   refine oQ [oF 2, oF 3, oF 4, oF 5, oF 6] [(10, vI x10), (9, vI x9), (8, vI x7), (7, vI x6), (1, vI a)] (by kernel_rfl) ?_
   refine ops_nil (fin_then (st_seq (st_seq (st_region [oF 0, oF 1, oF 2, oF 3, oF 4, oF 5, oF 6, oF 7] (by rfl) ?_))))
   refine oQ [oF 0, oF 1, oF 2, oF 3] [(36, .bool (!(x6 == x9))), (10, vI x10), (8, vI x7), (1, vI a)] (by kernel_rfl) ?_
   refine ops_bool (t := !(x6 == x9)) (l1 := [(36, .bool true), (10, vI x10), (8, vI x7), (1, vI a)]) (l2 := [(36, .bool false), (10, vI x10), (8, vI x7), (1, vI a)]) (fun h => by rw [h]) (fun h => by rw [h]) (fun hc12 => ?_) (fun hc12 => ?_)
   ·
    have hp := cnd_t hc12 hp
    refine oQ [oF 4, oF 5, oF 6, oF 7] [(40, .bool true), (1, vI a)] (by kernel_rfl) ?_
    refine ops_nil (fin_then (st_true rfl (st_seq (st_region [oF 0] (by rfl) ?_))))
    refine oQ [oF 0] [(4, .bool false)] (by kernel_rfl) ?_
    refine ops_nil (fin_then (st_ret (fin_ret_then ?_)))
    have hq_ := Option.some.inj hp
    have hr0_ := hq_
    subst hr0_
    refine fin_ret [.tmp 4] [.bool false] rfl rfl (fun w_ hM => (.tmp rfl .nil)) (fun w_ hM => ?_)
    exact ⟨trivial, rfl, hM⟩
   ·
    have hp := cnd_f hc12 hp
    refine oQ [oF 4, oF 5, oF 6, oF 7] [(40, .bool (!(x7 == x10))), (1, vI a)] (by kernel_rfl) ?_
    refine ops_nil (fin_then ?_)
    refine st_if (b := !(x7 == x10)) rfl (fun hc13 => ?_) (fun hc13 => ?_)
    ·
     have hp := cnd_t hc13 hp
     refine st_seq (st_region [oF 0] (by rfl) ?_)
     refine oQ [oF 0] [(4, .bool false)] (by kernel_rfl) ?_
     refine ops_nil (fin_then (st_ret (fin_ret_then ?_)))
     have hq_ := Option.some.inj hp
     have hr0_ := hq_
     subst hr0_
     refine fin_ret [.tmp 4] [.bool false] rfl rfl (fun w_ hM => (.tmp rfl .nil)) (fun w_ hM => ?_)
     exact ⟨trivial, rfl, hM⟩
    ·
     have hp := cnd_f hc13 hp
     refine st_skip (fin_then (st_seq (st_region [oF 0, oF 1, oF 2, oF 3, oF 4, oF 5, oF 6] (by rfl) ?_)))
     refine oQ [oF 0] [(42, vI a), (1, vI a)] (by kernel_rfl) ?_
     obtain ⟨x14, x15, hv16, hp⟩ := obind2 hp
     refine ops_callI (σ := Unit) (d := some 43) (f := 7) (args := #[vI a]) (v := (fun _ => .tuple #[vU x14, vI x15])) (I := (fun _ => True)) (M' := (fun _ => Mem w0 (Fz F W :: cs))) ⟨by kernel_rfl⟩ (fun w_ hM hS => (border_To_ok w0 w_ (cs) F W a hM  x14 x15 hv16).mono (by rintro e w' ⟨-, rfl, h'⟩; have h' : Mem w0 (Fz F W :: cs) w' := h'; exact ⟨(), trivial, rfl, h', trivial⟩)) ?_
     rintro _ -
     refine oQ [oF 2, oF 3, oF 4, oF 5, oF 6] [(12, vI x15), (11, vU x14), (1, vI a)] (by kernel_rfl) ?_
     refine ops_nil (fin_then (st_seq (st_seq (st_region [oF 0, oF 1, oF 2, oF 3] (by rfl) ?_))))
     refine oQ [oF 0, oF 1] [(47, vI a), (46, vI a), (12, vI x15), (11, vU x14), (1, vI a)] (by kernel_rfl) ?_
     obtain ⟨x17, hv18, hp⟩ := obind hp
     refine ops_callI (σ := Unit) (d := some 48) (f := 8) (args := #[vI a]) (v := (fun _ => vI x17)) (I := (fun _ => True)) (M' := (fun _ => Mem w0 (Fz F W :: cs))) ⟨by kernel_rfl⟩ (fun w_ hM hS => (tourref1_Limit_ok w0 w_ (cs) F W a hM  x17 hv18).mono (by rintro e w' ⟨-, rfl, h'⟩; have h' : Mem w0 (Fz F W :: cs) w' := h'; exact ⟨(), trivial, rfl, h', trivial⟩)) ?_
     rintro _ -
     refine oQ [oF 3] [(49, .bool (!(a == x17))), (12, vI x15), (11, vU x14), (1, vI a)] (by kernel_rfl) ?_
     refine ops_nil (fin_then ?_)
     refine st_if (b := !(a == x17)) rfl (fun hc19 => ?_) (fun hc19 => ?_)
     ·
      have hp := cnd_t hc19 hp
      refine st_join1 (σ := Bool) (L := fun x_ => match x_ with | t20 => [(4, .bool t20)]) (N := fun x_ => match x_ with | t20 => Mem w0 (Fz F W :: cs)) (I := fun x_ => match x_ with | t20 => (tourlaw1_BorderTells_j1 t20 = some t9001)) ?_ ?_
      ·
       rintro t20 hp
       unfold tourlaw1_BorderTells_j1 at hp
       refine st_ret (fin_ret_then ?_)
       have hq_ := Option.some.inj hp
       have hr0_ := hq_
       subst hr0_
       refine fin_ret [.tmp 4] [.bool t20] rfl rfl (fun w_ hM => (.tmp rfl .nil)) (fun w_ hM => ?_)
       exact ⟨trivial, rfl, hM⟩
      ·
       intro HJ1
       refine st_seq (st_region [oF 0, oF 1, oF 2, oF 3, oF 4, oF 5, oF 6] (by rfl) ?_)
       refine oQ [oF 0, oF 1, oF 2] [(52, .bool (x14 == 0)), (12, vI x15)] (by kernel_rfl) ?_
       refine ops_bool (t := (x14 == 0)) (l1 := [(52, .bool true), (12, vI x15)]) (l2 := [(52, .bool false), (12, vI x15)]) (fun h => by rw [h]) (fun h => by rw [h]) (fun hc21 => ?_) (fun hc21 => ?_)
       ·
        have hp := cnd_t hc21 hp
        refine oQ [oF 3, oF 4, oF 5, oF 6] [(4, .bool (x15 == 2))] (by kernel_rfl) ?_
        refine ops_nil ?_
        exact fin_join HJ1 (x15 == 2) hp (look_has ⟨rfl, trivial⟩) (fun w_ hM => hM)
       ·
        have hp := cnd_f hc21 hp
        refine oQ [oF 3, oF 4, oF 5, oF 6] [(4, .bool false)] (by kernel_rfl) ?_
        refine ops_nil ?_
        exact fin_join HJ1 false hp (look_has ⟨rfl, trivial⟩) (fun w_ hM => hM)
     ·
      have hp := cnd_f hc19 hp
      refine st_skip (fin_then ?_)
      refine st_join1 (σ := Bool) (L := fun x_ => match x_ with | t22 => [(4, .bool t22)]) (N := fun x_ => match x_ with | t22 => Mem w0 (Fz F W :: cs)) (I := fun x_ => match x_ with | t22 => (tourlaw1_BorderTells_j2 t22 = some t9001)) ?_ ?_
      ·
       rintro t22 hp
       unfold tourlaw1_BorderTells_j2 at hp
       refine st_ret ?_
       have hq_ := Option.some.inj hp
       have hr0_ := hq_
       subst hr0_
       refine fin_ret [.tmp 4] [.bool t22] rfl rfl (fun w_ hM => (.tmp rfl .nil)) (fun w_ hM => ?_)
       exact ⟨trivial, rfl, hM⟩
      ·
       intro HJ2
       refine st_seq (st_region [oF 0, oF 1, oF 2, oF 3, oF 4, oF 5, oF 6, oF 7, oF 8] (by rfl) ?_)
       refine oQ [oF 0, oF 1, oF 2] [(58, .bool (x15 == 0)), (11, vU x14), (1, vI a)] (by kernel_rfl) ?_
       refine ops_bool (t := (x15 == 0)) (l1 := [(58, .bool true), (11, vU x14), (1, vI a)]) (l2 := [(58, .bool false), (11, vU x14), (1, vI a)]) (fun h => by rw [h]) (fun h => by rw [h]) (fun hc23 => ?_) (fun hc23 => ?_)
       ·
        have hp := cnd_t hc23 hp
        refine oQ [oF 3, oF 4] [(60, vI a), (59, vU x14), (58, .bool true)] (by kernel_rfl) ?_
        obtain ⟨x24, hv25, hp⟩ := obind hp
        refine ops_callI (σ := Unit) (d := some 61) (f := 9) (args := #[vI a]) (v := (fun _ => vU x24)) (I := (fun _ => True)) (M' := (fun _ => Mem w0 (Fz F W :: cs))) ⟨by kernel_rfl⟩ (fun w_ hM hS => (tourref1_ToBits_ok w0 w_ (cs) F W a hM  x24 hv25).mono (by rintro e w' ⟨-, rfl, h'⟩; have h' : Mem w0 (Fz F W :: cs) w' := h'; exact ⟨(), trivial, rfl, h', trivial⟩)) ?_
        rintro _ -
        refine oQ [oF 6, oF 7, oF 8] [(4, .bool (x14 == x24))] (by kernel_rfl) ?_
        refine ops_nil ?_
        exact fin_join HJ2 (x14 == x24) hp (look_has ⟨rfl, trivial⟩) (fun w_ hM => hM)
       ·
        have hp := cnd_f hc23 hp
        refine oQ [oF 3, oF 4, oF 5, oF 6, oF 7, oF 8] [(4, .bool false)] (by kernel_rfl) ?_
        refine ops_nil ?_
        exact fin_join HJ2 false hp (look_has ⟨rfl, trivial⟩) (fun w_ hM => hM)
theorem border_List_ok (w0 w : World) (cs : List Chunk) (F : Nat → Prop) (W : World) (A_l : Option Addr) (c_l : Nat) (l : List Int) (hM0 : Mem w0 (Fz F W :: cs) w) (h_l : RdS (Rep.int .u64) F W A_l c_l l) (l9003 : List Int) (i9006 : Int) (hp : border_List l = some (l9003, i9006)) : Calls Try.prog 10 #[sl A_l l c_l] w fun e w' => ∃ (A9001 : Option Addr), ∃ (c9002 : Nat), ∃ (y9004 : List Value), ((RepL (Rep.int .i64) F W l9003 y9004)) ∧ e = .returned (.tuple #[sl A9001 l9003 c9002, vI i9006]) ∧ Mem w0 (ow A9001 l9003 c9002 3 1 y9004 :: Fz F W :: cs) w' := by
 unfold border_List at hp
 refine sx_calls Try.func10 rfl (n := 29) (by kernel_rfl) (l := [(0, sl A_l l c_l)]) rfl (by rfl) hM0 ?_
 refine st_seq (st_region [oF 0, oF 1] (by rfl) ?_)
 refine oQ [oF 0, oF 1] [(0, sl A_l l c_l)] (by kernel_rfl) ?_
 refine ops_nil (fin_then (st_seq (st_region [oF 0] (by rfl) ?_)))
 refine oQ [oF 0] [(4, .slice none 0 0), (0, sl A_l l c_l)] (by kernel_rfl) ?_
 refine ops_nil (fin_then ?_)
 refine st_join1 (σ := (Option Addr) × Nat × (List Int) × (List Value)) (L := fun x_ => match x_ with | (A1, c2, l3, y4) => [(4, sl A1 l3 c2)]) (N := fun x_ => match x_ with | (A1, c2, l3, y4) => Mem w0 (ow A1 l3 c2 3 1 y4 :: Fz F W :: cs)) (I := fun x_ => match x_ with | (A1, c2, l3, y4) => (border_List_j1 l3 = some (l9003, i9006)) ∧ (RepL (Rep.int .i64) F W l3 y4)) ?_ ?_
 ·
  rintro ⟨A1, c2, l3, y4⟩ ⟨hp, h5⟩
  unfold border_List_j1 at hp
  refine st_seq (st_region [oF 0, oF 1, oF 2] (by rfl) ?_)
  refine oQ [oF 0, oF 1, oF 2] [(3, vI 0), (2, sl A1 l3 c2)] (by kernel_rfl) ?_
  refine ops_nil (fin_then (st_ret ?_))
  have hq_ := Option.some.inj hp
  obtain ⟨hr0_, hq_⟩ := Prod.mk.inj hq_
  have hr1_ := hq_
  subst hr0_
  subst hr1_
  refine fin_ret [.tmp 2, .tmp 3] [sl A1 l3 c2, vI 0] rfl rfl (fun w_ hM => (.tmp rfl (.tmp rfl .nil))) (fun w_ hM => ?_)
  exact ⟨A1, c2, y4, h5, rfl, hM⟩
 ·
  intro HJ1
  refine st_seq (st_seq (st_region [oF 0, oF 1, oF 2] (by rfl) ?_))
  refine oQ [oF 0, oF 1, oF 2] [(11, vI 0), (10, vI (l.length : Int)), (9, sl A_l l c_l), (4, .slice none 0 0)] (by kernel_rfl) ?_
  refine ops_nil (fin_then (st_block ?_))
  refine st_conv (l' := [(11, vI 0), (10, vI (l.length : Int)), (9, sl A_l l c_l), (4, .slice none 0 0)]) (M' := Mem w0 (ow none ([] : List Int) 0 3 1 [] :: Fz F W :: cs)) rfl (fun w_ h => h.onil none 3 1) ?_
  obtain ⟨r2, hl2, hk2⟩ := obind hp
  refine st_loopP (σ := (List Int) × Int) (ρ := (((List Int) × Int) ⊕ (List Int))) (γ := (Option Addr) × Nat × (List Value)) hl2 (none, 0, []) (fun s_ g_ => match s_, g_ with | (l8, i11), (A6, c7, y9) => [(4, sl A6 l8 c7), (9, sl A_l l c_l), (10, vI (l.length : Int)), (11, vI i11)]) (fun s_ g_ => match s_, g_ with | (l8, i11), (A6, c7, y9) => Mem w0 (ow A6 l8 c7 3 1 y9 :: Fz F W :: cs)) (fun s_ g_ => match s_, g_ with | (l8, i11), (A6, c7, y9) => (RepL (Rep.int .i64) F W l8 y9)) (RepL.nil (R := (Rep.int .i64))) (look_has ⟨rfl, rfl, rfl, rfl, trivial⟩) (fun w_ hM => hM) ?_
  rintro ⟨l8, i11⟩ ⟨A6, c7, y9⟩ o2 h10 hs_ hd2
  have hp : (border_List_l2 l) l8 i11 = some o2 := hs_
  clear hs_
  unfold border_List_l2 at hp
  refine st_seq (st_region [oF 0] (by rfl) ?_)
  refine oQ [oF 0] [(12, .bool (decide (i11 < (l.length : Int)))), (4, sl A6 l8 c7), (9, sl A_l l c_l), (10, vI (l.length : Int)), (11, vI i11)] (by kernel_rfl) ?_
  refine ops_nil (fin_then (st_seq ?_))
  refine st_if (b := decide (i11 < (l.length : Int))) rfl (fun hc12 => ?_) (fun hc12 => ?_)
  ·
   have hp := cnd_t hc12 hp
   refine st_skip (fin_then (st_seq (st_block (st_seq (st_region [oF 0, oF 1, oF 2] (by rfl) ?_)))))
   obtain ⟨x13, hv14, hp⟩ := obind hp
   obtain ⟨m15, hm16, hx17⟩ := idx_some hv14
   have hl20 := (List.getElem?_eq_some_iff.1 hx17).1
   obtain ⟨ad21, vs18, hA22, hr19, hq23⟩ := RdS.el h_l hx17
   obtain rfl := hr19
   refine ops_val (op := (.indexAddr 31 (.tmp 9) (.tmp 11))) (d := some 13) (v := .pointer (some (ad21.add (m15 * 1)))) ⟨by kernel_rfl⟩ (run_indexA hA22 Try.underlying31 (z := 1) (by kernel_rfl) rfl rfl hm16 hl20) ?_
   refine ops_mem (d := some 14) (an := [.v (vU x13)]) (evs := [.load (ad21.add (m15 * 1)) (vU x13)]) (v := vU x13) ⟨by kernel_rfl⟩ (fun w_ hM hS => ⟨w_, ⟨hM.elcell 1 rfl hq23 0 rfl, rfl⟩, hM, trivial⟩) ?_
   refine oQ [oF 2] [(6, vU x13), (4, sl A6 l8 c7), (9, sl A_l l c_l), (10, vI (l.length : Int)), (11, vI i11)] (by kernel_rfl) ?_
   refine ops_nil (fin_then (st_seq (st_region [oF 0, oF 1, oF 2, oF 3, oF 4, oF 5, oF 6] (by rfl) ?_)))
   refine oQ [oF 0] [(16, vU x13), (4, sl A6 l8 c7), (9, sl A_l l c_l), (10, vI (l.length : Int)), (11, vI i11)] (by kernel_rfl) ?_
   obtain ⟨x24, x25, hv26, hp⟩ := obind2 hp
   refine ops_callI (σ := Unit) (d := some 17) (f := 5) (args := #[vU x13]) (v := (fun _ => .tuple #[vI x24, vI x25])) (I := (fun _ => True)) (M' := (fun _ => Mem w0 (ow A6 l8 c7 3 1 y9 :: Fz F W :: cs))) ⟨by kernel_rfl⟩ (fun w_ hM hS => (border_From_ok w0 w_ (ow A6 l8 c7 3 1 y9 :: cs) F W x13 (hM.pick 2 [1, 0] (by kernel_rfl) (by decide) rfl)  x24 x25 hv26).mono (by rintro e w' ⟨-, rfl, h'⟩; have h' : Mem w0 (ow A6 l8 c7 3 1 y9 :: Fz F W :: cs) w' := (h'.pick 2 [1, 0] (by kernel_rfl) (by decide) rfl); exact ⟨(), trivial, rfl, h', trivial⟩)) ?_
   rintro _ -
   refine oQ [oF 2, oF 3, oF 4, oF 5, oF 6] [(8, vI x25), (7, vI x24), (4, sl A6 l8 c7), (9, sl A_l l c_l), (10, vI (l.length : Int)), (11, vI i11)] (by kernel_rfl) ?_
   refine ops_nil (fin_then (st_seq (st_seq (st_region [oF 0, oF 1] (by rfl) ?_))))
   refine oQ [oF 0, oF 1] [(21, .bool (!(x25 == 0))), (8, vI x25), (7, vI x24), (4, sl A6 l8 c7), (9, sl A_l l c_l), (10, vI (l.length : Int)), (11, vI i11)] (by kernel_rfl) ?_
   refine ops_nil (fin_then ?_)
   refine st_if (b := !(x25 == 0)) rfl (fun hc27 => ?_) (fun hc27 => ?_)
   ·
    have hp := cnd_t hc27 hp
    refine st_seq (st_region [oF 0, oF 1, oF 2] (by rfl) ?_)
    refine oQ [oF 0, oF 1, oF 2] [(3, vI x25), (2, .slice none 0 0)] (by kernel_rfl) ?_
    refine ops_nil (fin_then (st_ret (fin_ret_then (fin_ret_block (fin_ret_then (fin_ret_then (fin_ret_block (fin_ret_then ?_))))))))
    refine fin_conv (l' := [(3, vI x25), (2, .slice none 0 0)]) (M' := Mem w0 (ow none ([] : List Int) 0 3 1 [] :: ow A6 l8 c7 3 1 y9 :: Fz F W :: cs)) rfl (fun w_ h => h.onil none 3 1) ?_
    refine fin_conv (l' := [(3, vI x25), (2, sl none ([] : List Int) 0)]) (M' := Mem w0 (ow none ([] : List Int) 0 3 1 [] :: ow A6 l8 c7 3 1 y9 :: Fz F W :: cs)) rfl (fun _ h => h) ?_
    obtain hq_ := Option.some.inj hp
    subst hq_
    obtain hq_ := hd2 _ rfl
    subst hq_
    have hp : some (([] : List Int), x25) = some (l9003, i9006) := hk2
    have hq_ := Option.some.inj hp
    obtain ⟨hr0_, hq_⟩ := Prod.mk.inj hq_
    have hr1_ := hq_
    subst hr0_
    subst hr1_
    refine fin_ret [.tmp 2, .tmp 3] [sl none ([] : List Int) 0, vI x25] rfl rfl (fun w_ hM => (.tmp rfl (.tmp rfl .nil))) (fun w_ hM => ?_)
    exact ⟨none, 0, [], (RepL.nil (R := (Rep.int .i64))), rfl, hM.pick 3 [0, 2] (by kernel_rfl) (by decide) rfl⟩
   ·
    have hp := cnd_f hc27 hp
    refine st_skip (fin_then (st_region [oF 0, oF 1, oF 2, oF 3, oF 4] (by rfl) ?_))
    refine oQ [oF 0, oF 1] [(24, vI x24), (23, sl A6 l8 c7), (4, sl A6 l8 c7), (9, sl A_l l c_l), (10, vI (l.length : Int)), (11, vI i11)] (by kernel_rfl) ?_
    have h28 : RepL (Rep.int .i64) F W ([x24] : List Int) ([vI x24]) := (RepL.cons (R := (Rep.int .i64)) (F := F) (w := W) (vs := [vI x24]) (ys := []) rfl RepL.nil)
    refine ops_new (d := some 25) (o := .cells ([vI x24] : List Value).toArray 3) (v := fun g29 => .slice (sa g29) ([x24] : List Int).length 1) (M' := fun g29 => Mem w0 (orow (sa g29) ([x24] : List Int).length 1 3 1 ([vI x24]) :: ow A6 l8 c7 3 1 y9 :: Fz F W :: cs)) (fun g29 => ⟨by kernel_rfl⟩) (fun w_ hM hS => ⟨hM.onew [vI x24] 3 1 1 rfl (by decide), trivial⟩) (fun g29 => ?_)
    obtain ⟨l30, hv31, hp⟩ := obind hp
    obtain ⟨he32, hb33⟩ := app_some hv31
    obtain ⟨y34, hy35⟩ : ∃ y_, y9 ++ ([vI x24]) = y_ := ⟨_, rfl⟩
    have h36 : RepL (Rep.int .i64) F W l30 y34 := by rw [he32, ← hy35]; exact RepL.app h10 h28
    refine ops_appendO (x := (Go.Operand.tmp 23)) (y := (Go.Operand.tmp 25)) (t := 32) (e := 3) (d := some 26) (n' := l30.length) (z := 1) (m := ([x24] : List Int).length) (bytes := 8) (xs' := y34) (news := ([vI x24])) (zv := vI 0) 1 ⟨by kernel_rfl⟩ rfl rfl Try.underlying32 (by kernel_rfl) (by rfl) rfl (fun w_ hM => hM.srcO 0 rfl) h28.len h28.one hb33 (by have z_ := congrArg List.length he32; rw [List.length_append] at z_; exact z_.symm) hy35 (fun _ _ _ _ hS h' => trivial) ?_
    rintro ⟨A37, c38⟩
    refine oQ [oF 4] [(4, sl A37 l30 c38), (9, sl A_l l c_l), (10, vI (l.length : Int)), (11, vI i11)] (by kernel_rfl) ?_
    refine ops_nil (fin_block (fin_then (st_region [oF 0, oF 1] (by rfl) ?_)))
    refine oQ [oF 0, oF 1] [(11, vI (IntKind.i64.wrap (i11 + 1))), (4, sl A37 l30 c38), (9, sl A_l l c_l), (10, vI (l.length : Int))] (by kernel_rfl) ?_
    refine ops_nil ?_
    exact fin_again (l30, IntKind.i64.wrap (i11 + 1)) (A37, c38, y34) (Option.some.inj hp).symm h36 (look_has ⟨rfl, rfl, rfl, rfl, trivial⟩) (fun w_ hM => hM.pick 3 [1, 2] (by kernel_rfl) (by decide) rfl)
  ·
   have hp := cnd_f hc12 hp
   refine st_exit (fin_exit_then (fin_exit_then (fin_exit ?_)))
   obtain hq_ := Option.some.inj hp
   subst hq_
   obtain hq_ := hd2 _ rfl
   subst hq_
   have hp : border_List_j1 l8 = some (l9003, i9006) := hk2
   exact fin_join HJ1 (A6, c7, l8, y9) ⟨hp, h10⟩ (look_has ⟨rfl, trivial⟩) (fun w_ hM => hM)
theorem slices_Equal_int_int_ok (w0 w : World) (cs : List Chunk) (F : Nat → Prop) (W : World) (A_s1 : Option Addr) (c_s1 : Nat) (s1_1 : List Int) (A_s2 : Option Addr) (c_s2 : Nat) (s2_1 : List Int) (hM0 : Mem w0 (Fz F W :: cs) w) (h_s1 : RdS (Rep.int .i64) F W A_s1 c_s1 s1_1) (h_s2 : RdS (Rep.int .i64) F W A_s2 c_s2 s2_1) (t9001 : Bool) (hp : slices_Equal_int_int s1_1 s2_1 = some t9001) : Calls Try.prog 11 #[sl A_s1 s1_1 c_s1, sl A_s2 s2_1 c_s2] w fun e w' => (True) ∧ e = .returned (.bool t9001) ∧ Mem w0 (Fz F W :: cs) w' := by
 unfold slices_Equal_int_int at hp
 refine sx_calls Try.func11 rfl (n := 26) (by kernel_rfl) (l := [(0, sl A_s1 s1_1 c_s1), (1, sl A_s2 s2_1 c_s2)]) rfl (by rfl) hM0 ?_
 refine st_seq (st_region [oF 0] (by rfl) ?_)
 refine oQ [oF 0] [(0, sl A_s1 s1_1 c_s1), (1, sl A_s2 s2_1 c_s2)] (by kernel_rfl) ?_
 refine ops_nil (fin_then (st_seq (st_seq (st_region [oF 0, oF 1, oF 2, oF 3, oF 4] (by rfl) ?_))))
 refine oQ [oF 0, oF 1, oF 2, oF 3, oF 4] [(10, .bool (!((s1_1.length : Int) == (s2_1.length : Int)))), (0, sl A_s1 s1_1 c_s1), (1, sl A_s2 s2_1 c_s2)] (by kernel_rfl) ?_
 refine ops_nil (fin_then ?_)
 refine st_if (b := !((s1_1.length : Int) == (s2_1.length : Int))) rfl (fun hc1 => ?_) (fun hc1 => ?_)
 ·
  have hp := cnd_t hc1 hp
  refine st_seq (st_region [oF 0] (by rfl) ?_)
  refine oQ [oF 0] [(4, .bool false)] (by kernel_rfl) ?_
  refine ops_nil (fin_then (st_ret (fin_ret_then ?_)))
  have hq_ := Option.some.inj hp
  have hr0_ := hq_
  subst hr0_
  refine fin_ret [.tmp 4] [.bool false] rfl rfl (fun w_ hM => (.tmp rfl .nil)) (fun w_ hM => ?_)
  exact ⟨trivial, rfl, hM⟩
 ·
  have hp := cnd_f hc1 hp
  refine st_skip (fin_then ?_)
  refine st_join1 (σ := Unit) (L := fun _ => []) (N := fun _ => Mem w0 (Fz F W :: cs)) (I := fun _ => (slices_Equal_int_int_j1 = some t9001)) ?_ ?_
  ·
   rintro _ hp
   unfold slices_Equal_int_int_j1 at hp
   refine st_seq (st_region [oF 0] (by rfl) ?_)
   refine oQ [oF 0] [(4, .bool true)] (by kernel_rfl) ?_
   refine ops_nil (fin_then (st_ret ?_))
   have hq_ := Option.some.inj hp
   have hr0_ := hq_
   subst hr0_
   refine fin_ret [.tmp 4] [.bool true] rfl rfl (fun w_ hM => (.tmp rfl .nil)) (fun w_ hM => ?_)
   exact ⟨trivial, rfl, hM⟩
  ·
   intro HJ1
   refine st_seq (st_seq (st_region [oF 0, oF 1, oF 2] (by rfl) ?_))
   refine oQ [oF 0, oF 1, oF 2] [(13, vI 0), (12, vI (s1_1.length : Int)), (0, sl A_s1 s1_1 c_s1), (1, sl A_s2 s2_1 c_s2)] (by kernel_rfl) ?_
   refine ops_nil (fin_then (st_block ?_))
   obtain ⟨r2, hl2, hk2⟩ := obind hp
   refine st_loopP (σ := Int) (ρ := (Bool ⊕ Unit)) (γ := Unit) hl2 () (fun s_ g_ => match s_, g_ with | i2, _ => [(0, sl A_s1 s1_1 c_s1), (1, sl A_s2 s2_1 c_s2), (12, vI (s1_1.length : Int)), (13, vI i2)]) (fun s_ g_ => match s_, g_ with | i2, _ => Mem w0 (Fz F W :: cs)) (fun s_ g_ => match s_, g_ with | i2, _ => True) trivial (look_has ⟨rfl, rfl, rfl, rfl, trivial⟩) (fun w_ hM => hM) ?_
   rintro i2 _ o2 - hs_ hd2
   have hp : (slices_Equal_int_int_l2 s1_1 s2_1) i2 = some o2 := hs_
   clear hs_
   unfold slices_Equal_int_int_l2 at hp
   refine st_seq (st_region [oF 0] (by rfl) ?_)
   refine oQ [oF 0] [(14, .bool (decide (i2 < (s1_1.length : Int)))), (0, sl A_s1 s1_1 c_s1), (1, sl A_s2 s2_1 c_s2), (12, vI (s1_1.length : Int)), (13, vI i2)] (by kernel_rfl) ?_
   refine ops_nil (fin_then (st_seq ?_))
   refine st_if (b := decide (i2 < (s1_1.length : Int))) rfl (fun hc3 => ?_) (fun hc3 => ?_)
   ·
    have hp := cnd_t hc3 hp
    refine st_skip (fin_then (st_seq (st_block (st_seq (st_region [oF 0, oF 1] (by rfl) ?_)))))
    refine oQ [oF 0, oF 1] [(5, vI i2), (0, sl A_s1 s1_1 c_s1), (1, sl A_s2 s2_1 c_s2), (12, vI (s1_1.length : Int)), (13, vI i2)] (by kernel_rfl) ?_
    refine ops_nil (fin_then (st_seq ?_))
    refine st_region_draw [oT 0, oT 1, oT 2, oT 3, oT 4, oT 5, oT 6, oT 7, oT 8] (Mem w0 (Fz F W :: cs)) (by kernel_rfl) (by kernel_rfl) (by kernel_rfl) (fun _ d _ _ _ h => by cases d <;> exact h) (M' := Mem w0 (Fz F W :: cs)) (fun w_ hM => ⟨hM.drew, hM.drew.sub (.cons_cons _ (.refl _))⟩) ?_
    refine oQ [oT 0, oT 1] [(17, vI i2), (16, sl A_s1 s1_1 c_s1), (5, vI i2), (0, sl A_s1 s1_1 c_s1), (1, sl A_s2 s2_1 c_s2), (12, vI (s1_1.length : Int)), (13, vI i2)] (by kernel_rfl) ?_
    obtain ⟨x4, hv5, hp⟩ := obind hp
    obtain ⟨m6, hm7, hx8⟩ := idx_some hv5
    have hl11 := (List.getElem?_eq_some_iff.1 hx8).1
    obtain ⟨ad12, vs9, hA13, hr10, hq14⟩ := RdS.el h_s1 hx8
    obtain rfl := hr10
    refine ops_val (op := (.indexAddr 32 (.tmp 16) (.tmp 17))) (d := some 18) (v := .pointer (some (ad12.add (m6 * 1)))) ⟨by kernel_rfl⟩ (run_indexA hA13 Try.underlying32 (z := 1) (by kernel_rfl) rfl rfl hm7 hl11) ?_
    refine ops_load (d := some 19) (an := [.v (vI x4)]) (evs := [.load (ad12.add (m6 * 1)) (vI x4)]) (v := vI x4) ⟨by kernel_rfl⟩ (fun w_ hM => ⟨hM.elcell 0 rfl hq14 0 rfl, rfl⟩) ?_
    refine oQ [oT 4, oT 5] [(21, vI i2), (20, sl A_s2 s2_1 c_s2), (19, vI x4), (0, sl A_s1 s1_1 c_s1), (1, sl A_s2 s2_1 c_s2), (12, vI (s1_1.length : Int)), (13, vI i2)] (by kernel_rfl) ?_
    obtain ⟨x15, hv16, hp⟩ := obind hp
    obtain ⟨m17, hm18, hx19⟩ := idx_some hv16
    have hl22 := (List.getElem?_eq_some_iff.1 hx19).1
    obtain ⟨ad23, vs20, hA24, hr21, hq25⟩ := RdS.el h_s2 hx19
    obtain rfl := hr21
    refine ops_val (op := (.indexAddr 32 (.tmp 20) (.tmp 21))) (d := some 22) (v := .pointer (some (ad23.add (m17 * 1)))) ⟨by kernel_rfl⟩ (run_indexA hA24 Try.underlying32 (z := 1) (by kernel_rfl) rfl rfl hm18 hl22) ?_
    refine ops_load (d := some 23) (an := [.v (vI x15)]) (evs := [.load (ad23.add (m17 * 1)) (vI x15)]) (v := vI x15) ⟨by kernel_rfl⟩ (fun w_ hM => ⟨hM.elcell 0 rfl hq25 0 rfl, rfl⟩) ?_
    refine oQ [oT 8] [(24, .bool (!(x4 == x15))), (0, sl A_s1 s1_1 c_s1), (1, sl A_s2 s2_1 c_s2), (12, vI (s1_1.length : Int)), (13, vI i2)] (by kernel_rfl) ?_
    refine ops_nil (fin_then ?_)
    refine st_if (b := !(x4 == x15)) rfl (fun hc26 => ?_) (fun hc26 => ?_)
    ·
     have hp := cnd_t hc26 hp
     refine st_seq (st_region [oF 0] (by rfl) ?_)
     refine oQ [oF 0] [(4, .bool false)] (by kernel_rfl) ?_
     refine ops_nil (fin_then (st_ret (fin_ret_block (fin_ret_then (fin_ret_then (fin_ret_block (fin_ret_then ?_)))))))
     obtain hq_ := Option.some.inj hp
     subst hq_
     obtain hq_ := hd2 _ rfl
     subst hq_
     have hp : some false = some t9001 := hk2
     have hq_ := Option.some.inj hp
     have hr0_ := hq_
     subst hr0_
     refine fin_ret [.tmp 4] [.bool false] rfl rfl (fun w_ hM => (.tmp rfl .nil)) (fun w_ hM => ?_)
     exact ⟨trivial, rfl, hM⟩
    ·
     have hp := cnd_f hc26 hp
     refine st_skip (fin_block (fin_then (st_region [oF 0, oF 1] (by rfl) ?_)))
     refine oQ [oF 0, oF 1] [(13, vI (IntKind.i64.wrap (i2 + 1))), (0, sl A_s1 s1_1 c_s1), (1, sl A_s2 s2_1 c_s2), (12, vI (s1_1.length : Int))] (by kernel_rfl) ?_
     refine ops_nil ?_
     exact fin_again (IntKind.i64.wrap (i2 + 1)) () (Option.some.inj hp).symm trivial (look_has ⟨rfl, rfl, rfl, rfl, trivial⟩) (fun w_ hM => hM)
   ·
    have hp := cnd_f hc3 hp
    refine st_exit (fin_exit_then (fin_exit_then (fin_exit ?_)))
    obtain hq_ := Option.some.inj hp
    subst hq_
    obtain hq_ := hd2 _ rfl
    subst hq_
    have hp : slices_Equal_int_int_j1 = some t9001 := hk2
    exact fin_join HJ1 () hp (look_has trivial) (fun w_ hM => hM)
end Go.Proofs.Ytchadeflopbchaa.B
