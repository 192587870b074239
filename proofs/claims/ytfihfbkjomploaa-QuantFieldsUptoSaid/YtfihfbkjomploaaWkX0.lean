/- The Go functions come to what the plain functions tell. No condition. -/
import Derived.Test.YtfihfbkjomploaaProg
import Derived.Test.YtfihfbkjomploaaFnX
namespace Go.Proofs.Ytfihfbkjomploaa.X
open Go Go.RowKit Go.Proofs.Ytfihfbkjomploaa.Sx
set_option linter.unusedVariables false
set_option maxHeartbeats 4000000 in
set_option maxRecDepth 100000 in
theorem bits_New_ok (w0 w : World) (cs : List Chunk) (F : Nat → Prop) (W : World) (A_b : Option Addr) (c_b : Nat) (b : List Int) (hM0 : Mem w0 (Fz F W :: cs) w) (h_b : RdS (Rep.int .u8) F W A_b c_b b) (l9004 : List Int) (hp : bits_New b = some l9004) : Calls Try.prog 15 #[.slice A_b b.length c_b] w fun e w' => ∃ (b9001 : Nat), ∃ (A9002 : Option Addr), ∃ (c9003 : Nat), ∃ (y9005 : List Value), ((RepL (Rep.int .u8) F W l9004 y9005)) ∧ e = .returned (vP b9001 0) ∧ Mem w0 (.blk b9001 [.slice A9002 l9004.length c9003, vI 0] 136 :: orow A9002 l9004.length c9003 5 1 y9005 :: Fz F W :: cs) w' := by
 unfold bits_New at hp
 refine sx_calls Try.func15 rfl (n := 7) (by kernel_rfl) (l := [(0, .slice A_b b.length c_b)]) rfl (by rfl) hM0 ?_
 refine st_seq ?_
 refine st_region [oF 0] (by rfl) ?_
 refine oR [oF 0] [(0, .slice A_b b.length c_b)] [0] (by kernel_rfl) ?_
 refine ops_nil ?_
 refine fin_then ?_
 refine st_seq ?_
 refine st_region [oF 0, oF 1, oF 2, oF 3, oF 4] (by rfl) ?_
 refine oR [oF 0] [(3, .slice A_b b.length c_b)] [3] (by kernel_rfl) ?_
 refine ops_conv (l' := [(3, .slice A_b b.length c_b)]) (M' := Mem w0 (orow none ([] : List Int).length 0 5 1 [] :: Fz F W :: cs)) rfl (fun w_ h => h.onil none 5 1) ?_
 obtain ⟨l1, hv2, hp⟩ := obind hp
 obtain ⟨he3, hb4⟩ := app_some hv2
 obtain ⟨y8, h9, hs10⟩ := RdS.src h_b
 obtain ⟨y5, hy6⟩ : ∃ y_, [] ++ y8 = y_ := ⟨_, rfl⟩
 have h7 : RepL (Rep.int .u8) F W l1 y5 := by rw [he3, ← hy6]; exact RepL.app (RepL.nil (R := (Rep.int .u8))) h9
 refine ops_appendO (x := (Go.Operand.const (Go.Value.slice none 0 0))) (y := (Go.Operand.tmp 3)) (t := 22) (e := 5) (d := some 4) (n' := l1.length) (z := 1) (m := b.length) (bytes := 1) (xs' := y5) (news := y8) (zv := .int .u8 0) 0 ⟨by kernel_rfl⟩ rfl rfl Try.underlying22 (by kernel_rfl) (by rfl) rfl (fun w_ hM => hM.srcS 1 rfl h9 hs10) h9.len h9.one hb4 (by have z_ := congrArg List.length he3; rw [List.length_append] at z_; exact z_.symm) hy6 (fun _ _ _ _ hS h' => trivial) ?_
 rintro ⟨A11, c12⟩
 refine ops_conv (l' := [(4, .slice A11 l1.length c12), (3, .slice A_b b.length c_b)]) (M' := Mem w0 (orow A11 l1.length c12 5 1 y5 :: Fz F W :: cs)) rfl (fun _ h => h) ?_
 refine oR [oF 2] [(5, .agg #[.slice A11 l1.length c12, vI 0])] [5] (by kernel_rfl) ?_
 refine ops_new (d := some 6) (o := .cells #[.slice A11 l1.length c12, vI 0] 136) (v := fun b13 => vP b13 0) (M' := fun b13 => Mem w0 (.blk b13 [.slice A11 l1.length c12, vI 0] 136 :: orow A11 l1.length c12 5 1 y5 :: Fz F W :: cs)) (fun b13 => ⟨by kernel_rfl⟩) (fun w_ hM hS => ⟨hM.blk [.slice A11 l1.length c12, vI 0] 136, trivial⟩) (fun b13 => ?_)
 refine oR [oF 4] [(2, vP b13 0)] [2] (by kernel_rfl) ?_
 refine ops_nil ?_
 refine fin_then ?_
 refine st_ret ?_
 have hq_ := Option.some.inj hp
 have hr0_ := hq_
 subst hr0_
 refine fin_ret [.tmp 2] [vP b13 0] rfl rfl (fun w_ hM => (.tmp rfl .nil)) (fun w_ hM => ?_)
 exact ⟨b13, A11, c12, y5, h7, rfl, hM⟩
set_option maxHeartbeats 4000000 in
set_option maxRecDepth 100000 in
theorem bits_Reader_Left_ok (w0 w : World) (cs : List Chunk) (F : Nat → Prop) (W : World) (b_r : Nat) (A_r_0 : Option Addr) (c_r_0 : Nat) (r_0 : List Int) (y_r_0 : List Value) (r_1 : Int) (hM0 : Mem w0 (.blk b_r [.slice A_r_0 r_0.length c_r_0, vI r_1] 136 :: orow A_r_0 r_0.length c_r_0 5 1 y_r_0 :: Fz F W :: cs) w) (h_r_0 : RepL (Rep.int .u8) F W r_0 y_r_0) (i9001 : Int) (hp : bits_Reader_Left r_0 r_1 = some i9001) : Calls Try.prog 23 #[vP b_r 0] w fun e w' => ∃ (y9002 : List Value), ((RepL (Rep.int .u8) F W r_0 y9002)) ∧ e = .returned (vI i9001) ∧ Mem w0 (.blk b_r [.slice A_r_0 r_0.length c_r_0, vI r_1] 136 :: orow A_r_0 r_0.length c_r_0 5 1 y9002 :: Fz F W :: cs) w' := by
 unfold bits_Reader_Left at hp
 refine sx_calls Try.func23 rfl (n := 14) (by kernel_rfl) (l := [(0, vP b_r 0)]) rfl (by rfl) hM0 ?_
 refine st_seq ?_
 refine st_region [oF 0] (by rfl) ?_
 refine oR [oF 0] [(0, vP b_r 0)] [0] (by kernel_rfl) ?_
 refine ops_nil ?_
 refine fin_then ?_
 refine st_seq ?_
 refine st_region_draw [oT 0, oT 1, oT 2, oT 3, oT 4, oT 5, oT 6, oT 7, oT 8, oT 9, oT 10, oT 11] (Mem w0 (.blk b_r [.slice A_r_0 r_0.length c_r_0, vI r_1] 136 :: orow A_r_0 r_0.length c_r_0 5 1 y_r_0 :: Fz F W :: cs)) (by kernel_rfl) (by kernel_rfl) (by kernel_rfl) (fun _ d _ _ _ h => by cases d <;> exact h) (M' := Mem w0 (.blk b_r [.slice A_r_0 r_0.length c_r_0, vI r_1] 136 :: orow A_r_0 r_0.length c_r_0 5 1 y_r_0 :: Fz F W :: cs)) (fun w_ hM => ⟨hM.drew, hM.drew.sub (.cons_cons _ (.cons_cons _ (.cons_cons _ (.refl _))))⟩) ?_
 refine oR [oT 0, oT 1, oT 2] [(5, vP b_r 0), (0, vP b_r 0)] [5, 0] (by kernel_rfl) ?_
 refine ops_load (d := some 6) (an := [.v (.slice A_r_0 r_0.length c_r_0)]) (evs := [.load ⟨b_r, 0, none⟩ (.slice A_r_0 r_0.length c_r_0)]) (v := .slice A_r_0 r_0.length c_r_0) ⟨by kernel_rfl⟩ (fun w_ hM => ⟨hM.cell 0 rfl rfl, rfl⟩) ?_
 refine oR [oT 4, oT 5, oT 6, oT 7, oT 8] [(11, vP b_r 1), (8, vI (IntKind.i64.wrap (8 * (r_0.length : Int))))] [11, 8] (by kernel_rfl) ?_
 refine ops_load (d := some 12) (an := [.v (vI r_1)]) (evs := [.load ⟨b_r, 1, none⟩ (vI r_1)]) (v := vI r_1) ⟨by kernel_rfl⟩ (fun w_ hM => ⟨hM.cell 0 rfl rfl, rfl⟩) ?_
 refine oR [oT 10, oT 11] [(2, vI (IntKind.i64.wrap (IntKind.i64.wrap (8 * (r_0.length : Int)) - r_1)))] [2] (by kernel_rfl) ?_
 obtain ⟨x1, hv2, hp⟩ := obind hp
 refine ops_conv (l' := [(2, vI x1)]) (by rw [← Option.some.inj hv2]) (fun _ h => h) ?_
 refine ops_nil ?_
 refine fin_then ?_
 refine st_ret ?_
 have hq_ := Option.some.inj hp
 have hr0_ := hq_
 subst hr0_
 refine fin_ret [.tmp 2] [vI x1] rfl rfl (fun w_ hM => (.tmp rfl .nil)) (fun w_ hM => ?_)
 exact ⟨y_r_0, h_r_0, rfl, hM⟩
def bits_Reader_Get__t0 : List Row := [⟨0, 4194304, 64⟩, ⟨0, 8388608, 1⟩, ⟨2, 16777216, 8388608⟩, ⟨4, 33554432, 16777216⟩, ⟨8, 67108864, 33554432⟩, ⟨0, 134217728, 1⟩, ⟨32, 268435456, 134217728⟩, ⟨64, 536870912, 268435456⟩, ⟨128, 1073741824, 536870912⟩, ⟨256, 2147483648, 1073741824⟩, ⟨528, 4294967296, 2214592512⟩, ⟨1024, 8589934592, 4294967296⟩, ⟨0, 17179869184, 1⟩, ⟨4096, 34359738368, 17179869184⟩, ⟨8192, 68719476736, 34359738368⟩, ⟨16384, 137438953472, 68719476736⟩, ⟨32768, 274877906944, 137438953472⟩, ⟨67584, 549755813888, 283467841536⟩, ⟨131072, 1099511627776, 549755813888⟩, ⟨262144, 2199023255552, 1099511627776⟩, ⟨0, 4398046511104, 128⟩, ⟨1572864, 8796093022208, 6597069766656⟩, ⟨2097153, 17592186044416, 8796097216512⟩, ⟨8388607, 64, 17592186044416⟩]
set_option maxHeartbeats 4000000 in
set_option maxRecDepth 100000 in
theorem bits_Reader_Get_ok (w0 w : World) (cs : List Chunk) (F : Nat → Prop) (W : World) (b_r : Nat) (A_r_0 : Option Addr) (c_r_0 : Nat) (r_0 : List Int) (y_r_0 : List Value) (r_1 : Int) (n : Int) (hM0 : Mem w0 (.blk b_r [.slice A_r_0 r_0.length c_r_0, vI r_1] 136 :: orow A_r_0 r_0.length c_r_0 5 1 y_r_0 :: Fz F W :: cs) w) (h_r_0 : RepL (Rep.int .u8) F W r_0 y_r_0) (i9001 : Int) (i9002 : Int) (i9006 : Int) (hp : bits_Reader_Get r_0 r_1 n = some (i9001, i9002, i9006)) : Calls Try.prog 16 #[vP b_r 0, vI n] w fun e w' => ∃ (A9003 : Option Addr), ∃ (y9004 : List Value), ((RepL (Rep.int .u8) F W r_0 y9004)) ∧ e = .returned (.tuple #[vU i9001, vI i9002]) ∧ Mem w0 (.blk b_r [.slice A9003 r_0.length c_r_0, vI i9006] 136 :: orow A9003 r_0.length c_r_0 5 1 y9004 :: Fz F W :: cs) w' := by
 unfold bits_Reader_Get at hp
 refine sx_calls Try.func16 rfl (n := 54) (by kernel_rfl) (l := [(0, vP b_r 0), (1, vI n)]) rfl (by rfl) hM0 ?_
 refine st_seq ?_
 refine st_region [oF 0, oF 1] (by rfl) ?_
 refine oR [oF 0, oF 1] [(0, vP b_r 0), (1, vI n)] [0, 1] (by kernel_rfl) ?_
 refine ops_nil ?_
 refine fin_then ?_
 refine st_seq ?_
 refine st_seq ?_
 refine st_region [oF 0, oF 1, oF 2, oF 3, oF 4, oF 5] (by rfl) ?_
 refine oR [oF 0, oF 1, oF 2] [(10, .bool (decide (n < 0))), (0, vP b_r 0), (1, vI n)] [10, 0, 1] (by kernel_rfl) ?_
 refine ops_bool (t := decide (n < 0)) (l1 := [(10, .bool true), (0, vP b_r 0), (1, vI n)]) (l2 := [(10, .bool false), (0, vP b_r 0), (1, vI n)]) (fun h => by rw [h]) (fun h => by rw [h]) (fun hc1 => ?_) (fun hc1 => ?_)
 · --
  have hp := cnd_t hc1 hp
  refine oR [oF 3, oF 4, oF 5] [(13, .bool true), (0, vP b_r 0), (1, vI n)] [13, 0, 1] (by kernel_rfl) ?_
  refine ops_nil ?_
  refine fin_then ?_
  refine st_true rfl ?_
  refine st_seq ?_
  refine st_region [oF 0, oF 1] (by rfl) ?_
  refine oR [oF 0, oF 1] [(5, vI 1), (4, vU 0)] [5, 4] (by kernel_rfl) ?_
  refine ops_nil ?_
  refine fin_then ?_
  refine st_ret ?_
  refine fin_ret_then ?_
  have hq_ := Option.some.inj hp
  obtain ⟨hr0_, hq_⟩ := Prod.mk.inj hq_
  obtain ⟨hr1_, hq_⟩ := Prod.mk.inj hq_
  have hr2_ := hq_
  subst hr0_
  subst hr1_
  subst hr2_
  refine fin_ret [.tmp 4, .tmp 5] [vU 0, vI 1] rfl rfl (fun w_ hM => (.tmp rfl (.tmp rfl .nil))) (fun w_ hM => ?_)
  exact ⟨A_r_0, y_r_0, h_r_0, rfl, hM⟩
 · --
  have hp := cnd_f hc1 hp
  refine oR [oF 3, oF 4, oF 5] [(13, .bool (decide (64 < n))), (0, vP b_r 0), (1, vI n)] [13, 0, 1] (by kernel_rfl) ?_
  refine ops_nil ?_
  refine fin_then ?_
  refine st_if (b := decide (64 < n)) rfl (fun hc2 => ?_) (fun hc2 => ?_)
  · --
   have hp := cnd_t hc2 hp
   refine st_seq ?_
   refine st_region [oF 0, oF 1] (by rfl) ?_
   refine oR [oF 0, oF 1] [(5, vI 1), (4, vU 0)] [5, 4] (by kernel_rfl) ?_
   refine ops_nil ?_
   refine fin_then ?_
   refine st_ret ?_
   refine fin_ret_then ?_
   have hq_ := Option.some.inj hp
   obtain ⟨hr0_, hq_⟩ := Prod.mk.inj hq_
   obtain ⟨hr1_, hq_⟩ := Prod.mk.inj hq_
   have hr2_ := hq_
   subst hr0_
   subst hr1_
   subst hr2_
   refine fin_ret [.tmp 4, .tmp 5] [vU 0, vI 1] rfl rfl (fun w_ hM => (.tmp rfl (.tmp rfl .nil))) (fun w_ hM => ?_)
   exact ⟨A_r_0, y_r_0, h_r_0, rfl, hM⟩
  · --
   have hp := cnd_f hc2 hp
   refine st_skip ?_
   refine fin_then ?_
   refine st_seq ?_
   refine st_seq ?_
   refine st_region [oF 0, oF 1, oF 2, oF 3] (by rfl) ?_
   refine oR [oF 0, oF 1] [(15, vP b_r 0), (14, vI n), (0, vP b_r 0), (1, vI n)] [15, 14, 0, 1] (by kernel_rfl) ?_
   obtain ⟨x3, hv4, hp⟩ := obind hp
   refine ops_callI (σ := (List Value)) (d := some 16) (f := 23) (args := #[vP b_r 0]) (v := (fun x_ => match x_ with | y5 => vI x3)) (I := (fun x_ => match x_ with | y5 => (RepL (Rep.int .u8) F W r_0 y5))) (M' := (fun x_ => match x_ with | y5 => Mem w0 (orow A_r_0 r_0.length c_r_0 5 1 y5 :: .blk b_r [.slice A_r_0 r_0.length c_r_0, vI r_1] 136 :: Fz F W :: cs))) ⟨by kernel_rfl⟩ (fun w_ hM hS => (bits_Reader_Left_ok w0 w_ (cs) F W b_r A_r_0 c_r_0 r_0 y_r_0 r_1 hM h_r_0 x3 hv4).mono (by rintro e w' ⟨y5, h6, rfl, h'⟩; have h' : Mem w0 (orow A_r_0 r_0.length c_r_0 5 1 y5 :: .blk b_r [.slice A_r_0 r_0.length c_r_0, vI r_1] 136 :: Fz F W :: cs) w' := (h'.pick 3 [1, 0, 2] (by kernel_rfl) (by decide) rfl); exact ⟨y5, h6, rfl, h', trivial⟩)) ?_
   rintro y5 h6
   refine ops_conv (l' := [(16, vI x3), (15, vP b_r 0), (14, vI n), (0, vP b_r 0), (1, vI n)]) (M' := Mem w0 (orow A_r_0 r_0.length c_r_0 5 1 y5 :: .blk b_r [.slice A_r_0 r_0.length c_r_0, vI r_1] 136 :: Fz F W :: cs)) rfl (fun _ h => h) ?_
   refine oR [oF 3] [(17, .bool (decide (x3 < n))), (0, vP b_r 0), (1, vI n)] [17, 0, 1] (by kernel_rfl) ?_
   refine ops_nil ?_
   refine fin_then ?_
   refine st_if (b := decide (x3 < n)) rfl (fun hc7 => ?_) (fun hc7 => ?_)
   · --
    have hp := cnd_t hc7 hp
    refine st_seq ?_
    refine st_region [oF 0, oF 1] (by rfl) ?_
    refine oR [oF 0, oF 1] [(5, vI 14), (4, vU 0)] [5, 4] (by kernel_rfl) ?_
    refine ops_nil ?_
    refine fin_then ?_
    refine st_ret ?_
    refine fin_ret_then ?_
    have hq_ := Option.some.inj hp
    obtain ⟨hr0_, hq_⟩ := Prod.mk.inj hq_
    obtain ⟨hr1_, hq_⟩ := Prod.mk.inj hq_
    have hr2_ := hq_
    subst hr0_
    subst hr1_
    subst hr2_
    refine fin_ret [.tmp 4, .tmp 5] [vU 0, vI 14] rfl rfl (fun w_ hM => (.tmp rfl (.tmp rfl .nil))) (fun w_ hM => ?_)
    exact ⟨A_r_0, y5, h6, rfl, hM.pick 3 [1, 0, 2] (by kernel_rfl) (by decide) rfl⟩
   · --
    have hp := cnd_f hc7 hp
    refine st_skip ?_
    refine fin_then ?_
    refine st_seq ?_
    refine st_region [oF 0] (by rfl) ?_
    refine oR [oF 0] [(6, vU 0), (0, vP b_r 0), (1, vI n)] [6, 0, 1] (by kernel_rfl) ?_
    refine ops_nil ?_
    refine fin_then ?_
    refine st_join1 (σ := Int × (Option Addr) × (List Value) × Int) (L := fun x_ => match x_ with | (i8, A9, y10, i12) => [(6, vU i8)]) (N := fun x_ => match x_ with | (i8, A9, y10, i12) => Mem w0 (.blk b_r [.slice A9 r_0.length c_r_0, vI i12] 136 :: orow A9 r_0.length c_r_0 5 1 y10 :: Fz F W :: cs)) (I := fun x_ => match x_ with | (i8, A9, y10, i12) => (bits_Reader_Get_j1 i8 i12 = some (i9001, i9002, i9006)) ∧ (RepL (Rep.int .u8) F W r_0 y10)) ?_ ?_
    · --
     rintro ⟨i8, A9, y10, i12⟩ ⟨hp, h11⟩
     refine st_conv (l' := [(6, vU i8)]) (M' := Mem w0 (.blk b_r [.slice A9 r_0.length c_r_0, vI i12] 136 :: orow A9 r_0.length c_r_0 5 1 y10 :: Fz F W :: cs)) rfl (fun _ h => h) ?_
     unfold bits_Reader_Get_j1 at hp
     refine st_seq ?_
     refine st_region [oF 0, oF 1, oF 2] (by rfl) ?_
     refine oR [oF 0, oF 1, oF 2] [(5, vI 0), (4, vU i8)] [5, 4] (by kernel_rfl) ?_
     refine ops_nil ?_
     refine fin_then ?_
     refine st_ret ?_
     have hq_ := Option.some.inj hp
     obtain ⟨hr0_, hq_⟩ := Prod.mk.inj hq_
     obtain ⟨hr1_, hq_⟩ := Prod.mk.inj hq_
     have hr2_ := hq_
     subst hr0_
     subst hr1_
     subst hr2_
     refine fin_ret [.tmp 4, .tmp 5] [vU i8, vI 0] rfl rfl (fun w_ hM => (.tmp rfl (.tmp rfl .nil))) (fun w_ hM => ?_)
     exact ⟨A9, y10, h11, rfl, hM⟩
    · --
     intro HJ1
     refine st_seq ?_
     refine st_seq ?_
     refine st_region [oF 0, oF 1] (by rfl) ?_
     refine oR [oF 0, oF 1] [(19, vI 0), (18, vI n), (6, vU 0), (0, vP b_r 0)] [19, 18, 6, 0] (by kernel_rfl) ?_
     refine ops_nil ?_
     refine fin_then ?_
     refine st_block ?_
     obtain ⟨r2, hl2, hk2⟩ := obind hp
     refine st_loopP (σ := Int × Int × Int) (ρ := Int × Int) (γ := (Option Addr) × (List Value)) hl2 (A_r_0, y5) (fun s_ g_ => match s_, g_ with | (i16, i17, i18), (A13, y14) => [(0, vP b_r 0), (6, vU i17), (18, vI n), (19, vI i18)]) (fun s_ g_ => match s_, g_ with | (i16, i17, i18), (A13, y14) => Mem w0 (.blk b_r [.slice A13 r_0.length c_r_0, vI i16] 136 :: orow A13 r_0.length c_r_0 5 1 y14 :: Fz F W :: cs)) (fun s_ g_ => match s_, g_ with | (i16, i17, i18), (A13, y14) => (RepL (Rep.int .u8) F W r_0 y14)) h6 (look_has ⟨rfl, rfl, rfl, rfl, trivial⟩) (fun w_ hM => hM.pick 3 [1, 0, 2] (by kernel_rfl) (by decide) rfl) ?_
     rintro ⟨i16, i17, i18⟩ ⟨A13, y14⟩ o2 h15 hs_ hd2
     have hp : (bits_Reader_Get_l2 n r_0) i16 i17 i18 = some o2 := hs_
     clear hs_
     unfold bits_Reader_Get_l2 at hp
     refine st_conv (l' := [(0, vP b_r 0), (6, vU i17), (18, vI n), (19, vI i18)]) (M' := Mem w0 (.blk b_r [.slice A13 r_0.length c_r_0, vI i16] 136 :: orow A13 r_0.length c_r_0 5 1 y14 :: Fz F W :: cs)) rfl (fun _ h => h) ?_
     refine st_seq ?_
     refine st_region [oF 0] (by rfl) ?_
     refine oR [oF 0] [(20, .bool (decide (i18 < n))), (0, vP b_r 0), (6, vU i17), (18, vI n), (19, vI i18)] [20, 0, 6, 18, 19] (by kernel_rfl) ?_
     refine ops_nil ?_
     refine fin_then ?_
     refine st_seq ?_
     refine st_if (b := decide (i18 < n)) rfl (fun hc19 => ?_) (fun hc19 => ?_)
     · --
      have hp := cnd_t hc19 hp
      refine st_skip ?_
      refine fin_then ?_
      refine st_seq ?_
      refine st_block ?_
      refine st_seq ?_
      refine st_region [oF 0, oF 1] (by rfl) ?_
      refine oR [oF 0, oF 1] [(7, vI i18), (0, vP b_r 0), (6, vU i17), (18, vI n), (19, vI i18)] [7, 0, 6, 18, 19] (by kernel_rfl) ?_
      refine ops_nil ?_
      refine fin_then ?_
      refine st_seq ?_
      refine st_region_fast bits_Reader_Get__t0 [oT 0, oT 1, oT 2, oT 3, oT 4, oT 5, oT 6, oT 7, oT 8, oT 9, oT 10, oT 11, oT 12, oT 13, oT 14, oT 15, oT 16, oT 17, oT 18, oT 19, oT 20, oT 21, oT 22, oT 23] (Mem w0 (.blk b_r [.slice A13 r_0.length c_r_0, vI i16] 136 :: orow A13 r_0.length c_r_0 5 1 y14 :: Fz F W :: cs)) (by kernel_rfl) (by kernel_rfl) (by kernel_rfl) (by kernel_rfl) (by kernel_rfl) (fun _ d _ _ _ h => by cases d <;> exact h) (M' := Mem w0 (.blk b_r [.slice A13 r_0.length c_r_0, vI i16] 136 :: orow A13 r_0.length c_r_0 5 1 y14 :: Fz F W :: cs)) (fun w_ hM => ⟨hM.drew, hM.drew.sub (.cons_cons _ (.cons_cons _ (.cons_cons _ (.refl _))))⟩) ?_
      refine oR [oT 0, oT 1, oT 2, oT 3] [(25, vP b_r 0), (22, vU i17), (7, vI i18), (0, vP b_r 0), (6, vU i17), (18, vI n), (19, vI i18)] [25, 22, 7, 0, 6, 18, 19] (by kernel_rfl) ?_
      refine ops_load (d := some 26) (an := [.v (.slice A13 r_0.length c_r_0)]) (evs := [.load ⟨b_r, 0, none⟩ (.slice A13 r_0.length c_r_0)]) (v := .slice A13 r_0.length c_r_0) ⟨by kernel_rfl⟩ (fun w_ hM => ⟨hM.cell 0 rfl rfl, rfl⟩) ?_
      refine oR [oT 5, oT 6, oT 7] [(29, vP b_r 1), (26, .slice A13 r_0.length c_r_0), (22, vU i17), (7, vI i18), (0, vP b_r 0), (6, vU i17), (18, vI n), (19, vI i18)] [29, 26, 22, 7, 0, 6, 18, 19] (by kernel_rfl) ?_
      refine ops_load (d := some 30) (an := [.v (vI i16)]) (evs := [.load ⟨b_r, 1, none⟩ (vI i16)]) (v := vI i16) ⟨by kernel_rfl⟩ (fun w_ hM => ⟨hM.cell 0 rfl rfl, rfl⟩) ?_
      refine oR [oT 9] [(31, vI (IntKind.i64.wrap (Int.tdiv i16 8))), (26, .slice A13 r_0.length c_r_0), (22, vU i17), (7, vI i18), (0, vP b_r 0), (6, vU i17), (18, vI n), (19, vI i18)] [31, 26, 22, 7, 0, 6, 18, 19] (by kernel_rfl) ?_
      obtain ⟨x20, hv21, hp⟩ := obind hp
      obtain ⟨m22, hm23, hx24⟩ := idx_some hv21
      have hl27 := (List.getElem?_eq_some_iff.1 hx24).1
      refine ops_fact (fun w_ hM => hM.orowSome 1 rfl (Nat.lt_of_le_of_lt (Nat.zero_le _) hl27)) ?_
      rintro ⟨g28, rfl, -⟩
      obtain ⟨vs25, hr26, hq29⟩ := h15.at_ m22 x20 hx24
      obtain rfl := hr26
      refine ops_val (op := (Go.Op.indexAddr 22 (Go.Operand.tmp 26) (Go.Operand.tmp 31))) (d := some 32) (v := vP g28 (m22 * 1)) ⟨by kernel_rfl⟩ (run_indexRow Try.underlying22 (z := 1) (by kernel_rfl) rfl rfl hm23 hl27 rfl) ?_
      refine oR [] [(32, vP g28 (m22 * 1)), (22, vU i17), (7, vI i18), (0, vP b_r 0), (6, vU i17), (18, vI n), (19, vI i18)] [32, 22, 7, 0, 6, 18, 19] (by kernel_rfl) ?_
      refine ops_load (d := some 33) (an := [.v (.int .u8 x20)]) (evs := [.load ⟨g28, m22 * 1, none⟩ (.int .u8 x20)]) (v := .int .u8 x20) ⟨by kernel_rfl⟩ (fun w_ hM => ⟨hM.ocell 1 rfl (hq29 0 _ rfl), rfl⟩) ?_
      refine oR [oT 12, oT 13, oT 14] [(36, vP b_r 1), (33, .int .u8 x20), (22, vU i17), (7, vI i18), (0, vP b_r 0), (6, vU i17), (18, vI n), (19, vI i18)] [36, 33, 22, 7, 0, 6, 18, 19] (by kernel_rfl) ?_
      refine ops_load (d := some 37) (an := [.v (vI i16)]) (evs := [.load ⟨b_r, 1, none⟩ (vI i16)]) (v := vI i16) ⟨by kernel_rfl⟩ (fun w_ hM => ⟨hM.cell 0 rfl rfl, rfl⟩) ?_
      refine oR [oT 16] [(38, vI (Int.tmod i16 8)), (33, .int .u8 x20), (22, vU i17), (7, vI i18), (0, vP b_r 0), (6, vU i17), (18, vI n), (19, vI i18)] [38, 33, 22, 7, 0, 6, 18, 19] (by kernel_rfl) ?_
      obtain ⟨x30, hv31, hp⟩ := obind hp
      obtain ⟨hb32, he33⟩ := shr_some hv31
      refine ops_val (op := (Go.Op.binOp Go.BinOp.shr 5 (Go.Operand.tmp 33) (Go.Operand.tmp 38) 3)) (d := some 39) (v := .int .u8 x30) ⟨by kernel_rfl⟩ (by rw [he33]; exact run_shr rfl rfl hb32) ?_
      refine oR [oT 18, oT 19, oT 20] [(42, vI i18), (41, vU (IntKind.u64.wrap (Go.bits .and .u8 x30 1))), (22, vU i17), (0, vP b_r 0), (6, vU i17), (18, vI n), (19, vI i18)] [42, 41, 22, 0, 6, 18, 19] (by kernel_rfl) ?_
      obtain ⟨x34, hv35, hp⟩ := obind hp
      obtain ⟨hb36, he37⟩ := shl_some hv35
      refine ops_val (op := (Go.Op.binOp Go.BinOp.shl 24 (Go.Operand.tmp 41) (Go.Operand.tmp 42) 3)) (d := some 43) (v := vU x34) ⟨by kernel_rfl⟩ (by rw [he37]; exact run_shl rfl rfl hb36) ?_
      refine oR [oT 22, oT 23] [(6, vU (Go.bits .or .u64 i17 x34)), (0, vP b_r 0), (18, vI n), (19, vI i18)] [6, 0, 18, 19] (by kernel_rfl) ?_
      refine ops_nil ?_
      refine fin_then ?_
      refine st_region [oF 0, oF 1, oF 2, oF 3, oF 4, oF 5, oF 6, oF 7] (by rfl) ?_
      refine oR [oF 0, oF 1, oF 2] [(47, vP b_r 1), (45, vP b_r 0), (6, vU (Go.bits .or .u64 i17 x34)), (0, vP b_r 0), (18, vI n), (19, vI i18)] [47, 45, 6, 0, 18, 19] (by kernel_rfl) ?_
      refine ops_mem (d := some 48) (an := [.v (vI i16)]) (evs := [.load ⟨b_r, 1, none⟩ (vI i16)]) (v := vI i16) (M' := Mem w0 (.blk b_r [.slice (some ⟨g28, 0, none⟩) r_0.length c_r_0, vI i16] 136 :: orow (some ⟨g28, 0, none⟩) r_0.length c_r_0 5 1 y14 :: Fz F W :: cs)) ⟨by kernel_rfl⟩ (fun w_ hM hS => ⟨w_, ⟨hM.cell 0 rfl rfl, rfl⟩, hM, trivial⟩) ?_
      refine oR [oF 4, oF 5, oF 6] [(51, vP b_r 1), (49, vI (IntKind.i64.wrap (i16 + 1))), (6, vU (Go.bits .or .u64 i17 x34)), (0, vP b_r 0), (18, vI n), (19, vI i18)] [51, 49, 6, 0, 18, 19] (by kernel_rfl) ?_
      refine ops_store (an := []) (evs := [.store ⟨b_r, 1, none⟩ (vI (IntKind.i64.wrap (i16 + 1)))]) (M' := Mem w0 (.blk b_r [.slice (some ⟨g28, 0, none⟩) r_0.length c_r_0, vI (IntKind.i64.wrap (i16 + 1))] 136 :: orow (some ⟨g28, 0, none⟩) r_0.length c_r_0 5 1 y14 :: Fz F W :: cs)) ⟨by kernel_rfl⟩ (fun w_ hM hS => let ⟨w', he, h'⟩ := hM.evs_stores [vI (IntKind.i64.wrap (i16 + 1))] 0 rfl 1 (Nat.le_of_ble_eq_true rfl); ⟨w', he, h', trivial⟩) ?_
      refine oR [] [(6, vU (Go.bits .or .u64 i17 x34)), (0, vP b_r 0), (18, vI n), (19, vI i18)] [6, 0, 18, 19] (by kernel_rfl) ?_
      refine ops_nil ?_
      refine fin_block ?_
      refine fin_then ?_
      refine st_region [oF 0, oF 1] (by rfl) ?_
      refine oR [oF 0, oF 1] [(19, vI (IntKind.i64.wrap (i18 + 1))), (6, vU (Go.bits .or .u64 i17 x34)), (0, vP b_r 0), (18, vI n)] [19, 6, 0, 18] (by kernel_rfl) ?_
      refine ops_nil ?_
      exact fin_again (IntKind.i64.wrap (i16 + 1), Go.bits .or .u64 i17 x34, IntKind.i64.wrap (i18 + 1)) ((some ⟨g28, 0, none⟩), y14) (Option.some.inj hp).symm h15 (look_has ⟨rfl, rfl, rfl, rfl, trivial⟩) (fun w_ hM => hM)
     · --
      have hp := cnd_f hc19 hp
      refine st_exit ?_
      refine fin_exit_then ?_
      refine fin_exit_then ?_
      refine fin_exit ?_
      obtain hq_ := Option.some.inj hp
      subst hq_
      obtain hq_ := hd2 _ rfl
      subst hq_
      have hp : bits_Reader_Get_j1 i17 i16 = some (i9001, i9002, i9006) := hk2
      exact fin_join HJ1 (i17, A13, y14, i16) ⟨hp, h15⟩ (look_has ⟨rfl, trivial⟩) (fun w_ hM => hM)
set_option maxHeartbeats 4000000 in
set_option maxRecDepth 100000 in
theorem tourref1_BitsOf_ok (w0 w : World) (cs : List Chunk) (F : Nat → Prop) (W : World) (A_l : Option Addr) (c_l : Nat) (l : List Int) (hM0 : Mem w0 (Fz F W :: cs) w) (h_l : RdS (Rep.int .u8) F W A_l c_l l) (l9004 : List Bool) (hp : tourref1_BitsOf l = some l9004) : Calls Try.prog 17 #[.slice A_l l.length c_l] w fun e w' => ∃ (b9001 : Nat), ∃ (A9002 : Option Addr), ∃ (c9003 : Nat), ∃ (y9005 : List Value), ((RepL Rep.bool F W l9004 y9005)) ∧ e = .returned (vP b9001 0) ∧ Mem w0 (.blk b9001 [.slice A9002 l9004.length c9003, vI 0] 40 :: orow A9002 l9004.length c9003 4 1 y9005 :: Fz F W :: cs) w' := by
 unfold tourref1_BitsOf at hp
 refine sx_calls Try.func17 rfl (n := 33) (by kernel_rfl) (l := [(0, .slice A_l l.length c_l)]) rfl (by rfl) hM0 ?_
 refine st_seq ?_
 refine st_region [oF 0] (by rfl) ?_
 refine oR [oF 0] [(0, .slice A_l l.length c_l)] [0] (by kernel_rfl) ?_
 refine ops_nil ?_
 refine fin_then ?_
 refine st_seq ?_
 refine st_region [oF 0, oF 1, oF 2] (by rfl) ?_
 refine oR [oF 0] [(6, .agg #[.slice none 0 0, vI 0]), (0, .slice A_l l.length c_l)] [6, 0] (by kernel_rfl) ?_
 refine ops_new (d := some 7) (o := .cells #[.slice none 0 0, vI 0] 40) (v := fun b1 => vP b1 0) (M' := fun b1 => Mem w0 (.blk b1 [.slice none 0 0, vI 0] 40 :: Fz F W :: cs)) (fun b1 => ⟨by kernel_rfl⟩) (fun w_ hM hS => ⟨hM.blk [.slice none 0 0, vI 0] 40, trivial⟩) (fun b1 => ?_)
 refine oR [oF 2] [(3, vP b1 0), (0, .slice A_l l.length c_l)] [3, 0] (by kernel_rfl) ?_
 refine ops_nil ?_
 refine fin_then ?_
 refine st_join1 (σ := (Option Addr) × Nat × (List Bool) × (List Value)) (L := fun x_ => match x_ with | (A2, c3, l4, y5) => [(3, vP b1 0)]) (N := fun x_ => match x_ with | (A2, c3, l4, y5) => Mem w0 (.blk b1 [.slice A2 l4.length c3, vI 0] 40 :: orow A2 l4.length c3 4 1 y5 :: Fz F W :: cs)) (I := fun x_ => match x_ with | (A2, c3, l4, y5) => (tourref1_BitsOf_j1 l4 = some l9004) ∧ (RepL Rep.bool F W l4 y5)) ?_ ?_
 · --
  rintro ⟨A2, c3, l4, y5⟩ ⟨hp, h6⟩
  refine st_conv (l' := [(3, vP b1 0)]) (M' := Mem w0 (.blk b1 [.slice A2 l4.length c3, vI 0] 40 :: orow A2 l4.length c3 4 1 y5 :: Fz F W :: cs)) rfl (fun _ h => h) ?_
  unfold tourref1_BitsOf_j1 at hp
  refine st_seq ?_
  refine st_region [oF 0, oF 1] (by rfl) ?_
  refine oR [oF 0, oF 1] [(2, vP b1 0)] [2] (by kernel_rfl) ?_
  refine ops_nil ?_
  refine fin_then ?_
  refine st_ret ?_
  have hq_ := Option.some.inj hp
  have hr0_ := hq_
  subst hr0_
  refine fin_ret [.tmp 2] [vP b1 0] rfl rfl (fun w_ hM => (.tmp rfl .nil)) (fun w_ hM => ?_)
  exact ⟨b1, A2, c3, y5, h6, rfl, hM⟩
 · --
  intro HJ1
  refine st_seq ?_
  refine st_seq ?_
  refine st_region [oF 0, oF 1, oF 2] (by rfl) ?_
  refine oR [oF 0, oF 1, oF 2] [(10, vI 0), (9, vI (l.length : Int)), (8, .slice A_l l.length c_l), (3, vP b1 0)] [10, 9, 8, 3] (by kernel_rfl) ?_
  refine ops_nil ?_
  refine fin_then ?_
  refine st_block ?_
  refine st_conv (l' := [(10, vI 0), (9, vI (l.length : Int)), (8, .slice A_l l.length c_l), (3, vP b1 0)]) (M' := Mem w0 (orow none ([] : List Bool).length 0 4 1 [] :: .blk b1 [.slice none 0 0, vI 0] 40 :: Fz F W :: cs)) rfl (fun w_ h => h.onil none 4 1) ?_
  refine st_conv (l' := [(10, vI 0), (9, vI (l.length : Int)), (8, .slice A_l l.length c_l), (3, vP b1 0)]) (M' := Mem w0 (orow none ([] : List Bool).length 0 4 1 [] :: .blk b1 [.slice none ([] : List Bool).length 0, vI 0] 40 :: Fz F W :: cs)) rfl (fun _ h => h) ?_
  obtain ⟨r2, hl2, hk2⟩ := obind hp
  refine st_loopP (σ := (List Bool) × Int) (ρ := (List Bool)) (γ := (Option Addr) × Nat × (List Value)) hl2 (none, 0, []) (fun s_ g_ => match s_, g_ with | (l13, i16), (A11, c12, y14) => [(3, vP b1 0), (8, .slice A_l l.length c_l), (9, vI (l.length : Int)), (10, vI i16)]) (fun s_ g_ => match s_, g_ with | (l13, i16), (A11, c12, y14) => Mem w0 (.blk b1 [.slice A11 l13.length c12, vI 0] 40 :: orow A11 l13.length c12 4 1 y14 :: Fz F W :: cs)) (fun s_ g_ => match s_, g_ with | (l13, i16), (A11, c12, y14) => (RepL Rep.bool F W l13 y14)) (RepL.nil (R := Rep.bool)) (look_has ⟨rfl, rfl, rfl, rfl, trivial⟩) (fun w_ hM => hM.pick 3 [1, 0, 2] (by kernel_rfl) (by decide) rfl) ?_
  rintro ⟨l13, i16⟩ ⟨A11, c12, y14⟩ o2 h15 hs_ hd2
  have hp : (tourref1_BitsOf_l2 l) l13 i16 = some o2 := hs_
  clear hs_
  unfold tourref1_BitsOf_l2 at hp
  refine st_conv (l' := [(3, vP b1 0), (8, .slice A_l l.length c_l), (9, vI (l.length : Int)), (10, vI i16)]) (M' := Mem w0 (.blk b1 [.slice A11 l13.length c12, vI 0] 40 :: orow A11 l13.length c12 4 1 y14 :: Fz F W :: cs)) rfl (fun _ h => h) ?_
  refine st_seq ?_
  refine st_region [oF 0] (by rfl) ?_
  refine oR [oF 0] [(11, .bool (decide (i16 < (l.length : Int)))), (3, vP b1 0), (8, .slice A_l l.length c_l), (9, vI (l.length : Int)), (10, vI i16)] [11, 3, 8, 9, 10] (by kernel_rfl) ?_
  refine ops_nil ?_
  refine fin_then ?_
  refine st_seq ?_
  refine st_if (b := decide (i16 < (l.length : Int))) rfl (fun hc17 => ?_) (fun hc17 => ?_)
  · --
   have hp := cnd_t hc17 hp
   refine st_skip ?_
   refine fin_then ?_
   refine st_join1 (σ := (Option Addr) × Nat × (List Bool) × (List Value)) (L := fun x_ => match x_ with | (A18, c19, l20, y21) => [(3, vP b1 0), (8, .slice A_l l.length c_l), (9, vI (l.length : Int)), (10, vI i16)]) (N := fun x_ => match x_ with | (A18, c19, l20, y21) => Mem w0 (.blk b1 [.slice A18 l20.length c19, vI 0] 40 :: orow A18 l20.length c19 4 1 y21 :: Fz F W :: cs)) (I := fun x_ => match x_ with | (A18, c19, l20, y21) => ((tourref1_BitsOf_j3 i16) l20 = some o2) ∧ (RepL Rep.bool F W l20 y21)) ?_ ?_
   · --
    rintro ⟨A18, c19, l20, y21⟩ ⟨hp, h22⟩
    refine st_conv (l' := [(3, vP b1 0), (8, .slice A_l l.length c_l), (9, vI (l.length : Int)), (10, vI i16)]) (M' := Mem w0 (.blk b1 [.slice A18 l20.length c19, vI 0] 40 :: orow A18 l20.length c19 4 1 y21 :: Fz F W :: cs)) rfl (fun _ h => h) ?_
    unfold tourref1_BitsOf_j3 at hp
    refine st_region [oF 0, oF 1] (by rfl) ?_
    refine oR [oF 0, oF 1] [(10, vI (IntKind.i64.wrap (i16 + 1))), (3, vP b1 0), (8, .slice A_l l.length c_l), (9, vI (l.length : Int))] [10, 3, 8, 9] (by kernel_rfl) ?_
    refine ops_nil ?_
    exact fin_again (l20, IntKind.i64.wrap (i16 + 1)) (A18, c19, y21) (Option.some.inj hp).symm h22 (look_has ⟨rfl, rfl, rfl, rfl, trivial⟩) (fun w_ hM => hM)
   · --
    intro HJ3
    refine st_seq ?_
    refine st_block ?_
    refine st_seq ?_
    refine st_region [oF 0, oF 1, oF 2] (by rfl) ?_
    refine oR [] [(3, vP b1 0), (8, .slice A_l l.length c_l), (9, vI (l.length : Int)), (10, vI i16)] [3, 8, 9, 10] (by kernel_rfl) ?_
    obtain ⟨x23, hv24, hp⟩ := obind hp
    obtain ⟨m25, hm26, hx27⟩ := idx_some hv24
    have hl30 := (List.getElem?_eq_some_iff.1 hx27).1
    obtain ⟨ad31, vs28, hA32, hr29, hq33⟩ := RdS.el h_l hx27
    obtain rfl := hr29
    refine ops_val (op := (Go.Op.indexAddr 22 (Go.Operand.tmp 8) (Go.Operand.tmp 10))) (d := some 12) (v := .pointer (some (ad31.add (m25 * 1)))) ⟨by kernel_rfl⟩ (run_indexA hA32 Try.underlying22 (z := 1) (by kernel_rfl) rfl rfl hm26 hl30) ?_
    refine ops_mem (d := some 13) (an := [.v (.int .u8 x23)]) (evs := [.load (ad31.add (m25 * 1)) (.int .u8 x23)]) (v := .int .u8 x23) (M' := Mem w0 (.blk b1 [.slice A11 l13.length c12, vI 0] 40 :: orow A11 l13.length c12 4 1 y14 :: Fz F W :: cs)) ⟨by kernel_rfl⟩ (fun w_ hM hS => ⟨w_, ⟨hM.elcell 2 rfl hq33 0 rfl, rfl⟩, hM, trivial⟩) ?_
    refine oR [oF 2] [(5, .int .u8 x23), (3, vP b1 0), (8, .slice A_l l.length c_l), (9, vI (l.length : Int)), (10, vI i16)] [5, 3, 8, 9, 10] (by kernel_rfl) ?_
    refine ops_nil ?_
    refine fin_then ?_
    refine st_seq ?_
    refine st_region [oF 0] (by rfl) ?_
    refine oR [oF 0] [(14, vI 0), (5, .int .u8 x23), (3, vP b1 0), (8, .slice A_l l.length c_l), (9, vI (l.length : Int)), (10, vI i16)] [14, 5, 3, 8, 9, 10] (by kernel_rfl) ?_
    refine ops_nil ?_
    refine fin_then ?_
    refine st_block ?_
    obtain ⟨r4, hl4, hk4⟩ := obind hp
    refine st_loopP (σ := (List Bool) × Int × Int) (ρ := (List Bool)) (γ := (Option Addr) × Nat × (List Value)) hl4 (A11, c12, y14) (fun s_ g_ => match s_, g_ with | (l36, i39, i40), (A34, c35, y37) => [(3, vP b1 0), (5, .int .u8 i39), (8, .slice A_l l.length c_l), (9, vI (l.length : Int)), (10, vI i16), (14, vI i40)]) (fun s_ g_ => match s_, g_ with | (l36, i39, i40), (A34, c35, y37) => Mem w0 (.blk b1 [.slice A34 l36.length c35, vI 0] 40 :: orow A34 l36.length c35 4 1 y37 :: Fz F W :: cs)) (fun s_ g_ => match s_, g_ with | (l36, i39, i40), (A34, c35, y37) => (RepL Rep.bool F W l36 y37)) h15 (look_has ⟨rfl, rfl, rfl, rfl, rfl, rfl, trivial⟩) (fun w_ hM => hM) ?_
    rintro ⟨l36, i39, i40⟩ ⟨A34, c35, y37⟩ o4 h38 hs_ hd4
    have hp : tourref1_BitsOf_l4 l36 i39 i40 = some o4 := hs_
    clear hs_
    unfold tourref1_BitsOf_l4 at hp
    refine st_conv (l' := [(3, vP b1 0), (5, .int .u8 i39), (8, .slice A_l l.length c_l), (9, vI (l.length : Int)), (10, vI i16), (14, vI i40)]) (M' := Mem w0 (.blk b1 [.slice A34 l36.length c35, vI 0] 40 :: orow A34 l36.length c35 4 1 y37 :: Fz F W :: cs)) rfl (fun _ h => h) ?_
    refine st_seq ?_
    refine st_region [oF 0] (by rfl) ?_
    refine oR [oF 0] [(15, .bool (decide (i40 < 8))), (3, vP b1 0), (5, .int .u8 i39), (8, .slice A_l l.length c_l), (9, vI (l.length : Int)), (10, vI i16), (14, vI i40)] [15, 3, 5, 8, 9, 10, 14] (by kernel_rfl) ?_
    refine ops_nil ?_
    refine fin_then ?_
    refine st_seq ?_
    refine st_if (b := decide (i40 < 8)) rfl (fun hc41 => ?_) (fun hc41 => ?_)
    · --
     have hp := cnd_t hc41 hp
     refine st_skip ?_
     refine fin_then ?_
     refine st_seq ?_
     refine st_block ?_
     refine st_seq ?_
     refine st_region [oF 0, oF 1, oF 2, oF 3, oF 4, oF 5, oF 6, oF 7, oF 8, oF 9, oF 10, oF 11, oF 12] (by rfl) ?_
     refine oR [oF 0, oF 1, oF 2, oF 3] [(19, vP b1 0), (16, vP b1 0), (3, vP b1 0), (5, .int .u8 i39), (8, .slice A_l l.length c_l), (9, vI (l.length : Int)), (10, vI i16), (14, vI i40)] [19, 16, 3, 5, 8, 9, 10, 14] (by kernel_rfl) ?_
     refine ops_mem (d := some 20) (an := [.v (.slice A34 l36.length c35)]) (evs := [.load ⟨b1, 0, none⟩ (.slice A34 l36.length c35)]) (v := .slice A34 l36.length c35) (M' := Mem w0 (.blk b1 [.slice A34 l36.length c35, vI 0] 40 :: orow A34 l36.length c35 4 1 y37 :: Fz F W :: cs)) ⟨by kernel_rfl⟩ (fun w_ hM hS => ⟨w_, ⟨hM.cell 0 rfl rfl, rfl⟩, hM, trivial⟩) ?_
     refine oR [oF 5, oF 6, oF 7] [(23, .bool (Int.tmod i39 2 == 1)), (20, .slice A34 l36.length c35), (16, vP b1 0), (3, vP b1 0), (5, .int .u8 i39), (8, .slice A_l l.length c_l), (9, vI (l.length : Int)), (10, vI i16), (14, vI i40)] [23, 20, 16, 3, 5, 8, 9, 10, 14] (by kernel_rfl) ?_
     have h42 : RepL Rep.bool F W ([(Int.tmod i39 2 == 1)] : List Bool) ([.bool (Int.tmod i39 2 == 1)]) := (RepL.cons (R := Rep.bool) (F := F) (w := W) (vs := [.bool (Int.tmod i39 2 == 1)]) (ys := []) rfl RepL.nil)
     refine ops_new (d := some 24) (o := .cells ([.bool (Int.tmod i39 2 == 1)]).toArray 4) (v := fun g43 => .slice (some ⟨g43, 0, none⟩) ([(Int.tmod i39 2 == 1)] : List Bool).length 1) (M' := fun g43 => Mem w0 (orow (some ⟨g43, 0, none⟩) ([(Int.tmod i39 2 == 1)] : List Bool).length 1 4 1 ([.bool (Int.tmod i39 2 == 1)]) :: .blk b1 [.slice A34 l36.length c35, vI 0] 40 :: orow A34 l36.length c35 4 1 y37 :: Fz F W :: cs)) (fun g43 => ⟨by kernel_rfl⟩) (fun w_ hM hS => ⟨hM.onew [.bool (Int.tmod i39 2 == 1)] 4 1 1 rfl (by decide), trivial⟩) (fun g43 => ?_)
     refine oR [] [(24, .slice (some ⟨g43, 0, none⟩) ([(Int.tmod i39 2 == 1)] : List Bool).length 1), (20, .slice A34 l36.length c35), (16, vP b1 0), (3, vP b1 0), (5, .int .u8 i39), (8, .slice A_l l.length c_l), (9, vI (l.length : Int)), (10, vI i16), (14, vI i40)] [24, 20, 16, 3, 5, 8, 9, 10, 14] (by kernel_rfl) ?_
     obtain ⟨l44, hv45, hp⟩ := obind hp
     obtain ⟨he46, hb47⟩ := app_some hv45
     obtain ⟨y48, hy49⟩ : ∃ y_, y37 ++ ([.bool (Int.tmod i39 2 == 1)]) = y_ := ⟨_, rfl⟩
     have h50 : RepL Rep.bool F W l44 y48 := by rw [he46, ← hy49]; exact RepL.app h38 h42
     refine ops_appendO (x := (Go.Operand.tmp 20)) (y := (Go.Operand.tmp 24)) (t := 38) (e := 4) (d := some 25) (n' := l44.length) (z := 1) (m := ([(Int.tmod i39 2 == 1)] : List Bool).length) (bytes := 1) (xs' := y48) (news := ([.bool (Int.tmod i39 2 == 1)])) (zv := .bool false) 2 ⟨by kernel_rfl⟩ rfl rfl Try.underlying38 (by kernel_rfl) (by rfl) rfl (fun w_ hM => hM.srcO 0 rfl) h42.len h42.one hb47 (by have z_ := congrArg List.length he46; rw [List.length_append] at z_; exact z_.symm) hy49 (fun _ _ _ _ hS h' => trivial) ?_
     rintro ⟨A51, c52⟩
     refine ops_conv (l' := [(25, .slice A51 l44.length c52), (24, .slice (some ⟨g43, 0, none⟩) ([(Int.tmod i39 2 == 1)] : List Bool).length 1), (20, .slice A34 l36.length c35), (16, vP b1 0), (3, vP b1 0), (5, .int .u8 i39), (8, .slice A_l l.length c_l), (9, vI (l.length : Int)), (10, vI i16), (14, vI i40)]) (M' := Mem w0 (orow (some ⟨g43, 0, none⟩) ([(Int.tmod i39 2 == 1)] : List Bool).length 1 4 1 ([.bool (Int.tmod i39 2 == 1)]) :: .blk b1 [.slice A34 l36.length c35, vI 0] 40 :: orow A51 l44.length c52 4 1 y48 :: Fz F W :: cs)) rfl (fun _ h => h) ?_
     refine oR [oF 10, oF 11] [(27, vP b1 0), (25, .slice A51 l44.length c52), (3, vP b1 0), (5, .int .u8 i39), (8, .slice A_l l.length c_l), (9, vI (l.length : Int)), (10, vI i16), (14, vI i40)] [27, 25, 3, 5, 8, 9, 10, 14] (by kernel_rfl) ?_
     refine ops_store (an := []) (evs := [.store ⟨b1, 0, none⟩ (.slice A51 l44.length c52)]) (M' := Mem w0 (orow (some ⟨g43, 0, none⟩) ([(Int.tmod i39 2 == 1)] : List Bool).length 1 4 1 ([.bool (Int.tmod i39 2 == 1)]) :: .blk b1 [.slice A51 l44.length c52, vI 0] 40 :: orow A51 l44.length c52 4 1 y48 :: Fz F W :: cs)) ⟨by kernel_rfl⟩ (fun w_ hM hS => let ⟨w', he, h'⟩ := hM.evs_stores [.slice A51 l44.length c52] 1 rfl 0 (Nat.le_of_ble_eq_true rfl); ⟨w', he, h', trivial⟩) ?_
     refine oR [] [(3, vP b1 0), (5, .int .u8 i39), (8, .slice A_l l.length c_l), (9, vI (l.length : Int)), (10, vI i16), (14, vI i40)] [3, 5, 8, 9, 10, 14] (by kernel_rfl) ?_
     refine ops_nil ?_
     refine fin_then ?_
     refine st_region [oF 0, oF 1, oF 2] (by rfl) ?_
     refine oR [oF 0, oF 1, oF 2] [(5, .int .u8 (IntKind.u8.wrap (Int.tdiv i39 2))), (3, vP b1 0), (8, .slice A_l l.length c_l), (9, vI (l.length : Int)), (10, vI i16), (14, vI i40)] [5, 3, 8, 9, 10, 14] (by kernel_rfl) ?_
     refine ops_nil ?_
     refine fin_block ?_
     refine fin_then ?_
     refine st_region [oF 0, oF 1] (by rfl) ?_
     refine oR [oF 0, oF 1] [(14, vI (IntKind.i64.wrap (i40 + 1))), (5, .int .u8 (IntKind.u8.wrap (Int.tdiv i39 2))), (3, vP b1 0), (8, .slice A_l l.length c_l), (9, vI (l.length : Int)), (10, vI i16)] [14, 5, 3, 8, 9, 10] (by kernel_rfl) ?_
     refine ops_nil ?_
     exact fin_again (l44, IntKind.u8.wrap (Int.tdiv i39 2), IntKind.i64.wrap (i40 + 1)) (A51, c52, y48) (Option.some.inj hp).symm h50 (look_has ⟨rfl, rfl, rfl, rfl, rfl, rfl, trivial⟩) (fun w_ hM => hM.pick 4 [1, 2, 3] (by kernel_rfl) (by decide) rfl)
    · --
     have hp := cnd_f hc41 hp
     refine st_exit ?_
     refine fin_exit_then ?_
     refine fin_exit_then ?_
     refine fin_exit ?_
     refine fin_block ?_
     obtain hq_ := Option.some.inj hp
     subst hq_
     obtain hq_ := hd4 _ rfl
     subst hq_
     have hp : (tourref1_BitsOf_j3 i16) l36 = some o2 := hk4
     exact fin_join HJ3 (A34, c35, l36, y37) ⟨hp, h38⟩ (look_has ⟨rfl, rfl, rfl, rfl, trivial⟩) (fun w_ hM => hM)
  · --
   have hp := cnd_f hc17 hp
   refine st_exit ?_
   refine fin_exit_then ?_
   refine fin_exit_then ?_
   refine fin_exit ?_
   obtain hq_ := Option.some.inj hp
   subst hq_
   obtain hq_ := hd2 _ rfl
   subst hq_
   have hp : tourref1_BitsOf_j1 l13 = some l9004 := hk2
   exact fin_join HJ1 (A11, c12, l13, y14) ⟨hp, h15⟩ (look_has ⟨rfl, trivial⟩) (fun w_ hM => hM)
set_option maxHeartbeats 4000000 in
set_option maxRecDepth 100000 in
theorem tourref1_Bits_Read_ok (w0 w : World) (cs : List Chunk) (F : Nat → Prop) (W : World) (b_b : Nat) (A_b_0 : Option Addr) (c_b_0 : Nat) (b_0 : List Bool) (y_b_0 : List Value) (b_1 : Int) (n : Int) (hM0 : Mem w0 (.blk b_b [.slice A_b_0 b_0.length c_b_0, vI b_1] 40 :: orow A_b_0 b_0.length c_b_0 4 1 y_b_0 :: Fz F W :: cs) w) (h_b_0 : RepL Rep.bool F W b_0 y_b_0) (i9001 : Int) (i9002 : Int) (i9006 : Int) (hp : tourref1_Bits_Read b_0 b_1 n = some (i9001, i9002, i9006)) : Calls Try.prog 18 #[vP b_b 0, vI n] w fun e w' => ∃ (A9003 : Option Addr), ∃ (y9004 : List Value), ((RepL Rep.bool F W b_0 y9004)) ∧ e = .returned (.tuple #[vU i9001, vI i9002]) ∧ Mem w0 (.blk b_b [.slice A9003 b_0.length c_b_0, vI i9006] 40 :: orow A9003 b_0.length c_b_0 4 1 y9004 :: Fz F W :: cs) w' := by
 unfold tourref1_Bits_Read at hp
 refine sx_calls Try.func18 rfl (n := 57) (by kernel_rfl) (l := [(0, vP b_b 0), (1, vI n)]) rfl (by rfl) hM0 ?_
 refine st_seq ?_
 refine st_region [oF 0, oF 1] (by rfl) ?_
 refine oR [oF 0, oF 1] [(0, vP b_b 0), (1, vI n)] [0, 1] (by kernel_rfl) ?_
 refine ops_nil ?_
 refine fin_then ?_
 refine st_seq ?_
 refine st_seq ?_
 refine st_region [oF 0, oF 1, oF 2, oF 3, oF 4, oF 5] (by rfl) ?_
 refine oR [oF 0, oF 1, oF 2] [(10, .bool (decide (n < 0))), (0, vP b_b 0), (1, vI n)] [10, 0, 1] (by kernel_rfl) ?_
 refine ops_bool (t := decide (n < 0)) (l1 := [(10, .bool true), (0, vP b_b 0), (1, vI n)]) (l2 := [(10, .bool false), (0, vP b_b 0), (1, vI n)]) (fun h => by rw [h]) (fun h => by rw [h]) (fun hc1 => ?_) (fun hc1 => ?_)
 · --
  have hp := cnd_t hc1 hp
  refine oR [oF 3, oF 4, oF 5] [(13, .bool true), (0, vP b_b 0), (1, vI n)] [13, 0, 1] (by kernel_rfl) ?_
  refine ops_nil ?_
  refine fin_then ?_
  refine st_true rfl ?_
  refine st_seq ?_
  refine st_region [oF 0, oF 1] (by rfl) ?_
  refine oR [oF 0, oF 1] [(5, vI 1), (4, vU 0)] [5, 4] (by kernel_rfl) ?_
  refine ops_nil ?_
  refine fin_then ?_
  refine st_ret ?_
  refine fin_ret_then ?_
  have hq_ := Option.some.inj hp
  obtain ⟨hr0_, hq_⟩ := Prod.mk.inj hq_
  obtain ⟨hr1_, hq_⟩ := Prod.mk.inj hq_
  have hr2_ := hq_
  subst hr0_
  subst hr1_
  subst hr2_
  refine fin_ret [.tmp 4, .tmp 5] [vU 0, vI 1] rfl rfl (fun w_ hM => (.tmp rfl (.tmp rfl .nil))) (fun w_ hM => ?_)
  exact ⟨A_b_0, y_b_0, h_b_0, rfl, hM⟩
 · --
  have hp := cnd_f hc1 hp
  refine oR [oF 3, oF 4, oF 5] [(13, .bool (decide (64 < n))), (0, vP b_b 0), (1, vI n)] [13, 0, 1] (by kernel_rfl) ?_
  refine ops_nil ?_
  refine fin_then ?_
  refine st_if (b := decide (64 < n)) rfl (fun hc2 => ?_) (fun hc2 => ?_)
  · --
   have hp := cnd_t hc2 hp
   refine st_seq ?_
   refine st_region [oF 0, oF 1] (by rfl) ?_
   refine oR [oF 0, oF 1] [(5, vI 1), (4, vU 0)] [5, 4] (by kernel_rfl) ?_
   refine ops_nil ?_
   refine fin_then ?_
   refine st_ret ?_
   refine fin_ret_then ?_
   have hq_ := Option.some.inj hp
   obtain ⟨hr0_, hq_⟩ := Prod.mk.inj hq_
   obtain ⟨hr1_, hq_⟩ := Prod.mk.inj hq_
   have hr2_ := hq_
   subst hr0_
   subst hr1_
   subst hr2_
   refine fin_ret [.tmp 4, .tmp 5] [vU 0, vI 1] rfl rfl (fun w_ hM => (.tmp rfl (.tmp rfl .nil))) (fun w_ hM => ?_)
   exact ⟨A_b_0, y_b_0, h_b_0, rfl, hM⟩
  · --
   have hp := cnd_f hc2 hp
   refine st_skip ?_
   refine fin_then ?_
   refine st_seq ?_
   refine st_seq ?_
   refine st_region_draw [oT 0, oT 1, oT 2, oT 3, oT 4, oT 5, oT 6, oT 7, oT 8, oT 9, oT 10, oT 11] (Mem w0 (.blk b_b [.slice A_b_0 b_0.length c_b_0, vI b_1] 40 :: orow A_b_0 b_0.length c_b_0 4 1 y_b_0 :: Fz F W :: cs)) (by kernel_rfl) (by kernel_rfl) (by kernel_rfl) (fun _ d _ _ _ h => by cases d <;> exact h) (M' := Mem w0 (.blk b_b [.slice A_b_0 b_0.length c_b_0, vI b_1] 40 :: orow A_b_0 b_0.length c_b_0 4 1 y_b_0 :: Fz F W :: cs)) (fun w_ hM => ⟨hM.drew, hM.drew.sub (.cons_cons _ (.cons_cons _ (.cons_cons _ (.refl _))))⟩) ?_
   refine oR [oT 0, oT 1, oT 2] [(16, vP b_b 1), (0, vP b_b 0), (1, vI n)] [16, 0, 1] (by kernel_rfl) ?_
   refine ops_load (d := some 17) (an := [.v (vI b_1)]) (evs := [.load ⟨b_b, 1, none⟩ (vI b_1)]) (v := vI b_1) ⟨by kernel_rfl⟩ (fun w_ hM => ⟨hM.cell 0 rfl rfl, rfl⟩) ?_
   refine oR [oT 4, oT 5, oT 6, oT 7, oT 8] [(22, vP b_b 0), (19, vI (IntKind.i64.wrap (b_1 + n))), (0, vP b_b 0), (1, vI n)] [22, 19, 0, 1] (by kernel_rfl) ?_
   refine ops_load (d := some 23) (an := [.v (.slice A_b_0 b_0.length c_b_0)]) (evs := [.load ⟨b_b, 0, none⟩ (.slice A_b_0 b_0.length c_b_0)]) (v := .slice A_b_0 b_0.length c_b_0) ⟨by kernel_rfl⟩ (fun w_ hM => ⟨hM.cell 0 rfl rfl, rfl⟩) ?_
   refine oR [oT 10, oT 11] [(25, .bool (decide ((b_0.length : Int) < IntKind.i64.wrap (b_1 + n)))), (0, vP b_b 0), (1, vI n)] [25, 0, 1] (by kernel_rfl) ?_
   refine ops_nil ?_
   refine fin_then ?_
   refine st_if (b := decide ((b_0.length : Int) < IntKind.i64.wrap (b_1 + n))) rfl (fun hc3 => ?_) (fun hc3 => ?_)
   · --
    have hp := cnd_t hc3 hp
    refine st_seq ?_
    refine st_region [oF 0, oF 1] (by rfl) ?_
    refine oR [oF 0, oF 1] [(5, vI 14), (4, vU 0)] [5, 4] (by kernel_rfl) ?_
    refine ops_nil ?_
    refine fin_then ?_
    refine st_ret ?_
    refine fin_ret_then ?_
    have hq_ := Option.some.inj hp
    obtain ⟨hr0_, hq_⟩ := Prod.mk.inj hq_
    obtain ⟨hr1_, hq_⟩ := Prod.mk.inj hq_
    have hr2_ := hq_
    subst hr0_
    subst hr1_
    subst hr2_
    refine fin_ret [.tmp 4, .tmp 5] [vU 0, vI 14] rfl rfl (fun w_ hM => (.tmp rfl (.tmp rfl .nil))) (fun w_ hM => ?_)
    exact ⟨A_b_0, y_b_0, h_b_0, rfl, hM⟩
   · --
    have hp := cnd_f hc3 hp
    refine st_skip ?_
    refine fin_then ?_
    refine st_seq ?_
    refine st_region [oF 0] (by rfl) ?_
    refine oR [oF 0] [(6, vU 0), (0, vP b_b 0), (1, vI n)] [6, 0, 1] (by kernel_rfl) ?_
    refine ops_nil ?_
    refine fin_then ?_
    refine st_join1 (σ := (Option Addr) × (List Value) × Int) (L := fun x_ => match x_ with | (A4, y5, i7) => [(0, vP b_b 0), (1, vI n), (6, vU i7)]) (N := fun x_ => match x_ with | (A4, y5, i7) => Mem w0 (.blk b_b [.slice A4 b_0.length c_b_0, vI b_1] 40 :: orow A4 b_0.length c_b_0 4 1 y5 :: Fz F W :: cs)) (I := fun x_ => match x_ with | (A4, y5, i7) => ((tourref1_Bits_Read_j1 b_1 n) i7 = some (i9001, i9002, i9006)) ∧ (RepL Rep.bool F W b_0 y5)) ?_ ?_
    · --
     rintro ⟨A4, y5, i7⟩ ⟨hp, h6⟩
     refine st_conv (l' := [(0, vP b_b 0), (1, vI n), (6, vU i7)]) (M' := Mem w0 (.blk b_b [.slice A4 b_0.length c_b_0, vI b_1] 40 :: orow A4 b_0.length c_b_0 4 1 y5 :: Fz F W :: cs)) rfl (fun _ h => h) ?_
     unfold tourref1_Bits_Read_j1 at hp
     refine st_seq ?_
     refine st_region [oF 0, oF 1, oF 2, oF 3, oF 4, oF 5, oF 6, oF 7, oF 8] (by rfl) ?_
     refine oR [oF 0, oF 1, oF 2] [(50, vP b_b 1), (48, vP b_b 0), (1, vI n), (6, vU i7)] [50, 48, 1, 6] (by kernel_rfl) ?_
     refine ops_mem (d := some 51) (an := [.v (vI b_1)]) (evs := [.load ⟨b_b, 1, none⟩ (vI b_1)]) (v := vI b_1) (M' := Mem w0 (.blk b_b [.slice A4 b_0.length c_b_0, vI b_1] 40 :: orow A4 b_0.length c_b_0 4 1 y5 :: Fz F W :: cs)) ⟨by kernel_rfl⟩ (fun w_ hM hS => ⟨w_, ⟨hM.cell 0 rfl rfl, rfl⟩, hM, trivial⟩) ?_
     refine oR [oF 4, oF 5, oF 6, oF 7] [(55, vP b_b 1), (53, vI (IntKind.i64.wrap (b_1 + n))), (6, vU i7)] [55, 53, 6] (by kernel_rfl) ?_
     refine ops_store (an := []) (evs := [.store ⟨b_b, 1, none⟩ (vI (IntKind.i64.wrap (b_1 + n)))]) (M' := Mem w0 (.blk b_b [.slice A4 b_0.length c_b_0, vI (IntKind.i64.wrap (b_1 + n))] 40 :: orow A4 b_0.length c_b_0 4 1 y5 :: Fz F W :: cs)) ⟨by kernel_rfl⟩ (fun w_ hM hS => let ⟨w', he, h'⟩ := hM.evs_stores [vI (IntKind.i64.wrap (b_1 + n))] 0 rfl 1 (Nat.le_of_ble_eq_true rfl); ⟨w', he, h', trivial⟩) ?_
     refine oR [] [(6, vU i7)] [6] (by kernel_rfl) ?_
     refine ops_nil ?_
     refine fin_then ?_
     refine st_seq ?_
     refine st_region [oF 0, oF 1, oF 2] (by rfl) ?_
     refine oR [oF 0, oF 1, oF 2] [(5, vI 0), (4, vU i7)] [5, 4] (by kernel_rfl) ?_
     refine ops_nil ?_
     refine fin_then ?_
     refine st_ret ?_
     have hq_ := Option.some.inj hp
     obtain ⟨hr0_, hq_⟩ := Prod.mk.inj hq_
     obtain ⟨hr1_, hq_⟩ := Prod.mk.inj hq_
     have hr2_ := hq_
     subst hr0_
     subst hr1_
     subst hr2_
     refine fin_ret [.tmp 4, .tmp 5] [vU i7, vI 0] rfl rfl (fun w_ hM => (.tmp rfl (.tmp rfl .nil))) (fun w_ hM => ?_)
     exact ⟨A4, y5, h6, rfl, hM⟩
    · --
     intro HJ1
     refine st_seq ?_
     refine st_seq ?_
     refine st_region [oF 0, oF 1, oF 2] (by rfl) ?_
     refine oR [oF 0, oF 1, oF 2] [(7, vI (IntKind.i64.wrap (n - 1))), (6, vU 0), (0, vP b_b 0), (1, vI n)] [7, 6, 0, 1] (by kernel_rfl) ?_
     refine ops_nil ?_
     refine fin_then ?_
     refine st_block ?_
     obtain ⟨r2, hl2, hk2⟩ := obind hp
     refine st_loopP (σ := Int × Int) (ρ := Int) (γ := (Option Addr) × (List Value)) hl2 (A_b_0, y_b_0) (fun s_ g_ => match s_, g_ with | (i11, i12), (A8, y9) => [(0, vP b_b 0), (1, vI n), (6, vU i11), (7, vI i12)]) (fun s_ g_ => match s_, g_ with | (i11, i12), (A8, y9) => Mem w0 (.blk b_b [.slice A8 b_0.length c_b_0, vI b_1] 40 :: orow A8 b_0.length c_b_0 4 1 y9 :: Fz F W :: cs)) (fun s_ g_ => match s_, g_ with | (i11, i12), (A8, y9) => (RepL Rep.bool F W b_0 y9)) h_b_0 (look_has ⟨rfl, rfl, rfl, rfl, trivial⟩) (fun w_ hM => hM) ?_
     rintro ⟨i11, i12⟩ ⟨A8, y9⟩ o2 h10 hs_ hd2
     have hp : (tourref1_Bits_Read_l2 b_0 b_1) i11 i12 = some o2 := hs_
     clear hs_
     unfold tourref1_Bits_Read_l2 at hp
     refine st_conv (l' := [(0, vP b_b 0), (1, vI n), (6, vU i11), (7, vI i12)]) (M' := Mem w0 (.blk b_b [.slice A8 b_0.length c_b_0, vI b_1] 40 :: orow A8 b_0.length c_b_0 4 1 y9 :: Fz F W :: cs)) rfl (fun _ h => h) ?_
     refine st_seq ?_
     refine st_seq ?_
     refine st_region [oF 0, oF 1] (by rfl) ?_
     refine oR [oF 0, oF 1] [(29, .bool (decide (0 ≤ i12))), (0, vP b_b 0), (1, vI n), (6, vU i11), (7, vI i12)] [29, 0, 1, 6, 7] (by kernel_rfl) ?_
     refine ops_nil ?_
     refine fin_then ?_
     refine st_if (b := decide (0 ≤ i12)) rfl (fun hc13 => ?_) (fun hc13 => ?_)
     · --
      have hp := cnd_t hc13 hp
      refine st_skip ?_
      refine fin_then ?_
      refine st_join1 (σ := (Option Addr) × (List Value) × Int) (L := fun x_ => match x_ with | (A14, y15, i17) => [(0, vP b_b 0), (1, vI n), (6, vU i17), (7, vI i12)]) (N := fun x_ => match x_ with | (A14, y15, i17) => Mem w0 (.blk b_b [.slice A14 b_0.length c_b_0, vI b_1] 40 :: orow A14 b_0.length c_b_0 4 1 y15 :: Fz F W :: cs)) (I := fun x_ => match x_ with | (A14, y15, i17) => ((tourref1_Bits_Read_j3 i12) i17 = some o2) ∧ (RepL Rep.bool F W b_0 y15)) ?_ ?_
      · --
       rintro ⟨A14, y15, i17⟩ ⟨hp, h16⟩
       refine st_conv (l' := [(0, vP b_b 0), (1, vI n), (6, vU i17), (7, vI i12)]) (M' := Mem w0 (.blk b_b [.slice A14 b_0.length c_b_0, vI b_1] 40 :: orow A14 b_0.length c_b_0 4 1 y15 :: Fz F W :: cs)) rfl (fun _ h => h) ?_
       unfold tourref1_Bits_Read_j3 at hp
       refine st_region [oF 0, oF 1, oF 2] (by rfl) ?_
       refine oR [oF 0, oF 1, oF 2] [(7, vI (IntKind.i64.wrap (i12 - 1))), (0, vP b_b 0), (1, vI n), (6, vU i17)] [7, 0, 1, 6] (by kernel_rfl) ?_
       refine ops_nil ?_
       exact fin_again (i17, IntKind.i64.wrap (i12 - 1)) (A14, y15) (Option.some.inj hp).symm h16 (look_has ⟨rfl, rfl, rfl, rfl, trivial⟩) (fun w_ hM => hM)
      · --
       intro HJ3
       refine st_seq ?_
       refine st_block ?_
       refine st_seq ?_
       refine st_region [oF 0, oF 1, oF 2] (by rfl) ?_
       refine oR [oF 0, oF 1, oF 2] [(6, vU (IntKind.u64.wrap (i11 * 2))), (0, vP b_b 0), (1, vI n), (7, vI i12)] [6, 0, 1, 7] (by kernel_rfl) ?_
       refine ops_nil ?_
       refine fin_then ?_
       refine st_seq ?_
       refine st_region_draw [oT 0, oT 1, oT 2, oT 3, oT 4, oT 5, oT 6, oT 7, oT 8, oT 9, oT 10, oT 11] (Mem w0 (.blk b_b [.slice A8 b_0.length c_b_0, vI b_1] 40 :: orow A8 b_0.length c_b_0 4 1 y9 :: Fz F W :: cs)) (by kernel_rfl) (by kernel_rfl) (by kernel_rfl) (fun _ d _ _ _ h => by cases d <;> exact h) (M' := Mem w0 (.blk b_b [.slice A8 b_0.length c_b_0, vI b_1] 40 :: orow A8 b_0.length c_b_0 4 1 y9 :: Fz F W :: cs)) (fun w_ hM => ⟨hM.drew, hM.drew.sub (.cons_cons _ (.cons_cons _ (.cons_cons _ (.refl _))))⟩) ?_
       refine oR [oT 0, oT 1, oT 2] [(36, vP b_b 0), (6, vU (IntKind.u64.wrap (i11 * 2))), (0, vP b_b 0), (1, vI n), (7, vI i12)] [36, 6, 0, 1, 7] (by kernel_rfl) ?_
       refine ops_load (d := some 37) (an := [.v (.slice A8 b_0.length c_b_0)]) (evs := [.load ⟨b_b, 0, none⟩ (.slice A8 b_0.length c_b_0)]) (v := .slice A8 b_0.length c_b_0) ⟨by kernel_rfl⟩ (fun w_ hM => ⟨hM.cell 0 rfl rfl, rfl⟩) ?_
       refine oR [oT 4, oT 5, oT 6] [(40, vP b_b 1), (37, .slice A8 b_0.length c_b_0), (6, vU (IntKind.u64.wrap (i11 * 2))), (0, vP b_b 0), (1, vI n), (7, vI i12)] [40, 37, 6, 0, 1, 7] (by kernel_rfl) ?_
       refine ops_load (d := some 41) (an := [.v (vI b_1)]) (evs := [.load ⟨b_b, 1, none⟩ (vI b_1)]) (v := vI b_1) ⟨by kernel_rfl⟩ (fun w_ hM => ⟨hM.cell 0 rfl rfl, rfl⟩) ?_
       refine oR [oT 8, oT 9] [(43, vI (IntKind.i64.wrap (b_1 + i12))), (37, .slice A8 b_0.length c_b_0), (6, vU (IntKind.u64.wrap (i11 * 2))), (0, vP b_b 0), (1, vI n), (7, vI i12)] [43, 37, 6, 0, 1, 7] (by kernel_rfl) ?_
       obtain ⟨x18, hv19, hp⟩ := obind hp
       obtain ⟨m20, hm21, hx22⟩ := idx_some hv19
       have hl25 := (List.getElem?_eq_some_iff.1 hx22).1
       refine ops_fact (fun w_ hM => hM.orowSome 1 rfl (Nat.lt_of_le_of_lt (Nat.zero_le _) hl25)) ?_
       rintro ⟨g26, rfl, -⟩
       obtain ⟨vs23, hr24, hq27⟩ := h10.at_ m20 x18 hx22
       obtain rfl := hr24
       refine ops_val (op := (Go.Op.indexAddr 38 (Go.Operand.tmp 37) (Go.Operand.tmp 43))) (d := some 44) (v := vP g26 (m20 * 1)) ⟨by kernel_rfl⟩ (run_indexRow Try.underlying38 (z := 1) (by kernel_rfl) rfl rfl hm21 hl25 rfl) ?_
       refine oR [] [(44, vP g26 (m20 * 1)), (6, vU (IntKind.u64.wrap (i11 * 2))), (0, vP b_b 0), (1, vI n), (7, vI i12)] [44, 6, 0, 1, 7] (by kernel_rfl) ?_
       refine ops_load (d := some 45) (an := [.v (.bool x18)]) (evs := [.load ⟨g26, m20 * 1, none⟩ (.bool x18)]) (v := .bool x18) ⟨by kernel_rfl⟩ (fun w_ hM => ⟨hM.ocell 1 rfl (hq27 0 _ rfl), rfl⟩) ?_
       refine oR [] [(45, .bool x18), (6, vU (IntKind.u64.wrap (i11 * 2))), (0, vP b_b 0), (1, vI n), (7, vI i12)] [45, 6, 0, 1, 7] (by kernel_rfl) ?_
       refine ops_nil ?_
       refine fin_then ?_
       refine st_if (b := x18) rfl (fun hc28 => ?_) (fun hc28 => ?_)
       · --
        have hp := cnd_t hc28 hp
        refine st_region [oF 0, oF 1, oF 2] (by rfl) ?_
        refine oR [oF 0, oF 1, oF 2] [(6, vU (IntKind.u64.wrap (IntKind.u64.wrap (i11 * 2) + 1))), (0, vP b_b 0), (1, vI n), (7, vI i12)] [6, 0, 1, 7] (by kernel_rfl) ?_
        refine ops_nil ?_
        refine fin_block ?_
        exact fin_join HJ3 ((some ⟨g26, 0, none⟩), y9, IntKind.u64.wrap (IntKind.u64.wrap (i11 * 2) + 1)) ⟨hp, h10⟩ (look_has ⟨rfl, rfl, rfl, rfl, trivial⟩) (fun w_ hM => hM)
       · --
        have hp := cnd_f hc28 hp
        refine st_skip ?_
        refine fin_block ?_
        exact fin_join HJ3 ((some ⟨g26, 0, none⟩), y9, IntKind.u64.wrap (i11 * 2)) ⟨hp, h10⟩ (look_has ⟨rfl, rfl, rfl, rfl, trivial⟩) (fun w_ hM => hM)
     · --
      have hp := cnd_f hc13 hp
      refine st_exit ?_
      refine fin_exit_then ?_
      refine fin_exit_then ?_
      refine fin_exit ?_
      obtain hq_ := Option.some.inj hp
      subst hq_
      obtain hq_ := hd2 _ rfl
      subst hq_
      have hp : (tourref1_Bits_Read_j1 b_1 n) i11 = some (i9001, i9002, i9006) := hk2
      exact fin_join HJ1 (A8, y9, i11) ⟨hp, h10⟩ (look_has ⟨rfl, rfl, rfl, trivial⟩) (fun w_ hM => hM)
set_option maxHeartbeats 4000000 in
set_option maxRecDepth 100000 in
theorem bits_Reader_Nat_ok (w0 w : World) (cs : List Chunk) (F : Nat → Prop) (W : World) (b_r : Nat) (A_r_0 : Option Addr) (c_r_0 : Nat) (r_0 : List Int) (y_r_0 : List Value) (r_1 : Int) (hM0 : Mem w0 (.blk b_r [.slice A_r_0 r_0.length c_r_0, vI r_1] 136 :: orow A_r_0 r_0.length c_r_0 5 1 y_r_0 :: Fz F W :: cs) w) (h_r_0 : RepL (Rep.int .u8) F W r_0 y_r_0) (i9001 : Int) (i9002 : Int) (i9006 : Int) (hp : bits_Reader_Nat r_0 r_1 = some (i9001, i9002, i9006)) : Calls Try.prog 19 #[vP b_r 0] w fun e w' => ∃ (A9003 : Option Addr), ∃ (y9004 : List Value), ((RepL (Rep.int .u8) F W r_0 y9004)) ∧ e = .returned (.tuple #[vU i9001, vI i9002]) ∧ Mem w0 (.blk b_r [.slice A9003 r_0.length c_r_0, vI i9006] 136 :: orow A9003 r_0.length c_r_0 5 1 y9004 :: Fz F W :: cs) w' := by
 unfold bits_Reader_Nat at hp
 refine sx_calls Try.func19 rfl (n := 51) (by kernel_rfl) (l := [(0, vP b_r 0)]) rfl (by rfl) hM0 ?_
 refine st_seq ?_
 refine st_region [oF 0, oF 1] (by rfl) ?_
 refine oR [oF 0, oF 1] [(0, vP b_r 0)] [0] (by kernel_rfl) ?_
 refine ops_nil ?_
 refine fin_then ?_
 refine st_seq ?_
 refine st_region [oF 0, oF 1, oF 2, oF 3, oF 4] (by rfl) ?_
 refine oR [oF 0, oF 1, oF 2] [(11, vP b_r 1), (0, vP b_r 0)] [11, 0] (by kernel_rfl) ?_
 refine ops_mem (d := some 12) (an := [.v (vI r_1)]) (evs := [.load ⟨b_r, 1, none⟩ (vI r_1)]) (v := vI r_1) (M' := Mem w0 (.blk b_r [.slice A_r_0 r_0.length c_r_0, vI r_1] 136 :: orow A_r_0 r_0.length c_r_0 5 1 y_r_0 :: Fz F W :: cs)) ⟨by kernel_rfl⟩ (fun w_ hM hS => ⟨w_, ⟨hM.cell 0 rfl rfl, rfl⟩, hM, trivial⟩) ?_
 refine oR [oF 4] [(4, vI r_1), (0, vP b_r 0)] [4, 0] (by kernel_rfl) ?_
 refine ops_nil ?_
 refine fin_then ?_
 refine st_seq ?_
 refine st_region [oF 0] (by rfl) ?_
 refine oR [oF 0] [(5, vU 0), (4, vI r_1), (0, vP b_r 0)] [5, 4, 0] (by kernel_rfl) ?_
 refine ops_nil ?_
 refine fin_then ?_
 refine st_seq ?_
 refine st_region [oF 0] (by rfl) ?_
 refine oR [oF 0] [(6, vI 0), (5, vU 0), (4, vI r_1), (0, vP b_r 0)] [6, 5, 4, 0] (by kernel_rfl) ?_
 refine ops_nil ?_
 refine fin_then ?_
 refine st_block ?_
 obtain ⟨r1, hl1, hk1⟩ := obind hp
 refine st_loopP (σ := Int × Int × Int) (ρ := Int × Int × Int) (γ := (Option Addr) × (List Value)) hl1 (A_r_0, y_r_0) (fun s_ g_ => match s_, g_ with | (i4, i5, i6), (A1, y2) => [(0, vP b_r 0), (4, vI r_1), (5, vU i5), (6, vI i6)]) (fun s_ g_ => match s_, g_ with | (i4, i5, i6), (A1, y2) => Mem w0 (.blk b_r [.slice A1 r_0.length c_r_0, vI i4] 136 :: orow A1 r_0.length c_r_0 5 1 y2 :: Fz F W :: cs)) (fun s_ g_ => match s_, g_ with | (i4, i5, i6), (A1, y2) => (RepL (Rep.int .u8) F W r_0 y2)) h_r_0 (look_has ⟨rfl, rfl, rfl, rfl, trivial⟩) (fun w_ hM => hM) ?_
 rintro ⟨i4, i5, i6⟩ ⟨A1, y2⟩ o1 h3 hs_ hd1
 have hp : (bits_Reader_Nat_l1 r_0 r_1) i4 i5 i6 = some o1 := hs_
 clear hs_
 unfold bits_Reader_Nat_l1 at hp
 refine st_conv (l' := [(0, vP b_r 0), (4, vI r_1), (5, vU i5), (6, vI i6)]) (M' := Mem w0 (.blk b_r [.slice A1 r_0.length c_r_0, vI i4] 136 :: orow A1 r_0.length c_r_0 5 1 y2 :: Fz F W :: cs)) rfl (fun _ h => h) ?_
 refine st_seq ?_
 refine st_block ?_
 refine st_seq ?_
 refine st_region [oF 0, oF 1, oF 2, oF 3, oF 4, oF 5, oF 6] (by rfl) ?_
 refine oR [oF 0] [(16, vP b_r 0), (0, vP b_r 0), (4, vI r_1), (5, vU i5), (6, vI i6)] [16, 0, 4, 5, 6] (by kernel_rfl) ?_
 obtain ⟨x7, x8, x9, hv10, hp⟩ := obind3 hp
 refine ops_callI (σ := (Option Addr) × (List Value)) (d := some 17) (f := 16) (args := #[vP b_r 0, vI 5]) (v := (fun x_ => match x_ with | (A11, y12) => .tuple #[vU x7, vI x8])) (I := (fun x_ => match x_ with | (A11, y12) => (RepL (Rep.int .u8) F W r_0 y12))) (M' := (fun x_ => match x_ with | (A11, y12) => Mem w0 (orow A11 r_0.length c_r_0 5 1 y12 :: .blk b_r [.slice A11 r_0.length c_r_0, vI x9] 136 :: Fz F W :: cs))) ⟨by kernel_rfl⟩ (fun w_ hM hS => (bits_Reader_Get_ok w0 w_ (cs) F W b_r A1 c_r_0 r_0 y2 i4 5 hM h3 x7 x8 x9 hv10).mono (by rintro e w' ⟨A11, y12, h13, rfl, h'⟩; have h' : Mem w0 (orow A11 r_0.length c_r_0 5 1 y12 :: .blk b_r [.slice A11 r_0.length c_r_0, vI x9] 136 :: Fz F W :: cs) w' := (h'.pick 3 [1, 0, 2] (by kernel_rfl) (by decide) rfl); exact ⟨(A11, y12), h13, rfl, h', trivial⟩)) ?_
 rintro ⟨A11, y12⟩ h13
 refine ops_conv (l' := [(17, .tuple #[vU x7, vI x8]), (16, vP b_r 0), (0, vP b_r 0), (4, vI r_1), (5, vU i5), (6, vI i6)]) (M' := Mem w0 (orow A11 r_0.length c_r_0 5 1 y12 :: .blk b_r [.slice A11 r_0.length c_r_0, vI x9] 136 :: Fz F W :: cs)) rfl (fun _ h => h) ?_
 refine oR [oF 2, oF 3, oF 4, oF 5, oF 6] [(8, vI x8), (7, vU x7), (0, vP b_r 0), (4, vI r_1), (5, vU i5), (6, vI i6)] [8, 7, 0, 4, 5, 6] (by kernel_rfl) ?_
 refine ops_nil ?_
 refine fin_then ?_
 refine st_join1 (σ := Int) (L := fun x_ => match x_ with | i14 => [(0, vP b_r 0), (4, vI r_1), (5, vU i5), (6, vI i6), (7, vU x7), (8, vI i14)]) (N := fun x_ => match x_ with | i14 => Mem w0 (.blk b_r [.slice A11 r_0.length c_r_0, vI x9] 136 :: orow A11 r_0.length c_r_0 5 1 y12 :: Fz F W :: cs)) (I := fun x_ => match x_ with | i14 => ((bits_Reader_Nat_j2 r_1 x7 i6 i5 x9) i14 = some o1)) ?_ ?_
 · --
  rintro i14 hp
  refine st_conv (l' := [(0, vP b_r 0), (4, vI r_1), (5, vU i5), (6, vI i6), (7, vU x7), (8, vI i14)]) (M' := Mem w0 (.blk b_r [.slice A11 r_0.length c_r_0, vI x9] 136 :: orow A11 r_0.length c_r_0 5 1 y12 :: Fz F W :: cs)) rfl (fun _ h => h) ?_
  unfold bits_Reader_Nat_j2 at hp
  refine st_seq ?_
  refine st_seq ?_
  refine st_region [oF 0, oF 1] (by rfl) ?_
  refine oR [oF 0, oF 1] [(35, .bool (!(i14 == 0))), (0, vP b_r 0), (4, vI r_1), (5, vU i5), (6, vI i6), (7, vU x7), (8, vI i14)] [35, 0, 4, 5, 6, 7, 8] (by kernel_rfl) ?_
  refine ops_nil ?_
  refine fin_then ?_
  refine st_if (b := !(i14 == 0)) rfl (fun hc15 => ?_) (fun hc15 => ?_)
  · --
   have hp := cnd_t hc15 hp
   refine st_seq ?_
   refine st_region [oF 0, oF 1, oF 2, oF 3, oF 4] (by rfl) ?_
   refine oR [oF 0, oF 1, oF 2, oF 3] [(39, vP b_r 1), (37, vI r_1), (8, vI i14)] [39, 37, 8] (by kernel_rfl) ?_
   refine ops_store (an := []) (evs := [.store ⟨b_r, 1, none⟩ (vI r_1)]) (M' := Mem w0 (.blk b_r [.slice A11 r_0.length c_r_0, vI r_1] 136 :: orow A11 r_0.length c_r_0 5 1 y12 :: Fz F W :: cs)) ⟨by kernel_rfl⟩ (fun w_ hM hS => let ⟨w', he, h'⟩ := hM.evs_stores [vI r_1] 0 rfl 1 (Nat.le_of_ble_eq_true rfl); ⟨w', he, h', trivial⟩) ?_
   refine oR [] [(8, vI i14)] [8] (by kernel_rfl) ?_
   refine ops_nil ?_
   refine fin_then ?_
   refine st_seq ?_
   refine st_region [oF 0, oF 1, oF 2] (by rfl) ?_
   refine oR [oF 0, oF 1, oF 2] [(3, vI i14), (2, vU 0)] [3, 2] (by kernel_rfl) ?_
   refine ops_nil ?_
   refine fin_then ?_
   refine st_ret ?_
   refine fin_ret_then ?_
   refine fin_ret_block ?_
   refine fin_ret_then ?_
   refine fin_ret_then ?_
   refine fin_ret_block ?_
   obtain hq_ := Option.some.inj hp
   subst hq_
   obtain hq_ := hd1 _ rfl
   subst hq_
   have hp : some (0, i14, r_1) = some (i9001, i9002, i9006) := hk1
   have hq_ := Option.some.inj hp
   obtain ⟨hr0_, hq_⟩ := Prod.mk.inj hq_
   obtain ⟨hr1_, hq_⟩ := Prod.mk.inj hq_
   have hr2_ := hq_
   subst hr0_
   subst hr1_
   subst hr2_
   refine fin_ret [.tmp 2, .tmp 3] [vU 0, vI i14] rfl rfl (fun w_ hM => (.tmp rfl (.tmp rfl .nil))) (fun w_ hM => ?_)
   exact ⟨A11, y12, h13, rfl, hM⟩
  · --
   have hp := cnd_f hc15 hp
   refine st_skip ?_
   refine fin_then ?_
   refine st_seq ?_
   refine st_region [oF 0, oF 1, oF 2, oF 3, oF 4, oF 5, oF 6, oF 7] (by rfl) ?_
   refine oR [oF 0, oF 1, oF 2, oF 3, oF 4] [(45, vI (IntKind.i64.wrap (4 * i6))), (43, vU (Go.bits .and .u64 x7 15)), (41, vU i5), (0, vP b_r 0), (4, vI r_1), (5, vU i5), (6, vI i6), (7, vU x7)] [45, 43, 41, 0, 4, 5, 6, 7] (by kernel_rfl) ?_
   obtain ⟨x16, hv17, hp⟩ := obind hp
   obtain ⟨hb18, he19⟩ := shl_some hv17
   refine ops_val (op := (Go.Op.binOp Go.BinOp.shl 24 (Go.Operand.tmp 43) (Go.Operand.tmp 45) 3)) (d := some 46) (v := vU x16) ⟨by kernel_rfl⟩ (by rw [he19]; exact run_shl rfl rfl hb18) ?_
   refine oR [oF 6, oF 7] [(5, vU (Go.bits .or .u64 i5 x16)), (0, vP b_r 0), (4, vI r_1), (6, vI i6), (7, vU x7)] [5, 0, 4, 6, 7] (by kernel_rfl) ?_
   refine ops_nil ?_
   refine fin_then ?_
   refine st_seq ?_
   refine st_region [oF 0, oF 1] (by rfl) ?_
   refine oR [oF 0, oF 1] [(49, .bool (decide (x7 < 16))), (5, vU (Go.bits .or .u64 i5 x16)), (0, vP b_r 0), (4, vI r_1), (6, vI i6)] [49, 5, 0, 4, 6] (by kernel_rfl) ?_
   refine ops_nil ?_
   refine fin_then ?_
   refine st_if (b := decide (x7 < 16)) rfl (fun hc20 => ?_) (fun hc20 => ?_)
   · --
    have hp := cnd_t hc20 hp
    refine st_seq ?_
    refine st_region [oF 0, oF 1, oF 2] (by rfl) ?_
    refine oR [oF 0, oF 1, oF 2] [(3, vI 0), (2, vU (Go.bits .or .u64 i5 x16))] [3, 2] (by kernel_rfl) ?_
    refine ops_nil ?_
    refine fin_then ?_
    refine st_ret ?_
    refine fin_ret_block ?_
    refine fin_ret_then ?_
    refine fin_ret_then ?_
    refine fin_ret_block ?_
    obtain hq_ := Option.some.inj hp
    subst hq_
    obtain hq_ := hd1 _ rfl
    subst hq_
    have hp : some (Go.bits .or .u64 i5 x16, 0, x9) = some (i9001, i9002, i9006) := hk1
    have hq_ := Option.some.inj hp
    obtain ⟨hr0_, hq_⟩ := Prod.mk.inj hq_
    obtain ⟨hr1_, hq_⟩ := Prod.mk.inj hq_
    have hr2_ := hq_
    subst hr0_
    subst hr1_
    subst hr2_
    refine fin_ret [.tmp 2, .tmp 3] [vU (Go.bits .or .u64 i5 x16), vI 0] rfl rfl (fun w_ hM => (.tmp rfl (.tmp rfl .nil))) (fun w_ hM => ?_)
    exact ⟨A11, y12, h13, rfl, hM⟩
   · --
    have hp := cnd_f hc20 hp
    refine st_skip ?_
    refine fin_block ?_
    refine fin_then ?_
    refine st_region [oF 0, oF 1, oF 2] (by rfl) ?_
    refine oR [oF 0, oF 1, oF 2] [(6, vI (IntKind.i64.wrap (i6 + 1))), (5, vU (Go.bits .or .u64 i5 x16)), (0, vP b_r 0), (4, vI r_1)] [6, 5, 0, 4] (by kernel_rfl) ?_
    refine ops_nil ?_
    exact fin_again (x9, Go.bits .or .u64 i5 x16, IntKind.i64.wrap (i6 + 1)) (A11, y12) (Option.some.inj hp).symm h13 (look_has ⟨rfl, rfl, rfl, rfl, trivial⟩) (fun w_ hM => hM)
 · --
  intro HJ2
  refine st_seq ?_
  refine st_seq ?_
  refine st_region [oF 0, oF 1, oF 2, oF 3, oF 4, oF 5, oF 6, oF 7, oF 8, oF 9, oF 10, oF 11, oF 12, oF 13] (by rfl) ?_
  refine oR [oF 0, oF 1, oF 2] [(22, .bool (x8 == 0)), (8, vI x8), (7, vU x7), (0, vP b_r 0), (4, vI r_1), (5, vU i5), (6, vI i6)] [22, 8, 7, 0, 4, 5, 6] (by kernel_rfl) ?_
  refine ops_bool (t := (x8 == 0)) (l1 := [(22, .bool true), (8, vI x8), (7, vU x7), (0, vP b_r 0), (4, vI r_1), (5, vU i5), (6, vI i6)]) (l2 := [(22, .bool false), (8, vI x8), (7, vU x7), (0, vP b_r 0), (4, vI r_1), (5, vU i5), (6, vI i6)]) (fun h => by rw [h]) (fun h => by rw [h]) (fun hc21 => ?_) (fun hc21 => ?_)
  · --
   have hp := cnd_t hc21 hp
   refine oR [oF 3, oF 4, oF 5] [(25, .bool (i6 == 16)), (22, .bool true), (8, vI x8), (7, vU x7), (0, vP b_r 0), (4, vI r_1), (5, vU i5), (6, vI i6)] [25, 22, 8, 7, 0, 4, 5, 6] (by kernel_rfl) ?_
   refine ops_bool (t := (i6 == 16)) (l1 := [(25, .bool true), (22, .bool true), (8, vI x8), (7, vU x7), (0, vP b_r 0), (4, vI r_1), (5, vU i5), (6, vI i6)]) (l2 := [(25, .bool false), (22, .bool true), (8, vI x8), (7, vU x7), (0, vP b_r 0), (4, vI r_1), (5, vU i5), (6, vI i6)]) (fun h => by rw [h]) (fun h => by rw [h]) (fun hc22 => ?_) (fun hc22 => ?_)
   · --
    have hp := cnd_t hc22 hp
    refine oR [oF 6, oF 7, oF 8, oF 9, oF 10, oF 11, oF 12, oF 13] [(33, .bool true), (8, vI x8), (7, vU x7), (0, vP b_r 0), (4, vI r_1), (5, vU i5), (6, vI i6)] [33, 8, 7, 0, 4, 5, 6] (by kernel_rfl) ?_
    refine ops_nil ?_
    refine fin_then ?_
    refine st_true rfl ?_
    refine st_region [oF 0] (by rfl) ?_
    refine oR [oF 0] [(8, vI 3), (7, vU x7), (0, vP b_r 0), (4, vI r_1), (5, vU i5), (6, vI i6)] [8, 7, 0, 4, 5, 6] (by kernel_rfl) ?_
    refine ops_nil ?_
    exact fin_join HJ2 3 hp (look_has ⟨rfl, rfl, rfl, rfl, rfl, rfl, trivial⟩) (fun w_ hM => hM.pick 3 [1, 0, 2] (by kernel_rfl) (by decide) rfl)
   · --
    have hp := cnd_f hc22 hp
    refine oR [oF 6, oF 7, oF 8] [(28, .bool (x7 == 0)), (25, .bool false), (22, .bool true), (8, vI x8), (7, vU x7), (0, vP b_r 0), (4, vI r_1), (5, vU i5), (6, vI i6)] [28, 25, 22, 8, 7, 0, 4, 5, 6] (by kernel_rfl) ?_
    refine ops_bool (t := (x7 == 0)) (l1 := [(28, .bool true), (25, .bool false), (22, .bool true), (8, vI x8), (7, vU x7), (0, vP b_r 0), (4, vI r_1), (5, vU i5), (6, vI i6)]) (l2 := [(28, .bool false), (25, .bool false), (22, .bool true), (8, vI x8), (7, vU x7), (0, vP b_r 0), (4, vI r_1), (5, vU i5), (6, vI i6)]) (fun h => by rw [h]) (fun h => by rw [h]) (fun hc23 => ?_) (fun hc23 => ?_)
    · --
     have hp := cnd_t hc23 hp
     refine oR [oF 9, oF 10, oF 11, oF 12, oF 13] [(33, .bool (decide (0 < i6))), (8, vI x8), (7, vU x7), (0, vP b_r 0), (4, vI r_1), (5, vU i5), (6, vI i6)] [33, 8, 7, 0, 4, 5, 6] (by kernel_rfl) ?_
     refine ops_nil ?_
     refine fin_then ?_
     refine st_if (b := decide (0 < i6)) rfl (fun hc24 => ?_) (fun hc24 => ?_)
     · --
      have hp := cnd_t hc24 hp
      refine st_region [oF 0] (by rfl) ?_
      refine oR [oF 0] [(8, vI 3), (7, vU x7), (0, vP b_r 0), (4, vI r_1), (5, vU i5), (6, vI i6)] [8, 7, 0, 4, 5, 6] (by kernel_rfl) ?_
      refine ops_nil ?_
      exact fin_join HJ2 3 hp (look_has ⟨rfl, rfl, rfl, rfl, rfl, rfl, trivial⟩) (fun w_ hM => hM.pick 3 [1, 0, 2] (by kernel_rfl) (by decide) rfl)
     · --
      have hp := cnd_f hc24 hp
      refine st_skip ?_
      exact fin_join HJ2 x8 hp (look_has ⟨rfl, rfl, rfl, rfl, rfl, rfl, trivial⟩) (fun w_ hM => hM.pick 3 [1, 0, 2] (by kernel_rfl) (by decide) rfl)
    · --
     have hp := cnd_f hc23 hp
     refine oR [oF 9, oF 10, oF 11, oF 12, oF 13] [(33, .bool false), (8, vI x8), (7, vU x7), (0, vP b_r 0), (4, vI r_1), (5, vU i5), (6, vI i6)] [33, 8, 7, 0, 4, 5, 6] (by kernel_rfl) ?_
     refine ops_nil ?_
     refine fin_then ?_
     refine st_false rfl ?_
     refine st_skip ?_
     exact fin_join HJ2 x8 hp (look_has ⟨rfl, rfl, rfl, rfl, rfl, rfl, trivial⟩) (fun w_ hM => hM.pick 3 [1, 0, 2] (by kernel_rfl) (by decide) rfl)
  · --
   have hp := cnd_f hc21 hp
   refine oR [oF 3, oF 4, oF 5, oF 6, oF 7, oF 8, oF 9, oF 10, oF 11, oF 12, oF 13] [(33, .bool false), (8, vI x8), (7, vU x7), (0, vP b_r 0), (4, vI r_1), (5, vU i5), (6, vI i6)] [33, 8, 7, 0, 4, 5, 6] (by kernel_rfl) ?_
   refine ops_nil ?_
   refine fin_then ?_
   refine st_false rfl ?_
   refine st_skip ?_
   exact fin_join HJ2 x8 hp (look_has ⟨rfl, rfl, rfl, rfl, rfl, rfl, trivial⟩) (fun w_ hM => hM.pick 3 [1, 0, 2] (by kernel_rfl) (by decide) rfl)
end Go.Proofs.Ytfihfbkjomploaa.X
