/- The Go functions come to what the plain functions tell. No condition. -/
import Derived.Test.YtfihfbkjomploaaProg
import Derived.Test.YtfihfbkjomploaaFnX
import Derived.Test.YtfihfbkjomploaaWkX7
import Derived.Test.YtfihfbkjomploaaWkX8
import Derived.Test.YtfihfbkjomploaaWkX9
namespace Go.Proofs.Ytfihfbkjomploaa.X
open Go Go.RowKit Go.Proofs.Ytfihfbkjomploaa.Sx
set_option linter.unusedVariables false
set_option maxHeartbeats 4000000 in
set_option maxRecDepth 100000 in
theorem tourref1_Verified_okK : ∀ (k_ : Nat) (w0 w : World) (cs : List Chunk) (F : Nat → Prop) (W : World) (n : Int) (i : Int) (leaf : Int) (A_proof : Option Addr) (c_proof : Nat) (proof : List Int) (hM0 : Mem w0 (Fz F W :: cs) w) (h_proof : RdS (Rep.int .u64) F W A_proof c_proof proof) (i8001 : Int) (t8002 : Bool) (hp : fixK tourref1_Verified_s k_ (n, i, leaf, proof) = some (i8001, t8002)), Calls Try.prog 46 #[vI n, vI i, vU leaf, .slice A_proof proof.length c_proof] w fun e w' => (True) ∧ e = .returned (.tuple #[vU i8001, .bool t8002]) ∧ Mem w0 (Fz F W :: cs) w' := by
 intro k_
 induction k_ with
 | zero => intro w0 w cs F W n i leaf A_proof c_proof proof hM0 h_proof i8001 t8002 hp; exact nomatch (show (none : Option (Int × Bool)) = some (i8001, t8002) from hp)
 | succ k_ ih_ =>
  intro w0 w cs F W n i leaf A_proof c_proof proof hM0 h_proof i8001 t8002 hp
  obtain ⟨self_, hself_⟩ : ∃ f_ : Int → Int → Int → (List Int) → Option (Int × Bool), f_ = fun n i leaf proof => fixK tourref1_Verified_s k_ (n, i, leaf, proof) := ⟨_, rfl⟩
  have hp : tourref1_Verified_b self_ n i leaf proof = some (i8001, t8002) := by rw [hself_]; exact hp
  unfold tourref1_Verified_b at hp
  refine sx_calls Try.func46 rfl (n := 70) (by kernel_rfl) (l := [(0, vI n), (1, vI i), (2, vU leaf), (3, .slice A_proof proof.length c_proof)]) rfl (by rfl) hM0 ?_
  refine st_seq ?_
  refine st_region [oF 0, oF 1] (by rfl) ?_
  refine oR [oF 0, oF 1] [(0, vI n), (1, vI i), (2, vU leaf), (3, .slice A_proof proof.length c_proof)] [0, 1, 2, 3] (by kernel_rfl) ?_
  refine ops_nil ?_
  refine fin_then ?_
  refine st_seq ?_
  refine st_seq ?_
  refine st_region [oF 0, oF 1] (by rfl) ?_
  refine oR [oF 0, oF 1] [(18, .bool (n == 1)), (0, vI n), (1, vI i), (2, vU leaf), (3, .slice A_proof proof.length c_proof)] [18, 0, 1, 2, 3] (by kernel_rfl) ?_
  refine ops_nil ?_
  refine fin_then ?_
  refine st_if (b := (n == 1)) rfl (fun hc1 => ?_) (fun hc1 => ?_)
  · --
   have hp := cnd_t hc1 hp
   refine st_seq ?_
   refine st_region [oF 0, oF 1, oF 2, oF 3, oF 4, oF 5] (by rfl) ?_
   refine oR [oF 0, oF 1, oF 2, oF 3, oF 4, oF 5] [(9, .bool ((proof.length : Int) == 0)), (8, vU leaf)] [9, 8] (by kernel_rfl) ?_
   refine ops_nil ?_
   refine fin_then ?_
   refine st_ret ?_
   refine fin_ret_then ?_
   have hq_ := Option.some.inj hp
   obtain ⟨hr0_, hq_⟩ := Prod.mk.inj hq_
   have hr1_ := hq_
   subst hr0_
   subst hr1_
   refine fin_ret [.tmp 8, .tmp 9] [vU leaf, .bool ((proof.length : Int) == 0)] rfl rfl (fun w_ hM => (.tmp rfl (.tmp rfl .nil))) (fun w_ hM => ?_)
   exact ⟨trivial, rfl, hM⟩
  · --
   have hp := cnd_f hc1 hp
   refine st_skip ?_
   refine fin_then ?_
   refine st_seq ?_
   refine st_seq ?_
   refine st_region [oF 0, oF 1, oF 2] (by rfl) ?_
   refine oR [oF 0, oF 1, oF 2] [(25, .bool ((proof.length : Int) == 0)), (0, vI n), (1, vI i), (2, vU leaf), (3, .slice A_proof proof.length c_proof)] [25, 0, 1, 2, 3] (by kernel_rfl) ?_
   refine ops_nil ?_
   refine fin_then ?_
   refine st_if (b := ((proof.length : Int) == 0)) rfl (fun hc2 => ?_) (fun hc2 => ?_)
   · --
    have hp := cnd_t hc2 hp
    refine st_seq ?_
    refine st_region [oF 0, oF 1] (by rfl) ?_
    refine oR [oF 0, oF 1] [(9, .bool false), (8, vU 0)] [9, 8] (by kernel_rfl) ?_
    refine ops_nil ?_
    refine fin_then ?_
    refine st_ret ?_
    refine fin_ret_then ?_
    have hq_ := Option.some.inj hp
    obtain ⟨hr0_, hq_⟩ := Prod.mk.inj hq_
    have hr1_ := hq_
    subst hr0_
    subst hr1_
    refine fin_ret [.tmp 8, .tmp 9] [vU 0, .bool false] rfl rfl (fun w_ hM => (.tmp rfl (.tmp rfl .nil))) (fun w_ hM => ?_)
    exact ⟨trivial, rfl, hM⟩
   · --
    have hp := cnd_f hc2 hp
    refine st_skip ?_
    refine fin_then ?_
    refine st_seq ?_
    refine st_region [oF 0, oF 1, oF 2] (by rfl) ?_
    refine oR [oF 0] [(26, vI n), (0, vI n), (1, vI i), (2, vU leaf), (3, .slice A_proof proof.length c_proof)] [26, 0, 1, 2, 3] (by kernel_rfl) ?_
    obtain ⟨x3, hv4, hp⟩ := obind hp
    refine ops_callI (σ := Unit) (d := some 27) (f := 109) (args := #[vI n]) (v := (fun _ => vI x3)) (I := (fun _ => True)) (M' := (fun _ => Mem w0 (Fz F W :: cs))) ⟨by kernel_rfl⟩ (fun w_ hM hS => (tourref1_half_ok w0 w_ (cs) F W n hM  x3 hv4).mono (by rintro e w' ⟨-, rfl, h'⟩; have h' : Mem w0 (Fz F W :: cs) w' := h'; exact ⟨(), trivial, rfl, h', trivial⟩)) ?_
    rintro _ -
    refine ops_conv (l' := [(27, vI x3), (26, vI n), (0, vI n), (1, vI i), (2, vU leaf), (3, .slice A_proof proof.length c_proof)]) (M' := Mem w0 (Fz F W :: cs)) rfl (fun _ h => h) ?_
    refine oR [oF 2] [(10, vI x3), (0, vI n), (1, vI i), (2, vU leaf), (3, .slice A_proof proof.length c_proof)] [10, 0, 1, 2, 3] (by kernel_rfl) ?_
    refine ops_nil ?_
    refine fin_then ?_
    refine st_seq ?_
    refine st_region [oF 0, oF 1, oF 2, oF 3, oF 4, oF 5, oF 6] (by rfl) ?_
    refine oR [oF 0, oF 1, oF 2, oF 3] [(31, vI (IntKind.i64.wrap ((proof.length : Int) - 1))), (28, .slice A_proof proof.length c_proof), (10, vI x3), (0, vI n), (1, vI i), (2, vU leaf), (3, .slice A_proof proof.length c_proof)] [31, 28, 10, 0, 1, 2, 3] (by kernel_rfl) ?_
    obtain ⟨x5, hv6, hp⟩ := obind hp
    obtain ⟨m7, hm8, hx9⟩ := idx_some hv6
    have hl12 := (List.getElem?_eq_some_iff.1 hx9).1
    obtain ⟨ad13, vs10, hA14, hr11, hq15⟩ := RdS.el h_proof hx9
    obtain rfl := hr11
    refine ops_val (op := (Go.Op.indexAddr 63 (Go.Operand.tmp 28) (Go.Operand.tmp 31))) (d := some 32) (v := .pointer (some (ad13.add (m7 * 1)))) ⟨by kernel_rfl⟩ (run_indexA hA14 Try.underlying63 (z := 1) (by kernel_rfl) rfl rfl hm8 hl12) ?_
    refine oR [] [(32, .pointer (some (ad13.add (m7 * 1)))), (10, vI x3), (0, vI n), (1, vI i), (2, vU leaf), (3, .slice A_proof proof.length c_proof)] [32, 10, 0, 1, 2, 3] (by kernel_rfl) ?_
    refine ops_mem (d := some 33) (an := [.v (vU x5)]) (evs := [.load (ad13.add (m7 * 1)) (vU x5)]) (v := vU x5) (M' := Mem w0 (Fz F W :: cs)) ⟨by kernel_rfl⟩ (fun w_ hM hS => ⟨w_, ⟨hM.elcell 0 rfl hq15 0 rfl, rfl⟩, hM, trivial⟩) ?_
    refine oR [oF 6] [(11, vU x5), (10, vI x3), (0, vI n), (1, vI i), (2, vU leaf), (3, .slice A_proof proof.length c_proof)] [11, 10, 0, 1, 2, 3] (by kernel_rfl) ?_
    refine ops_nil ?_
    refine fin_then ?_
    refine st_seq ?_
    refine st_region [oF 0, oF 1, oF 2, oF 3, oF 4, oF 5] (by rfl) ?_
    refine oR [oF 0, oF 1, oF 2, oF 3] [(37, vI (IntKind.i64.wrap ((proof.length : Int) - 1))), (34, .slice A_proof proof.length c_proof), (11, vU x5), (10, vI x3), (0, vI n), (1, vI i), (2, vU leaf)] [37, 34, 11, 10, 0, 1, 2] (by kernel_rfl) ?_
    obtain ⟨l16, hv17, hp⟩ := obind hp
    obtain ⟨m18, n19, hm20, hn21, h22, h23, he24⟩ := cut_some hv17
    have hl25 := cut_len he24 h22 h23
    have h26 : RdS (Rep.int .u64) F W A_proof c_proof l16 := by have h_ := h_proof.cut h22 h23; rw [← he24] at h_; rw [show m18 = 0 by omega, cutA_zero, Nat.sub_zero] at h_; exact h_
    refine ops_val (op := (Go.Op.slice 63 (Go.Operand.tmp 34) none (some (Go.Operand.tmp 37)) none)) (d := some 38) (v := .slice A_proof l16.length c_proof) ⟨by kernel_rfl⟩ (run_cutH0 (by kernel_rfl) (z := 1) (by kernel_rfl) rfl rfl hn21 (Nat.le_trans h23 h_proof.cap) (by omega)) ?_
    refine oR [oF 5] [(12, .slice A_proof l16.length c_proof), (11, vU x5), (10, vI x3), (0, vI n), (1, vI i), (2, vU leaf)] [12, 11, 10, 0, 1, 2] (by kernel_rfl) ?_
    refine ops_nil ?_
    refine fin_then ?_
    refine st_seq ?_
    refine st_seq ?_
    refine st_region [oF 0, oF 1, oF 2] (by rfl) ?_
    refine oR [oF 0, oF 1, oF 2] [(41, .bool (decide (i < x3))), (12, .slice A_proof l16.length c_proof), (11, vU x5), (10, vI x3), (0, vI n), (1, vI i), (2, vU leaf)] [41, 12, 11, 10, 0, 1, 2] (by kernel_rfl) ?_
    refine ops_nil ?_
    refine fin_then ?_
    refine st_if (b := decide (i < x3)) rfl (fun hc27 => ?_) (fun hc27 => ?_)
    · --
     have hp := cnd_t hc27 hp
     refine st_seq ?_
     refine st_region [oF 0, oF 1, oF 2, oF 3, oF 4, oF 5, oF 6, oF 7, oF 8, oF 9] (by rfl) ?_
     refine oR [oF 0, oF 1, oF 2, oF 3] [(46, .slice A_proof l16.length c_proof), (45, vU leaf), (44, vI i), (43, vI x3), (11, vU x5)] [46, 45, 44, 43, 11] (by kernel_rfl) ?_
     obtain ⟨x28, x29, hv30, hp⟩ := obind2 hp
     rw [hself_] at hv30
     refine ops_callI (σ := Unit) (d := some 47) (f := 46) (args := #[vI x3, vI i, vU leaf, .slice A_proof l16.length c_proof]) (v := (fun _ => .tuple #[vU x28, .bool x29])) (I := (fun _ => True)) (M' := (fun _ => Mem w0 (Fz F W :: cs))) ⟨by kernel_rfl⟩ (fun w_ hM hS => (ih_ w0 w_ (cs) F W x3 i leaf A_proof c_proof l16 hM h26 x28 x29 hv30).mono (by rintro e w' ⟨-, rfl, h'⟩; have h' : Mem w0 (Fz F W :: cs) w' := h'; exact ⟨(), trivial, rfl, h', trivial⟩)) ?_
     rintro _ -
     refine ops_conv (l' := [(47, .tuple #[vU x28, .bool x29]), (46, .slice A_proof l16.length c_proof), (45, vU leaf), (44, vI i), (43, vI x3), (11, vU x5)]) (M' := Mem w0 (Fz F W :: cs)) rfl (fun _ h => h) ?_
     refine oR [oF 5, oF 6, oF 7, oF 8, oF 9] [(14, .bool x29), (13, vU x28), (11, vU x5)] [14, 13, 11] (by kernel_rfl) ?_
     refine ops_nil ?_
     refine fin_then ?_
     refine st_seq ?_
     refine st_region [oF 0, oF 1, oF 2, oF 3, oF 4, oF 5] (by rfl) ?_
     refine oR [oF 0, oF 1] [(51, vU x5), (50, vU x28), (14, .bool x29)] [51, 50, 14] (by kernel_rfl) ?_
     obtain ⟨x31, hv32, hp⟩ := obind hp
     refine ops_callI (σ := Unit) (d := some 52) (f := 111) (args := #[vU x28, vU x5]) (v := (fun _ => vU x31)) (I := (fun _ => True)) (M' := (fun _ => Mem w0 (Fz F W :: cs))) ⟨by kernel_rfl⟩ (fun w_ hM hS => (tourref1_Tied_ok w0 w_ (cs) F W x28 x5 hM  x31 hv32).mono (by rintro e w' ⟨-, rfl, h'⟩; have h' : Mem w0 (Fz F W :: cs) w' := h'; exact ⟨(), trivial, rfl, h', trivial⟩)) ?_
     rintro _ -
     refine ops_conv (l' := [(52, vU x31), (51, vU x5), (50, vU x28), (14, .bool x29)]) (M' := Mem w0 (Fz F W :: cs)) rfl (fun _ h => h) ?_
     refine oR [oF 3, oF 4, oF 5] [(9, .bool x29), (8, vU x31)] [9, 8] (by kernel_rfl) ?_
     refine ops_nil ?_
     refine fin_then ?_
     refine st_ret ?_
     refine fin_ret_then ?_
     have hq_ := Option.some.inj hp
     obtain ⟨hr0_, hq_⟩ := Prod.mk.inj hq_
     have hr1_ := hq_
     subst hr0_
     subst hr1_
     refine fin_ret [.tmp 8, .tmp 9] [vU x31, .bool x29] rfl rfl (fun w_ hM => (.tmp rfl (.tmp rfl .nil))) (fun w_ hM => ?_)
     exact ⟨trivial, rfl, hM⟩
    · --
     have hp := cnd_f hc27 hp
     refine st_skip ?_
     refine fin_then ?_
     refine st_seq ?_
     refine st_region [oF 0, oF 1, oF 2, oF 3, oF 4, oF 5, oF 6, oF 7, oF 8, oF 9, oF 10, oF 11, oF 12, oF 13] (by rfl) ?_
     refine oR [oF 0, oF 1, oF 2, oF 3, oF 4, oF 5, oF 6, oF 7] [(62, .slice A_proof l16.length c_proof), (61, vU leaf), (60, vI (IntKind.i64.wrap (i - x3))), (57, vI (IntKind.i64.wrap (n - x3))), (11, vU x5)] [62, 61, 60, 57, 11] (by kernel_rfl) ?_
     obtain ⟨x33, x34, hv35, hp⟩ := obind2 hp
     rw [hself_] at hv35
     refine ops_callI (σ := Unit) (d := some 63) (f := 46) (args := #[vI (IntKind.i64.wrap (n - x3)), vI (IntKind.i64.wrap (i - x3)), vU leaf, .slice A_proof l16.length c_proof]) (v := (fun _ => .tuple #[vU x33, .bool x34])) (I := (fun _ => True)) (M' := (fun _ => Mem w0 (Fz F W :: cs))) ⟨by kernel_rfl⟩ (fun w_ hM hS => (ih_ w0 w_ (cs) F W (IntKind.i64.wrap (n - x3)) (IntKind.i64.wrap (i - x3)) leaf A_proof c_proof l16 hM h26 x33 x34 hv35).mono (by rintro e w' ⟨-, rfl, h'⟩; have h' : Mem w0 (Fz F W :: cs) w' := h'; exact ⟨(), trivial, rfl, h', trivial⟩)) ?_
     rintro _ -
     refine ops_conv (l' := [(63, .tuple #[vU x33, .bool x34]), (62, .slice A_proof l16.length c_proof), (61, vU leaf), (60, vI (IntKind.i64.wrap (i - x3))), (57, vI (IntKind.i64.wrap (n - x3))), (11, vU x5)]) (M' := Mem w0 (Fz F W :: cs)) rfl (fun _ h => h) ?_
     refine oR [oF 9, oF 10, oF 11, oF 12, oF 13] [(16, .bool x34), (15, vU x33), (11, vU x5)] [16, 15, 11] (by kernel_rfl) ?_
     refine ops_nil ?_
     refine fin_then ?_
     refine st_seq ?_
     refine st_region [oF 0, oF 1, oF 2, oF 3, oF 4, oF 5] (by rfl) ?_
     refine oR [oF 0, oF 1] [(67, vU x33), (66, vU x5), (16, .bool x34)] [67, 66, 16] (by kernel_rfl) ?_
     obtain ⟨x36, hv37, hp⟩ := obind hp
     refine ops_callI (σ := Unit) (d := some 68) (f := 111) (args := #[vU x5, vU x33]) (v := (fun _ => vU x36)) (I := (fun _ => True)) (M' := (fun _ => Mem w0 (Fz F W :: cs))) ⟨by kernel_rfl⟩ (fun w_ hM hS => (tourref1_Tied_ok w0 w_ (cs) F W x5 x33 hM  x36 hv37).mono (by rintro e w' ⟨-, rfl, h'⟩; have h' : Mem w0 (Fz F W :: cs) w' := h'; exact ⟨(), trivial, rfl, h', trivial⟩)) ?_
     rintro _ -
     refine ops_conv (l' := [(68, vU x36), (67, vU x33), (66, vU x5), (16, .bool x34)]) (M' := Mem w0 (Fz F W :: cs)) rfl (fun _ h => h) ?_
     refine oR [oF 3, oF 4, oF 5] [(9, .bool x34), (8, vU x36)] [9, 8] (by kernel_rfl) ?_
     refine ops_nil ?_
     refine fin_then ?_
     refine st_ret ?_
     have hq_ := Option.some.inj hp
     obtain ⟨hr0_, hq_⟩ := Prod.mk.inj hq_
     have hr1_ := hq_
     subst hr0_
     subst hr1_
     refine fin_ret [.tmp 8, .tmp 9] [vU x36, .bool x34] rfl rfl (fun w_ hM => (.tmp rfl (.tmp rfl .nil))) (fun w_ hM => ?_)
     exact ⟨trivial, rfl, hM⟩
theorem tourref1_Verified_ok (w0 w : World) (cs : List Chunk) (F : Nat → Prop) (W : World) (n : Int) (i : Int) (leaf : Int) (A_proof : Option Addr) (c_proof : Nat) (proof : List Int) (hM0 : Mem w0 (Fz F W :: cs) w) (h_proof : RdS (Rep.int .u64) F W A_proof c_proof proof) (i8001 : Int) (t8002 : Bool) (hp : tourref1_Verified n i leaf proof = some (i8001, t8002)) : Calls Try.prog 46 #[vI n, vI i, vU leaf, .slice A_proof proof.length c_proof] w fun e w' => (True) ∧ e = .returned (.tuple #[vU i8001, .bool t8002]) ∧ Mem w0 (Fz F W :: cs) w' := by
 obtain ⟨k_, hk_⟩ := fix_some hp
 exact tourref1_Verified_okK k_ w0 w cs F W n i leaf A_proof c_proof proof hM0 h_proof i8001 t8002 hk_
set_option maxHeartbeats 4000000 in
set_option maxRecDepth 100000 in
theorem tourlaw1_MerkleVerifies_ok (w0 w : World) (cs : List Chunk) (F : Nat → Prop) (W : World) (root : Int) (n : Int) (i : Int) (leaf : Int) (A_proof : Option Addr) (c_proof : Nat) (proof : List Int) (hM0 : Mem w0 (Fz F W :: cs) w) (h_proof : RdS (Rep.int .u64) F W A_proof c_proof proof) (t9001 : Bool) (hp : tourlaw1_MerkleVerifies root n i leaf proof = some t9001) : Calls Try.prog 7 #[vU root, vI n, vI i, vU leaf, .slice A_proof proof.length c_proof] w fun e w' => ∃ (F9002 : Nat → Prop), ∃ (W9003 : World), ((Ext w0 F W F9002 W9003)) ∧ e = .returned (.bool t9001) ∧ Mem w0 (Fz F9002 W9003 :: cs) w' := by
 unfold tourlaw1_MerkleVerifies at hp
 refine sx_calls Try.func7 rfl (n := 65) (by kernel_rfl) (l := [(0, vU root), (1, vI n), (2, vI i), (3, vU leaf), (4, .slice A_proof proof.length c_proof)]) rfl (by rfl) hM0 ?_
 refine st_seq ?_
 refine st_region [oF 0] (by rfl) ?_
 refine oR [oF 0] [(0, vU root), (1, vI n), (2, vI i), (3, vU leaf), (4, .slice A_proof proof.length c_proof)] [0, 1, 2, 3, 4] (by kernel_rfl) ?_
 refine ops_nil ?_
 refine fin_then ?_
 refine st_seq ?_
 refine st_seq ?_
 refine st_region [oF 0, oF 1] (by rfl) ?_
 obtain ⟨x1, hv2, hp⟩ := obind hp
 refine ops_callI (σ := (Nat → Prop) × World) (d := some 14) (f := 42) (args := #[]) (v := (fun x_ => match x_ with | (F3, W4) => .bool x1)) (I := (fun x_ => match x_ with | (F3, W4) => (Ext w0 F W F3 W4))) (M' := (fun x_ => match x_ with | (F3, W4) => Mem w0 (Fz F3 W4 :: cs))) ⟨by kernel_rfl⟩ (fun w_ hM hS => (tourlaw1_merkleBegun_ok w0 w_ (cs) F W  hM  x1 hv2).mono (by rintro e w' ⟨F3, W4, h5, rfl, h'⟩; have h' : Mem w0 (Fz F3 W4 :: cs) w' := h'; exact ⟨(F3, W4), h5, rfl, h', trivial⟩)) ?_
 rintro ⟨F3, W4⟩ h5
 have h_proof := h_proof.ext h5
 refine ops_conv (l' := [(14, .bool x1), (0, vU root), (1, vI n), (2, vI i), (3, vU leaf), (4, .slice A_proof proof.length c_proof)]) (M' := Mem w0 (Fz F3 W4 :: cs)) rfl (fun _ h => h) ?_
 refine oR [oF 1] [(15, .bool (!x1)), (0, vU root), (1, vI n), (2, vI i), (3, vU leaf), (4, .slice A_proof proof.length c_proof)] [15, 0, 1, 2, 3, 4] (by kernel_rfl) ?_
 refine ops_nil ?_
 refine fin_then ?_
 refine st_if (b := !x1) rfl (fun hc6 => ?_) (fun hc6 => ?_)
 · --
  have hp := cnd_t hc6 hp
  refine st_seq ?_
  refine st_region [oF 0] (by rfl) ?_
  refine oR [oF 0] [(10, .bool false)] [10] (by kernel_rfl) ?_
  refine ops_nil ?_
  refine fin_then ?_
  refine st_ret ?_
  refine fin_ret_then ?_
  have hq_ := Option.some.inj hp
  have hr0_ := hq_
  subst hr0_
  refine fin_ret [.tmp 10] [.bool false] rfl rfl (fun w_ hM => (.tmp rfl .nil)) (fun w_ hM => ?_)
  exact ⟨F3, W4, h5, rfl, hM⟩
 · --
  have hp := cnd_f hc6 hp
  refine st_skip ?_
  refine fin_then ?_
  refine st_seq ?_
  refine st_region [oF 0, oF 1, oF 2, oF 3, oF 4, oF 5, oF 6] (by rfl) ?_
  refine oR [oF 0, oF 1, oF 2, oF 3, oF 4] [(20, .slice A_proof proof.length c_proof), (19, vU leaf), (18, vI i), (17, vI n), (16, vU root), (0, vU root), (1, vI n), (2, vI i), (3, vU leaf), (4, .slice A_proof proof.length c_proof)] [20, 19, 18, 17, 16, 0, 1, 2, 3, 4] (by kernel_rfl) ?_
  obtain ⟨x7, hv8, hp⟩ := obind hp
  refine ops_callI (σ := Unit) (d := some 21) (f := 45) (args := #[vU root, vI n, vI i, vU leaf, .slice A_proof proof.length c_proof]) (v := (fun _ => .bool x7)) (I := (fun _ => True)) (M' := (fun _ => Mem w0 (Fz F3 W4 :: cs))) ⟨by kernel_rfl⟩ (fun w_ hM hS => (merkle_Verify_ok w0 w_ (cs) F3 W4 root n i leaf A_proof c_proof proof hM h_proof x7 hv8).mono (by rintro e w' ⟨-, rfl, h'⟩; have h' : Mem w0 (Fz F3 W4 :: cs) w' := h'; exact ⟨(), trivial, rfl, h', trivial⟩)) ?_
  rintro _ -
  refine ops_conv (l' := [(21, .bool x7), (20, .slice A_proof proof.length c_proof), (19, vU leaf), (18, vI i), (17, vI n), (16, vU root), (0, vU root), (1, vI n), (2, vI i), (3, vU leaf), (4, .slice A_proof proof.length c_proof)]) (M' := Mem w0 (Fz F3 W4 :: cs)) rfl (fun _ h => h) ?_
  refine oR [oF 6] [(11, .bool x7), (0, vU root), (1, vI n), (2, vI i), (3, vU leaf), (4, .slice A_proof proof.length c_proof)] [11, 0, 1, 2, 3, 4] (by kernel_rfl) ?_
  refine ops_nil ?_
  refine fin_then ?_
  refine st_seq ?_
  refine st_seq ?_
  refine st_region [oF 0, oF 1, oF 2, oF 3, oF 4, oF 5, oF 6, oF 7, oF 8, oF 9, oF 10, oF 11, oF 12, oF 13, oF 14] (by rfl) ?_
  refine oR [oF 0, oF 1, oF 2] [(24, .bool (decide (n < 1))), (11, .bool x7), (0, vU root), (1, vI n), (2, vI i), (3, vU leaf), (4, .slice A_proof proof.length c_proof)] [24, 11, 0, 1, 2, 3, 4] (by kernel_rfl) ?_
  refine ops_bool (t := decide (n < 1)) (l1 := [(24, .bool true), (11, .bool x7), (0, vU root), (1, vI n), (2, vI i), (3, vU leaf), (4, .slice A_proof proof.length c_proof)]) (l2 := [(24, .bool false), (11, .bool x7), (0, vU root), (1, vI n), (2, vI i), (3, vU leaf), (4, .slice A_proof proof.length c_proof)]) (fun h => by rw [h]) (fun h => by rw [h]) (fun hc9 => ?_) (fun hc9 => ?_)
  · --
   have hp := cnd_t hc9 hp
   refine oR [oF 3, oF 4, oF 5, oF 6, oF 7, oF 8, oF 9, oF 10, oF 11, oF 12, oF 13, oF 14] [(36, .bool true), (11, .bool x7), (0, vU root), (1, vI n), (2, vI i), (3, vU leaf), (4, .slice A_proof proof.length c_proof)] [36, 11, 0, 1, 2, 3, 4] (by kernel_rfl) ?_
   refine ops_nil ?_
   refine fin_then ?_
   refine st_true rfl ?_
   refine st_seq ?_
   refine st_region [oF 0, oF 1, oF 2] (by rfl) ?_
   refine oR [oF 0, oF 1, oF 2] [(10, .bool (!x7))] [10] (by kernel_rfl) ?_
   refine ops_nil ?_
   refine fin_then ?_
   refine st_ret ?_
   refine fin_ret_then ?_
   have hq_ := Option.some.inj hp
   have hr0_ := hq_
   subst hr0_
   refine fin_ret [.tmp 10] [.bool (!x7)] rfl rfl (fun w_ hM => (.tmp rfl .nil)) (fun w_ hM => ?_)
   exact ⟨F3, W4, h5, rfl, hM⟩
  · --
   have hp := cnd_f hc9 hp
   refine oR [oF 3, oF 4, oF 5, oF 6] [(28, .bool (decide (4096 < n))), (11, .bool x7), (0, vU root), (1, vI n), (2, vI i), (3, vU leaf), (4, .slice A_proof proof.length c_proof)] [28, 11, 0, 1, 2, 3, 4] (by kernel_rfl) ?_
   refine ops_bool (t := decide (4096 < n)) (l1 := [(28, .bool true), (11, .bool x7), (0, vU root), (1, vI n), (2, vI i), (3, vU leaf), (4, .slice A_proof proof.length c_proof)]) (l2 := [(28, .bool false), (11, .bool x7), (0, vU root), (1, vI n), (2, vI i), (3, vU leaf), (4, .slice A_proof proof.length c_proof)]) (fun h => by rw [h]) (fun h => by rw [h]) (fun hc10 => ?_) (fun hc10 => ?_)
   · --
    have hp := cnd_t hc10 hp
    refine oR [oF 7, oF 8, oF 9, oF 10, oF 11, oF 12, oF 13, oF 14] [(36, .bool true), (11, .bool x7), (0, vU root), (1, vI n), (2, vI i), (3, vU leaf), (4, .slice A_proof proof.length c_proof)] [36, 11, 0, 1, 2, 3, 4] (by kernel_rfl) ?_
    refine ops_nil ?_
    refine fin_then ?_
    refine st_true rfl ?_
    refine st_seq ?_
    refine st_region [oF 0, oF 1, oF 2] (by rfl) ?_
    refine oR [oF 0, oF 1, oF 2] [(10, .bool (!x7))] [10] (by kernel_rfl) ?_
    refine ops_nil ?_
    refine fin_then ?_
    refine st_ret ?_
    refine fin_ret_then ?_
    have hq_ := Option.some.inj hp
    have hr0_ := hq_
    subst hr0_
    refine fin_ret [.tmp 10] [.bool (!x7)] rfl rfl (fun w_ hM => (.tmp rfl .nil)) (fun w_ hM => ?_)
    exact ⟨F3, W4, h5, rfl, hM⟩
   · --
    have hp := cnd_f hc10 hp
    refine oR [oF 7, oF 8, oF 9, oF 10] [(32, .bool (decide (i < 0))), (11, .bool x7), (0, vU root), (1, vI n), (2, vI i), (3, vU leaf), (4, .slice A_proof proof.length c_proof)] [32, 11, 0, 1, 2, 3, 4] (by kernel_rfl) ?_
    refine ops_bool (t := decide (i < 0)) (l1 := [(32, .bool true), (11, .bool x7), (0, vU root), (1, vI n), (2, vI i), (3, vU leaf), (4, .slice A_proof proof.length c_proof)]) (l2 := [(32, .bool false), (11, .bool x7), (0, vU root), (1, vI n), (2, vI i), (3, vU leaf), (4, .slice A_proof proof.length c_proof)]) (fun h => by rw [h]) (fun h => by rw [h]) (fun hc11 => ?_) (fun hc11 => ?_)
    · --
     have hp := cnd_t hc11 hp
     refine oR [oF 11, oF 12, oF 13, oF 14] [(36, .bool true), (11, .bool x7), (0, vU root), (1, vI n), (2, vI i), (3, vU leaf), (4, .slice A_proof proof.length c_proof)] [36, 11, 0, 1, 2, 3, 4] (by kernel_rfl) ?_
     refine ops_nil ?_
     refine fin_then ?_
     refine st_true rfl ?_
     refine st_seq ?_
     refine st_region [oF 0, oF 1, oF 2] (by rfl) ?_
     refine oR [oF 0, oF 1, oF 2] [(10, .bool (!x7))] [10] (by kernel_rfl) ?_
     refine ops_nil ?_
     refine fin_then ?_
     refine st_ret ?_
     refine fin_ret_then ?_
     have hq_ := Option.some.inj hp
     have hr0_ := hq_
     subst hr0_
     refine fin_ret [.tmp 10] [.bool (!x7)] rfl rfl (fun w_ hM => (.tmp rfl .nil)) (fun w_ hM => ?_)
     exact ⟨F3, W4, h5, rfl, hM⟩
    · --
     have hp := cnd_f hc11 hp
     refine oR [oF 11, oF 12, oF 13, oF 14] [(36, .bool (decide (n ≤ i))), (11, .bool x7), (0, vU root), (1, vI n), (2, vI i), (3, vU leaf), (4, .slice A_proof proof.length c_proof)] [36, 11, 0, 1, 2, 3, 4] (by kernel_rfl) ?_
     refine ops_nil ?_
     refine fin_then ?_
     refine st_if (b := decide (n ≤ i)) rfl (fun hc12 => ?_) (fun hc12 => ?_)
     · --
      have hp := cnd_t hc12 hp
      refine st_seq ?_
      refine st_region [oF 0, oF 1, oF 2] (by rfl) ?_
      refine oR [oF 0, oF 1, oF 2] [(10, .bool (!x7))] [10] (by kernel_rfl) ?_
      refine ops_nil ?_
      refine fin_then ?_
      refine st_ret ?_
      refine fin_ret_then ?_
      have hq_ := Option.some.inj hp
      have hr0_ := hq_
      subst hr0_
      refine fin_ret [.tmp 10] [.bool (!x7)] rfl rfl (fun w_ hM => (.tmp rfl .nil)) (fun w_ hM => ?_)
      exact ⟨F3, W4, h5, rfl, hM⟩
     · --
      have hp := cnd_f hc12 hp
      refine st_skip ?_
      refine fin_then ?_
      refine st_seq ?_
      refine st_region [oF 0, oF 1, oF 2, oF 3, oF 4, oF 5, oF 6, oF 7, oF 8, oF 9] (by rfl) ?_
      refine oR [oF 0, oF 1, oF 2, oF 3] [(43, .slice A_proof proof.length c_proof), (42, vU leaf), (41, vI i), (40, vI n), (11, .bool x7), (0, vU root), (1, vI n), (2, vI i), (3, vU leaf), (4, .slice A_proof proof.length c_proof)] [43, 42, 41, 40, 11, 0, 1, 2, 3, 4] (by kernel_rfl) ?_
      obtain ⟨x13, x14, hv15, hp⟩ := obind2 hp
      refine ops_callI (σ := Unit) (d := some 44) (f := 46) (args := #[vI n, vI i, vU leaf, .slice A_proof proof.length c_proof]) (v := (fun _ => .tuple #[vU x13, .bool x14])) (I := (fun _ => True)) (M' := (fun _ => Mem w0 (Fz F3 W4 :: cs))) ⟨by kernel_rfl⟩ (fun w_ hM hS => (tourref1_Verified_ok w0 w_ (cs) F3 W4 n i leaf A_proof c_proof proof hM h_proof x13 x14 hv15).mono (by rintro e w' ⟨-, rfl, h'⟩; have h' : Mem w0 (Fz F3 W4 :: cs) w' := h'; exact ⟨(), trivial, rfl, h', trivial⟩)) ?_
      rintro _ -
      refine ops_conv (l' := [(44, .tuple #[vU x13, .bool x14]), (43, .slice A_proof proof.length c_proof), (42, vU leaf), (41, vI i), (40, vI n), (11, .bool x7), (0, vU root), (1, vI n), (2, vI i), (3, vU leaf), (4, .slice A_proof proof.length c_proof)]) (M' := Mem w0 (Fz F3 W4 :: cs)) rfl (fun _ h => h) ?_
      refine oR [oF 5, oF 6, oF 7, oF 8, oF 9] [(13, .bool x14), (12, vU x13), (11, .bool x7), (0, vU root), (1, vI n), (2, vI i), (3, vU leaf), (4, .slice A_proof proof.length c_proof)] [13, 12, 11, 0, 1, 2, 3, 4] (by kernel_rfl) ?_
      refine ops_nil ?_
      refine fin_then ?_
      refine st_join1 (σ := Bool) (L := fun x_ => match x_ with | t16 => [(10, .bool t16)]) (N := fun x_ => match x_ with | t16 => Mem w0 (Fz F3 W4 :: cs)) (I := fun x_ => match x_ with | t16 => (tourlaw1_MerkleVerifies_j1 t16 = some t9001)) ?_ ?_
      · --
       rintro t16 hp
       refine st_conv (l' := [(10, .bool t16)]) (M' := Mem w0 (Fz F3 W4 :: cs)) rfl (fun _ h => h) ?_
       unfold tourlaw1_MerkleVerifies_j1 at hp
       refine st_ret ?_
       have hq_ := Option.some.inj hp
       have hr0_ := hq_
       subst hr0_
       refine fin_ret [.tmp 10] [.bool t16] rfl rfl (fun w_ hM => (.tmp rfl .nil)) (fun w_ hM => ?_)
       exact ⟨F3, W4, h5, rfl, hM⟩
      · --
       intro HJ1
       refine st_seq ?_
       refine st_region [oF 0, oF 1, oF 2, oF 3, oF 4, oF 5, oF 6, oF 7, oF 8, oF 9, oF 10, oF 11, oF 12, oF 13, oF 14, oF 15, oF 16, oF 17, oF 18] (by rfl) ?_
       refine oR [oF 0, oF 1, oF 2] [(49, .bool x14), (47, .bool x7), (13, .bool x14), (12, vU x13), (0, vU root), (1, vI n), (2, vI i), (3, vU leaf), (4, .slice A_proof proof.length c_proof)] [49, 47, 13, 12, 0, 1, 2, 3, 4] (by kernel_rfl) ?_
       refine ops_bool (t := x14) (l1 := [(49, .bool true), (47, .bool x7), (13, .bool true), (12, vU x13), (0, vU root), (1, vI n), (2, vI i), (3, vU leaf), (4, .slice A_proof proof.length c_proof)]) (l2 := [(49, .bool false), (47, .bool x7), (13, .bool false), (12, vU x13), (0, vU root), (1, vI n), (2, vI i), (3, vU leaf), (4, .slice A_proof proof.length c_proof)]) (fun h => by rw [h]) (fun h => by rw [h]) (fun hc17 => ?_) (fun hc17 => ?_)
       · --
        have hp := cnd_t hc17 hp
        refine oR [oF 3, oF 4, oF 5, oF 6, oF 7, oF 8] [(55, .bool (x7 == (x13 == root))), (13, .bool true), (12, vU x13), (1, vI n), (2, vI i), (3, vU leaf), (4, .slice A_proof proof.length c_proof)] [55, 13, 12, 1, 2, 3, 4] (by kernel_rfl) ?_
        refine ops_bool (t := (x7 == (x13 == root))) (l1 := [(55, .bool true), (13, .bool true), (12, vU x13), (1, vI n), (2, vI i), (3, vU leaf), (4, .slice A_proof proof.length c_proof)]) (l2 := [(55, .bool false), (13, .bool true), (12, vU x13), (1, vI n), (2, vI i), (3, vU leaf), (4, .slice A_proof proof.length c_proof)]) (fun h => by rw [h]) (fun h => by rw [h]) (fun hc18 => ?_) (fun hc18 => ?_)
        · --
         have hp := cnd_t hc18 hp
         refine oR [oF 9, oF 10, oF 11, oF 12, oF 13] [(60, .slice A_proof proof.length c_proof), (59, vU leaf), (58, vI i), (57, vI n), (56, vU x13), (55, .bool true), (13, .bool true)] [60, 59, 58, 57, 56, 55, 13] (by kernel_rfl) ?_
         obtain ⟨x19, hv20, hp⟩ := obind hp
         refine ops_callI (σ := Unit) (d := some 61) (f := 45) (args := #[vU x13, vI n, vI i, vU leaf, .slice A_proof proof.length c_proof]) (v := (fun _ => .bool x19)) (I := (fun _ => True)) (M' := (fun _ => Mem w0 (Fz F3 W4 :: cs))) ⟨by kernel_rfl⟩ (fun w_ hM hS => (merkle_Verify_ok w0 w_ (cs) F3 W4 x13 n i leaf A_proof c_proof proof hM h_proof x19 hv20).mono (by rintro e w' ⟨-, rfl, h'⟩; have h' : Mem w0 (Fz F3 W4 :: cs) w' := h'; exact ⟨(), trivial, rfl, h', trivial⟩)) ?_
         rintro _ -
         refine ops_conv (l' := [(61, .bool x19), (60, .slice A_proof proof.length c_proof), (59, vU leaf), (58, vI i), (57, vI n), (56, vU x13), (55, .bool true), (13, .bool true)]) (M' := Mem w0 (Fz F3 W4 :: cs)) rfl (fun _ h => h) ?_
         refine oR [oF 15, oF 16, oF 17, oF 18] [(10, .bool (x19 == true))] [10] (by kernel_rfl) ?_
         refine ops_nil ?_
         exact fin_join HJ1 (x19 == true) hp (look_has ⟨rfl, trivial⟩) (fun w_ hM => hM)
        · --
         have hp := cnd_f hc18 hp
         refine oR [oF 9, oF 10, oF 11, oF 12, oF 13, oF 14, oF 15, oF 16, oF 17, oF 18] [(10, .bool false)] [10] (by kernel_rfl) ?_
         refine ops_nil ?_
         exact fin_join HJ1 false hp (look_has ⟨rfl, trivial⟩) (fun w_ hM => hM)
       · --
        have hp := cnd_f hc17 hp
        refine oR [oF 3, oF 4, oF 5, oF 6, oF 7, oF 8] [(55, .bool (x7 == false)), (13, .bool false), (12, vU x13), (1, vI n), (2, vI i), (3, vU leaf), (4, .slice A_proof proof.length c_proof)] [55, 13, 12, 1, 2, 3, 4] (by kernel_rfl) ?_
        refine ops_bool (t := (x7 == false)) (l1 := [(55, .bool true), (13, .bool false), (12, vU x13), (1, vI n), (2, vI i), (3, vU leaf), (4, .slice A_proof proof.length c_proof)]) (l2 := [(55, .bool false), (13, .bool false), (12, vU x13), (1, vI n), (2, vI i), (3, vU leaf), (4, .slice A_proof proof.length c_proof)]) (fun h => by rw [h]) (fun h => by rw [h]) (fun hc21 => ?_) (fun hc21 => ?_)
        · --
         have hp := cnd_t hc21 hp
         refine oR [oF 9, oF 10, oF 11, oF 12, oF 13] [(60, .slice A_proof proof.length c_proof), (59, vU leaf), (58, vI i), (57, vI n), (56, vU x13), (55, .bool true), (13, .bool false)] [60, 59, 58, 57, 56, 55, 13] (by kernel_rfl) ?_
         obtain ⟨x22, hv23, hp⟩ := obind hp
         refine ops_callI (σ := Unit) (d := some 61) (f := 45) (args := #[vU x13, vI n, vI i, vU leaf, .slice A_proof proof.length c_proof]) (v := (fun _ => .bool x22)) (I := (fun _ => True)) (M' := (fun _ => Mem w0 (Fz F3 W4 :: cs))) ⟨by kernel_rfl⟩ (fun w_ hM hS => (merkle_Verify_ok w0 w_ (cs) F3 W4 x13 n i leaf A_proof c_proof proof hM h_proof x22 hv23).mono (by rintro e w' ⟨-, rfl, h'⟩; have h' : Mem w0 (Fz F3 W4 :: cs) w' := h'; exact ⟨(), trivial, rfl, h', trivial⟩)) ?_
         rintro _ -
         refine ops_conv (l' := [(61, .bool x22), (60, .slice A_proof proof.length c_proof), (59, vU leaf), (58, vI i), (57, vI n), (56, vU x13), (55, .bool true), (13, .bool false)]) (M' := Mem w0 (Fz F3 W4 :: cs)) rfl (fun _ h => h) ?_
         refine oR [oF 15, oF 16, oF 17, oF 18] [(10, .bool (x22 == false))] [10] (by kernel_rfl) ?_
         refine ops_nil ?_
         exact fin_join HJ1 (x22 == false) hp (look_has ⟨rfl, trivial⟩) (fun w_ hM => hM)
        · --
         have hp := cnd_f hc21 hp
         refine oR [oF 9, oF 10, oF 11, oF 12, oF 13, oF 14, oF 15, oF 16, oF 17, oF 18] [(10, .bool false)] [10] (by kernel_rfl) ?_
         refine ops_nil ?_
         exact fin_join HJ1 false hp (look_has ⟨rfl, trivial⟩) (fun w_ hM => hM)
set_option maxHeartbeats 4000000 in
set_option maxRecDepth 100000 in
theorem merkle_Root_ok (w0 w : World) (cs : List Chunk) (F : Nat → Prop) (W : World) (A_leaves : Option Addr) (c_leaves : Nat) (leaves : List Int) (hM0 : Mem w0 (Fz F W :: cs) w) (h_leaves : RdS (Rep.int .u64) F W A_leaves c_leaves leaves) (i9001 : Int) (i9002 : Int) (hp : merkle_Root leaves = some (i9001, i9002)) : Calls Try.prog 47 #[.slice A_leaves leaves.length c_leaves] w fun e w' => ∃ (F9003 : Nat → Prop), ∃ (W9004 : World), ((Ext w0 F W F9003 W9004)) ∧ e = .returned (.tuple #[vU i9001, vI i9002]) ∧ Mem w0 (Fz F9003 W9004 :: cs) w' := by
 unfold merkle_Root at hp
 refine sx_calls Try.func47 rfl (n := 21) (by kernel_rfl) (l := [(0, .slice A_leaves leaves.length c_leaves)]) rfl (by rfl) hM0 ?_
 refine st_seq ?_
 refine st_region [oF 0, oF 1] (by rfl) ?_
 refine oR [oF 0, oF 1] [(0, .slice A_leaves leaves.length c_leaves)] [0] (by kernel_rfl) ?_
 refine ops_nil ?_
 refine fin_then ?_
 refine st_seq ?_
 refine st_seq ?_
 refine st_region [oF 0, oF 1, oF 2] (by rfl) ?_
 refine oR [oF 0, oF 1, oF 2] [(7, .bool (decide (4096 < (leaves.length : Int)))), (0, .slice A_leaves leaves.length c_leaves)] [7, 0] (by kernel_rfl) ?_
 refine ops_nil ?_
 refine fin_then ?_
 refine st_if (b := decide (4096 < (leaves.length : Int))) rfl (fun hc1 => ?_) (fun hc1 => ?_)
 · --
  have hp := cnd_t hc1 hp
  refine st_seq ?_
  refine st_region [oF 0, oF 1] (by rfl) ?_
  refine oR [oF 0, oF 1] [(3, vI 2), (2, vU 0)] [3, 2] (by kernel_rfl) ?_
  refine ops_nil ?_
  refine fin_then ?_
  refine st_ret ?_
  refine fin_ret_then ?_
  have hq_ := Option.some.inj hp
  obtain ⟨hr0_, hq_⟩ := Prod.mk.inj hq_
  have hr1_ := hq_
  subst hr0_
  subst hr1_
  refine fin_ret [.tmp 2, .tmp 3] [vU 0, vI 2] rfl rfl (fun w_ hM => (.tmp rfl (.tmp rfl .nil))) (fun w_ hM => ?_)
  exact ⟨F, W, (Ext.refl _ _ _), rfl, hM⟩
 · --
  have hp := cnd_f hc1 hp
  refine st_skip ?_
  refine fin_then ?_
  refine st_seq ?_
  refine st_seq ?_
  refine st_region [oF 0, oF 1, oF 2] (by rfl) ?_
  refine oR [oF 0, oF 1, oF 2] [(10, .bool ((leaves.length : Int) == 0)), (0, .slice A_leaves leaves.length c_leaves)] [10, 0] (by kernel_rfl) ?_
  refine ops_nil ?_
  refine fin_then ?_
  refine st_if (b := ((leaves.length : Int) == 0)) rfl (fun hc2 => ?_) (fun hc2 => ?_)
  · --
   have hp := cnd_t hc2 hp
   refine st_seq ?_
   refine st_region [oF 0, oF 1] (by rfl) ?_
   refine oR [oF 0, oF 1] [(3, vI 0), (2, vU 0)] [3, 2] (by kernel_rfl) ?_
   refine ops_nil ?_
   refine fin_then ?_
   refine st_ret ?_
   refine fin_ret_then ?_
   have hq_ := Option.some.inj hp
   obtain ⟨hr0_, hq_⟩ := Prod.mk.inj hq_
   have hr1_ := hq_
   subst hr0_
   subst hr1_
   refine fin_ret [.tmp 2, .tmp 3] [vU 0, vI 0] rfl rfl (fun w_ hM => (.tmp rfl (.tmp rfl .nil))) (fun w_ hM => ?_)
   exact ⟨F, W, (Ext.refl _ _ _), rfl, hM⟩
  · --
   have hp := cnd_f hc2 hp
   refine st_skip ?_
   refine fin_then ?_
   refine st_seq ?_
   refine st_region [oF 0, oF 1, oF 2] (by rfl) ?_
   refine oR [oF 0] [(11, .slice A_leaves leaves.length c_leaves)] [11] (by kernel_rfl) ?_
   obtain ⟨x3, hv4, hp⟩ := obind hp
   refine ops_callI (σ := (Option Addr) × Nat × (List Value) × (Nat → Prop) × World) (d := some 12) (f := 106) (args := #[.slice A_leaves leaves.length c_leaves]) (v := (fun x_ => match x_ with | (A5, c6, y7, F8, W9) => .slice A5 x3.length c6)) (I := (fun x_ => match x_ with | (A5, c6, y7, F8, W9) => (RepL (Rep.sl (Rep.int .u64)) F8 W9 x3 y7) ∧ (Ext w0 F W F8 W9))) (M' := (fun x_ => match x_ with | (A5, c6, y7, F8, W9) => Mem w0 (orow A5 x3.length c6 63 1 y7 :: Fz F8 W9 :: cs))) ⟨by kernel_rfl⟩ (fun w_ hM hS => (merkle_levels_ok w0 w_ (cs) F W A_leaves c_leaves leaves hM h_leaves x3 hv4).mono (by rintro e w' ⟨A5, c6, y7, F8, W9, ⟨h10, h11⟩, rfl, h'⟩; have h' : Mem w0 (orow A5 x3.length c6 63 1 y7 :: Fz F8 W9 :: cs) w' := h'; exact ⟨(A5, c6, y7, F8, W9), ⟨h10, h11⟩, rfl, h', trivial⟩)) ?_
   rintro ⟨A5, c6, y7, F8, W9⟩ ⟨h10, h11⟩
   have h_leaves := h_leaves.ext h11
   refine ops_conv (l' := [(12, .slice A5 x3.length c6), (11, .slice A_leaves leaves.length c_leaves)]) (M' := Mem w0 (orow A5 x3.length c6 63 1 y7 :: Fz F8 W9 :: cs)) rfl (fun _ h => h) ?_
   refine oR [oF 2] [(4, .slice A5 x3.length c6)] [4] (by kernel_rfl) ?_
   refine ops_nil ?_
   refine fin_then ?_
   refine st_seq ?_
   refine st_region [oF 0, oF 1, oF 2, oF 3, oF 4, oF 5, oF 6, oF 7, oF 8, oF 9] (by rfl) ?_
   refine oR [oF 0, oF 1, oF 2, oF 3] [(16, vI (IntKind.i64.wrap ((x3.length : Int) - 1))), (13, .slice A5 x3.length c6)] [16, 13] (by kernel_rfl) ?_
   obtain ⟨x12, hv13, hp⟩ := obind hp
   obtain ⟨m14, hm15, hx16⟩ := idx_some hv13
   have hl19 := (List.getElem?_eq_some_iff.1 hx16).1
   refine ops_fact (fun w_ hM => hM.orowSome 0 rfl (Nat.lt_of_le_of_lt (Nat.zero_le _) hl19)) ?_
   rintro ⟨g20, rfl, -⟩
   obtain ⟨vs17, hr18, hq21⟩ := h10.at_ m14 x12 hx16
   obtain ⟨A22, c23, rfl, h24⟩ := hr18
   refine ops_val (op := (Go.Op.indexAddr 138 (Go.Operand.tmp 13) (Go.Operand.tmp 16))) (d := some 17) (v := vP g20 (m14 * 1)) ⟨by kernel_rfl⟩ (run_indexRow Try.underlying138 (z := 1) (by kernel_rfl) rfl rfl hm15 hl19 rfl) ?_
   refine oR [] [(17, vP g20 (m14 * 1))] [17] (by kernel_rfl) ?_
   refine ops_mem (d := some 18) (an := [.v (.slice A22 x12.length c23)]) (evs := [.load ⟨g20, m14 * 1, none⟩ (.slice A22 x12.length c23)]) (v := .slice A22 x12.length c23) (M' := Mem w0 (orow (some ⟨g20, 0, none⟩) x3.length c6 63 1 y7 :: Fz F8 W9 :: cs)) ⟨by kernel_rfl⟩ (fun w_ hM hS => ⟨w_, ⟨hM.ocell 0 rfl (hq21 0 _ rfl), rfl⟩, hM, trivial⟩) ?_
   refine oR [] [(18, .slice A22 x12.length c23)] [18] (by kernel_rfl) ?_
   obtain ⟨x25, hv26, hp⟩ := obind hp
   obtain ⟨m27, hm28, hx29⟩ := idx_some hv26
   have hl32 := (List.getElem?_eq_some_iff.1 hx29).1
   obtain ⟨ad33, vs30, hA34, hr31, hq35⟩ := RdS.el h24 hx29
   obtain rfl := hr31
   refine ops_val (op := (Go.Op.indexAddr 63 (Go.Operand.tmp 18) (Go.Operand.const (Go.Value.int Go.IntKind.i64 0)))) (d := some 19) (v := .pointer (some (ad33.add (m27 * 1)))) ⟨by kernel_rfl⟩ (run_indexA hA34 Try.underlying63 (z := 1) (by kernel_rfl) rfl rfl hm28 hl32) ?_
   refine oR [] [(19, .pointer (some (ad33.add (m27 * 1))))] [19] (by kernel_rfl) ?_
   refine ops_mem (d := some 20) (an := [.v (vU x25)]) (evs := [.load (ad33.add (m27 * 1)) (vU x25)]) (v := vU x25) (M' := Mem w0 (orow (some ⟨g20, 0, none⟩) x3.length c6 63 1 y7 :: Fz F8 W9 :: cs)) ⟨by kernel_rfl⟩ (fun w_ hM hS => ⟨w_, ⟨hM.elcell 1 rfl hq35 0 rfl, rfl⟩, hM, trivial⟩) ?_
   refine oR [oF 8, oF 9] [(3, vI 0), (2, vU x25)] [3, 2] (by kernel_rfl) ?_
   refine ops_nil ?_
   refine fin_then ?_
   refine st_ret ?_
   have hq_ := Option.some.inj hp
   obtain ⟨hr0_, hq_⟩ := Prod.mk.inj hq_
   have hr1_ := hq_
   subst hr0_
   subst hr1_
   refine fin_ret [.tmp 2, .tmp 3] [vU x25, vI 0] rfl rfl (fun w_ hM => (.tmp rfl (.tmp rfl .nil))) (fun w_ hM => ?_)
   exact ⟨F8, W9, h11, rfl, hM.pick 2 [1] (by kernel_rfl) (by decide) rfl⟩
set_option maxHeartbeats 4000000 in
set_option maxRecDepth 100000 in
theorem merkle_Proof_ok (w0 w : World) (cs : List Chunk) (F : Nat → Prop) (W : World) (A_leaves : Option Addr) (c_leaves : Nat) (leaves : List Int) (i : Int) (hM0 : Mem w0 (Fz F W :: cs) w) (h_leaves : RdS (Rep.int .u64) F W A_leaves c_leaves leaves) (l9003 : List Int) (i9006 : Int) (hp : merkle_Proof leaves i = some (l9003, i9006)) : Calls Try.prog 48 #[.slice A_leaves leaves.length c_leaves, vI i] w fun e w' => ∃ (A9001 : Option Addr), ∃ (c9002 : Nat), ∃ (y9004 : List Value), ∃ (F9007 : Nat → Prop), ∃ (W9008 : World), ((RepL (Rep.int .u64) F9007 W9008 l9003 y9004) ∧ (Ext w0 F W F9007 W9008)) ∧ e = .returned (.tuple #[.slice A9001 l9003.length c9002, vI i9006]) ∧ Mem w0 (orow A9001 l9003.length c9002 24 1 y9004 :: Fz F9007 W9008 :: cs) w' := by
 unfold merkle_Proof at hp
 refine sx_calls Try.func48 rfl (n := 45) (by kernel_rfl) (l := [(0, .slice A_leaves leaves.length c_leaves), (1, vI i)]) rfl (by rfl) hM0 ?_
 refine st_seq ?_
 refine st_region [oF 0, oF 1] (by rfl) ?_
 refine oR [oF 0, oF 1] [(0, .slice A_leaves leaves.length c_leaves), (1, vI i)] [0, 1] (by kernel_rfl) ?_
 refine ops_nil ?_
 refine fin_then ?_
 refine st_seq ?_
 refine st_seq ?_
 refine st_region [oF 0, oF 1, oF 2] (by rfl) ?_
 refine oR [oF 0, oF 1, oF 2] [(12, .bool (decide (4096 < (leaves.length : Int)))), (0, .slice A_leaves leaves.length c_leaves), (1, vI i)] [12, 0, 1] (by kernel_rfl) ?_
 refine ops_nil ?_
 refine fin_then ?_
 refine st_if (b := decide (4096 < (leaves.length : Int))) rfl (fun hc1 => ?_) (fun hc1 => ?_)
 · --
  have hp := cnd_t hc1 hp
  refine st_seq ?_
  refine st_region [oF 0, oF 1] (by rfl) ?_
  refine oR [oF 0, oF 1] [(5, vI 2), (4, .slice none 0 0)] [5, 4] (by kernel_rfl) ?_
  refine ops_nil ?_
  refine fin_then ?_
  refine st_ret ?_
  refine fin_ret_then ?_
  refine fin_conv (l' := [(5, vI 2), (4, .slice none 0 0)]) (M' := Mem w0 (orow none ([] : List Int).length 0 24 1 [] :: Fz F W :: cs)) rfl (fun w_ h => h.onil none 24 1) ?_
  refine fin_conv (l' := [(5, vI 2), (4, .slice none ([] : List Int).length 0)]) (M' := Mem w0 (orow none ([] : List Int).length 0 24 1 [] :: Fz F W :: cs)) rfl (fun _ h => h) ?_
  have hq_ := Option.some.inj hp
  obtain ⟨hr0_, hq_⟩ := Prod.mk.inj hq_
  have hr1_ := hq_
  subst hr0_
  subst hr1_
  refine fin_ret [.tmp 4, .tmp 5] [.slice none ([] : List Int).length 0, vI 2] rfl rfl (fun w_ hM => (.tmp rfl (.tmp rfl .nil))) (fun w_ hM => ?_)
  exact ⟨none, 0, [], F, W, ⟨(RepL.nil (R := (Rep.int .u64))), (Ext.refl _ _ _)⟩, rfl, hM⟩
 · --
  have hp := cnd_f hc1 hp
  refine st_skip ?_
  refine fin_then ?_
  refine st_seq ?_
  refine st_seq ?_
  refine st_region [oF 0, oF 1, oF 2, oF 3, oF 4, oF 5, oF 6, oF 7] (by rfl) ?_
  refine oR [oF 0, oF 1, oF 2] [(15, .bool (decide (i < 0))), (0, .slice A_leaves leaves.length c_leaves), (1, vI i)] [15, 0, 1] (by kernel_rfl) ?_
  refine ops_bool (t := decide (i < 0)) (l1 := [(15, .bool true), (0, .slice A_leaves leaves.length c_leaves), (1, vI i)]) (l2 := [(15, .bool false), (0, .slice A_leaves leaves.length c_leaves), (1, vI i)]) (fun h => by rw [h]) (fun h => by rw [h]) (fun hc2 => ?_) (fun hc2 => ?_)
  · --
   have hp := cnd_t hc2 hp
   refine oR [oF 3, oF 4, oF 5, oF 6, oF 7] [(20, .bool true), (0, .slice A_leaves leaves.length c_leaves), (1, vI i)] [20, 0, 1] (by kernel_rfl) ?_
   refine ops_nil ?_
   refine fin_then ?_
   refine st_true rfl ?_
   refine st_seq ?_
   refine st_region [oF 0, oF 1] (by rfl) ?_
   refine oR [oF 0, oF 1] [(5, vI 4), (4, .slice none 0 0)] [5, 4] (by kernel_rfl) ?_
   refine ops_nil ?_
   refine fin_then ?_
   refine st_ret ?_
   refine fin_ret_then ?_
   refine fin_conv (l' := [(5, vI 4), (4, .slice none 0 0)]) (M' := Mem w0 (orow none ([] : List Int).length 0 24 1 [] :: Fz F W :: cs)) rfl (fun w_ h => h.onil none 24 1) ?_
   refine fin_conv (l' := [(5, vI 4), (4, .slice none ([] : List Int).length 0)]) (M' := Mem w0 (orow none ([] : List Int).length 0 24 1 [] :: Fz F W :: cs)) rfl (fun _ h => h) ?_
   have hq_ := Option.some.inj hp
   obtain ⟨hr0_, hq_⟩ := Prod.mk.inj hq_
   have hr1_ := hq_
   subst hr0_
   subst hr1_
   refine fin_ret [.tmp 4, .tmp 5] [.slice none ([] : List Int).length 0, vI 4] rfl rfl (fun w_ hM => (.tmp rfl (.tmp rfl .nil))) (fun w_ hM => ?_)
   exact ⟨none, 0, [], F, W, ⟨(RepL.nil (R := (Rep.int .u64))), (Ext.refl _ _ _)⟩, rfl, hM⟩
  · --
   have hp := cnd_f hc2 hp
   refine oR [oF 3, oF 4, oF 5, oF 6, oF 7] [(20, .bool (decide ((leaves.length : Int) ≤ i))), (0, .slice A_leaves leaves.length c_leaves), (1, vI i)] [20, 0, 1] (by kernel_rfl) ?_
   refine ops_nil ?_
   refine fin_then ?_
   refine st_if (b := decide ((leaves.length : Int) ≤ i)) rfl (fun hc3 => ?_) (fun hc3 => ?_)
   · --
    have hp := cnd_t hc3 hp
    refine st_seq ?_
    refine st_region [oF 0, oF 1] (by rfl) ?_
    refine oR [oF 0, oF 1] [(5, vI 4), (4, .slice none 0 0)] [5, 4] (by kernel_rfl) ?_
    refine ops_nil ?_
    refine fin_then ?_
    refine st_ret ?_
    refine fin_ret_then ?_
    refine fin_conv (l' := [(5, vI 4), (4, .slice none 0 0)]) (M' := Mem w0 (orow none ([] : List Int).length 0 24 1 [] :: Fz F W :: cs)) rfl (fun w_ h => h.onil none 24 1) ?_
    refine fin_conv (l' := [(5, vI 4), (4, .slice none ([] : List Int).length 0)]) (M' := Mem w0 (orow none ([] : List Int).length 0 24 1 [] :: Fz F W :: cs)) rfl (fun _ h => h) ?_
    have hq_ := Option.some.inj hp
    obtain ⟨hr0_, hq_⟩ := Prod.mk.inj hq_
    have hr1_ := hq_
    subst hr0_
    subst hr1_
    refine fin_ret [.tmp 4, .tmp 5] [.slice none ([] : List Int).length 0, vI 4] rfl rfl (fun w_ hM => (.tmp rfl (.tmp rfl .nil))) (fun w_ hM => ?_)
    exact ⟨none, 0, [], F, W, ⟨(RepL.nil (R := (Rep.int .u64))), (Ext.refl _ _ _)⟩, rfl, hM⟩
   · --
    have hp := cnd_f hc3 hp
    refine st_skip ?_
    refine fin_then ?_
    refine st_seq ?_
    refine st_region [oF 0] (by rfl) ?_
    refine oR [oF 0] [(6, .slice none 0 0), (0, .slice A_leaves leaves.length c_leaves), (1, vI i)] [6, 0, 1] (by kernel_rfl) ?_
    refine ops_nil ?_
    refine fin_then ?_
    refine st_join1 (σ := (Option Addr) × Nat × (List Int) × (List Value) × (Nat → Prop) × World) (L := fun x_ => match x_ with | (A4, c5, l6, y7, F9, W10) => [(6, .slice A4 l6.length c5)]) (N := fun x_ => match x_ with | (A4, c5, l6, y7, F9, W10) => Mem w0 (orow A4 l6.length c5 24 1 y7 :: Fz F9 W10 :: cs)) (I := fun x_ => match x_ with | (A4, c5, l6, y7, F9, W10) => (merkle_Proof_j1 l6 = some (l9003, i9006)) ∧ (RepL (Rep.int .u64) F9 W10 l6 y7) ∧ (Ext w0 F W F9 W10)) ?_ ?_
    · --
     rintro ⟨A4, c5, l6, y7, F9, W10⟩ ⟨hp, h8, hx1⟩
     refine st_conv (l' := [(6, .slice A4 l6.length c5)]) (M' := Mem w0 (orow A4 l6.length c5 24 1 y7 :: Fz F9 W10 :: cs)) rfl (fun _ h => h) ?_
     unfold merkle_Proof_j1 at hp
     refine st_seq ?_
     refine st_region [oF 0, oF 1, oF 2] (by rfl) ?_
     refine oR [oF 0, oF 1, oF 2] [(5, vI 0), (4, .slice A4 l6.length c5)] [5, 4] (by kernel_rfl) ?_
     refine ops_nil ?_
     refine fin_then ?_
     refine st_ret ?_
     have hq_ := Option.some.inj hp
     obtain ⟨hr0_, hq_⟩ := Prod.mk.inj hq_
     have hr1_ := hq_
     subst hr0_
     subst hr1_
     refine fin_ret [.tmp 4, .tmp 5] [.slice A4 l6.length c5, vI 0] rfl rfl (fun w_ hM => (.tmp rfl (.tmp rfl .nil))) (fun w_ hM => ?_)
     exact ⟨A4, c5, y7, F9, W10, ⟨h8, hx1⟩, rfl, hM⟩
    · --
     intro HJ1
     refine st_seq ?_
     refine st_seq ?_
     refine st_region [oF 0, oF 1, oF 2, oF 3] (by rfl) ?_
     refine oR [oF 0] [(21, .slice A_leaves leaves.length c_leaves), (6, .slice none 0 0), (1, vI i)] [21, 6, 1] (by kernel_rfl) ?_
     obtain ⟨x11, hv12, hp⟩ := obind hp
     refine ops_callI (σ := (Option Addr) × Nat × (List Value) × (Nat → Prop) × World) (d := some 22) (f := 106) (args := #[.slice A_leaves leaves.length c_leaves]) (v := (fun x_ => match x_ with | (A13, c14, y15, F16, W17) => .slice A13 x11.length c14)) (I := (fun x_ => match x_ with | (A13, c14, y15, F16, W17) => (RepL (Rep.sl (Rep.int .u64)) F16 W17 x11 y15) ∧ (Ext w0 F W F16 W17))) (M' := (fun x_ => match x_ with | (A13, c14, y15, F16, W17) => Mem w0 (orow A13 x11.length c14 63 1 y15 :: Fz F16 W17 :: cs))) ⟨by kernel_rfl⟩ (fun w_ hM hS => (merkle_levels_ok w0 w_ (cs) F W A_leaves c_leaves leaves hM h_leaves x11 hv12).mono (by rintro e w' ⟨A13, c14, y15, F16, W17, ⟨h18, h19⟩, rfl, h'⟩; have h' : Mem w0 (orow A13 x11.length c14 63 1 y15 :: Fz F16 W17 :: cs) w' := h'; exact ⟨(A13, c14, y15, F16, W17), ⟨h18, h19⟩, rfl, h', trivial⟩)) ?_
     rintro ⟨A13, c14, y15, F16, W17⟩ ⟨h18, h19⟩
     have h_leaves := h_leaves.ext h19
     refine ops_conv (l' := [(22, .slice A13 x11.length c14), (21, .slice A_leaves leaves.length c_leaves), (6, .slice none 0 0), (1, vI i)]) (M' := Mem w0 (orow A13 x11.length c14 63 1 y15 :: Fz F16 W17 :: cs)) rfl (fun _ h => h) ?_
     refine oR [oF 2, oF 3] [(24, vI 0), (23, vI (x11.length : Int)), (22, .slice A13 x11.length c14), (6, .slice none 0 0), (1, vI i)] [24, 23, 22, 6, 1] (by kernel_rfl) ?_
     refine ops_nil ?_
     refine fin_then ?_
     refine st_block ?_
     refine st_conv (l' := [(24, vI 0), (23, vI (x11.length : Int)), (22, .slice A13 x11.length c14), (6, .slice none 0 0), (1, vI i)]) (M' := Mem w0 (orow none ([] : List Int).length 0 24 1 [] :: orow A13 x11.length c14 63 1 y15 :: Fz F16 W17 :: cs)) rfl (fun w_ h => h.onil none 24 1) ?_
     refine st_conv (l' := [(24, vI 0), (23, vI (x11.length : Int)), (22, .slice A13 x11.length c14), (6, .slice none ([] : List Int).length 0), (1, vI i)]) (M' := Mem w0 (orow none ([] : List Int).length 0 24 1 [] :: orow A13 x11.length c14 63 1 y15 :: Fz F16 W17 :: cs)) rfl (fun _ h => h) ?_
     obtain ⟨r2, hl2, hk2⟩ := obind hp
     refine st_loopP (σ := Int × (List Int) × Int) (ρ := (List Int)) (γ := (Option Addr) × Nat × (List Value) × (Option Addr) × (List Value)) hl2 (none, 0, [], A13, y15) (fun s_ g_ => match s_, g_ with | (i20, l23, i29), (A21, c22, y24, A26, y27) => [(1, vI i20), (6, .slice A21 l23.length c22), (22, .slice A26 x11.length c14), (23, vI (x11.length : Int)), (24, vI i29)]) (fun s_ g_ => match s_, g_ with | (i20, l23, i29), (A21, c22, y24, A26, y27) => Mem w0 (orow A21 l23.length c22 24 1 y24 :: orow A26 x11.length c14 63 1 y27 :: Fz F16 W17 :: cs)) (fun s_ g_ => match s_, g_ with | (i20, l23, i29), (A21, c22, y24, A26, y27) => (RepL (Rep.int .u64) F16 W17 l23 y24) ∧ (RepL (Rep.sl (Rep.int .u64)) F16 W17 x11 y27)) ⟨(RepL.nil (R := (Rep.int .u64))), h18⟩ (look_has ⟨rfl, rfl, rfl, rfl, rfl, trivial⟩) (fun w_ hM => hM) ?_
     rintro ⟨i20, l23, i29⟩ ⟨A21, c22, y24, A26, y27⟩ o2 ⟨h25, h28⟩ hs_ hd2
     have hp : (merkle_Proof_l2 x11) i20 l23 i29 = some o2 := hs_
     clear hs_
     unfold merkle_Proof_l2 at hp
     refine st_conv (l' := [(1, vI i20), (6, .slice A21 l23.length c22), (22, .slice A26 x11.length c14), (23, vI (x11.length : Int)), (24, vI i29)]) (M' := Mem w0 (orow A21 l23.length c22 24 1 y24 :: orow A26 x11.length c14 63 1 y27 :: Fz F16 W17 :: cs)) rfl (fun _ h => h) ?_
     refine st_seq ?_
     refine st_region [oF 0] (by rfl) ?_
     refine oR [oF 0] [(25, .bool (decide (i29 < (x11.length : Int)))), (1, vI i20), (6, .slice A21 l23.length c22), (22, .slice A26 x11.length c14), (23, vI (x11.length : Int)), (24, vI i29)] [25, 1, 6, 22, 23, 24] (by kernel_rfl) ?_
     refine ops_nil ?_
     refine fin_then ?_
     refine st_seq ?_
     refine st_if (b := decide (i29 < (x11.length : Int))) rfl (fun hc30 => ?_) (fun hc30 => ?_)
     · --
      have hp := cnd_t hc30 hp
      refine st_skip ?_
      refine fin_then ?_
      refine st_seq ?_
      refine st_block ?_
      refine st_seq ?_
      refine st_region [oF 0, oF 1, oF 2] (by rfl) ?_
      refine oR [] [(1, vI i20), (6, .slice A21 l23.length c22), (22, .slice A26 x11.length c14), (23, vI (x11.length : Int)), (24, vI i29)] [1, 6, 22, 23, 24] (by kernel_rfl) ?_
      obtain ⟨x31, hv32, hp⟩ := obind hp
      obtain ⟨m33, hm34, hx35⟩ := idx_some hv32
      have hl38 := (List.getElem?_eq_some_iff.1 hx35).1
      refine ops_fact (fun w_ hM => hM.orowSome 1 rfl (Nat.lt_of_le_of_lt (Nat.zero_le _) hl38)) ?_
      rintro ⟨g39, rfl, -⟩
      obtain ⟨vs36, hr37, hq40⟩ := h28.at_ m33 x31 hx35
      obtain ⟨A41, c42, rfl, h43⟩ := hr37
      refine ops_val (op := (Go.Op.indexAddr 138 (Go.Operand.tmp 22) (Go.Operand.tmp 24))) (d := some 26) (v := vP g39 (m33 * 1)) ⟨by kernel_rfl⟩ (run_indexRow Try.underlying138 (z := 1) (by kernel_rfl) rfl rfl hm34 hl38 rfl) ?_
      refine ops_mem (d := some 27) (an := [.v (.slice A41 x31.length c42)]) (evs := [.load ⟨g39, m33 * 1, none⟩ (.slice A41 x31.length c42)]) (v := .slice A41 x31.length c42) (M' := Mem w0 (orow A21 l23.length c22 24 1 y24 :: orow (some ⟨g39, 0, none⟩) x11.length c14 63 1 y27 :: Fz F16 W17 :: cs)) ⟨by kernel_rfl⟩ (fun w_ hM hS => ⟨w_, ⟨hM.ocell 1 rfl (hq40 0 _ rfl), rfl⟩, hM, trivial⟩) ?_
      refine oR [oF 2] [(8, .slice A41 x31.length c42), (1, vI i20), (6, .slice A21 l23.length c22), (22, .slice (some ⟨g39, 0, none⟩) x11.length c14), (23, vI (x11.length : Int)), (24, vI i29)] [8, 1, 6, 22, 23, 24] (by kernel_rfl) ?_
      refine ops_nil ?_
      refine fin_then ?_
      refine st_join1 (σ := (Option Addr) × Nat × (List Int) × (List Value)) (L := fun x_ => match x_ with | (A44, c45, l46, y47) => [(1, vI i20), (6, .slice A44 l46.length c45), (22, .slice (some ⟨g39, 0, none⟩) x11.length c14), (23, vI (x11.length : Int)), (24, vI i29)]) (N := fun x_ => match x_ with | (A44, c45, l46, y47) => Mem w0 (orow A44 l46.length c45 24 1 y47 :: orow (some ⟨g39, 0, none⟩) x11.length c14 63 1 y27 :: Fz F16 W17 :: cs)) (I := fun x_ => match x_ with | (A44, c45, l46, y47) => ((merkle_Proof_j3 i20 i29) l46 = some o2) ∧ (RepL (Rep.int .u64) F16 W17 l46 y47)) ?_ ?_
      · --
       rintro ⟨A44, c45, l46, y47⟩ ⟨hp, h48⟩
       refine st_conv (l' := [(1, vI i20), (6, .slice A44 l46.length c45), (22, .slice (some ⟨g39, 0, none⟩) x11.length c14), (23, vI (x11.length : Int)), (24, vI i29)]) (M' := Mem w0 (orow A44 l46.length c45 24 1 y47 :: orow (some ⟨g39, 0, none⟩) x11.length c14 63 1 y27 :: Fz F16 W17 :: cs)) rfl (fun _ h => h) ?_
       unfold merkle_Proof_j3 at hp
       refine st_region [oF 0, oF 1, oF 2] (by rfl) ?_
       refine oR [oF 0, oF 1, oF 2] [(1, vI (IntKind.i64.wrap (Int.tdiv i20 2))), (6, .slice A44 l46.length c45), (22, .slice (some ⟨g39, 0, none⟩) x11.length c14), (23, vI (x11.length : Int)), (24, vI i29)] [1, 6, 22, 23, 24] (by kernel_rfl) ?_
       refine ops_nil ?_
       refine fin_block ?_
       refine fin_then ?_
       refine st_region [oF 0, oF 1] (by rfl) ?_
       refine oR [oF 0, oF 1] [(24, vI (IntKind.i64.wrap (i29 + 1))), (1, vI (IntKind.i64.wrap (Int.tdiv i20 2))), (6, .slice A44 l46.length c45), (22, .slice (some ⟨g39, 0, none⟩) x11.length c14), (23, vI (x11.length : Int))] [24, 1, 6, 22, 23] (by kernel_rfl) ?_
       refine ops_nil ?_
       exact fin_again (IntKind.i64.wrap (Int.tdiv i20 2), l46, IntKind.i64.wrap (i29 + 1)) (A44, c45, y47, (some ⟨g39, 0, none⟩), y27) (Option.some.inj hp).symm ⟨h48, h28⟩ (look_has ⟨rfl, rfl, rfl, rfl, rfl, trivial⟩) (fun w_ hM => hM)
      · --
       intro HJ3
       refine st_seq ?_
       refine st_seq ?_
       refine st_region [oF 0, oF 1, oF 2] (by rfl) ?_
       refine oR [oF 0, oF 1, oF 2] [(9, vI (Go.bits .xor .i64 i20 1)), (8, .slice A41 x31.length c42), (1, vI i20), (6, .slice A21 l23.length c22), (22, .slice (some ⟨g39, 0, none⟩) x11.length c14), (23, vI (x11.length : Int)), (24, vI i29)] [9, 8, 1, 6, 22, 23, 24] (by kernel_rfl) ?_
       refine ops_nil ?_
       refine fin_then ?_
       refine st_seq ?_
       refine st_region [oF 0, oF 1, oF 2, oF 3] (by rfl) ?_
       refine oR [oF 0, oF 1, oF 2, oF 3] [(33, .bool (decide (Go.bits .xor .i64 i20 1 < (x31.length : Int)))), (9, vI (Go.bits .xor .i64 i20 1)), (8, .slice A41 x31.length c42), (1, vI i20), (6, .slice A21 l23.length c22), (22, .slice (some ⟨g39, 0, none⟩) x11.length c14), (23, vI (x11.length : Int)), (24, vI i29)] [33, 9, 8, 1, 6, 22, 23, 24] (by kernel_rfl) ?_
       refine ops_nil ?_
       refine fin_then ?_
       refine st_if (b := decide (Go.bits .xor .i64 i20 1 < (x31.length : Int))) rfl (fun hc49 => ?_) (fun hc49 => ?_)
       · --
        have hp := cnd_t hc49 hp
        refine st_region [oF 0, oF 1, oF 2, oF 3, oF 4, oF 5, oF 6, oF 7] (by rfl) ?_
        refine oR [oF 0, oF 1, oF 2] [(36, vI (Go.bits .xor .i64 i20 1)), (35, .slice A41 x31.length c42), (34, .slice A21 l23.length c22), (1, vI i20), (6, .slice A21 l23.length c22), (22, .slice (some ⟨g39, 0, none⟩) x11.length c14), (23, vI (x11.length : Int)), (24, vI i29)] [36, 35, 34, 1, 6, 22, 23, 24] (by kernel_rfl) ?_
        obtain ⟨x50, hv51, hp⟩ := obind hp
        obtain ⟨m52, hm53, hx54⟩ := idx_some hv51
        have hl57 := (List.getElem?_eq_some_iff.1 hx54).1
        obtain ⟨ad58, vs55, hA59, hr56, hq60⟩ := RdS.el h43 hx54
        obtain rfl := hr56
        refine ops_val (op := (Go.Op.indexAddr 63 (Go.Operand.tmp 35) (Go.Operand.tmp 36))) (d := some 37) (v := .pointer (some (ad58.add (m52 * 1)))) ⟨by kernel_rfl⟩ (run_indexA hA59 Try.underlying63 (z := 1) (by kernel_rfl) rfl rfl hm53 hl57) ?_
        refine oR [] [(37, .pointer (some (ad58.add (m52 * 1)))), (34, .slice A21 l23.length c22), (1, vI i20), (6, .slice A21 l23.length c22), (22, .slice (some ⟨g39, 0, none⟩) x11.length c14), (23, vI (x11.length : Int)), (24, vI i29)] [37, 34, 1, 6, 22, 23, 24] (by kernel_rfl) ?_
        refine ops_mem (d := some 38) (an := [.v (vU x50)]) (evs := [.load (ad58.add (m52 * 1)) (vU x50)]) (v := vU x50) (M' := Mem w0 (orow A21 l23.length c22 24 1 y24 :: orow (some ⟨g39, 0, none⟩) x11.length c14 63 1 y27 :: Fz F16 W17 :: cs)) ⟨by kernel_rfl⟩ (fun w_ hM hS => ⟨w_, ⟨hM.elcell 2 rfl hq60 0 rfl, rfl⟩, hM, trivial⟩) ?_
        refine oR [] [(38, vU x50), (34, .slice A21 l23.length c22), (1, vI i20), (6, .slice A21 l23.length c22), (22, .slice (some ⟨g39, 0, none⟩) x11.length c14), (23, vI (x11.length : Int)), (24, vI i29)] [38, 34, 1, 6, 22, 23, 24] (by kernel_rfl) ?_
        have h61 : RepL (Rep.int .u64) F16 W17 ([x50] : List Int) ([vU x50]) := (RepL.cons (R := (Rep.int .u64)) (F := F16) (w := W17) (vs := [vU x50]) (ys := []) rfl RepL.nil)
        refine ops_new (d := some 39) (o := .cells ([vU x50]).toArray 24) (v := fun g62 => .slice (some ⟨g62, 0, none⟩) ([x50] : List Int).length 1) (M' := fun g62 => Mem w0 (orow (some ⟨g62, 0, none⟩) ([x50] : List Int).length 1 24 1 ([vU x50]) :: orow A21 l23.length c22 24 1 y24 :: orow (some ⟨g39, 0, none⟩) x11.length c14 63 1 y27 :: Fz F16 W17 :: cs)) (fun g62 => ⟨by kernel_rfl⟩) (fun w_ hM hS => ⟨hM.onew [vU x50] 24 1 1 rfl (by decide), trivial⟩) (fun g62 => ?_)
        refine oR [] [(39, .slice (some ⟨g62, 0, none⟩) ([x50] : List Int).length 1), (34, .slice A21 l23.length c22), (1, vI i20), (6, .slice A21 l23.length c22), (22, .slice (some ⟨g39, 0, none⟩) x11.length c14), (23, vI (x11.length : Int)), (24, vI i29)] [39, 34, 1, 6, 22, 23, 24] (by kernel_rfl) ?_
        obtain ⟨l63, hv64, hp⟩ := obind hp
        obtain ⟨he65, hb66⟩ := app_some hv64
        obtain ⟨y67, hy68⟩ : ∃ y_, y24 ++ ([vU x50]) = y_ := ⟨_, rfl⟩
        have h69 : RepL (Rep.int .u64) F16 W17 l63 y67 := by rw [he65, ← hy68]; exact RepL.app h25 h61
        refine ops_appendO (x := (Go.Operand.tmp 34)) (y := (Go.Operand.tmp 39)) (t := 63) (e := 24) (d := some 40) (n' := l63.length) (z := 1) (m := ([x50] : List Int).length) (bytes := 8) (xs' := y67) (news := ([vU x50])) (zv := vU 0) 1 ⟨by kernel_rfl⟩ rfl rfl Try.underlying63 (by kernel_rfl) (by rfl) rfl (fun w_ hM => hM.srcO 0 rfl) h61.len h61.one hb66 (by have z_ := congrArg List.length he65; rw [List.length_append] at z_; exact z_.symm) hy68 (fun _ _ _ _ hS h' => trivial) ?_
        rintro ⟨A70, c71⟩
        refine ops_conv (l' := [(40, .slice A70 l63.length c71), (39, .slice (some ⟨g62, 0, none⟩) ([x50] : List Int).length 1), (34, .slice A21 l23.length c22), (1, vI i20), (6, .slice A21 l23.length c22), (22, .slice (some ⟨g39, 0, none⟩) x11.length c14), (23, vI (x11.length : Int)), (24, vI i29)]) (M' := Mem w0 (orow (some ⟨g62, 0, none⟩) ([x50] : List Int).length 1 24 1 ([vU x50]) :: orow A70 l63.length c71 24 1 y67 :: orow (some ⟨g39, 0, none⟩) x11.length c14 63 1 y27 :: Fz F16 W17 :: cs)) rfl (fun _ h => h) ?_
        refine oR [oF 7] [(6, .slice A70 l63.length c71), (1, vI i20), (22, .slice (some ⟨g39, 0, none⟩) x11.length c14), (23, vI (x11.length : Int)), (24, vI i29)] [6, 1, 22, 23, 24] (by kernel_rfl) ?_
        refine ops_nil ?_
        exact fin_join HJ3 (A70, c71, l63, y67) ⟨hp, h69⟩ (look_has ⟨rfl, rfl, rfl, rfl, rfl, trivial⟩) (fun w_ hM => hM.pick 4 [1, 2, 3] (by kernel_rfl) (by decide) rfl)
       · --
        have hp := cnd_f hc49 hp
        refine st_skip ?_
        exact fin_join HJ3 (A21, c22, l23, y24) ⟨hp, h25⟩ (look_has ⟨rfl, rfl, rfl, rfl, rfl, trivial⟩) (fun w_ hM => hM)
     · --
      have hp := cnd_f hc30 hp
      refine st_exit ?_
      refine fin_exit_then ?_
      refine fin_exit_then ?_
      refine fin_exit ?_
      obtain hq_ := Option.some.inj hp
      subst hq_
      obtain hq_ := hd2 _ rfl
      subst hq_
      have hp : merkle_Proof_j1 l23 = some (l9003, i9006) := hk2
      exact fin_join HJ1 (A21, c22, l23, y24, F16, W17) ⟨hp, h25, h19⟩ (look_has ⟨rfl, trivial⟩) (fun w_ hM => hM.pick 3 [0, 2] (by kernel_rfl) (by decide) rfl)
end Go.Proofs.Ytfihfbkjomploaa.X
